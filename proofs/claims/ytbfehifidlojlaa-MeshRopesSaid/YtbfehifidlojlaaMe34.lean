/- Layer 4: MeshLess, where its guards hold it off; parts of slices; what the law makes. -/
import Derived.Test.YtbfehifidlojlaaMe33
import Derived.Deep.DeepCutAuto
namespace Go.Proofs.Ytbfehifidlojlaa
open Go.RowKit
open Me

section
variable {α : Type} {enc : α → List Value} {B : Nat} {w : World} {A : Option Addr} {c : Nat} {xs : List α}
/-- What is left of a slice behind its first m elements (behind the last one of its capacity it begins where the whole began). -/
theorem Sl.drop (h : Sl enc B w A c xs) {size : Nat} (hs : ∀ x, (enc x).length = size) (m : Nat) (hm : m ≤ xs.length) : Sl enc B w (if c = m then A else A.map (·.add (m * size))) (c - m) (xs.drop m) := by
  refine ⟨by rw [List.length_drop]; have := h.1; omega, by have := h.2.1; omega, fun hne => ?_⟩
  have e : xs.flatMap enc = (xs.take m).flatMap enc ++ (xs.drop m).flatMap enc := by rw [← List.flatMap_append, List.take_append_drop]
  have hl : ((xs.take m).flatMap enc).length = m * size := by rw [len_enc enc size hs, List.length_take, Nat.min_eq_left hm]
  obtain ⟨b, o, hA, hb, hc⟩ := h.2.2 (by rw [e]; simp [hne])
  have hlt : m < xs.length := by
    rcases Nat.lt_or_ge m xs.length with l | l
    · exact l
    · rw [List.drop_of_length_le l] at hne; exact absurd rfl hne
  have := h.1
  rw [if_neg (by omega), hA]
  refine ⟨b, o + m * size, by rw [Option.map_some, Addr.add_lit], hb, fun j v hj => ?_⟩
  rw [Nat.add_assoc]
  refine hc _ v ?_
  rw [e, List.getElem?_append_right (by rw [hl]; omega), hl, Nat.add_sub_cancel_left]
  exact hj
end

theorem own_litd {W : World} {base e size g : Nat} (hb : base ≤ W.heap.size) (hg : g = W.heap.size) : (W.alloc (.cells #[] e)).drew.ownsRow base e size (.slice (some ⟨g, 0, none⟩) 0 0) 0 [] := own_lit0 hb hg

namespace Me
/-- A list of which the first k elements are changed. -/
def updK {α : Type} (f : α → α) (xs : List α) (k : Nat) : List α := (xs.take k).map f ++ xs.drop k
section
variable {α : Type} {f : α → α} {xs : List α} {k : Nat}
theorem updK_zero : updK f xs 0 = xs := by simp [updK]
theorem updK_all : updK f xs xs.length = xs.map f := by simp [updK]
theorem updK_len : (updK f xs k).length = xs.length := by simp [updK]; omega
theorem updK_nth [Inhabited α] (hk : k < xs.length) : nth (updK f xs k) k = nth xs k := by
  unfold updK nth List.getD
  rw [List.getElem?_append_right (by rw [List.length_map, List.length_take]; omega), List.getElem?_drop]
  simp [Nat.min_eq_left (Nat.le_of_lt hk)]
theorem updK_succ [Inhabited α] (hk : k < xs.length) : (updK f xs k).set k (f (nth xs k)) = updK f xs (k + 1) := by
  unfold updK
  have hd : xs.drop k = nth xs k :: xs.drop (k + 1) := by
    rw [List.drop_eq_getElem_cons hk]
    congr 1
    simp [nth, hk]
  rw [take_snoc xs hk, List.map_append, hd, List.set_append_right _ _ (by simp; omega)]
  simp [Nat.min_eq_left (Nat.le_of_lt hk)]
end
def renP (d : Nat) (p : Pr) : Pr := ⟨ren d p.a, ren d p.b⟩
end Me

theorem pr_ren (d : Nat) (ps : List Pr) {k : Nat} (hk : k < ps.length) {a b : Int} (ha : a = ren d (nth ps k).a) (hb : b = ren d (nth ps k).b) :
    (((updK (renP d) ps k).flatMap encPr).set (k * 2) (.int .i64 a)).set (k * 2 + 1) (.int .i64 b) = (updK (renP d) ps (k + 1)).flatMap encPr := by
  subst ha hb
  have hk' : k < (updK (renP d) ps k).length := by rw [updK_len]; exact hk
  have hn := updK_nth (f := renP d) hk
  have e0 := flatMap_set encPr 2 (fun _ => rfl) (updK (renP d) ps k) k 0 (.int .i64 (ren d (nth ps k).a)) ⟨ren d (nth ps k).a, (nth ps k).b⟩ hk' (by omega) (by rw [hn]; rfl)
  rw [Nat.add_zero] at e0
  have n1 : nth ((updK (renP d) ps k).set k (⟨ren d (nth ps k).a, (nth ps k).b⟩ : Pr)) k = _ := nth_set_same _ hk' _
  have e1 := flatMap_set encPr 2 (fun _ => rfl) ((updK (renP d) ps k).set k ⟨ren d (nth ps k).a, (nth ps k).b⟩) k 1 (.int .i64 (ren d (nth ps k).b)) (renP d (nth ps k)) (by rw [List.length_set]; exact hk') (by omega) (by rw [n1]; rfl)
  rw [List.set_set, updK_succ hk] at e1
  rw [e0, e1]

theorem less_row {wr : World} {base gq c : Nat} {d : Nat} {ps : List Pr} {j : Nat} {a b : Int} {o : Obj} (hj : j < ps.length) (ha : a = ren d (nth ps j).a) (hb : b = ren d (nth ps j).b)
    (h : wr.ownsRow base 63 2 (.slice (some ⟨gq, 0, none⟩) ps.length c) ps.length ((updK (renP d) ps j).flatMap encPr)) :
    (((wr.setCell ⟨gq, j * 2, none⟩ (.int .i64 a)).setCell ⟨gq, j * 2 + 1, none⟩ (.int .i64 b)).alloc o).ownsRow base 63 2 (.slice (some ⟨gq, 0, none⟩) ps.length c) ps.length ((updK (renP d) ps (j + 1)).flatMap encPr) := by
  have hlen := len_enc encPr 2 (fun _ => rfl) (updK (renP d) ps j)
  rw [updK_len] at hlen
  have o0 := own_set (u := .int .i64 a) (i := j * 2) h (by rw [hlen]; omega)
  have o1 := own_set (u := .int .i64 b) (i := j * 2 + 1) o0 (by rw [List.length_set, hlen]; omega)
  rw [pr_ren d ps hj ha hb] at o1
  exact o1.alloc o

theorem lReady5w_c (r : NetR) (n : Net) (b : Bool) (hb : readyL n 5 = b) (B : Nat) (w : World) (hN : NetIs B w r n) [hB : Le B w] :
    Calls Try.prog 14 #[netV r n, .int .i64 5] w fun e w' => e = .returned (.bool b) ∧ ∃ δ, w' = lat w δ := lReady_c r n 5 (by omega) b hb B w hN

set_option maxRecDepth 100000 in
set_option maxHeartbeats 4000000 in
theorem lessNo_c (r : NetR) (n : Net) (d : Int) (B : Nat) (w : World) [hB : Le B w] (hN : NetIs B w r n) (hg : readyL n 5 = false ∨ (readyL n 5 = true ∧ inB 0 ((n.hs.length : Int) - 1) d = false)) :
    Calls Try.prog 10 #[netV r n, .int .i64 d] w fun e w' => e = .returned (.bool true) ∧ ∃ δ, w' = lat w δ := by
  have HN := Lib.hid hN
  clear hN
  rcases hg with hr | ⟨hr, h1⟩
  · have HR := Lib.hid hr
    clear hr
    go_enter Try.func10, Try.ntmps10
    go_wp2_with (first
      | (go_at_call 14; refine (lReady5w_c r n _ HR.out B _ HN.out.up).mono ?_; rintro e w1 ⟨rfl, δ, rfl⟩)
      | (go_at_call 16; refine (works_c _).mono ?_; rintro e w1 ⟨rfl, δ2, rfl⟩))
    go_ret
    exact ⟨rfl, lat_ex⟩
  · have HR := Lib.hid hr
    have HH := Lib.hid h1
    clear hr h1
    go_enter Try.func10, Try.ntmps10
    go_wp2_with (first
      | (go_at_call 14; refine (lReady5w_c r n _ HR.out B _ HN.out.up).mono ?_; rintro e w1 ⟨rfl, δ, rfl⟩)
      | (go_at_call 15; refine (rIsHole_c r n d _ HH.out B _ HN.out.up).mono ?_; rintro e w1 ⟨rfl, δ, rfl⟩)
      | (go_at_call 16; refine (works_c _).mono ?_; rintro e w1 ⟨rfl, δ2, rfl⟩))
    go_ret
    exact ⟨rfl, lat_ex⟩

set_option maxRecDepth 100000 in
set_option maxHeartbeats 8000000 in
theorem lessYes_c (r : NetR) (n : Net) (d : Nat) (B : Nat) (w : World) [hB : Le B w] (hN : NetIs B w r n) (hr : readyL n 5 = true) (hd : d < n.hs.length) :
    Calls Try.prog 10 #[netV r n, .int .i64 d] w fun e w' => e = .returned (.bool true) ∧ ∃ δ, w' = lat w δ := by
  have hv := (readyL_iff.1 hr).2
  have hh : inB 0 ((n.hs.length : Int) - 1) (d : Int) = true := inB_iff.2 (by omega)
  have b1 := (valid_iff.1 hv).1.1
  have b2 := (valid_iff.1 hv).1.2
  have HN := Lib.hid hN
  have HR := Lib.hid hr
  have HH := Lib.hid hh
  have HV := Lib.hid hv
  have HD := Lib.hid hd
  have A6 := Lib.hid (ok_of hv).2.1
  have A8 := Lib.hid (ok_of hv).2.2.1
  clear hN hr hh hv hd
  go_enter Try.func10, Try.ntmps10
  go_upto_region 4 with (first
      | (go_at_call 14; refine (lReady5w_c r n _ HR.out B _ HN.out.up).mono ?_; rintro e w1 ⟨rfl, δ, rfl⟩)
      | (go_at_call 15; refine (rIsHole_c r n d _ HH.out B _ HN.out.up).mono ?_; rintro e w1 ⟨rfl, δ, rfl⟩)
      | (go_at_call 18; refine (both_c r n HV.out B _ HN.out.up).mono ?_; rintro e w1 ⟨rfl, δ, rfl⟩))
  refine wp_name fun W1 hW1 => ?_
  have iw1 : Le B W1 := by rw [hW1.out]; infer_instance
  have iw2 : Grew B w W1 := by rw [hW1.out]; infer_instance
  have iw3 : Le w.heap.size W1 := by rw [hW1.out]; infer_instance
  have iw4 : Grew w.heap.size w W1 := by rw [hW1.out]; infer_instance
  have iw5 : Lt (w.heap.size) W1 := by rw [hW1.out]; infer_instance
  have cw6 : W1.cell? ⟨w.heap.size, 0, none⟩ = some (.int .i64 n.m) := by rw [hW1.out]; go_simp
  have cw7 : W1.cell? ⟨w.heap.size, 1, none⟩ = some (.slice r.hA n.hs.length r.hc) := by rw [hW1.out]; go_simp
  have cw8 : W1.cell? ⟨w.heap.size, 2, none⟩ = some (.slice r.pA n.ps.length r.pc) := by rw [hW1.out]; go_simp
  have N1 := Lib.hid (HN.out.up : NetIs B W1 r n)
  clear hW1
  go_wp2_with (fail)
  refine (copy_c r n B _ N1.out.up (by have := A6.out; omega) (by have := A8.out; omega)).mono ?_
  rintro e w1 ⟨⟨gA, gc, qA, qc⟩, δ1, rfl, rfl, ho⟩
  obtain ⟨W2, hW2⟩ : ∃ W2, Hid (W2 = lat W1 δ1) := ⟨_, rfl⟩
  rw [← hW2.out] at ho ⊢
  have iw9 : Le B W2 := by rw [hW2.out]; infer_instance
  have iw10 : Grew B W1 W2 := by rw [hW2.out]; infer_instance
  have iw11 : Le W1.heap.size W2 := by rw [hW2.out]; infer_instance
  have iw12 : Grew W1.heap.size W1 W2 := by rw [hW2.out]; infer_instance
  have iw13 : Lt (w.heap.size) W2 := by rw [hW2.out]; infer_instance
  have cw14 : W2.cell? ⟨w.heap.size, 0, none⟩ = some (.int .i64 n.m) := by rw [hW2.out]; go_simp
  have cw15 : W2.cell? ⟨w.heap.size, 1, none⟩ = some (.slice r.hA n.hs.length r.hc) := by rw [hW2.out]; go_simp
  have cw16 : W2.cell? ⟨w.heap.size, 2, none⟩ = some (.slice r.pA n.ps.length r.pc) := by rw [hW2.out]; go_simp
  have C2 := Lib.hid ho.is
  have N2 := Lib.hid (N1.out.up : NetIs B W2 r n)
  clear ho hW2 N1
  rw [show netV ⟨gA, gc, qA, qc⟩ n = Value.agg #[.int .i64 n.m, .slice gA n.hs.length gc, .slice qA n.ps.length qc] from rfl]
  have hcase : ∃ k e e2 : Int, (∀ B w, NetIs B w r n → Le B w → Calls Try.prog 47 #[netV r n] w fun e' w' => e' = .returned (.tuple #[.int .i64 k, .int .i64 e]) ∧ ∃ δ, w' = lat w δ) ∧
      (∀ B w, NetIs B w ⟨gA, gc, qA, qc⟩ n → Le B w → Calls Try.prog 33 #[.agg #[.int .i64 (n.m + 1), .slice gA n.hs.length gc, .slice qA n.ps.length qc]] w fun e' w' => e' = .returned (.int .i64 e2) ∧ ∃ δ, w' = lat w δ) ∧
      ((k = 0 ∧ e = 2 ∧ e2 = 40) ∨ (valid (plusN n) = true ∧ k = moreN n ∧ e = 0 ∧ e2 = 0)) := by
    by_cases hm : n.m = 3
    · have hp : valid (plusN n) = false := by rw [plus_valid HV.out]; simpa using hm
      exact ⟨0, 2, 40, fun B w hN hB => moreP_many r n HV.out hm B w hN, fun B w hN hB => rCheck_no ⟨gA, gc, qA, qc⟩ (plusN n) hp B w hN, .inl ⟨rfl, rfl, rfl⟩⟩
    · have hp : valid (plusN n) = true := by rw [plus_valid HV.out]; simpa using hm
      exact ⟨moreN n, 0, 0, fun B w hN hB => moreP_yes r n HV.out hm B w hN, fun B w hN hB => rCheck_yes ⟨gA, gc, qA, qc⟩ (plusN n) hp B w hN, .inr ⟨hp, rfl, rfl, rfl⟩⟩
  obtain ⟨k, e, e2, hmo, hck, hcs⟩ := hcase
  have HMO := Lib.hid hmo
  have HCK := Lib.hid hck
  have HCS := Lib.hid hcs
  clear hmo hck hcs
  go_upto_region 8 with fail
  refine wp_name fun W3 hW3 => ?_
  have iw17 : Le B W3 := by rw [hW3.out]; infer_instance
  have iw18 : Grew B W2 W3 := by rw [hW3.out]; infer_instance
  have iw19 : Le W2.heap.size W3 := by rw [hW3.out]; infer_instance
  have iw20 : Grew W2.heap.size W2 W3 := by rw [hW3.out]; infer_instance
  have iw21 : Lt (w.heap.size) W3 := by rw [hW3.out]; infer_instance
  have i7 : Lt W2.heap.size W3 := ⟨by rw [hW3.out]; go_simp⟩
  have cw22 : W3.cell? ⟨w.heap.size, 0, none⟩ = some (.int .i64 n.m) := by rw [hW3.out]; go_simp
  have cw23 : W3.cell? ⟨w.heap.size, 1, none⟩ = some (.slice r.hA n.hs.length r.hc) := by rw [hW3.out]; go_simp
  have cw24 : W3.cell? ⟨w.heap.size, 2, none⟩ = some (.slice r.pA n.ps.length r.pc) := by rw [hW3.out]; go_simp
  have cw25 : W3.cell? ⟨W2.heap.size, 0, none⟩ = some (.int .i64 (n.m + 1)) := by rw [hW3.out]; go_simp
  have cw26 : W3.cell? ⟨W2.heap.size, 1, none⟩ = some (.slice gA n.hs.length gc) := by rw [hW3.out]; go_simp
  have cw27 : W3.cell? ⟨W2.heap.size, 2, none⟩ = some (.slice qA n.ps.length qc) := by rw [hW3.out]; go_simp
  have C3 := Lib.hid (C2.out.wide : NetIs W3.heap.size W3 ⟨gA, gc, qA, qc⟩ n)
  have N3 := Lib.hid (N2.out.up : NetIs B W3 r n)
  have j1 : Grew w.heap.size w W2 := grew_tr iw4 (inferInstance : Grew W1.heap.size W1 W2)
  have j2 : Le w.heap.size W2 := ⟨Nat.le_trans iw3.out (inferInstance : Le W1.heap.size W2).out⟩
  have j3 : Grew w.heap.size w W3 := grew_tr j1 (inferInstance : Grew W2.heap.size W2 W3)
  have j4 : Le w.heap.size W3 := ⟨Nat.le_trans j2.out (inferInstance : Le W2.heap.size W3).out⟩
  clear hW3 C2 N2
  go_upto_if 51 with (first
    | (go_at_call 47; refine (HMO.out B _ N3.out.up inferInstance).mono ?_; rintro e' w1 ⟨rfl, δ, rfl⟩)
    | (go_at_call 33; refine (HCK.out _ _ C3.out.up inferInstance).mono ?_; rintro e' w1 ⟨rfl, δ, rfl⟩))
  go_cut [] (fun wx => ∃ δ, wx = lat W3 δ)
  case first =>
    have hle := plus_le HV.out
    rcases HCS.out with ⟨rfl, rfl, rfl⟩ | ⟨hp, rfl, rfl, rfl⟩
    · go_wp2_with (fail)
      go_meet
      exact lat_ex
    · have hb : ∀ B w, NetIs B w ⟨gA, gc, qA, qc⟩ n → Le B w → Calls Try.prog 18 #[.agg #[.int .i64 (n.m + 1), .slice gA n.hs.length gc, .slice qA n.ps.length qc]] w fun e' w' => e' = .returned (.tuple #[.int .i64 (leastN (plusN n)), .int .i64 (doneN (plusN n)), .bool true]) ∧ ∃ δ, w' = lat w δ := fun B w hN hB => both_c ⟨gA, gc, qA, qc⟩ (plusN n) hp B w hN
      have HBO := Lib.hid hb
      have q1 : decide (leastN n < leastN (plusN n)) = false := decide_eq_false (by omega)
      have q2 : decide (doneN n < doneN (plusN n)) = false := decide_eq_false (by omega)
      have q3 : (moreN n != leastN n - leastN (plusN n)) = false := by simp [moreN]
      obtain ⟨q4, q5⟩ := leastN_nn HV.out
      obtain ⟨q6, q7⟩ := leastN_nn hp
      clear hle hb hp
      go_wp2_with (go_at_call 18; refine (HBO.out _ _ C3.out.up inferInstance).mono ?_; rintro e' w1 ⟨rfl, δ, rfl⟩)
      go_meet
      exact lat_ex
  case rest =>
    obtain ⟨δc, rfl⟩ := hcut
    obtain ⟨W4, hW4⟩ : ∃ W4, Hid (W4 = lat W3 δc) := ⟨_, rfl⟩
    rw [← hW4.out]
    have iw28 : Le B W4 := by rw [hW4.out]; infer_instance
    have iw29 : Grew B W3 W4 := by rw [hW4.out]; infer_instance
    have iw30 : Le W3.heap.size W4 := by rw [hW4.out]; infer_instance
    have iw31 : Grew W3.heap.size W3 W4 := by rw [hW4.out]; infer_instance
    have iw32 : Lt (w.heap.size) W4 := by rw [hW4.out]; infer_instance
    have iw33 : Lt (W2.heap.size) W4 := by rw [hW4.out]; infer_instance
    have cw34 : W4.cell? ⟨w.heap.size, 0, none⟩ = some (.int .i64 n.m) := by rw [hW4.out]; go_simp
    have cw35 : W4.cell? ⟨w.heap.size, 1, none⟩ = some (.slice r.hA n.hs.length r.hc) := by rw [hW4.out]; go_simp
    have cw36 : W4.cell? ⟨w.heap.size, 2, none⟩ = some (.slice r.pA n.ps.length r.pc) := by rw [hW4.out]; go_simp
    have N4 := Lib.hid (N3.out.up : NetIs B W4 r n)
    have j5 : Grew w.heap.size w W4 := grew_tr j3 (inferInstance : Grew W3.heap.size W3 W4)
    have j6 : Le w.heap.size W4 := ⟨Nat.le_trans j4.out (inferInstance : Le W3.heap.size W4).out⟩
    clear hW4 C3 N3 HMO HCK HCS
    go_wp2_with (fail)
    refine (copy_c r n B _ N4.out.up (by have := A6.out; omega) (by have := A8.out; omega)).mono ?_
    rintro e' w1 ⟨⟨gA', gc', qA', qc'⟩, δ1, rfl, rfl, ho⟩
    obtain ⟨W6, hW6⟩ : ∃ W6, Hid (W6 = lat W4 δ1) := ⟨_, rfl⟩
    rw [← hW6.out] at ho ⊢
    have iw37 : Le B W6 := by rw [hW6.out]; infer_instance
    have iw38 : Grew B W4 W6 := by rw [hW6.out]; infer_instance
    have iw39 : Le W4.heap.size W6 := by rw [hW6.out]; infer_instance
    have iw40 : Grew W4.heap.size W4 W6 := by rw [hW6.out]; infer_instance
    have iw41 : Lt (w.heap.size) W6 := by rw [hW6.out]; infer_instance
    have cw42 : W6.cell? ⟨w.heap.size, 0, none⟩ = some (.int .i64 n.m) := by rw [hW6.out]; go_simp
    have cw43 : W6.cell? ⟨w.heap.size, 1, none⟩ = some (.slice r.hA n.hs.length r.hc) := by rw [hW6.out]; go_simp
    have cw44 : W6.cell? ⟨w.heap.size, 2, none⟩ = some (.slice r.pA n.ps.length r.pc) := by rw [hW6.out]; go_simp
    have N6 := Lib.hid (N4.out.up : NetIs B W6 r n)
    have P6 := Lib.hid ho.2
    have j7 : Grew w.heap.size w W6 := grew_tr j5 (inferInstance : Grew W4.heap.size W4 W6)
    have j8 : Le w.heap.size W6 := ⟨Nat.le_trans j6.out (inferInstance : Le W4.heap.size W6).out⟩
    clear hW6 N4 ho
    rw [show netV ⟨gA', gc', qA', qc'⟩ n = Value.agg #[.int .i64 n.m, .slice gA' n.hs.length gc', .slice qA' n.ps.length qc'] from rfl]
    go_upto_region 16 with fail
    refine wp_name fun W7 hW7 => ?_
    have HB7 : Hid (Box W7 W6.heap.size 25 #[.int .i64 n.m, .slice gA' n.hs.length gc', .slice qA' n.ps.length qc']) := by rw [hW7.out]; exact Box.new rfl
    have iw45 : Le B W7 := by rw [hW7.out]; infer_instance
    have iw46 : Grew B W6 W7 := by rw [hW7.out]; infer_instance
    have iw47 : Le W6.heap.size W7 := by rw [hW7.out]; infer_instance
    have iw48 : Grew W6.heap.size W6 W7 := by rw [hW7.out]; infer_instance
    have iw49 : Lt (w.heap.size) W7 := by rw [hW7.out]; infer_instance
    have cw50 : W7.cell? ⟨w.heap.size, 0, none⟩ = some (.int .i64 n.m) := by rw [hW7.out]; go_simp
    have cw51 : W7.cell? ⟨w.heap.size, 1, none⟩ = some (.slice r.hA n.hs.length r.hc) := by rw [hW7.out]; go_simp
    have cw52 : W7.cell? ⟨w.heap.size, 2, none⟩ = some (.slice r.pA n.ps.length r.pc) := by rw [hW7.out]; go_simp
    have cw53 : W7.cell? ⟨W6.heap.size, 0, none⟩ = some (.int .i64 n.m) := by rw [hW7.out]; go_simp
    have cw54 : W7.cell? ⟨W6.heap.size, 1, none⟩ = some (.slice gA' n.hs.length gc') := by rw [hW7.out]; go_simp
    have cw55 : W7.cell? ⟨W6.heap.size, 2, none⟩ = some (.slice qA' n.ps.length qc') := by rw [hW7.out]; go_simp
    have fw56 : W7.frozen? ⟨W6.heap.size, 1, none⟩ = false := by rw [hW7.out]; go_simp
    have i7 : Lt W6.heap.size W7 := ⟨by rw [hW7.out]; go_simp⟩
    have n1 : NeN w.heap.size W6.heap.size := ⟨Nat.ne_of_lt (inferInstance : Lt w.heap.size W6).out⟩
    have n2 : NeN W6.heap.size w.heap.size := ⟨Nat.ne_of_gt (inferInstance : Lt w.heap.size W6).out⟩
    have N7 := Lib.hid (N6.out.up : NetIs B W7 r n)
    clear hW7 N6
    obtain ⟨bh, oh, hAh, hbh, _⟩ := N7.out.1.hole HD.out
    obtain ⟨rhA, rhc, rpA, rpc⟩ := r
    have hAh : rhA = some ⟨bh, oh, none⟩ := hAh
    subst hAh
    have ibh : Lt bh W7 := ⟨Nat.lt_of_lt_of_le hbh (inferInstance : Le B W7).out⟩
    have m0 : n.hs.length ≤ rhc := N7.out.1.1
    have m1 : (d : Int) + 1 ≤ (n.hs.length : Int) := by have := HD.out; omega
    have m2 : (d : Int) ≤ (rhc : Int) := by have := HD.out; omega
    have m3 : (d : Int) ≤ 6 := by have := HD.out; have := A6.out; omega
    have m4 : ¬ rhc = 0 := by have := HD.out; omega
    have m5 : (0 : Int) ≤ (d : Int) := by omega
    have m7 : IntKind.i64.wrap ((d : Int) + 1) = (d : Int) + 1 := IntWalk.i64_in _ (by omega)
    have m6 : (0 : Int) ≤ (d : Int) + 1 := by omega
    have L1 : ((n.hs.take d).flatMap encHole).length = d * 4 := by rw [len_enc encHole 4 (fun _ => rfl), List.length_take, Nat.min_eq_left (Nat.le_of_lt HD.out)]
    have S1 := N7.out.1.take d
    have S2 := N7.out.1.drop (size := 4) (fun _ => rfl) (d + 1) HD.out
    have hlen : d + (n.hs.length - (d + 1)) = n.hs.length - 1 := by have := HD.out; omega
    have hcut : (n.hs.take d).flatMap encHole ++ (n.hs.drop (d + 1)).flatMap encHole = (cut n d).hs.flatMap encHole := by rw [← List.flatMap_append]; rfl
    have L2 : ((n.hs.drop (d + 1)).flatMap encHole).length = (n.hs.length - (d + 1)) * 4 := by rw [len_enc encHole 4 (fun _ => rfl), List.length_drop]
    have HL := Lib.hid hlen
    have HC := Lib.hid hcut
    clear hlen hcut
    go_cut [] (fun wx => ∃ (A4 : Option Addr) (c4 : Nat), wx.ownsRow W7.heap.size 33 4 (.slice A4 (n.hs.length - 1) c4) (n.hs.length - 1) ((cut n d).hs.flatMap encHole) ∧
      Box wx W6.heap.size 25 #[.int .i64 n.m, .slice A4 (n.hs.length - 1) c4, .slice qA' n.ps.length qc'] ∧ Grew W6.heap.size W6 wx ∧ Le W6.heap.size wx)
    case first =>
      have x1 : d ≤ 1000000 := by omega
      have x2 : (32 : Nat) ≤ 1000 := by omega
      have x3 : d + (n.hs.length - (d + 1)) ≤ 1000000 := by have := A6.out; omega
      have i8 : LeN W6.heap.size W6.heap.size := ⟨Nat.le_refl _⟩
      by_cases hc : rhc = d + 1
      · subst hc
        have S2' : Sl encHole B W7 (some ⟨bh, oh, none⟩) 0 (n.hs.drop (d + 1)) := by simpa using S2
        have m8 : (d : Int) ≤ (d : Int) + 1 := by omega
        clear m0
        have m9 : (d : Int) ≤ ((d + 1 : Nat) : Int) := by omega
        clear S2
        go_region_held3 (fun W => W.cell? ⟨w.heap.size, 0, none⟩ = some (.int .i64 n.m) ∧ W.cell? ⟨w.heap.size, 1, none⟩ = some (.slice (some ⟨bh, oh, none⟩) n.hs.length (d + 1)) ∧ W.cell? ⟨w.heap.size, 2, none⟩ = some (.slice rpA n.ps.length rpc))
          (refine ⟨?_, ?_, ?_⟩ <;> go_simp)
          (first
            | (refine step_append_lit W7 slHo (.tmp 85) (.tmp 89) rfl rfl (v := .slice (some ⟨_, 0, none⟩) 0 0) (own_litd (W := W7) (Nat.le_refl _) rfl) rfl (B := B) (A := some ⟨bh, oh, none⟩) (m := d) (c := (d + 1)) (news := (n.hs.take d).flatMap encHole) rfl (S1.up.2.2) L1 (one_enc encHole one_hole _) x1 x2 ?_; intro A1 c1 δ1 own1 hg1)
            | (refine step_append_cells W7 slHo (.tmp 90) (.tmp 95) rfl rfl (v := .slice A1 d c1) (n := d) (xs := (n.hs.take d).flatMap encHole) own1 rfl (B := B) (A := some ⟨bh, oh, none⟩) (m := n.hs.length - (d + 1)) (c := 0) (news := (n.hs.drop (d + 1)).flatMap encHole) rfl (S2'.up.2.2) L2 (one_enc encHole one_hole _) x3 x2 ?_; intro A2 c2 δ2 own2 hg2))
        go_wp2_with (fail)
        go_meet
        rw [HL.out, HC.out] at own2
        rw [HL.out]
        have hne : (Value.slice A2 (n.hs.length - 1) c2).ownBlock ≠ some W6.heap.size := fun e => by have := (own_block own2 _ e).1; have := i7.out; omega
        exact ⟨A2, c2, own_far own2 (p := ⟨W6.heap.size, 1, none⟩) hne, ((((HB7.out.alloc _).drew).latB i7.out δ1).latB i7.out δ2).set 1 _, inferInstance, inferInstance⟩
      · rw [if_neg hc] at S2
        have S2' : Sl encHole B W7 (some ⟨bh, oh + (d + 1) * 4, none⟩) (rhc - (d + 1)) (n.hs.drop (d + 1)) := by simpa [Addr.add_lit] using S2
        clear S2
        go_region_held3 (fun W => W.cell? ⟨w.heap.size, 0, none⟩ = some (.int .i64 n.m) ∧ W.cell? ⟨w.heap.size, 1, none⟩ = some (.slice (some ⟨bh, oh, none⟩) n.hs.length rhc) ∧ W.cell? ⟨w.heap.size, 2, none⟩ = some (.slice rpA n.ps.length rpc))
          (refine ⟨?_, ?_, ?_⟩ <;> go_simp)
          (first
            | (refine step_append_lit W7 slHo (.tmp 85) (.tmp 89) rfl rfl (v := .slice (some ⟨_, 0, none⟩) 0 0) (own_litd (W := W7) (Nat.le_refl _) rfl) rfl (B := B) (A := some ⟨bh, oh, none⟩) (m := d) (c := rhc) (news := (n.hs.take d).flatMap encHole) rfl (S1.up.2.2) L1 (one_enc encHole one_hole _) x1 x2 ?_; intro A1 c1 δ1 own1 hg1)
            | (refine step_append_cells W7 slHo (.tmp 90) (.tmp 95) rfl rfl (v := .slice A1 d c1) (n := d) (xs := (n.hs.take d).flatMap encHole) own1 rfl (B := B) (A := some ⟨bh, oh + (d + 1) * 4, none⟩) (m := n.hs.length - (d + 1)) (c := rhc - (d + 1)) (news := (n.hs.drop (d + 1)).flatMap encHole) rfl (S2'.up.2.2) L2 (one_enc encHole one_hole _) x3 x2 ?_; intro A2 c2 δ2 own2 hg2))
        go_wp2_with (fail)
        go_meet
        rw [HL.out, HC.out] at own2
        rw [HL.out]
        have hne : (Value.slice A2 (n.hs.length - 1) c2).ownBlock ≠ some W6.heap.size := fun e => by have := (own_block own2 _ e).1; have := i7.out; omega
        exact ⟨A2, c2, own_far own2 (p := ⟨W6.heap.size, 1, none⟩) hne, ((((HB7.out.alloc _).drew).latB i7.out δ1).latB i7.out δ2).set 1 _, inferInstance, inferInstance⟩
    case rest =>
      obtain ⟨A4, c4, hown, hbx, g1, g2⟩ := hcut
      have HOH := Lib.hid hown
      have HBX := Lib.hid hbx
      have HOP := Lib.hid (owns_up P6.out (hg := g1))
      have HGP := Lib.hid (own_block P6.out)
      have HNP := Lib.hid (N7.out.2)
      have HNP := Lib.hid (N7.out.2)
      have HPO := Lib.hid (valid_iff.1 HV.out).2.2.2.2.1
      clear hown hbx P6 N7 HB7 HL HC S1 S2
      go_wp2_with (fail)
      go_loopg [15] n.ps.length (fun g s15 wr => ∃ j : Nat, j ≤ n.ps.length ∧ g = n.ps.length - j ∧ s15 = .int .i64 j ∧ Hid (∀ i, i < j → (nth n.ps i).a ≠ d ∧ (nth n.ps i).b ≠ d) ∧
        wr.ownsRow W7.heap.size 33 4 (.slice A4 (n.hs.length - 1) c4) (n.hs.length - 1) ((cut n d).hs.flatMap encHole) ∧
        wr.ownsRow W4.heap.size 63 2 (.slice qA' n.ps.length qc') n.ps.length ((updK (renP d) n.ps j).flatMap encPr) ∧
        Box wr W6.heap.size 25 #[.int .i64 n.m, .slice A4 (n.hs.length - 1) c4, .slice qA' n.ps.length qc'] ∧ Grew W4.heap.size W4 wr ∧ Le W4.heap.size wr)
      case atStart => exact ⟨0, Nat.zero_le _, rfl, rfl, fun i hi => absurd hi (Nat.not_lt_zero _), HOH.out, by rw [updK_zero]; exact HOP.out, HBX.out, grew_tr (W := W6) inferInstance g1, ⟨Nat.le_trans (inferInstance : Le W4.heap.size W6).out g2.out⟩⟩
      case round =>
        obtain ⟨j, hj, rfl, rfl, hlo, hoh, hop, hbx, i1, i2⟩ := hrel
        have j9 : Grew w.heap.size w wr := grew_tr j5 i1
        have j10 : Le w.heap.size wr := ⟨Nat.le_trans j6.out i2.out⟩
        have hwl : w.heap.size < W4.heap.size := (inferInstance : Lt w.heap.size W4).out
        have iw : Lt w.heap.size wr := ⟨Nat.lt_of_lt_of_le hwl i2.out⟩
        have r2 : wr.cell? ⟨w.heap.size, 2, none⟩ = some (.slice rpA n.ps.length rpc) := (cells_same i1.out w.heap.size 2 hwl).trans (by assumption)
        have q0 := hbx.cell (i := 0) rfl
        have q1 := hbx.cell (i := 1) rfl
        have q2 := hbx.cell (i := 2) rfl
        have iq := hbx.lt
        have HOH := Lib.hid hoh
        have HOP := Lib.hid hop
        have HBX := Lib.hid hbx
        by_cases hlt : j < n.ps.length
        · obtain ⟨bp, op, hAp, hbp, d0, d1⟩ := HN.out.2.pr hlt
          have hAp : rpA = some ⟨bp, op, none⟩ := hAp
          subst hAp
          have hbw : bp < w.heap.size := Nat.lt_of_lt_of_le hbp hB.out
          have e0 := (cells_same j9.out bp _ hbw).trans d0
          have e1 := (cells_same j9.out bp _ hbw).trans d1
          have ibp : Lt bp wr := ⟨Nat.lt_of_lt_of_le hbw j10.out⟩
          obtain ⟨gq, rfl, hgb, hgl, hgc, hgf⟩ := own_at hop (by omega)
          have hg6 := (HGP.out gq rfl).2
          have hpk : j < (updK (renP d) n.ps j).length := by rw [updK_len]; exact hlt
          have f0 := hgc (j * 2) (.int .i64 (nth n.ps j).a) (by have := flatMap_nth encPr 2 (fun _ => rfl) (updK (renP d) n.ps j) j 0 hpk (by omega); rw [Nat.add_zero] at this; rw [this, updK_nth hlt]; rfl)
          have f1 := hgc (j * 2 + 1) (.int .i64 (nth n.ps j).b) (by have := flatMap_nth encPr 2 (fun _ => rfl) (updK (renP d) n.ps j) j 1 hpk (by omega); rw [this, updK_nth hlt]; rfl)
          have f2 := hgf (j * 2)
          have f3 := hgf (j * 2 + 1)
          have nA : (Value.slice A4 (n.hs.length - 1) c4).ownBlock ≠ some gq := own_ne HOH.out HOP.out (by decide)
          have n3 : NeN W6.heap.size gq := ⟨by omega⟩
          have n4 : NeN gq W6.heap.size := ⟨by omega⟩
          have n5 : LeN W4.heap.size gq := ⟨hgb⟩
          have hp := okPr_iff.1 (okPrs_at HPO.out hlt)
          obtain ⟨a, ha⟩ : ∃ a, (nth n.ps j).a = a := ⟨_, rfl⟩
          obtain ⟨b, hb⟩ : ∃ b, (nth n.ps j).b = b := ⟨_, rfl⟩
          rw [ha] at e0 f0
          rw [hb] at e1 f1
          rw [ha, hb] at hp
          have hji : (j : Int) < (n.ps.length : Int) := by omega
          have hj0 : ¬ (j : Int) < 0 := by omega
          have hj8 : n.ps.length ≤ 8 := A8.out
          have ha0 : 0 ≤ a := hp.1
          have ha6 : a ≤ 6 := by have := A6.out; omega
          have hb0 : 0 ≤ b := hp.2.2.1
          have hb6 : b ≤ 6 := by have := A6.out; omega
          have HA := Lib.hid ha
          have HBb := Lib.hid hb
          have HLT := Lib.hid hlt
          clear hop hoh hbx hgc hgf hpk hp ha hb hlt hj d0 d1 hbw hbp hgb hg6
          by_cases ha : a = d
          · have hc : (a == (d : Int)) = true := by simp [ha]
            clear ha
            go_wp2_with (go_at_call 16; refine (works_c _).mono ?_; rintro e w1 ⟨rfl, δw, rfl⟩)
            go_ret
            exact ⟨rfl, lat_ex⟩
          · by_cases hb : b = d
            · have hc : (a == (d : Int)) = false := by simpa using ha
              have hc2 : (b == (d : Int)) = true := by simp [hb]
              clear ha hb
              go_wp2_with (go_at_call 16; refine (works_c _).mono ?_; rintro e w1 ⟨rfl, δw, rfl⟩)
              go_ret
              exact ⟨rfl, lat_ex⟩
            · have hc : (a == (d : Int)) = false := by simpa using ha
              have hc2 : (b == (d : Int)) = false := by simpa using hb
              have hlo' : Hid (∀ i, i < j + 1 → (nth n.ps i).a ≠ d ∧ (nth n.ps i).b ≠ d) := fun i hi => by
                rcases Nat.lt_or_ge i j with h | h
                · exact hlo.out i h
                · obtain rfl : i = j := by omega
                  exact ⟨by rw [HA.out]; exact ha, by rw [HBb.out]; exact hb⟩
              clear ha hb hlo
              by_cases hda : (d : Int) < a
              · by_cases hdb : (d : Int) < b
                · have RA := Lib.hid (show a - 1 = ren d (nth n.ps j).a by rw [HA.out, ren, if_pos hda])
                  have RB := Lib.hid (show b - 1 = ren d (nth n.ps j).b by rw [HBb.out, ren, if_pos hdb])
                  go_wp2_with (fail)
                  go_roundg (n.ps.length - (j + 1))
                  case measure => have := HLT.out; omega
                  case rel => exact ⟨j + 1, HLT.out, rfl, by go_num, hlo', ((own_far (own_far HOH.out (p := ⟨gq, j * 2, none⟩) nA (u := .int .i64 (a - 1))) (p := ⟨gq, j * 2 + 1, none⟩) nA (u := .int .i64 (b - 1))).alloc _), less_row HLT.out RA.out RB.out HOP.out, (((HBX.out.far (p := ⟨gq, j * 2, none⟩) n3.out _).far (p := ⟨gq, j * 2 + 1, none⟩) n3.out _).alloc _), inferInstance, inferInstance⟩
                · have RA := Lib.hid (show a - 1 = ren d (nth n.ps j).a by rw [HA.out, ren, if_pos hda])
                  have RB := Lib.hid (show b = ren d (nth n.ps j).b by rw [HBb.out, ren, if_neg hdb])
                  go_wp2_with (fail)
                  go_roundg (n.ps.length - (j + 1))
                  case measure => have := HLT.out; omega
                  case rel => exact ⟨j + 1, HLT.out, rfl, by go_num, hlo', ((own_far (own_far HOH.out (p := ⟨gq, j * 2, none⟩) nA (u := .int .i64 (a - 1))) (p := ⟨gq, j * 2 + 1, none⟩) nA (u := .int .i64 (b))).alloc _), less_row HLT.out RA.out RB.out HOP.out, (((HBX.out.far (p := ⟨gq, j * 2, none⟩) n3.out _).far (p := ⟨gq, j * 2 + 1, none⟩) n3.out _).alloc _), inferInstance, inferInstance⟩
              · by_cases hdb : (d : Int) < b
                · have RA := Lib.hid (show a = ren d (nth n.ps j).a by rw [HA.out, ren, if_neg hda])
                  have RB := Lib.hid (show b - 1 = ren d (nth n.ps j).b by rw [HBb.out, ren, if_pos hdb])
                  go_wp2_with (fail)
                  go_roundg (n.ps.length - (j + 1))
                  case measure => have := HLT.out; omega
                  case rel => exact ⟨j + 1, HLT.out, rfl, by go_num, hlo', ((own_far (own_far HOH.out (p := ⟨gq, j * 2, none⟩) nA (u := .int .i64 (a))) (p := ⟨gq, j * 2 + 1, none⟩) nA (u := .int .i64 (b - 1))).alloc _), less_row HLT.out RA.out RB.out HOP.out, (((HBX.out.far (p := ⟨gq, j * 2, none⟩) n3.out _).far (p := ⟨gq, j * 2 + 1, none⟩) n3.out _).alloc _), inferInstance, inferInstance⟩
                · have RA := Lib.hid (show a = ren d (nth n.ps j).a by rw [HA.out, ren, if_neg hda])
                  have RB := Lib.hid (show b = ren d (nth n.ps j).b by rw [HBb.out, ren, if_neg hdb])
                  go_wp2_with (fail)
                  go_roundg (n.ps.length - (j + 1))
                  case measure => have := HLT.out; omega
                  case rel => exact ⟨j + 1, HLT.out, rfl, by go_num, hlo', ((own_far (own_far HOH.out (p := ⟨gq, j * 2, none⟩) nA (u := .int .i64 (a))) (p := ⟨gq, j * 2 + 1, none⟩) nA (u := .int .i64 (b))).alloc _), less_row HLT.out RA.out RB.out HOP.out, (((HBX.out.far (p := ⟨gq, j * 2, none⟩) n3.out _).far (p := ⟨gq, j * 2 + 1, none⟩) n3.out _).alloc _), inferInstance, inferInstance⟩
        · obtain rfl : j = n.ps.length := by omega
          rw [updK_all] at hop
          have hps : loose n d := fun p hp => by
            obtain ⟨i, hi, rfl⟩ := List.getElem_of_mem hp
            have := hlo.out i hi
            simpa [nth, hi] using this
          obtain ⟨cv, cl, cd⟩ := least_cut HV.out HD.out hps
          have hcl := cut_len HD.out
          have hO : NetOwn 0 wr ⟨A4, c4, qA', qc'⟩ (cut n d) := ⟨by rw [hcl]; exact owns_mono hoh (Nat.zero_le _), by
            have e : (cut n d).ps = n.ps.map (renP d) := rfl
            rw [e, List.length_map]
            exact owns_mono hop (Nat.zero_le _)⟩
          have hv2 : netV ⟨A4, c4, qA', qc'⟩ (cut n d) = Value.agg #[.int .i64 n.m, .slice A4 (n.hs.length - 1) c4, .slice qA' n.ps.length qc'] := by
            have e : (cut n d).ps.length = n.ps.length := List.length_map _
            simp only [netV, hcl, e]; rfl
          have tb := fun B w hN hB => both_c ⟨A4, c4, qA', qc'⟩ (cut n d) cv B w hN (hB := hB)
          rw [hv2] at tb
          have TB := Lib.hid tb
          have HNN := Lib.hid hO.is
          have p1 : decide (leastN (cut n d) ≤ leastN n) = true := decide_eq_true cl
          have p2 : decide (doneN (cut n d) ≤ doneN n) = true := decide_eq_true cd
          clear hO hv2 tb hoh hop hbx hcl cv hps hlo
          go_wp2_with (first
            | (go_at_call 18; refine (TB.out _ _ HNN.out.up inferInstance).mono ?_; rintro e' w1 ⟨rfl, δb, rfl⟩)
            | (go_at_call 16; refine (works_c _).mono ?_; rintro e' w1 ⟨rfl, δw, rfl⟩))
          go_ret
          exact ⟨rfl, lat_ex⟩

theorem lawLess_c (r : NetR) (n : Net) (d : Int) (B : Nat) (w : World) [hB : Le B w] (hN : NetIs B w r n) :
    Calls Try.prog 10 #[netV r n, .int .i64 d] w fun e w' => e = .returned (.bool true) ∧ ∃ δ, w' = lat w δ := by
  cases hr : readyL n 5 with
  | false => exact lessNo_c r n d B w hN (.inl hr)
  | true =>
    cases hh : inB 0 ((n.hs.length : Int) - 1) d with
    | false => exact lessNo_c r n d B w hN (.inr ⟨hr, hh⟩)
    | true =>
      have h' := inB_iff.1 hh
      obtain ⟨k, rfl⟩ : ∃ k : Nat, d = (k : Int) := ⟨d.toNat, by omega⟩
      exact lessYes_c r n k B w hN hr (by omega)

end Go.Proofs.Ytbfehifidlojlaa
