/- Layer 2: parts of slices; what the law AnchorsApart makes. -/
import Derived.Test.YtgpcaaknpfopgaaDoorAn58
import Derived.Test.YtgpcaaknpfopgaaDoorAnPlain13
import Derived.Test.YtgpcaaknpfopgaaDoorAn60
import Derived.Test.YtgpcaaknpfopgaaDoorAn57
import Derived.Test.YtgpcaaknpfopgaaDoorAn28
import Derived.Outline
import Derived.Deep.DeepCutAuto
namespace Go.Proofs.YtgpcaaknpfopgaaDoor
open Go.RowKit
open An

section
variable {α : Type} {enc : α → List Value} {B : Nat} {w : World} {A : Option Addr} {c : Nat} {xs : List α}
theorem Sl.take (h : Sl enc B w A c xs) (m : Nat) : Sl enc B w A c (xs.take m) := by
  refine ⟨by rw [List.length_take]; have := h.1; omega, h.2.1, fun hne => ?_⟩
  have e : xs.flatMap enc = (xs.take m).flatMap enc ++ (xs.drop m).flatMap enc := by rw [← List.flatMap_append, List.take_append_drop]
  obtain ⟨b, o, hA, hb, hc⟩ := h.2.2 (by rw [e]; simp [hne])
  refine ⟨b, o, hA, hb, fun j v hj => hc j v ?_⟩
  rw [e, List.getElem?_append_left (List.getElem?_eq_some_iff.1 hj).1]
  exact hj
theorem Sl.drop (h : Sl enc B w A c xs) {size : Nat} (hs : ∀ x, (enc x).length = size) (m : Nat) (hm : m ≤ xs.length) : Sl enc B w (if c = m then A else A.map (·.add (m * size))) (c - m) (xs.drop m) := by
  refine ⟨by rw [List.length_drop]; have := h.1; omega, by have := h.2.1; omega, fun hne => ?_⟩
  have e : xs.flatMap enc = (xs.take m).flatMap enc ++ (xs.drop m).flatMap enc := by rw [← List.flatMap_append, List.take_append_drop]
  have hl : ((xs.take m).flatMap enc).length = m * size := by rw [len_enc enc size hs, List.length_take, Nat.min_eq_left hm]
  obtain ⟨b, o, hA, hb, hc⟩ := h.2.2 (by rw [e]; simp [hne])
  have hlt : m < xs.length := by
    rcases Nat.lt_or_ge m xs.length with l | l
    · exact l
    · rw [List.drop_of_length_le l] at hne; exact absurd rfl hne
  have := h.1
  rw [if_neg (by omega), hA]
  refine ⟨b, o + m * size, by rw [Option.map_some, Addr.add_lit], hb, fun j v hj => ?_⟩
  rw [Nat.add_assoc]
  refine hc _ v ?_
  rw [e, List.getElem?_append_right (by rw [hl]; omega), hl, Nat.add_sub_cancel_left]
  exact hj
end

/-! Layer 2: the walk of the law AnchorsApart where net, truth and wall are given. -/
open Go.RowKit
open An

instance {b : Nat} : NeN b (b + 1) := ⟨Nat.ne_of_lt (Nat.lt_succ_self _)⟩
instance {b : Nat} : NeN (b + 1) b := ⟨Nat.ne_of_gt (Nat.lt_succ_self _)⟩
instance (priority := 10) lt_alloc_le {b : Nat} {W : World} {o : Obj} [h : Le b W] : Lt b (W.alloc o) := ⟨by simpa using Nat.lt_succ_of_le h.out⟩
/-- The cells of a net's box. -/
abbrev Cells7 (b : Nat) (r : NetR) (n : Net) (W : World) : Prop := W.cell? ⟨b, 0, none⟩ = some (.int .i64 n.wind.lo) ∧ W.cell? ⟨b, 1, none⟩ = some (.int .i64 n.wind.hi) ∧ W.cell? ⟨b, 2, none⟩ = some (.int .i64 n.cur.lo) ∧ W.cell? ⟨b, 3, none⟩ = some (.int .i64 n.cur.hi) ∧ W.cell? ⟨b, 4, none⟩ = some (.slice r.gA n.grips.length r.gc) ∧ W.cell? ⟨b, 5, none⟩ = some (.slice r.aA n.ancs.length r.ac) ∧ W.cell? ⟨b, 6, none⟩ = some (.slice r.wA n.wals.length r.wc)
theorem cells7_up {b : Nat} {r : NetR} {n : Net} {W1 W : World} (h : Cells7 b r n W1) [i1 : Lt b W1] [g : Grew W1.heap.size W1 W] : Cells7 b r n W := by
  have k1 := fun o => cells_same g.out b o i1.out
  unfold Cells7 at *
  rw [k1, k1, k1, k1, k1, k1, k1]
  exact h
/-- Copy of a net one of whose walls has no sail and no drag. -/
theorem copyZ_c (r : NetR) (n : Net) (k : Nat) (B : Nat) (w : World) [hB : Le B w] (h : NetIs B w r (zeroN n k)) (q1 : n.grips.length ≤ 1000) (q2 : n.ancs.length ≤ 1000) (q3 : n.wals.length ≤ 1000) :
    Calls Tryd.prog 17 #[netV r n] w fun e w' => ∃ (r' : NetR) (δ : World), e = .returned (netV r' n) ∧ w' = lat w δ ∧ NetOwn w.heap.size (lat w δ) r' (zeroN n k) := by
  have := copy_c r (zeroN n k) B w h q1 q2 (by rw [zero_wlen]; exact q3)
  rw [show netV r (zeroN n k) = netV r n by unfold netV; rw [zero_wlen]; rfl] at this
  refine this.mono ?_
  rintro e w1 ⟨r', δ, rfl, rfl, ho⟩
  refine ⟨r', δ, ?_, rfl, ho⟩
  unfold netV
  rw [zero_wlen]; rfl

/-- Two copies, each in a box of its own. -/
def ApartCut (n : Net) (k : Nat) (W1 : World) (s9 s10 : Value) (wx : World) : Prop := ∃ (r1 r2 : NetR) (b1 b2 p1 q1 p2 q2 : Nat), s9 = .pointer (some ⟨b1, 0, none⟩) ∧ s10 = .pointer (some ⟨b2, 0, none⟩) ∧ (Lt b1 wx ∧ Lt b2 wx ∧ NeN b1 b2 ∧ NeN b2 b1 ∧ LeN W1.heap.size b1 ∧ LeN W1.heap.size b2) ∧
  Cells7 b1 r1 n wx ∧ Cells7 b2 r2 n wx ∧ (wx.frozen? ⟨b1, 5, none⟩ = false ∧ wx.frozen? ⟨b1, 6, none⟩ = false ∧ wx.frozen? ⟨b2, 5, none⟩ = false ∧ wx.frozen? ⟨b2, 6, none⟩ = false) ∧ NetR2 p1 q1 r1 (zeroN n k) wx ∧ NetR2 p2 q2 r2 (zeroN n k) wx ∧ (Out p1 q1 b1 ∧ Out p1 q1 b2 ∧ Out p2 q2 b1 ∧ Out p2 q2 b2) ∧ Grew W1.heap.size W1 wx ∧ Le W1.heap.size wx

theorem grew_tr2 {B : Nat} {w W wr : World} (h : Grew B w W) (h2 : Grew W.heap.size W wr) [hB : Le B W] : Grew B w wr :=
  ⟨⟨h2.out.1.trans h.out.1, h2.out.2.1.trans h.out.2.1, h2.out.2.2.1.trans h.out.2.2.1, fun b hb => (h2.out.2.2.2 b (Nat.lt_of_lt_of_le hb hB.out)).trans (h.out.2.2.2 b hb)⟩⟩
theorem drags_sm {n : Net} {t : Tru} (hv : valid n = true) (ht : truB n t = true) : (dragsV n t).length ≤ 6 ∧ ∀ k, k < (dragsV n t).length → 0 ≤ nth (dragsV n t) k ∧ nth (dragsV n t) k ≤ 100 := by
  have h6 := (valid_iff.1 hv).2.2.2.1
  rw [dragsV_at hv ht]
  unfold atL
  refine ⟨Nat.le_trans (rangeL_len _ _) h6, fun k hk => ?_⟩
  have hm := nth_mem _ hk
  unfold rangeL at hm
  obtain ⟨j, hj, e⟩ := List.mem_map.1 hm
  rw [List.mem_filter, List.mem_range] at hj
  unfold rangeL
  omega
theorem nth_app {a b : List Int} {j : Nat} : nth (a ++ b) j = if j < a.length then nth a j else nth b (j - a.length) := by
  unfold nth List.getD
  split
  · rename_i h; rw [List.getElem?_append_left h]
  · rename_i h; rw [List.getElem?_append_right (by omega)]
theorem lawDragsV_c (r : NetR) (n : Net) (rt : TruR) (t : Tru) (v : Value) (hv' : netV r n = v) (xs : List Int) (hx : dragsV n t = xs) (B B' : Nat) (w : World) [hB : Le B w] [hB' : Le B' w] [h2 : Le 2 w] (h : NetIs B w r n) (h' : TruIs B' w rt t) (hT : TabIs w) (hv : valid n = true) (ht : truB n t = true) :
    Calls Tryd.prog 24 #[v, truV rt t] w fun e w' => ∃ (A : Option Addr) (c : Nat) (δ : World), e = .returned (.tuple #[.slice A xs.length c, .bool true]) ∧ w' = lat w δ ∧ Sl encI (lat w δ).heap.size (lat w δ) A c xs := by
  subst hv' hx
  exact lawDrags_c r n rt t w.heap.size w h.wide h'.wide hT hv ht
theorem apart_mk {n : Net} {k : Nat} {W1 : World} {s9 s10 : Value} {wx wa wb : World} {r1 r2 : NetR} {b1 b2 p1 q1 p2 q2 : Nat} (h1 : NetR2 p1 q1 r1 (zeroN n k) wa) (h2 : NetR2 p2 q2 r2 (zeroN n k) wb)
    (e9 : s9 = .pointer (some ⟨b1, 0, none⟩)) (e10 : s10 = .pointer (some ⟨b2, 0, none⟩)) (k1 : NetR2 p1 q1 r1 (zeroN n k) wa → NetR2 p1 q1 r1 (zeroN n k) wx) (k2 : NetR2 p2 q2 r2 (zeroN n k) wb → NetR2 p2 q2 r2 (zeroN n k) wx)
    (c1 : Cells7 b1 r1 n wx) (c2 : Cells7 b2 r2 n wx) (f : wx.frozen? ⟨b1, 5, none⟩ = false ∧ wx.frozen? ⟨b1, 6, none⟩ = false ∧ wx.frozen? ⟨b2, 5, none⟩ = false ∧ wx.frozen? ⟨b2, 6, none⟩ = false)
    (hl : Lt b1 wx ∧ Lt b2 wx ∧ NeN b1 b2 ∧ NeN b2 b1 ∧ LeN W1.heap.size b1 ∧ LeN W1.heap.size b2) (ho : Out p1 q1 b1 ∧ Out p1 q1 b2 ∧ Out p2 q2 b1 ∧ Out p2 q2 b2) (g1 : Grew W1.heap.size W1 wx) (g2 : Le W1.heap.size wx) : ApartCut n k W1 s9 s10 wx :=
  ⟨r1, r2, b1, b2, p1, q1, p2, q2, e9, e10, hl, c1, c2, f, k1 h1, k2 h2, ho, g1, g2⟩

set_option maxRecDepth 100000 in
set_option maxHeartbeats 16000000 in
theorem lawApartT_c (r : NetR) (n : Net) (rt : TruR) (t : Tru) (k : Nat) (B : Nat) (w : World) [hB : Le B w] [h2 : Le 2 w] (h : NetIs B w r n) (h' : TruIs B w rt t) (hT : TabIs w)
    (hg : givenV n t = true) (hk : k < n.wals.length) :
    Calls Tryd.prog 5 #[netV r n, truV rt t, .int .i64 k] w fun e w' => e = .returned (.bool true) ∧ ∃ δ, w' = lat w δ := by
  have HT := Lib.hid hT
  have H := Lib.hid h
  have Ht := Lib.hid h'
  have HG := Lib.hid hg
  have HI := Lib.hid (show inB 0 ((n.wals.length : Int) - 1) (k : Int) = true by rw [inB_iff]; omega)
  obtain ⟨hv, ht, hf⟩ := givenV_of hg
  have HV := Lib.hid hv
  have HR := Lib.hid ht
  have hwl := wals_len hv
  have HL := Lib.hid (And.intro (valid_iff.1 hv).2.2.1 (And.intro (valid_iff.1 hv).2.2.2.1 (show n.wals.length ≤ 6 by have := (valid_iff.1 hv).2.2.2.1; omega)))
  have HK := Lib.hid (And.intro hk hwl)
  have hki : (k : Int) < (n.wals.length : Int) := by omega
  have hk0 : ¬ (k : Int) < 0 := by omega
  clear hT h h' hg hf hv ht hwl
  go_enter Tryd.func5, Tryd.ntmps5
  go_upto_region 1 with fail
  refine wp_name fun W1 hW1 => ?_
  have iw1 : Le B W1 := by rw [hW1.out]; infer_instance
  have iw2 : Grew B w W1 := by rw [hW1.out]; infer_instance
  have iw3 : Le 2 W1 := by rw [hW1.out]; infer_instance
  have iw4 : Grew 2 w W1 := by rw [hW1.out]; infer_instance
  have iw5 : Le w.heap.size W1 := by rw [hW1.out]; infer_instance
  have iw6 : Grew w.heap.size w W1 := by rw [hW1.out]; infer_instance
  have iw7 : Lt (w.heap.size) W1 := by rw [hW1.out]; infer_instance
  have iw8 : Lt (w.heap.size + 1) W1 := by rw [hW1.out]; infer_instance
  have cw9 : W1.cell? ⟨w.heap.size, 0, none⟩ = some (.int .i64 n.wind.lo) := by rw [hW1.out]; go_simp
  have cw10 : W1.cell? ⟨w.heap.size, 1, none⟩ = some (.int .i64 n.wind.hi) := by rw [hW1.out]; go_simp
  have cw11 : W1.cell? ⟨w.heap.size, 2, none⟩ = some (.int .i64 n.cur.lo) := by rw [hW1.out]; go_simp
  have cw12 : W1.cell? ⟨w.heap.size, 3, none⟩ = some (.int .i64 n.cur.hi) := by rw [hW1.out]; go_simp
  have cw13 : W1.cell? ⟨w.heap.size, 4, none⟩ = some (.slice r.gA n.grips.length r.gc) := by rw [hW1.out]; go_simp
  have cw14 : W1.cell? ⟨w.heap.size, 5, none⟩ = some (.slice r.aA n.ancs.length r.ac) := by rw [hW1.out]; go_simp
  have cw15 : W1.cell? ⟨w.heap.size, 6, none⟩ = some (.slice r.wA n.wals.length r.wc) := by rw [hW1.out]; go_simp
  have cw16 : W1.cell? ⟨w.heap.size + 1, 0, none⟩ = some (.int .i64 t.wind) := by rw [hW1.out]; go_simp
  have cw17 : W1.cell? ⟨w.heap.size + 1, 1, none⟩ = some (.int .i64 t.cur) := by rw [hW1.out]; go_simp
  have cw18 : W1.cell? ⟨w.heap.size + 1, 2, none⟩ = some (.slice rt.tA t.grips.length rt.tc) := by rw [hW1.out]; go_simp
  have HS1 := Lib.hid (show W1.heap.size = w.heap.size + 2 by rw [hW1.out]; simp)
  go_wp2_with (fail)
  refine (givenV_is (r := r) HG.out H.out.up Ht.out.up).mono ?_
  rintro e w1 ⟨rfl, δ1, rfl⟩
  go_wp2_with (fail)
  refine (rIsWall_is (r := r) HI.out H.out.up).mono ?_
  rintro e w1 ⟨rfl, δ2, rfl⟩
  go_wp2_with (fail)
  refine (copy_c r n B _ H.out.up (by have := HL.out; omega) (by have := HL.out; omega) (by have := HL.out; omega)).mono ?_
  rintro e w1 ⟨r', δ3, rfl, rfl, ho⟩
  obtain ⟨gA, gc, aA, ac, wA, wq⟩ := r'
  obtain ⟨g, rfl, hgb, hgl, hgc, hgf⟩ := own_at ho.2.2 (by omega)
  rw [show netV ⟨gA, gc, aA, ac, some ⟨g, 0, none⟩, wq⟩ n = Value.agg #[.int .i64 n.wind.lo, .int .i64 n.wind.hi, .int .i64 n.cur.lo, .int .i64 n.cur.hi, .slice gA n.grips.length gc, .slice aA n.ancs.length ac, .slice (some ⟨g, 0, none⟩) n.wals.length wq] from rfl]
  have c0 := hgc (k * 5) (.int .i64 (nth n.wals k).sail) (by have := flatMap_nth encWal 5 (fun _ => rfl) n.wals k 0 hk (by omega); rw [Nat.add_zero] at this; rw [this]; rfl)
  have c1 := hgc (k * 5 + 1) (.int .i64 (nth n.wals k).drag) (by have := flatMap_nth encWal 5 (fun _ => rfl) n.wals k 1 hk (by omega); rw [this]; rfl)
  have c2 := hgc (k * 5 + 2) (.int .i64 (nth n.wals k).lean) (by have := flatMap_nth encWal 5 (fun _ => rfl) n.wals k 2 hk (by omega); rw [this]; rfl)
  have c3 := hgc (k * 5 + 3) (.int .i64 (nth n.wals k).corks) (by have := flatMap_nth encWal 5 (fun _ => rfl) n.wals k 3 hk (by omega); rw [this]; rfl)
  have c4 := hgc (k * 5 + 4) (.int .i64 (nth n.wals k).stones) (by have := flatMap_nth encWal 5 (fun _ => rfl) n.wals k 4 hk (by omega); rw [this]; rfl)
  have f0 := hgf (k * 5)
  have f1 := hgf (k * 5 + 1)
  have f2 := hgf (k * 5 + 2)
  have f3 := hgf (k * 5 + 3)
  have f4 := hgf (k * 5 + 4)
  have hgs : w.heap.size + 2 ≤ g := by
    have e1 := lat_size (lat W1 δ1) δ2
    have e2 := lat_size W1 δ1
    exact Nat.le_trans (Nat.le_of_eq HS1.out.symm) (Nat.le_trans e2 (Nat.le_trans e1 hgb))
  have n1 : NeN g w.heap.size := ⟨by omega⟩
  have n2 : NeN w.heap.size g := ⟨by omega⟩
  have n3 : NeN g (w.heap.size + 1) := ⟨by omega⟩
  have n4 : NeN (w.heap.size + 1) g := ⟨by omega⟩
  have n5 : LeN w.heap.size g := ⟨by omega⟩
  have n6 : LeN B g := ⟨by have := hB.out; omega⟩
  have n7 : LeN 2 g := ⟨by have := h2.out; omega⟩
  have HO := Lib.hid ho
  have HZ := Lib.hid (ho.setW hk (nilW (nth n.wals k)))
  clear ho hgc hgf hgb hgs
  go_upto_region 7 with fail
  refine wp_name fun W2 hW2 => ?_
  have iw19 : Le B W2 := by rw [hW2.out]; infer_instance
  have iw20 : Grew B w W2 := by rw [hW2.out]; infer_instance
  have iw21 : Le 2 W2 := by rw [hW2.out]; infer_instance
  have iw22 : Grew 2 w W2 := by rw [hW2.out]; infer_instance
  have iw23 : Le w.heap.size W2 := by rw [hW2.out]; infer_instance
  have iw24 : Grew w.heap.size w W2 := by rw [hW2.out]; infer_instance
  have iw25 : Lt (w.heap.size) W2 := by rw [hW2.out]; infer_instance
  have iw26 : Lt (w.heap.size + 1) W2 := by rw [hW2.out]; infer_instance
  have iw27 : Lt ((lat (lat (lat W1 δ1) δ2) δ3).heap.size) W2 := by rw [hW2.out]; infer_instance
  have cw28 : W2.cell? ⟨w.heap.size + 1, 0, none⟩ = some (.int .i64 t.wind) := by rw [hW2.out]; go_simp
  have cw29 : W2.cell? ⟨w.heap.size + 1, 1, none⟩ = some (.int .i64 t.cur) := by rw [hW2.out]; go_simp
  have cw30 : W2.cell? ⟨w.heap.size + 1, 2, none⟩ = some (.slice rt.tA t.grips.length rt.tc) := by rw [hW2.out]; go_simp
  have cw31 : W2.cell? ⟨(lat (lat (lat W1 δ1) δ2) δ3).heap.size, 0, none⟩ = some (.int .i64 n.wind.lo) := by rw [hW2.out]; go_simp
  have cw32 : W2.cell? ⟨(lat (lat (lat W1 δ1) δ2) δ3).heap.size, 1, none⟩ = some (.int .i64 n.wind.hi) := by rw [hW2.out]; go_simp
  have cw33 : W2.cell? ⟨(lat (lat (lat W1 δ1) δ2) δ3).heap.size, 2, none⟩ = some (.int .i64 n.cur.lo) := by rw [hW2.out]; go_simp
  have cw34 : W2.cell? ⟨(lat (lat (lat W1 δ1) δ2) δ3).heap.size, 3, none⟩ = some (.int .i64 n.cur.hi) := by rw [hW2.out]; go_simp
  have cw35 : W2.cell? ⟨(lat (lat (lat W1 δ1) δ2) δ3).heap.size, 4, none⟩ = some (.slice gA n.grips.length gc) := by rw [hW2.out]; go_simp
  have cw36 : W2.cell? ⟨(lat (lat (lat W1 δ1) δ2) δ3).heap.size, 5, none⟩ = some (.slice aA n.ancs.length ac) := by rw [hW2.out]; go_simp
  have cw37 : W2.cell? ⟨(lat (lat (lat W1 δ1) δ2) δ3).heap.size, 6, none⟩ = some (.slice (some ⟨g, 0, none⟩) n.wals.length wq) := by rw [hW2.out]; go_simp
  have NZ : Hid (NetIs W2.heap.size W2 ⟨gA, gc, aA, ac, some ⟨g, 0, none⟩, wq⟩ (zeroN n k)) := by rw [hW2.out]; exact ((HZ.out.alloc _).alloc _).is
  clear hW2 HZ HO c0 c1 c2 c3 c4 f0 f1 f2 f3 f4
  generalize (lat (lat (lat W1 δ1) δ2) δ3).heap.size = bo at *
  have H7 : Hid (Cells7 bo ⟨gA, gc, aA, ac, some ⟨g, 0, none⟩, wq⟩ n W2) := by
    refine ⟨?_, ?_, ?_, ?_, ?_, ?_, ?_⟩ <;> assumption
  go_cut [9, 10] (fun s9 s10 wx => ApartCut n k W2 s9 s10 wx)
  case first =>
    go_region_held3 (fun W => W.cell? ⟨bo, 0, none⟩ = some (.int .i64 n.wind.lo) ∧ W.cell? ⟨bo, 1, none⟩ = some (.int .i64 n.wind.hi) ∧ W.cell? ⟨bo, 2, none⟩ = some (.int .i64 n.cur.lo) ∧ W.cell? ⟨bo, 3, none⟩ = some (.int .i64 n.cur.hi) ∧ W.cell? ⟨bo, 4, none⟩ = some (.slice gA n.grips.length gc) ∧ W.cell? ⟨bo, 5, none⟩ = some (.slice aA n.ancs.length ac) ∧ W.cell? ⟨bo, 6, none⟩ = some (.slice (some ⟨g, 0, none⟩) n.wals.length wq))
      (exact cells7_up H7.out)
      (first
        | (go_at_call 17; refine (copyZ_c ⟨gA, gc, aA, ac, some ⟨g, 0, none⟩, wq⟩ n k _ _ NZ.out.wide (by have := HL.out; omega) (by have := HL.out; omega) (by have := HL.out; omega)).mono ?_; first | (have hz := HOa; clear hz; rintro e w1 ⟨r2, δb, rfl, rfl, ho⟩; have HOb := Lib.hid (NetR2.of ho); clear ho) | (rintro e w1 ⟨r1, δa, rfl, rfl, ho⟩; have HOa := Lib.hid (NetR2.of ho); clear ho)))
    all_goals
      go_wp2_with (fail)
      go_meet
      refine apart_mk HOa.out HOb.out rfl rfl (fun h => ?_) (fun h => ?_) ⟨?_, ?_, ?_, ?_, ?_, ?_, ?_⟩ ⟨?_, ?_, ?_, ?_, ?_, ?_, ?_⟩ ⟨?_, ?_, ?_, ?_⟩ ⟨inferInstance, inferInstance, inferInstance, inferInstance, inferInstance, inferInstance⟩ ⟨inferInstance, inferInstance, inferInstance, inferInstance⟩ inferInstance inferInstance
      iterate 2 (first | (repeat (first | with_reducible exact h | with_reducible refine NetR2.alloc ?_ _ | with_reducible refine NetR2.set ?_ _ | with_reducible refine NetR2.lat ?_ _ | with_reducible refine NetR2.drew ?_)))
      all_goals go_simp
  case rest =>
    obtain ⟨⟨gA1, gc1, aA1, ac1, wA1, wc1⟩, ⟨gA2, gc2, aA2, ac2, wA2, wc2⟩, b1, b2, p1, q1, p2, q2, rfl, rfl, ⟨k1, k2, k3, k4, k5, k6⟩, ⟨c0, c1, c2, c3, c4, c5, c6⟩, ⟨d0, d1, d2, d3, d4, d5, d6⟩, ⟨f1, f2, f3, f4⟩, hN1, hN2, ⟨o1, o2, o3, o4⟩, g1, g2⟩ := hcut
    have hb1 : bo < W2.heap.size := (inferInstance : Lt bo W2).out
    have hb2 : w.heap.size + 1 < W2.heap.size := (inferInstance : Lt (w.heap.size + 1) W2).out
    have i1 : Lt bo wc := ⟨Nat.lt_of_lt_of_le hb1 g2.out⟩
    have i2 : Lt (w.heap.size + 1) wc := ⟨Nat.lt_of_lt_of_le hb2 g2.out⟩
    have i3 : Le B wc := ⟨Nat.le_trans (inferInstance : Le B W2).out g2.out⟩
    have i4 : Le 2 wc := ⟨Nat.le_trans (inferInstance : Le 2 W2).out g2.out⟩
    have i6 : Grew B w wc := grew_tr2 (W := W2) inferInstance g1
    have i7 : Grew 2 w wc := grew_tr2 (W := W2) inferInstance g1
    have i8 : Grew w.heap.size w wc := grew_tr2 (W := W2) inferInstance g1
    obtain ⟨e0, e1, e2, e3, e4, e5, e6⟩ := cells7_up (W := wc) H7.out
    have hcs := fun o => cells_same g1.out (w.heap.size + 1) o hb2
    have t0 : wc.cell? ⟨w.heap.size + 1, 0, none⟩ = some (.int .i64 t.wind) := (hcs 0).trans (by assumption)
    have t1 : wc.cell? ⟨w.heap.size + 1, 1, none⟩ = some (.int .i64 t.cur) := (hcs 1).trans (by assumption)
    have t2 : wc.cell? ⟨w.heap.size + 1, 2, none⟩ = some (.slice rt.tA t.grips.length rt.tc) := (hcs 2).trans (by assumption)
    have z1 := hN1.own.is
    have z2 := hN2.own.is
    have hk := HK.out.1
    have hkl := HK.out.2
    have hl6 := HL.out.2.1
    have zw : (zeroN n k).wals.length = n.wals.length := zero_wlen n k
    obtain ⟨ga1, rfl, _, la1, _, _⟩ := own_at hN1.2.1.1 (show 0 < n.ancs.length by omega)
    obtain ⟨gw1, rfl, _, lw1, _, _⟩ := own_at hN1.2.2.1 (show 0 < (zeroN n k).wals.length by omega)
    obtain ⟨ga2, rfl, _, la2, _, _⟩ := own_at hN2.2.1.1 (show 0 < n.ancs.length by omega)
    obtain ⟨gw2, rfl, _, lw2, _, _⟩ := own_at hN2.2.2.1 (show 0 < (zeroN n k).wals.length by omega)
    have la1' : n.ancs.length ≤ ac1 := z1.2.1.1
    have lw1' : (zeroN n k).wals.length ≤ wc1 := z1.2.2.1
    have la2' : n.ancs.length ≤ ac2 := z2.2.1.1
    have lw2' : (zeroN n k).wals.length ≤ wc2 := z2.2.2.1
    have m1 : (k : Int) + 1 ≤ (ac1 : Int) := by omega
    have m2 : (k : Int) ≤ (wc1 : Int) := by omega
    have m3 : (k : Int) + 1 ≤ (n.ancs.length : Int) := by omega
    have m4 : (k : Int) + 1 ≤ (n.wals.length : Int) := by omega
    have m5 : (k : Int) ≤ 6 := by omega
    have m6 : (0 : Int) ≤ (k : Int) := by omega
    have m7 : ¬ ac1 = 0 := by omega
    have m8 : ¬ wc1 = 0 := by omega
    have m9 : ¬ ac2 = k + 1 := by omega
    have m10 : (0 : Int) ≤ (k : Int) + 1 := by omega
    have HN1 := Lib.hid hN1
    have HN2 := Lib.hid hN2
    clear z1 z2 hk hkl hl6 zw hN1 hN2 hcs hb1 hb2 la1' lw1' la2' lw2'
    obtain ⟨A2, hA2⟩ : ∃ A, (if wc2 = k + 1 then some (⟨gw2, 0, none⟩ : Addr) else some ⟨gw2, (k + 1) * 5, none⟩) = A := ⟨_, rfl⟩
    go_wp2_with (fail)
    go_region
    go_wp2_with (fail)
    go_region
    go_upto_region 10 with fail
    refine wp_name fun W3 hW3 => ?_
    have x0 : W2.heap.size ≤ b1 := k5.out
    have x0' : W2.heap.size ≤ b2 := k6.out
    have x1 : LeN B b1 := ⟨Nat.le_trans (inferInstance : Le B W2).out x0⟩
    have x2 : LeN B b2 := ⟨Nat.le_trans (inferInstance : Le B W2).out x0'⟩
    have x3 : LeN 2 b1 := ⟨Nat.le_trans (inferInstance : Le 2 W2).out x0⟩
    have x4 : LeN 2 b2 := ⟨Nat.le_trans (inferInstance : Le 2 W2).out x0'⟩
    have hw2 : w.heap.size ≤ W2.heap.size := Nat.le_of_lt (inferInstance : Lt w.heap.size W2).out
    have x5 : LeN w.heap.size b1 := ⟨Nat.le_trans hw2 x0⟩
    have x6 : LeN w.heap.size b2 := ⟨Nat.le_trans hw2 x0'⟩
    have hbo : bo < W2.heap.size := (inferInstance : Lt bo W2).out
    have hwt : w.heap.size + 1 < W2.heap.size := (inferInstance : Lt (w.heap.size + 1) W2).out
    have x7 : NeN bo b1 := ⟨Nat.ne_of_lt (Nat.lt_of_lt_of_le hbo x0)⟩
    have x8 : NeN bo b2 := ⟨Nat.ne_of_lt (Nat.lt_of_lt_of_le hbo x0')⟩
    have x9 : NeN (w.heap.size + 1) b1 := ⟨Nat.ne_of_lt (Nat.lt_of_lt_of_le hwt x0)⟩
    have x10 : NeN (w.heap.size + 1) b2 := ⟨Nat.ne_of_lt (Nat.lt_of_lt_of_le hwt x0')⟩
    have hwc : Le w.heap.size wc := ⟨Nat.le_trans hw2 g2.out⟩
    have iw38 : Le B W3 := by rw [hW3.out]; infer_instance
    have iw39 : Grew B w W3 := by rw [hW3.out]; infer_instance
    have iw40 : Le 2 W3 := by rw [hW3.out]; infer_instance
    have iw41 : Grew 2 w W3 := by rw [hW3.out]; infer_instance
    have iw42 : Le w.heap.size W3 := by rw [hW3.out]; infer_instance
    have iw43 : Grew w.heap.size w W3 := by rw [hW3.out]; infer_instance
    have iw44 : Lt (w.heap.size + 1) W3 := by rw [hW3.out]; infer_instance
    have iw45 : Lt (bo) W3 := by rw [hW3.out]; infer_instance
    have iw46 : Lt (b1) W3 := by rw [hW3.out]; infer_instance
    have iw47 : Lt (b2) W3 := by rw [hW3.out]; infer_instance
    have cw48 : W3.cell? ⟨w.heap.size + 1, 0, none⟩ = some (.int .i64 t.wind) := by rw [hW3.out]; go_simp
    have cw49 : W3.cell? ⟨w.heap.size + 1, 1, none⟩ = some (.int .i64 t.cur) := by rw [hW3.out]; go_simp
    have cw50 : W3.cell? ⟨w.heap.size + 1, 2, none⟩ = some (.slice rt.tA t.grips.length rt.tc) := by rw [hW3.out]; go_simp
    have cw51 : W3.cell? ⟨bo, 0, none⟩ = some (.int .i64 n.wind.lo) := by rw [hW3.out]; go_simp
    have cw52 : W3.cell? ⟨bo, 1, none⟩ = some (.int .i64 n.wind.hi) := by rw [hW3.out]; go_simp
    have cw53 : W3.cell? ⟨bo, 2, none⟩ = some (.int .i64 n.cur.lo) := by rw [hW3.out]; go_simp
    have cw54 : W3.cell? ⟨bo, 3, none⟩ = some (.int .i64 n.cur.hi) := by rw [hW3.out]; go_simp
    have cw55 : W3.cell? ⟨bo, 4, none⟩ = some (.slice gA n.grips.length gc) := by rw [hW3.out]; go_simp
    have cw56 : W3.cell? ⟨bo, 5, none⟩ = some (.slice aA n.ancs.length ac) := by rw [hW3.out]; go_simp
    have cw57 : W3.cell? ⟨bo, 6, none⟩ = some (.slice (some ⟨g, 0, none⟩) n.wals.length wq) := by rw [hW3.out]; go_simp
    have cw58 : W3.cell? ⟨b1, 0, none⟩ = some (.int .i64 n.wind.lo) := by rw [hW3.out]; go_simp
    have cw59 : W3.cell? ⟨b1, 1, none⟩ = some (.int .i64 n.wind.hi) := by rw [hW3.out]; go_simp
    have cw60 : W3.cell? ⟨b1, 2, none⟩ = some (.int .i64 n.cur.lo) := by rw [hW3.out]; go_simp
    have cw61 : W3.cell? ⟨b1, 3, none⟩ = some (.int .i64 n.cur.hi) := by rw [hW3.out]; go_simp
    have cw62 : W3.cell? ⟨b1, 4, none⟩ = some (.slice gA1 n.grips.length gc1) := by rw [hW3.out]; go_simp
    have cw63 : W3.cell? ⟨b1, 5, none⟩ = some (.slice (some ⟨ga1, 0, none⟩) (k + 1) ac1) := by rw [hW3.out]; go_simp
    have cw64 : W3.cell? ⟨b1, 6, none⟩ = some (.slice (some ⟨gw1, 0, none⟩) k wc1) := by rw [hW3.out]; go_simp
    have cw65 : W3.cell? ⟨b2, 0, none⟩ = some (.int .i64 n.wind.lo) := by rw [hW3.out]; go_simp
    have cw66 : W3.cell? ⟨b2, 1, none⟩ = some (.int .i64 n.wind.hi) := by rw [hW3.out]; go_simp
    have cw67 : W3.cell? ⟨b2, 2, none⟩ = some (.int .i64 n.cur.lo) := by rw [hW3.out]; go_simp
    have cw68 : W3.cell? ⟨b2, 3, none⟩ = some (.int .i64 n.cur.hi) := by rw [hW3.out]; go_simp
    have cw69 : W3.cell? ⟨b2, 4, none⟩ = some (.slice gA2 n.grips.length gc2) := by rw [hW3.out]; go_simp
    have cw70 : W3.cell? ⟨b2, 5, none⟩ = some (.slice (some ⟨ga2, (k + 1) * 2, none⟩) (n.ancs.length - (k + 1)) (ac2 - (k + 1))) := by rw [hW3.out]; go_simp
    have cw71 : W3.cell? ⟨b2, 6, none⟩ = some (.slice A2 (n.wals.length - (k + 1)) (wc2 - (k + 1))) := by rw [hW3.out]; go_simp
    have gz : Grew W2.heap.size W2 W3 := by rw [hW3.out]; infer_instance
    have gz2 : Le W2.heap.size W3 := by rw [hW3.out]; infer_instance
    have R1 : NetR2 p1 q1 ⟨gA1, gc1, some ⟨ga1, 0, none⟩, ac1, some ⟨gw1, 0, none⟩, wc1⟩ (zeroN n k) W3 := by rw [hW3.out]; exact ((((HN1.out.set _).set _).set _).set _).drew.drew
    have R2 : NetR2 p2 q2 ⟨gA2, gc2, some ⟨ga2, 0, none⟩, ac2, some ⟨gw2, 0, none⟩, wc2⟩ (zeroN n k) W3 := by rw [hW3.out]; exact ((((HN2.out.set _).set _).set _).set _).drew.drew
    have hk := HK.out.1
    have N1 : NetIs W3.heap.size W3 ⟨gA1, gc1, some ⟨ga1, 0, none⟩, ac1, some ⟨gw1, 0, none⟩, wc1⟩ (oneN (zeroN n k) k) := ⟨R1.own.is.1, R1.own.is.2.1.take _, R1.own.is.2.2.take _⟩
    have N2 : NetIs W3.heap.size W3 ⟨gA2, gc2, some ⟨ga2, (k + 1) * 2, none⟩, ac2 - (k + 1), A2, wc2 - (k + 1)⟩ (otherN (zeroN n k) k) := by
      refine ⟨R2.own.is.1, ?_, ?_⟩
      · have := R2.own.is.2.1.drop (size := 2) (fun _ => rfl) (k + 1) (show k + 1 ≤ n.ancs.length by omega)
        rw [if_neg m9] at this
        show Sl encAnc _ _ _ _ ((zeroN n k).ancs.drop (k + 1))
        simpa [Addr.add_lit] using this
      · have := R2.own.is.2.2.drop (size := 5) (fun _ => rfl) (k + 1) (show k + 1 ≤ (zeroN n k).wals.length by rw [zero_wlen]; omega)
        rw [← hA2]
        show Sl encWal _ _ _ _ ((zeroN n k).wals.drop (k + 1))
        simpa [Addr.add_lit] using this
    have N0 : NetIs W3.heap.size W3 ⟨gA, gc, aA, ac, some ⟨g, 0, none⟩, wq⟩ (zeroN n k) := (NZ.out.up (w' := W3)).wide
    have e0v : netV ⟨gA, gc, aA, ac, some ⟨g, 0, none⟩, wq⟩ (zeroN n k) = Value.agg #[.int .i64 n.wind.lo, .int .i64 n.wind.hi, .int .i64 n.cur.lo, .int .i64 n.cur.hi, .slice gA n.grips.length gc, .slice aA n.ancs.length ac, .slice (some ⟨g, 0, none⟩) n.wals.length wq] := by
      unfold netV; rw [zero_wlen]; rfl
    have e1v : netV ⟨gA1, gc1, some ⟨ga1, 0, none⟩, ac1, some ⟨gw1, 0, none⟩, wc1⟩ (oneN (zeroN n k) k) = Value.agg #[.int .i64 n.wind.lo, .int .i64 n.wind.hi, .int .i64 n.cur.lo, .int .i64 n.cur.hi, .slice gA1 n.grips.length gc1, .slice (some ⟨ga1, 0, none⟩) (k + 1) ac1, .slice (some ⟨gw1, 0, none⟩) k wc1] := by
      unfold netV; rw [one_len (zeroN n k) (show k < n.ancs.length by have := HK.out.2; omega), one_wlen (zeroN n k) (show k ≤ (zeroN n k).wals.length by rw [zero_wlen]; omega)]; rfl
    have e2v : netV ⟨gA2, gc2, some ⟨ga2, (k + 1) * 2, none⟩, ac2 - (k + 1), A2, wc2 - (k + 1)⟩ (otherN (zeroN n k) k) = Value.agg #[.int .i64 n.wind.lo, .int .i64 n.wind.hi, .int .i64 n.cur.lo, .int .i64 n.cur.hi, .slice gA2 n.grips.length gc2, .slice (some ⟨ga2, (k + 1) * 2, none⟩) (n.ancs.length - (k + 1)) (ac2 - (k + 1)), .slice A2 (n.wals.length - (k + 1)) (wc2 - (k + 1))] := by
      unfold netV; rw [other_len, other_wlen, zero_wlen]; rfl
    have hkz : k < (zeroN n k).wals.length := by rw [zero_wlen]; exact hk
    have v0 := zero_valid HV.out hk
    have v1 := one_valid v0 hkz
    have v2 := other_valid v0 hkz
    have hda := drags_apart HV.out HR.out hk
    have b1 := drags_sm v1 (show truB (oneN (zeroN n k) k) t = true from HR.out)
    have b2 := drags_sm v2 (show truB (otherN (zeroN n k) k) t = true from HR.out)
    obtain ⟨L1, hL1⟩ : ∃ L, dragsV (oneN (zeroN n k) k) t = L := ⟨_, rfl⟩
    obtain ⟨L2, hL2⟩ : ∃ L, dragsV (otherN (zeroN n k) k) t = L := ⟨_, rfl⟩
    obtain ⟨L, hL⟩ : ∃ L, dragsV (zeroN n k) t = L := ⟨_, rfl⟩
    rw [hL, hL1, hL2] at hda
    rw [hL1] at b1
    rw [hL2] at b2
    have hlen : L.length = L1.length + L2.length := by rw [hda]; simp
    have lt1 : (L1.length : Int) ≤ 6 := by have := b1.1; omega
    have lt2 : (L2.length : Int) ≤ 6 := by have := b2.1; omega
    have lt3 : (L.length : Int) ≤ 12 := by omega
    have lt4 : ((L.length : Int) != (L1.length : Int) + (L2.length : Int)) = false := by rw [hlen]; simp
    have HB := Lib.hid (And.intro hda (And.intro hlen (And.intro b1.2 b2.2)))
    have HL0 := Lib.hid hL
    have HL1 := Lib.hid hL1
    have HL2 := Lib.hid hL2
    have HE0 := Lib.hid e0v
    have HE1 := Lib.hid e1v
    have HE2 := Lib.hid e2v
    have HN0 := Lib.hid N0
    have HN1' := Lib.hid N1
    have HN2' := Lib.hid N2
    have HV0 := Lib.hid v0
    have HV1 := Lib.hid v1
    have HV2 := Lib.hid v2
    have hb3 : Le 2 W3 := ⟨Nat.le_trans (inferInstance : Le 2 W2).out gz2.out⟩
    clear hda hlen b1 b2 hL hL1 hL2 e0v e1v e2v N0 N1 N2 v0 v1 v2 hkz hW3 hA2 m1 m2 m3 m4 m7 m8 m9 m10 R1 R2 HN1 HN2 hk e0 e1 e2 e3 e4 e5 e6 t0 t1 t2 c0 c1 c2 c3 c4 c5 c6 d0 d1 d2 d3 d4 d5 d6 f1 f2 f3 f4 H7 NZ
    go_wp2_with (fail)
    refine (lawDragsV_c ⟨gA, gc, aA, ac, some ⟨g, 0, none⟩, wq⟩ (zeroN n k) rt t _ HE0.out L HL0.out _ B _ HN0.out Ht.out.up (HT.out.up Grew.out) HV0.out HR.out).mono ?_
    rintro e w1 ⟨A3, c3, δ4, rfl, rfl, hS⟩
    have HS3 := Lib.hid hS
    clear hS
    go_wp2_with (fail)
    refine (lawDragsV_c ⟨gA1, gc1, some ⟨ga1, 0, none⟩, ac1, some ⟨gw1, 0, none⟩, wc1⟩ (oneN (zeroN n k) k) rt t _ HE1.out L1 HL1.out _ B _ HN1'.out.up Ht.out.up (HT.out.up Grew.out) HV1.out HR.out).mono ?_
    rintro e w1 ⟨A4, c4, δ5, rfl, rfl, hS⟩
    have HS4 := Lib.hid hS
    clear hS
    go_wp2_with (fail)
    refine (lawDragsV_c ⟨gA2, gc2, some ⟨ga2, (k + 1) * 2, none⟩, ac2 - (k + 1), A2, wc2 - (k + 1)⟩ (otherN (zeroN n k) k) rt t _ HE2.out L2 HL2.out _ B _ HN2'.out.up Ht.out.up (HT.out.up Grew.out) HV2.out HR.out).mono ?_
    rintro e w1 ⟨A5, c5, δ6, rfl, rfl, hS⟩
    have HS5 := Lib.hid hS
    clear hS
    go_upto_region 13 with fail
    refine wp_name fun W4 hW4 => ?_
    have S3 : Sl encI W4.heap.size W4 A3 c3 L := by rw [hW4.out]; exact HS3.out.wide
    have S4 : Sl encI W4.heap.size W4 A4 c4 L1 := by rw [hW4.out]; exact HS4.out.wide
    have S5 : Sl encI W4.heap.size W4 A5 c5 L2 := by rw [hW4.out]; exact HS5.out.wide
    have z1 : Le w.heap.size W4 := by rw [hW4.out]; infer_instance
    have z2 : Grew w.heap.size w W4 := by rw [hW4.out]; infer_instance
    have z3 : Grew 2 w W4 := by rw [hW4.out]; infer_instance
    have z4 : Le 2 W4 := by rw [hW4.out]; infer_instance
    clear hW4 HS3 HS4 HS5
    go_wp2_with (fail)
    go_loopg [17] L.length (fun g i wr => ∃ (j : Nat) (δ : World), j ≤ L.length ∧ g = L.length - j ∧ i = .int .i64 j ∧ wr = lat W4 δ)
    case atStart => exact ⟨0, W4, Nat.zero_le _, rfl, rfl, (lat_refl W4).symm⟩
    case round =>
      obtain ⟨j, δ, hj, rfl, rfl, rfl⟩ := hrel
      by_cases hlt : j < L.length
      · obtain ⟨q3, o3, hA3, hq3, l3⟩ := S3.int hlt
        have i3 : Lt q3 W4 := ⟨hq3⟩
        have hA3 : A3 = some ⟨q3, o3, none⟩ := hA3
        subst hA3
        have hji : (j : Int) < (L.length : Int) := by omega
        have hj0 : ¬ (j : Int) < 0 := by omega
        rw [HB.out.1, nth_app] at l3
        by_cases h1 : j < L1.length
        · rw [if_pos h1] at l3
          obtain ⟨q4, o4, hA4, hq4, l4⟩ := S4.int h1
          have i4 : Lt q4 W4 := ⟨hq4⟩
          have hA4 : A4 = some ⟨q4, o4, none⟩ := hA4
          subst hA4
          have hji1 : (j : Int) < (L1.length : Int) := by omega
          have hd1 : decide ((j : Int) < (L1.length : Int)) = true := by simpa using h1
          have hd2 : decide (j < L1.length) = true := by simpa using h1
          have hd3 : decide (L1.length ≤ j) = false := by simpa using h1
          have HJ := Lib.hid hlt
          clear hlt h1
          go_wp2_with (fail)
          refine wp_region_lat (by kernel_rfl) (by kernel_rfl) ?_
          repeat (go_big_quiet_step ((first | (fail))))
          refine wpQuiet_nil ?_
          rintro _ ⟨δq, rfl⟩
          go_wp2_with (fail)
          go_roundg (L.length - (j + 1))
          case measure => have := HJ.out; omega
          case rel => exact ⟨j + 1, _, HJ.out, rfl, by go_num, lat_def⟩
        · rw [if_neg h1] at l3
          obtain ⟨m, rfl⟩ : ∃ m, j = L1.length + m := ⟨j - L1.length, by omega⟩
          have hm2 : m < L2.length := by have := HB.out.2.1; omega
          obtain ⟨q5, o5, hA5, hq5, l5⟩ := S5.int hm2
          have i5 : Lt q5 W4 := ⟨hq5⟩
          have hA5 : A5 = some ⟨q5, o5, none⟩ := hA5
          subst hA5
          have hbd := HB.out.2.2.2 m hm2
          rw [Nat.add_sub_cancel_left, nth_map _ _ hm2] at l3
          obtain ⟨y, hy⟩ : ∃ y, nth L2 m = y := ⟨_, rfl⟩
          rw [hy] at l3 l5 hbd
          have l3 : W4.cell? ⟨q3, o3 + (L1.length + m), none⟩ = some (.int .i64 (y + (k : Int) + 1)) := by
            rw [l3, show y + ((k + 1 : Nat) : Int) = y + (k : Int) + 1 by omega]
          have hk6 : k ≤ 6 := by have := HK.out.1; have := HL.out.2.2; omega
          have e1 : IntKind.i64.wrap ((L1.length : Int) + (m : Int) - (L1.length : Int)) = (m : Int) := by rw [IntWalk.i64_in _ (by omega)]; omega
          have e2 : IntKind.i64.wrap (y + (k : Int)) = y + (k : Int) := IntWalk.i64_in _ (by omega)
          have e3 : IntKind.i64.wrap (y + (k : Int) + 1) = y + (k : Int) + 1 := IntWalk.i64_in _ (by omega)
          have hji1 : (L1.length : Int) + (m : Int) < (L.length : Int) := by omega
          have hm2i : (m : Int) < (L2.length : Int) := by omega
          have hm0 : ¬ (m : Int) < 0 := by omega
          have hd1 : decide ((L1.length : Int) + (m : Int) < (L1.length : Int)) = false := decide_eq_false (by omega)
          have hd2 : decide (L1.length + m < L1.length) = false := decide_eq_false (by omega)
          have hd3 : decide ((L1.length : Int) ≤ (L1.length : Int) + (m : Int)) = true := decide_eq_true (by omega)
          have hd4 : decide (L1.length ≤ L1.length + m) = true := decide_eq_true (by omega)
          have HJ := Lib.hid hlt
          clear hlt h1 hy hbd
          go_wp2_with (fail)
          refine wp_region_lat (by kernel_rfl) (by kernel_rfl) ?_
          repeat (go_big_quiet_step ((first | (fail))))
          refine wpQuiet_nil ?_
          rintro _ ⟨δq, rfl⟩
          go_wp2_with (fail)
          go_roundg (L.length - (L1.length + m + 1))
          case measure => have := HJ.out; omega
          case rel => exact ⟨L1.length + m + 1, _, HJ.out, rfl, by go_num, lat_def⟩
      · obtain rfl : j = L.length := by omega
        go_wp2_with (go_at_call 16; refine (works_c _ (HT.out.up Grew.out)).mono ?_; rintro e w1 ⟨rfl, δ6, rfl⟩)
        go_ret
        exact ⟨rfl, lat_ex⟩

set_option maxRecDepth 100000 in
set_option maxHeartbeats 4000000 in
theorem lawApart_c (r : NetR) (n : Net) (rt : TruR) (t : Tru) (i : Int) (B : Nat) (w : World) [hB : Le B w] [h2 : Le 2 w] (h : NetIs B w r n) (h' : TruIs B w rt t) (hT : TabIs w) :
    Calls Tryd.prog 5 #[netV r n, truV rt t, .int .i64 i] w fun e w' => e = .returned (.bool true) ∧ ∃ δ, w' = lat w δ := by
  cases hg : givenV n t with
  | false =>
    have HT := Lib.hid hT
    have H := Lib.hid h
    have Ht := Lib.hid h'
    have HG := Lib.hid hg
    clear hT h h' hg
    go_enter Tryd.func5, Tryd.ntmps5
    go_wp2_with (fail)
    refine (givenV_is (r := r) HG.out H.out.up Ht.out.up).mono ?_
    rintro e w1 ⟨rfl, δ1, rfl⟩
    go_wp2_with (go_at_call 16; refine (works_c _ (HT.out.up Grew.out)).mono ?_; rintro e w1 ⟨rfl, δ6, rfl⟩)
    go_ret
    exact ⟨rfl, lat_ex⟩
  | true =>
    cases hh : inB 0 ((n.wals.length : Int) - 1) i with
    | false =>
      have HT := Lib.hid hT
      have H := Lib.hid h
      have Ht := Lib.hid h'
      have HG := Lib.hid hg
      have HI := Lib.hid hh
      clear hT h h' hg hh
      go_enter Tryd.func5, Tryd.ntmps5
      go_wp2_with (fail)
      refine (givenV_is (r := r) HG.out H.out.up Ht.out.up).mono ?_
      rintro e w1 ⟨rfl, δ1, rfl⟩
      go_wp2_with (fail)
      refine (rIsWall_is (r := r) HI.out H.out.up).mono ?_
      rintro e w1 ⟨rfl, δ2, rfl⟩
      go_wp2_with (go_at_call 16; refine (works_c _ (HT.out.up Grew.out)).mono ?_; rintro e w1 ⟨rfl, δ6, rfl⟩)
      go_ret
      exact ⟨rfl, lat_ex⟩
    | true =>
      have hi := inB_iff.1 hh
      obtain ⟨k, rfl⟩ : ∃ k : Nat, i = (k : Int) := ⟨i.toNat, by omega⟩
      exact lawApartT_c r n rt t k B w h h' hT hg (by omega)

end Go.Proofs.YtgpcaaknpfopgaaDoor
