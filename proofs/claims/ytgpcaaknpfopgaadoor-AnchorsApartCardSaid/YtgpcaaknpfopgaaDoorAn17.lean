/- Layer 2: the walks of Copy and InWind of the reference. -/
import Derived.Test.YtgpcaaknpfopgaaDoorAn16
namespace Go.Proofs.YtgpcaaknpfopgaaDoor
open Go.RowKit
open An

theorem slSp : SlT Tryd.prog 24 23 (.agg #[.int .i64 0, .int .i64 0]) 2 16 := SlT.mk Tryd.underlying24 (by kernel_rfl) rfl (by omega)
theorem slAn : SlT Tryd.prog 25 52 (.agg #[.int .i64 0, .int .i64 0]) 2 16 := SlT.mk Tryd.underlying25 (by kernel_rfl) rfl (by omega)
theorem slWa : SlT Tryd.prog 26 46 (.agg #[.int .i64 0, .int .i64 0, .int .i64 0, .int .i64 0, .int .i64 0]) 5 40 := SlT.mk Tryd.underlying26 (by kernel_rfl) rfl (by omega)

theorem len_enc {α : Type} (enc : α → List Value) (size : Nat) (h : ∀ x, (enc x).length = size) (xs : List α) : (xs.flatMap enc).length = xs.length * size := by
  induction xs with
  | nil => simp
  | cons x xs ih => rw [List.flatMap_cons, List.length_append, ih, h, List.length_cons, Nat.succ_mul]; omega
theorem one_enc {α : Type} (enc : α → List Value) (h : ∀ x, ∀ u ∈ enc x, u.oneCell' = true) (xs : List α) : ∀ u ∈ xs.flatMap enc, u.oneCell' = true := by
  intro u hu
  rw [List.mem_flatMap] at hu
  obtain ⟨x, _, hx⟩ := hu
  exact h x u hx
theorem one_sp : ∀ x, ∀ u ∈ encSp x, u.oneCell' = true := by intro x u hu; simp [encSp] at hu; rcases hu with rfl | rfl <;> rfl
theorem one_anc : ∀ x, ∀ u ∈ encAnc x, u.oneCell' = true := by intro x u hu; simp [encAnc] at hu; rcases hu with rfl | rfl <;> rfl
theorem one_wal : ∀ x, ∀ u ∈ encWal x, u.oneCell' = true := by intro x u hu; simp [encWal] at hu; rcases hu with rfl | rfl | rfl | rfl | rfl <;> rfl

theorem wpList_append_lit {P : Program} (W1 : World) {W : World} {ops : Array Oper} {rest : List Oper} {o : Oper} {a : Act} {Q : Exit → Act → World → Prop} {t e : TypeId} {z : Value} {size bytes : Nat} (hT : SlT P t e z size bytes)
    (s x : Operand) (hgd : o.guard = none) (ho : o.op = .call { callee := .builtin .append, args := #[s, x], argTypes := #[t, t] })
    {v : Value} (hown : W.ownsRow W1.heap.size e size v 0 []) (hs : a.eval s = v)
    {B m c : Nat} {A : Option Addr} {news : List Value} (hx : a.eval x = .slice A m c) (hr : Cells W B A news) (hl : news.length = m * size) (h1 : ∀ u ∈ news, u.oneCell' = true)
    (h63 : m ≤ 1000000) (hbytes : bytes ≤ 1000) [hbase : Le W1.heap.size W]
    (h : ∀ A' c' δ, (latB W1.heap.size W δ).ownsRow W1.heap.size e size (.slice A' m c') m news → W.grownBy (latB W1.heap.size W δ) v.ownBlock → wpList P ops Q rest (a.put o.dst (.slice A' m c')) (latB W1.heap.size W δ)) : wpList P ops Q (o :: rest) a W :=
  wpList_append_cells W1 hT s x hgd ho hown hs hx hr hl h1 (by omega) hbytes fun A' c' δ h2 h3 => by
    rw [Nat.zero_add, List.nil_append] at h2
    rw [Nat.zero_add]
    exact h A' c' δ h2 h3

theorem ownsRow_past {W W' : World} {o : Obj} {base : Nat} {e : TypeId} {size n g k c : Nat} {v : Value} {xs : List Value} (h : W.ownsRow base e size v n xs) (hg : g = W.heap.size) (hgr : (W.alloc o).grownBy W' (Value.slice (some ⟨g, 0, none⟩) k c).ownBlock) : W'.ownsRow base e size v n xs :=
  (h.alloc o).kept hgr (.inr fun he => by
    have := (h.lt g (by rw [he]; rfl)).2
    omega)
theorem wpList_name_alloc {P : Program} {ops : Array Oper} {Q : Exit → Act → World → Prop} {rest : List Oper} {a : Act} {W0 : World} {o : Obj} (h : ∀ W, Hid (W = W0) → wpList P ops Q rest a (W.alloc o)) : wpList P ops Q rest a (W0.alloc o) := h W0 rfl

/-- A net whose rows are the caller's own: each lies whole in a block from base on. -/
def NetOwn (base : Nat) (w : World) (r : NetR) (n : Net) : Prop :=
  w.ownsRow base 23 2 (.slice r.gA n.grips.length r.gc) n.grips.length (n.grips.flatMap encSp) ∧
  w.ownsRow base 52 2 (.slice r.aA n.ancs.length r.ac) n.ancs.length (n.ancs.flatMap encAnc) ∧
  w.ownsRow base 46 5 (.slice r.wA n.wals.length r.wc) n.wals.length (n.wals.flatMap encWal)
section
variable {base : Nat} {w : World} {r : NetR} {n : Net}
theorem NetOwn.is (h : NetOwn base w r n) : NetIs w.heap.size w r n := ⟨Sl.of_own h.1, Sl.of_own h.2.1, Sl.of_own h.2.2⟩
theorem owns_mono {base base' : Nat} {w : World} {e : TypeId} {size n : Nat} {v : Value} {xs : List Value} (h : w.ownsRow base e size v n xs) (hb : base' ≤ base) : w.ownsRow base' e size v n xs :=
  ⟨h.1, h.2.imp id fun ⟨g, cap, cur, h1, h2, h3⟩ => ⟨g, cap, cur, h1, Nat.le_trans hb h2, h3⟩⟩
theorem NetOwn.mono (h : NetOwn base w r n) {base' : Nat} (hb : base' ≤ base) : NetOwn base' w r n := ⟨owns_mono h.1 hb, owns_mono h.2.1 hb, owns_mono h.2.2 hb⟩
theorem NetOwn.set (h : NetOwn base w r n) {b i : Nat} (hb : b < base) (u : Value) : NetOwn base (w.setCell ⟨b, i, none⟩ u) r n :=
  ⟨ownsRow_setCell_below h.1 (a := ⟨b, i, none⟩) hb u, ownsRow_setCell_below h.2.1 (a := ⟨b, i, none⟩) hb u, ownsRow_setCell_below h.2.2 (a := ⟨b, i, none⟩) hb u⟩
theorem ret_own {W : World} [Grew w.heap.size w W] [Le w.heap.size W] (h : NetOwn base W r n) : ∃ (r' : NetR) (δ : World), Ending.returned (netV r n) = .returned (netV r' n) ∧ W = lat w δ ∧ NetOwn base (lat w δ) r' n := ⟨r, W, rfl, lat_def, by rw [← lat_def (w := w) (W := W)]; exact h⟩
theorem NetOwn.alloc (h : NetOwn base w r n) (o : Obj) : NetOwn base (w.alloc o) r n := ⟨h.1.alloc o, h.2.1.alloc o, h.2.2.alloc o⟩
theorem NetOwn.up (h : NetOwn base w r n) {W : World} [hg : Grew w.heap.size w W] : NetOwn base W r n := ⟨owns_up h.1, owns_up h.2.1, owns_up h.2.2⟩
end

set_option maxRecDepth 100000 in
set_option maxHeartbeats 4000000 in
theorem copy_c (r : NetR) (n : Net) (B : Nat) (w : World) [hB : Le B w] (h : NetIs B w r n) (q1 : n.grips.length ≤ 1000) (q2 : n.ancs.length ≤ 1000) (q3 : n.wals.length ≤ 1000) :
    Calls Tryd.prog 17 #[netV r n] w fun e w' => ∃ (r' : NetR) (δ : World), e = .returned (netV r' n) ∧ w' = lat w δ ∧ NetOwn w.heap.size (lat w δ) r' n := by
  go_enter Tryd.func17, Tryd.ntmps17
  have H := Lib.hid h
  clear h
  go_upto_region 2 with fail
  refine wp_name fun W1 hW1 => ?_
  have iw1 : Le B W1 := by rw [hW1.out]; infer_instance
  have iw2 : Grew B w W1 := by rw [hW1.out]; infer_instance
  have iw3 : Le w.heap.size W1 := by rw [hW1.out]; infer_instance
  have iw4 : Grew w.heap.size w W1 := by rw [hW1.out]; infer_instance
  have iw5 : Lt (w.heap.size) W1 := by rw [hW1.out]; infer_instance
  have iw6 : Lt (w.heap.size + 1) W1 := by rw [hW1.out]; infer_instance
  have iw7 : Lt (w.heap.size + 1 + 1) W1 := by rw [hW1.out]; infer_instance
  have cw8 : W1.cell? ⟨w.heap.size, 0, none⟩ = some (.int .i64 n.wind.lo) := by rw [hW1.out]; go_simp
  have cw9 : W1.cell? ⟨w.heap.size, 1, none⟩ = some (.int .i64 n.wind.hi) := by rw [hW1.out]; go_simp
  have cw10 : W1.cell? ⟨w.heap.size, 2, none⟩ = some (.int .i64 n.cur.lo) := by rw [hW1.out]; go_simp
  have cw11 : W1.cell? ⟨w.heap.size, 3, none⟩ = some (.int .i64 n.cur.hi) := by rw [hW1.out]; go_simp
  have cw12 : W1.cell? ⟨w.heap.size, 4, none⟩ = some (.slice r.gA n.grips.length r.gc) := by rw [hW1.out]; go_simp
  have cw13 : W1.cell? ⟨w.heap.size, 5, none⟩ = some (.slice r.aA n.ancs.length r.ac) := by rw [hW1.out]; go_simp
  have cw14 : W1.cell? ⟨w.heap.size, 6, none⟩ = some (.slice r.wA n.wals.length r.wc) := by rw [hW1.out]; go_simp
  have cw15 : W1.cell? ⟨w.heap.size + 1, 0, none⟩ = some (.int .i64 0) := by rw [hW1.out]; go_simp
  have cw16 : W1.cell? ⟨w.heap.size + 1, 1, none⟩ = some (.int .i64 0) := by rw [hW1.out]; go_simp
  have cw17 : W1.cell? ⟨w.heap.size + 1, 2, none⟩ = some (.int .i64 0) := by rw [hW1.out]; go_simp
  have cw18 : W1.cell? ⟨w.heap.size + 1, 3, none⟩ = some (.int .i64 0) := by rw [hW1.out]; go_simp
  have cw19 : W1.cell? ⟨w.heap.size + 1, 4, none⟩ = some (.slice none 0 0) := by rw [hW1.out]; go_simp
  have cw20 : W1.cell? ⟨w.heap.size + 1, 5, none⟩ = some (.slice none 0 0) := by rw [hW1.out]; go_simp
  have cw21 : W1.cell? ⟨w.heap.size + 1, 6, none⟩ = some (.slice none 0 0) := by rw [hW1.out]; go_simp
  have fw22 : W1.frozen? ⟨w.heap.size + 1, 0, none⟩ = false := by rw [hW1.out]; go_simp
  have fw23 : W1.frozen? ⟨w.heap.size + 1, 1, none⟩ = false := by rw [hW1.out]; go_simp
  have fw24 : W1.frozen? ⟨w.heap.size + 1, 2, none⟩ = false := by rw [hW1.out]; go_simp
  have fw25 : W1.frozen? ⟨w.heap.size + 1, 3, none⟩ = false := by rw [hW1.out]; go_simp
  have fw26 : W1.frozen? ⟨w.heap.size + 1, 4, none⟩ = false := by rw [hW1.out]; go_simp
  have fw27 : W1.frozen? ⟨w.heap.size + 1, 5, none⟩ = false := by rw [hW1.out]; go_simp
  have fw28 : W1.frozen? ⟨w.heap.size + 1, 6, none⟩ = false := by rw [hW1.out]; go_simp
  have cw29 : W1.cell? ⟨w.heap.size + 1 + 1, 0, none⟩ = some (.int .i64 n.wind.lo) := by rw [hW1.out]; go_simp
  have cw30 : W1.cell? ⟨w.heap.size + 1 + 1, 1, none⟩ = some (.int .i64 n.wind.hi) := by rw [hW1.out]; go_simp
  have cw31 : W1.cell? ⟨w.heap.size + 1 + 1, 2, none⟩ = some (.int .i64 n.cur.lo) := by rw [hW1.out]; go_simp
  have cw32 : W1.cell? ⟨w.heap.size + 1 + 1, 3, none⟩ = some (.int .i64 n.cur.hi) := by rw [hW1.out]; go_simp
  have cw33 : W1.cell? ⟨w.heap.size + 1 + 1, 4, none⟩ = some (.slice r.gA n.grips.length r.gc) := by rw [hW1.out]; go_simp
  have cw34 : W1.cell? ⟨w.heap.size + 1 + 1, 5, none⟩ = some (.slice r.aA n.ancs.length r.ac) := by rw [hW1.out]; go_simp
  have cw35 : W1.cell? ⟨w.heap.size + 1 + 1, 6, none⟩ = some (.slice r.wA n.wals.length r.wc) := by rw [hW1.out]; go_simp
  have fw36 : W1.frozen? ⟨w.heap.size + 1 + 1, 0, none⟩ = false := by rw [hW1.out]; go_simp
  have fw37 : W1.frozen? ⟨w.heap.size + 1 + 1, 1, none⟩ = false := by rw [hW1.out]; go_simp
  have fw38 : W1.frozen? ⟨w.heap.size + 1 + 1, 2, none⟩ = false := by rw [hW1.out]; go_simp
  have fw39 : W1.frozen? ⟨w.heap.size + 1 + 1, 3, none⟩ = false := by rw [hW1.out]; go_simp
  have fw40 : W1.frozen? ⟨w.heap.size + 1 + 1, 4, none⟩ = false := by rw [hW1.out]; go_simp
  have fw41 : W1.frozen? ⟨w.heap.size + 1 + 1, 5, none⟩ = false := by rw [hW1.out]; go_simp
  have fw42 : W1.frozen? ⟨w.heap.size + 1 + 1, 6, none⟩ = false := by rw [hW1.out]; go_simp
  go_wp2_with (first
    | (at_builtin; (refine wpList_append_lit W1 slSp (.tmp 5) (.tmp 7) rfl rfl (v := .slice (some ⟨_, 0, none⟩) 0 0) (own_lit0 (by go_simp) (by go_simp)) rfl (B := B) (A := r.gA) (m := n.grips.length) (c := r.gc) (news := n.grips.flatMap encSp) rfl (H.out.up.1.2.2) (len_enc encSp 2 (fun _ => rfl) _) (one_enc encSp one_sp _) (by omega) (by omega) ?_); intro A1 c1 δ1 own1 hg1)
    | (at_builtin; (refine wpList_append_lit W1 slAn (.tmp 10) (.tmp 12) rfl rfl (v := .slice (some ⟨_, 0, none⟩) 0 0) (own_lit0 (by go_simp) (by go_simp)) rfl (B := B) (A := r.aA) (m := n.ancs.length) (c := r.ac) (news := n.ancs.flatMap encAnc) rfl (H.out.up.2.1.2.2) (len_enc encAnc 2 (fun _ => rfl) _) (one_enc encAnc one_anc _) (by omega) (by omega) ?_); intro A2 c2 δ2 own2 hg2; have p1 := ownsRow_past (ownsRow_setCell_below own1 (a := ⟨_, _, _⟩) iw7.out _) (by go_simp) hg2)
    | (at_builtin; (refine wpList_append_lit W1 slWa (.tmp 15) (.tmp 17) rfl rfl (v := .slice (some ⟨_, 0, none⟩) 0 0) (own_lit0 (by go_simp) (by go_simp)) rfl (B := B) (A := r.wA) (m := n.wals.length) (c := r.wc) (news := n.wals.flatMap encWal) rfl (H.out.up.2.2.2.2) (len_enc encWal 5 (fun _ => rfl) _) (one_enc encWal one_wal _) (by omega) (by omega) ?_); intro A3 c3 δ3 own3 hg3; have p2 := ownsRow_past (ownsRow_setCell_below own2 (a := ⟨_, _, _⟩) iw7.out _) (by go_simp) hg3; have p1' := ownsRow_past (ownsRow_setCell_below p1 (a := ⟨_, _, _⟩) iw7.out _) (by go_simp) hg3))
  refine bodyPost_ret (v := netV ⟨A1, c1, A2, c2, A3, c3⟩ n) ?_ rfl ?_
  · simp only [results, Tryd.results17]
    go_simp
  · refine ⟨⟨A1, c1, A2, c2, A3, c3⟩, _, rfl, lat_def, ?_⟩
    rw [← lat_def (w := w)]
    refine NetOwn.mono (base := W1.heap.size) ?_ iw3.out
    iterate 7 (refine NetOwn.set ?_ iw6.out _)
    refine NetOwn.set ?_ iw7.out _
    exact ⟨p1', p2, own3⟩

set_option maxRecDepth 100000 in
set_option maxHeartbeats 4000000 in
theorem inWind_c (r : NetR) (n : Net) (v : Int) (B : Nat) (w : World) [hB : Le B w] (h : NetIs B w r n) (q1 : n.grips.length ≤ 1000) (q2 : n.ancs.length ≤ 1000) (q3 : n.wals.length ≤ 1000) :
    Calls Tryd.prog 70 #[netV r n, .int .i64 v] w fun e w' => ∃ (r' : NetR) (δ : World), e = .returned (netV r' (inW n v)) ∧ w' = lat w δ ∧ NetOwn w.heap.size (lat w δ) r' (inW n v) := by
  go_enter Tryd.func70, Tryd.ntmps70
  have H := Lib.hid h
  clear h
  go_wp2_with (go_at_call 17; refine (copy_c r n B _ H.out.up q1 q2 q3).mono ?_; rintro e w1 ⟨r', δ, rfl, rfl, h''⟩; obtain ⟨bs, hbs, h'⟩ : ∃ bs, Hid (bs = _) ∧ NetOwn bs _ r' n := ⟨_, rfl, h''⟩; clear h'')
  have b1 : w.heap.size + 1 < bs := by rw [hbs.out]; go_simp
  refine bodyPost_ret (v := netV r' (inW n v)) ?_ rfl ?_
  · simp only [results, Tryd.results70]
    go_simp
    simp [inW]
  · refine ret_own ?_
    refine NetOwn.mono (base := bs) ?_ (Nat.le_of_lt (Nat.lt_of_succ_lt b1))
    refine NetOwn.alloc ?_ _
    iterate 7 (refine NetOwn.set ?_ b1 _)
    exact h'

end Go.Proofs.YtgpcaaknpfopgaaDoor
