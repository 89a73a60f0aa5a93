/- Layer 2: small walks of the reference: IsAnchor, IsWall, IsForce, ask, SpareOf; of the program: Load. -/
import Derived.Test.YtgpcaaknpfopgaaDoorAnPlain6
import Derived.Outline
namespace Go.Proofs.YtgpcaaknpfopgaaDoor
open Go.RowKit
open An

theorem rIsAnchor_c (r : NetR) (n : Net) (i : Int) (B : Nat) (w : World) [_hB : Le B w] (h : NetIs B w r n) :
    Calls Tryd.prog 27 #[netV r n, .int .i64 i] w fun e w' => e = .returned (.bool (inB 0 (n.ancs.length - 1) i)) ∧ ∃ δ, w' = lat w δ := by
  have l := h.2.1.len
  go_enter Tryd.func27, Tryd.ntmps27
  go_wp2_with (go_at_call 72; refine (within2_c _ _ _ _).mono ?_; rintro e w1 ⟨rfl, rfl⟩)
  go_ret
  exact ⟨rfl, lat_ex⟩
theorem rIsWall_c (r : NetR) (n : Net) (i : Int) (B : Nat) (w : World) [_hB : Le B w] (h : NetIs B w r n) :
    Calls Tryd.prog 26 #[netV r n, .int .i64 i] w fun e w' => e = .returned (.bool (inB 0 (n.wals.length - 1) i)) ∧ ∃ δ, w' = lat w δ := by
  have l := h.2.2.len
  go_enter Tryd.func26, Tryd.ntmps26
  go_wp2_with (go_at_call 72; refine (within2_c _ _ _ _).mono ?_; rintro e w1 ⟨rfl, rfl⟩)
  go_ret
  exact ⟨rfl, lat_ex⟩
theorem rIsForce_c (i : Int) (w : World) :
    Calls Tryd.prog 93 #[.int .i64 i] w fun e w' => e = .returned (.bool (inB 0 20 i)) ∧ ∃ δ, w' = lat w δ := by
  go_enter Tryd.func93, Tryd.ntmps93
  go_wp2_with (go_at_call 72; refine (within2_c _ _ _ _).mono ?_; rintro e w1 ⟨rfl, rfl⟩)
  go_ret
  exact ⟨rfl, lat_ex⟩
theorem rAsk_c (r : NetR) (n : Net) (b : Bool) (B : Nat) (w : World) [hB : Le B w] (h : NetIs B w r n) :
    Calls Tryd.prog 92 #[netV r n, .bool b] w fun e w' => e = .returned (.int .i64 (askE (valid n) b)) ∧ ∃ δ, w' = lat w δ := by
  by_cases hv : valid n = true
  all_goals try rw [Bool.not_eq_true] at hv
  all_goals
    have HV := Lib.hid hv
    rw [hv]
    clear hv
    cases b
  all_goals
    go_enter Tryd.func92, Tryd.ntmps92
    go_wp2_with (go_at_call 39; refine (rCheck_c r n B _ h.up).mono ?_; rw [HV.out]; rintro e w1 ⟨rfl, δ, rfl⟩)
    go_ret
    exact ⟨rfl, lat_ex⟩

theorem rBearsN_c (r : NetR) (n : Net) (rt : TruR) (t : Tru) (i : Nat) (B : Nat) (w : World) [hB : Le B w] (h : NetIs B w r n) (ht : okTru n t) (hi : i < n.ancs.length) :
    Calls Tryd.prog 104 #[netV r n, truV rt t, .int .i64 i, .slice none 0 0] w fun e w' => e = .returned (.int .i64 (bears n t i (fun _ => false))) ∧ ∃ δ, w' = lat w δ := by
  have := rBears_c r n rt t i none 0 [] B w h Sl.none_ ht hi
  rw [show inL [] = fun _ => false by funext k; simp [inL, isIn]] at this
  exact this

set_option maxHeartbeats 2000000 in
theorem spareOf_c (r : NetR) (n : Net) (rt : TruR) (t : Tru) (i : Nat) (B : Nat) (w : World) [hB : Le B w] (h : NetIs B w r n) (h' : TruIs B w rt t) (ht : okTru n t) (hi : i < n.ancs.length) :
    Calls Tryd.prog 54 #[netV r n, truV rt t, .int .i64 i] w fun e w' => e = .returned (.int .i64 (spare n t i (fun _ => false))) ∧ ∃ δ, w' = lat w δ := by
  have hb := bears_bd ht (d := fun _ => false) hi
  have hc := (can_bd ht hi).2.2.2.2.2.2
  have HT := Lib.hid ht
  clear ht
  go_enter Tryd.func54, Tryd.ntmps54
  go_wp2_with (fail)
  refine wp_name fun W1 hW1 => ?_
  have iw1 : Le B W1 := by rw [hW1.out]; infer_instance
  have iw2 : Grew B w W1 := by rw [hW1.out]; infer_instance
  have iw3 : Le w.heap.size W1 := by rw [hW1.out]; infer_instance
  have iw4 : Grew w.heap.size w W1 := by rw [hW1.out]; infer_instance
  have iw5 : Lt (w.heap.size) W1 := by rw [hW1.out]; infer_instance
  have iw6 : Lt (w.heap.size + 1) W1 := by rw [hW1.out]; infer_instance
  have cw7 : W1.cell? ⟨w.heap.size, 0, none⟩ = some (.int .i64 n.wind.lo) := by rw [hW1.out]; go_simp
  have cw8 : W1.cell? ⟨w.heap.size, 1, none⟩ = some (.int .i64 n.wind.hi) := by rw [hW1.out]; go_simp
  have cw9 : W1.cell? ⟨w.heap.size, 2, none⟩ = some (.int .i64 n.cur.lo) := by rw [hW1.out]; go_simp
  have cw10 : W1.cell? ⟨w.heap.size, 3, none⟩ = some (.int .i64 n.cur.hi) := by rw [hW1.out]; go_simp
  have cw11 : W1.cell? ⟨w.heap.size, 4, none⟩ = some (.slice r.gA n.grips.length r.gc) := by rw [hW1.out]; go_simp
  have cw12 : W1.cell? ⟨w.heap.size, 5, none⟩ = some (.slice r.aA n.ancs.length r.ac) := by rw [hW1.out]; go_simp
  have cw13 : W1.cell? ⟨w.heap.size, 6, none⟩ = some (.slice r.wA n.wals.length r.wc) := by rw [hW1.out]; go_simp
  have cw14 : W1.cell? ⟨w.heap.size + 1, 0, none⟩ = some (.int .i64 t.wind) := by rw [hW1.out]; go_simp
  have cw15 : W1.cell? ⟨w.heap.size + 1, 1, none⟩ = some (.int .i64 t.cur) := by rw [hW1.out]; go_simp
  have cw16 : W1.cell? ⟨w.heap.size + 1, 2, none⟩ = some (.slice rt.tA t.grips.length rt.tc) := by rw [hW1.out]; go_simp
  refine wp_region_lat (by kernel_rfl) (by kernel_rfl) ?_
  repeat (go_big_quiet_step ((first | (go_at_call 103; exact Calls.lat_of (rCan_c r n rt t i B _ h.up h'.up HT.out hi)) | (go_at_call 104; exact Calls.lat_of (rBearsN_c r n rt t i B _ h.up HT.out hi)))))
  refine wpQuiet_nil ?_
  rintro _ ⟨δq, rfl⟩
  go_wp2_with (fail)
  go_ret
  exact ⟨rfl, lat_ex⟩

/-! ### Load -/
def loadV (n : Net) (wall wi cu : Int) : Int := if valid n && (inB 0 (n.wals.length - 1) wall && inB 0 20 wi && inB 0 20 cu) then ldW (nth n.wals wall.toNat) wi cu else 0

theorem allB2 (a b : Int) : allB 20 [a, b] = (inB 0 20 a && inB 0 20 b) := by simp [allB]
theorem rIsWall_is {n : Net} {i : Int} {b : Bool} (hb : inB 0 (n.wals.length - 1) i = b) {r : NetR} {B : Nat} {w : World} [hB : Le B w] (h : NetIs B w r n) :
    Calls Tryd.prog 26 #[netV r n, .int .i64 i] w fun e w' => e = .returned (.bool b) ∧ ∃ δ, w' = lat w δ := by
  subst hb; exact rIsWall_c r n i B w h
theorem rIsForce_is {i : Int} {b : Bool} (hb : inB 0 20 i = b) {w : World} :
    Calls Tryd.prog 93 #[.int .i64 i] w fun e w' => e = .returned (.bool b) ∧ ∃ δ, w' = lat w δ := by
  subst hb; exact rIsForce_c i w
theorem rAsk_is {n : Net} {b : Bool} {x : Int} (hx : askE (valid n) b = x) {r : NetR} {B : Nat} {w : World} [hB : Le B w] (h : NetIs B w r n) :
    Calls Tryd.prog 92 #[netV r n, .bool b] w fun e w' => e = .returned (.int .i64 x) ∧ ∃ δ, w' = lat w δ := by
  subst hx; exact rAsk_c r n b B w h

theorem isWall_is {n : Net} {i : Int} {b : Bool} (hb : inB 0 (n.wals.length - 1) i = b) {r : NetR} {B : Nat} {w : World} [hB : Le B w] (h : NetIs B w r n) :
    Calls Tryd.prog 90 #[netV r n, .int .i64 i] w fun e w' => e = .returned (.bool b) ∧ ∃ δ, w' = lat w δ := by
  subst hb; exact isWall_c r n i B w h
theorem open_is {n : Net} {b : Bool} {x : Int} (hx : askE (valid n) b = x) {r : NetR} {B : Nat} {w : World} [hB : Le B w] (h : NetIs B w r n) :
    Calls Tryd.prog 73 #[netV r n, .bool b] w fun e w' => e = .returned (.int .i64 x) ∧ ∃ δ, w' = lat w δ := by
  subst hx; exact open_c r n b B w h
theorem insideF_c {wi cu : Int} {b2 : Bool} (h : (inB 0 20 wi && inB 0 20 cu) = b2) {g : Nat} {W : World} {T : TypeId} (hg : g = W.heap.size) :
    Calls Tryd.prog 86 #[.int .i64 20, .slice (some ⟨g, 0, none⟩) 2 2] (W.alloc (.cells #[.int .i64 wi, .int .i64 cu] T)) fun e w' => e = .returned (.bool b2) ∧ ∃ δ, w' = lat (W.alloc (.cells #[.int .i64 wi, .int .i64 cu] T)) δ := by
  have := insideL_c 20 g 2 #[.int .i64 wi, .int .i64 cu] T W hg rfl (by omega) rfl
  rw [show (#[Value.int .i64 wi, Value.int .i64 cu] : Array Value).toList.map intOf = [wi, cu] from rfl, allB2, h] at this
  exact this

set_option maxRecDepth 100000 in
set_option maxHeartbeats 4000000 in
theorem pLoad_c (r : NetR) (n : Net) (wall wi cu : Int) (B : Nat) (w : World) [hB : Le B w] (h : NetIs B w r n) :
    Calls Tryd.prog 40 #[netV r n, .int .i64 wall, .int .i64 wi, .int .i64 cu] w fun e w' => e = .returned (.tuple #[.int .i64 (loadV n wall wi cu), .int .i64 (askE (valid n) (inB 0 (n.wals.length - 1) wall && (inB 0 20 wi && inB 0 20 cu)))]) ∧ ∃ δ, w' = lat w δ := by
  have H := Lib.hid h
  clear h
  by_cases hv : valid n = true
  all_goals try rw [Bool.not_eq_true] at hv
  all_goals
    by_cases h1 : inB 0 (n.wals.length - 1) wall = true
    all_goals try rw [Bool.not_eq_true] at h1
  all_goals
    by_cases h2 : (inB 0 20 wi && inB 0 20 cu) = true
    all_goals try rw [Bool.not_eq_true] at h2
  all_goals
    have HV := Lib.hid hv
    have H1 := Lib.hid h1
    have H2 := Lib.hid h2
    have HF := Lib.hid (show loadV n wall wi cu = if valid n && (inB 0 (n.wals.length - 1) wall && (inB 0 20 wi && inB 0 20 cu)) then ldW (nth n.wals wall.toNat) wi cu else 0 by unfold loadV; rw [Bool.and_assoc (inB 0 (n.wals.length - 1) wall)])
    rw [hv, h1, h2] at HF ⊢
    clear hv h1 h2
  · have h1' := inB_iff.1 H1.out
    obtain ⟨k, rfl⟩ := Int.eq_ofNat_of_zero_le h1'.1
    have hk : k < n.wals.length := by omega
    have hx := okWal_nth HV.out hk
    have h2' := H2.out
    rw [Bool.and_eq_true] at h2'
    obtain ⟨gA, gc, aA, ac, wA, wc⟩ := r
    obtain ⟨b, o, hA, hb, d0, d1, d2, d3, d4⟩ := H.out.2.2.wal hk
    have hA' : wA = some ⟨b, o, none⟩ := hA
    subst hA'
    clear hA
    rw [show netV ⟨gA, gc, aA, ac, some ⟨b, o, none⟩, wc⟩ n = Value.agg #[.int .i64 n.wind.lo, .int .i64 n.wind.hi, .int .i64 n.cur.lo, .int .i64 n.cur.hi, .slice gA n.grips.length gc, .slice aA n.ancs.length ac, .slice (some ⟨b, o, none⟩) n.wals.length wc] from rfl]
    have ib : Lt b w := ⟨Nat.lt_of_lt_of_le hb hB.out⟩
    have hk0 : ¬ (k : Int) < 0 := by omega
    have hki : (k : Int) < (n.wals.length : Int) := by omega
    have HX := Lib.hid hx
    have H21 := Lib.hid h2'.1
    have H22 := Lib.hid h2'.2
    clear hx h2' h1'
    go_enter Tryd.func40, Tryd.ntmps40
    go_wp2_with (fail)
    refine wp_name fun W1 hW1 => ?_
    have iw1 : Le B W1 := by rw [hW1.out]; infer_instance
    have iw2 : Grew B w W1 := by rw [hW1.out]; infer_instance
    have iw3 : Le w.heap.size W1 := by rw [hW1.out]; infer_instance
    have iw4 : Grew w.heap.size w W1 := by rw [hW1.out]; infer_instance
    have iw5 : Lt (w.heap.size) W1 := by rw [hW1.out]; infer_instance
    have iw6 : Lt (b) W1 := by rw [hW1.out]; infer_instance
    have cw7 : W1.cell? ⟨w.heap.size, 0, none⟩ = some (.int .i64 n.wind.lo) := by rw [hW1.out]; go_simp
    have cw8 : W1.cell? ⟨w.heap.size, 1, none⟩ = some (.int .i64 n.wind.hi) := by rw [hW1.out]; go_simp
    have cw9 : W1.cell? ⟨w.heap.size, 2, none⟩ = some (.int .i64 n.cur.lo) := by rw [hW1.out]; go_simp
    have cw10 : W1.cell? ⟨w.heap.size, 3, none⟩ = some (.int .i64 n.cur.hi) := by rw [hW1.out]; go_simp
    have cw11 : W1.cell? ⟨w.heap.size, 4, none⟩ = some (.slice gA n.grips.length gc) := by rw [hW1.out]; go_simp
    have cw12 : W1.cell? ⟨w.heap.size, 5, none⟩ = some (.slice aA n.ancs.length ac) := by rw [hW1.out]; go_simp
    have cw13 : W1.cell? ⟨w.heap.size, 6, none⟩ = some (.slice (some ⟨b, o, none⟩) n.wals.length wc) := by rw [hW1.out]; go_simp
    have e0 : ∀ i, W1.cell? ⟨b, i, none⟩ = w.cell? ⟨b, i, none⟩ := fun i => cells_same iw2.out _ _ hb
    rw [← e0] at d0 d1 d2 d3 d4
    clear e0
    go_region_held3 (fun W => W.cell? ⟨w.heap.size, 0, none⟩ = some (.int .i64 n.wind.lo) ∧ W.cell? ⟨w.heap.size, 1, none⟩ = some (.int .i64 n.wind.hi) ∧ W.cell? ⟨w.heap.size, 2, none⟩ = some (.int .i64 n.cur.lo) ∧ W.cell? ⟨w.heap.size, 3, none⟩ = some (.int .i64 n.cur.hi) ∧
        W.cell? ⟨w.heap.size, 4, none⟩ = some (.slice gA n.grips.length gc) ∧ W.cell? ⟨w.heap.size, 5, none⟩ = some (.slice aA n.ancs.length ac) ∧ W.cell? ⟨w.heap.size, 6, none⟩ = some (.slice (some ⟨b, o, none⟩) n.wals.length wc))
      (refine ⟨?_, ?_, ?_, ?_, ?_, ?_, ?_⟩ <;> go_simp)
      (first
        | (go_at_call 90; refine (isWall_c ⟨gA, gc, aA, ac, some ⟨b, o, none⟩, wc⟩ n k B _ H.out.up).mono ?_; rw [H1.out]; rintro e w1 ⟨rfl, δ, rfl⟩)
        | (go_at_call 86; refine (insideF_c H2.out (by go_simp)).mono ?_; rintro e w1 ⟨rfl, δ1, rfl⟩)
        | (go_at_call 73; refine (open_c ⟨gA, gc, aA, ac, some ⟨b, o, none⟩, wc⟩ n true B _ H.out.up).mono ?_; rw [HV.out]; rintro e w1 ⟨rfl, δ2, rfl⟩))
    go_wp2_with (go_at_call 91; refine (load_c (nth n.wals k) wi cu _ HX.out H21.out H22.out).mono ?_; rintro e w1 ⟨rfl, δ3, rfl⟩)
    go_ret2
    exact ⟨ret2 (int_eq (by rw [HF.out]; rfl)) rfl, lat_ex⟩
  · go_enter Tryd.func40, Tryd.ntmps40
    go_wp2_with (fail)
    refine wp_name fun W1 hW1 => ?_
    have iw14 : Le B W1 := by rw [hW1.out]; infer_instance
    have iw15 : Grew B w W1 := by rw [hW1.out]; infer_instance
    have iw16 : Le w.heap.size W1 := by rw [hW1.out]; infer_instance
    have iw17 : Grew w.heap.size w W1 := by rw [hW1.out]; infer_instance
    have iw18 : Lt (w.heap.size) W1 := by rw [hW1.out]; infer_instance
    have cw19 : W1.cell? ⟨w.heap.size, 0, none⟩ = some (.int .i64 n.wind.lo) := by rw [hW1.out]; go_simp
    have cw20 : W1.cell? ⟨w.heap.size, 1, none⟩ = some (.int .i64 n.wind.hi) := by rw [hW1.out]; go_simp
    have cw21 : W1.cell? ⟨w.heap.size, 2, none⟩ = some (.int .i64 n.cur.lo) := by rw [hW1.out]; go_simp
    have cw22 : W1.cell? ⟨w.heap.size, 3, none⟩ = some (.int .i64 n.cur.hi) := by rw [hW1.out]; go_simp
    have cw23 : W1.cell? ⟨w.heap.size, 4, none⟩ = some (.slice r.gA n.grips.length r.gc) := by rw [hW1.out]; go_simp
    have cw24 : W1.cell? ⟨w.heap.size, 5, none⟩ = some (.slice r.aA n.ancs.length r.ac) := by rw [hW1.out]; go_simp
    have cw25 : W1.cell? ⟨w.heap.size, 6, none⟩ = some (.slice r.wA n.wals.length r.wc) := by rw [hW1.out]; go_simp
    go_region_held3 (fun W => W.cell? ⟨w.heap.size, 0, none⟩ = some (.int .i64 n.wind.lo) ∧ W.cell? ⟨w.heap.size, 1, none⟩ = some (.int .i64 n.wind.hi) ∧ W.cell? ⟨w.heap.size, 2, none⟩ = some (.int .i64 n.cur.lo) ∧ W.cell? ⟨w.heap.size, 3, none⟩ = some (.int .i64 n.cur.hi) ∧
        W.cell? ⟨w.heap.size, 4, none⟩ = some (.slice r.gA n.grips.length r.gc) ∧ W.cell? ⟨w.heap.size, 5, none⟩ = some (.slice r.aA n.ancs.length r.ac) ∧ W.cell? ⟨w.heap.size, 6, none⟩ = some (.slice r.wA n.wals.length r.wc))
      (refine ⟨?_, ?_, ?_, ?_, ?_, ?_, ?_⟩ <;> go_simp)
      (first
        | (go_at_call 90; refine (isWall_c r n wall B _ H.out.up).mono ?_; rw [H1.out]; rintro e w1 ⟨rfl, δ, rfl⟩)
        | (go_at_call 86; refine (insideF_c H2.out (by go_simp)).mono ?_; rintro e w1 ⟨rfl, δ1, rfl⟩)
        | (go_at_call 73; refine (open_c r n _ B _ H.out.up).mono ?_; rw [HV.out]; rintro e w1 ⟨rfl, δ2, rfl⟩))
    go_wp2_with (fail)
    go_ret2
    exact ⟨ret2 (int_eq (by rw [HF.out]; rfl)) rfl, lat_ex⟩
  · have HE := Lib.hid (show askE (valid n) false = 1 by rw [HV.out]; rfl)
    go_enter Tryd.func40, Tryd.ntmps40
    go_wp2_with (fail)
    refine wp_name fun W1 hW1 => ?_
    have iw26 : Le B W1 := by rw [hW1.out]; infer_instance
    have iw27 : Grew B w W1 := by rw [hW1.out]; infer_instance
    have iw28 : Le w.heap.size W1 := by rw [hW1.out]; infer_instance
    have iw29 : Grew w.heap.size w W1 := by rw [hW1.out]; infer_instance
    have iw30 : Lt (w.heap.size) W1 := by rw [hW1.out]; infer_instance
    have cw31 : W1.cell? ⟨w.heap.size, 0, none⟩ = some (.int .i64 n.wind.lo) := by rw [hW1.out]; go_simp
    have cw32 : W1.cell? ⟨w.heap.size, 1, none⟩ = some (.int .i64 n.wind.hi) := by rw [hW1.out]; go_simp
    have cw33 : W1.cell? ⟨w.heap.size, 2, none⟩ = some (.int .i64 n.cur.lo) := by rw [hW1.out]; go_simp
    have cw34 : W1.cell? ⟨w.heap.size, 3, none⟩ = some (.int .i64 n.cur.hi) := by rw [hW1.out]; go_simp
    have cw35 : W1.cell? ⟨w.heap.size, 4, none⟩ = some (.slice r.gA n.grips.length r.gc) := by rw [hW1.out]; go_simp
    have cw36 : W1.cell? ⟨w.heap.size, 5, none⟩ = some (.slice r.aA n.ancs.length r.ac) := by rw [hW1.out]; go_simp
    have cw37 : W1.cell? ⟨w.heap.size, 6, none⟩ = some (.slice r.wA n.wals.length r.wc) := by rw [hW1.out]; go_simp
    refine wp_region_lat (by kernel_rfl) (by kernel_rfl) ?_
    repeat (go_big_quiet_step ((first | (go_at_call 90; exact Calls.lat_of (isWall_is H1.out H.out.up)) | (go_at_call 73; exact Calls.lat_of (open_is HE.out H.out.up)))))
    refine wpQuiet_nil ?_
    rintro _ ⟨δq, rfl⟩
    go_wp2_with (fail)
    go_ret2
    exact ⟨ret2 (int_eq (by rw [HF.out]; rfl)) rfl, lat_ex⟩
  · have HE := Lib.hid (show askE (valid n) false = 1 by rw [HV.out]; rfl)
    go_enter Tryd.func40, Tryd.ntmps40
    go_wp2_with (fail)
    refine wp_name fun W1 hW1 => ?_
    have iw38 : Le B W1 := by rw [hW1.out]; infer_instance
    have iw39 : Grew B w W1 := by rw [hW1.out]; infer_instance
    have iw40 : Le w.heap.size W1 := by rw [hW1.out]; infer_instance
    have iw41 : Grew w.heap.size w W1 := by rw [hW1.out]; infer_instance
    have iw42 : Lt (w.heap.size) W1 := by rw [hW1.out]; infer_instance
    have cw43 : W1.cell? ⟨w.heap.size, 0, none⟩ = some (.int .i64 n.wind.lo) := by rw [hW1.out]; go_simp
    have cw44 : W1.cell? ⟨w.heap.size, 1, none⟩ = some (.int .i64 n.wind.hi) := by rw [hW1.out]; go_simp
    have cw45 : W1.cell? ⟨w.heap.size, 2, none⟩ = some (.int .i64 n.cur.lo) := by rw [hW1.out]; go_simp
    have cw46 : W1.cell? ⟨w.heap.size, 3, none⟩ = some (.int .i64 n.cur.hi) := by rw [hW1.out]; go_simp
    have cw47 : W1.cell? ⟨w.heap.size, 4, none⟩ = some (.slice r.gA n.grips.length r.gc) := by rw [hW1.out]; go_simp
    have cw48 : W1.cell? ⟨w.heap.size, 5, none⟩ = some (.slice r.aA n.ancs.length r.ac) := by rw [hW1.out]; go_simp
    have cw49 : W1.cell? ⟨w.heap.size, 6, none⟩ = some (.slice r.wA n.wals.length r.wc) := by rw [hW1.out]; go_simp
    refine wp_region_lat (by kernel_rfl) (by kernel_rfl) ?_
    repeat (go_big_quiet_step ((first | (go_at_call 90; exact Calls.lat_of (isWall_is H1.out H.out.up)) | (go_at_call 73; exact Calls.lat_of (open_is HE.out H.out.up)))))
    refine wpQuiet_nil ?_
    rintro _ ⟨δq, rfl⟩
    go_wp2_with (fail)
    go_ret2
    exact ⟨ret2 (int_eq (by rw [HF.out]; rfl)) rfl, lat_ex⟩
  · go_enter Tryd.func40, Tryd.ntmps40
    go_wp2_with (fail)
    refine wp_name fun W1 hW1 => ?_
    have iw50 : Le B W1 := by rw [hW1.out]; infer_instance
    have iw51 : Grew B w W1 := by rw [hW1.out]; infer_instance
    have iw52 : Le w.heap.size W1 := by rw [hW1.out]; infer_instance
    have iw53 : Grew w.heap.size w W1 := by rw [hW1.out]; infer_instance
    have iw54 : Lt (w.heap.size) W1 := by rw [hW1.out]; infer_instance
    have cw55 : W1.cell? ⟨w.heap.size, 0, none⟩ = some (.int .i64 n.wind.lo) := by rw [hW1.out]; go_simp
    have cw56 : W1.cell? ⟨w.heap.size, 1, none⟩ = some (.int .i64 n.wind.hi) := by rw [hW1.out]; go_simp
    have cw57 : W1.cell? ⟨w.heap.size, 2, none⟩ = some (.int .i64 n.cur.lo) := by rw [hW1.out]; go_simp
    have cw58 : W1.cell? ⟨w.heap.size, 3, none⟩ = some (.int .i64 n.cur.hi) := by rw [hW1.out]; go_simp
    have cw59 : W1.cell? ⟨w.heap.size, 4, none⟩ = some (.slice r.gA n.grips.length r.gc) := by rw [hW1.out]; go_simp
    have cw60 : W1.cell? ⟨w.heap.size, 5, none⟩ = some (.slice r.aA n.ancs.length r.ac) := by rw [hW1.out]; go_simp
    have cw61 : W1.cell? ⟨w.heap.size, 6, none⟩ = some (.slice r.wA n.wals.length r.wc) := by rw [hW1.out]; go_simp
    go_region_held3 (fun W => W.cell? ⟨w.heap.size, 0, none⟩ = some (.int .i64 n.wind.lo) ∧ W.cell? ⟨w.heap.size, 1, none⟩ = some (.int .i64 n.wind.hi) ∧ W.cell? ⟨w.heap.size, 2, none⟩ = some (.int .i64 n.cur.lo) ∧ W.cell? ⟨w.heap.size, 3, none⟩ = some (.int .i64 n.cur.hi) ∧
        W.cell? ⟨w.heap.size, 4, none⟩ = some (.slice r.gA n.grips.length r.gc) ∧ W.cell? ⟨w.heap.size, 5, none⟩ = some (.slice r.aA n.ancs.length r.ac) ∧ W.cell? ⟨w.heap.size, 6, none⟩ = some (.slice r.wA n.wals.length r.wc))
      (refine ⟨?_, ?_, ?_, ?_, ?_, ?_, ?_⟩ <;> go_simp)
      (first
        | (go_at_call 90; refine (isWall_c r n wall B _ H.out.up).mono ?_; rw [H1.out]; rintro e w1 ⟨rfl, δ, rfl⟩)
        | (go_at_call 86; refine (insideF_c H2.out (by go_simp)).mono ?_; rintro e w1 ⟨rfl, δ1, rfl⟩)
        | (go_at_call 73; refine (open_c r n _ B _ H.out.up).mono ?_; rw [HV.out]; rintro e w1 ⟨rfl, δ2, rfl⟩))
    go_wp2_with (fail)
    go_ret2
    exact ⟨ret2 (int_eq (by rw [HF.out]; rfl)) rfl, lat_ex⟩
  · go_enter Tryd.func40, Tryd.ntmps40
    go_wp2_with (fail)
    refine wp_name fun W1 hW1 => ?_
    have iw62 : Le B W1 := by rw [hW1.out]; infer_instance
    have iw63 : Grew B w W1 := by rw [hW1.out]; infer_instance
    have iw64 : Le w.heap.size W1 := by rw [hW1.out]; infer_instance
    have iw65 : Grew w.heap.size w W1 := by rw [hW1.out]; infer_instance
    have iw66 : Lt (w.heap.size) W1 := by rw [hW1.out]; infer_instance
    have cw67 : W1.cell? ⟨w.heap.size, 0, none⟩ = some (.int .i64 n.wind.lo) := by rw [hW1.out]; go_simp
    have cw68 : W1.cell? ⟨w.heap.size, 1, none⟩ = some (.int .i64 n.wind.hi) := by rw [hW1.out]; go_simp
    have cw69 : W1.cell? ⟨w.heap.size, 2, none⟩ = some (.int .i64 n.cur.lo) := by rw [hW1.out]; go_simp
    have cw70 : W1.cell? ⟨w.heap.size, 3, none⟩ = some (.int .i64 n.cur.hi) := by rw [hW1.out]; go_simp
    have cw71 : W1.cell? ⟨w.heap.size, 4, none⟩ = some (.slice r.gA n.grips.length r.gc) := by rw [hW1.out]; go_simp
    have cw72 : W1.cell? ⟨w.heap.size, 5, none⟩ = some (.slice r.aA n.ancs.length r.ac) := by rw [hW1.out]; go_simp
    have cw73 : W1.cell? ⟨w.heap.size, 6, none⟩ = some (.slice r.wA n.wals.length r.wc) := by rw [hW1.out]; go_simp
    go_region_held3 (fun W => W.cell? ⟨w.heap.size, 0, none⟩ = some (.int .i64 n.wind.lo) ∧ W.cell? ⟨w.heap.size, 1, none⟩ = some (.int .i64 n.wind.hi) ∧ W.cell? ⟨w.heap.size, 2, none⟩ = some (.int .i64 n.cur.lo) ∧ W.cell? ⟨w.heap.size, 3, none⟩ = some (.int .i64 n.cur.hi) ∧
        W.cell? ⟨w.heap.size, 4, none⟩ = some (.slice r.gA n.grips.length r.gc) ∧ W.cell? ⟨w.heap.size, 5, none⟩ = some (.slice r.aA n.ancs.length r.ac) ∧ W.cell? ⟨w.heap.size, 6, none⟩ = some (.slice r.wA n.wals.length r.wc))
      (refine ⟨?_, ?_, ?_, ?_, ?_, ?_, ?_⟩ <;> go_simp)
      (first
        | (go_at_call 90; refine (isWall_c r n wall B _ H.out.up).mono ?_; rw [H1.out]; rintro e w1 ⟨rfl, δ, rfl⟩)
        | (go_at_call 86; refine (insideF_c H2.out (by go_simp)).mono ?_; rintro e w1 ⟨rfl, δ1, rfl⟩)
        | (go_at_call 73; refine (open_c r n _ B _ H.out.up).mono ?_; rw [HV.out]; rintro e w1 ⟨rfl, δ2, rfl⟩))
    go_wp2_with (fail)
    go_ret2
    exact ⟨ret2 (int_eq (by rw [HF.out]; rfl)) rfl, lat_ex⟩
  · have HE := Lib.hid (show askE (valid n) false = 20 by rw [HV.out]; rfl)
    go_enter Tryd.func40, Tryd.ntmps40
    go_wp2_with (fail)
    refine wp_name fun W1 hW1 => ?_
    have iw74 : Le B W1 := by rw [hW1.out]; infer_instance
    have iw75 : Grew B w W1 := by rw [hW1.out]; infer_instance
    have iw76 : Le w.heap.size W1 := by rw [hW1.out]; infer_instance
    have iw77 : Grew w.heap.size w W1 := by rw [hW1.out]; infer_instance
    have iw78 : Lt (w.heap.size) W1 := by rw [hW1.out]; infer_instance
    have cw79 : W1.cell? ⟨w.heap.size, 0, none⟩ = some (.int .i64 n.wind.lo) := by rw [hW1.out]; go_simp
    have cw80 : W1.cell? ⟨w.heap.size, 1, none⟩ = some (.int .i64 n.wind.hi) := by rw [hW1.out]; go_simp
    have cw81 : W1.cell? ⟨w.heap.size, 2, none⟩ = some (.int .i64 n.cur.lo) := by rw [hW1.out]; go_simp
    have cw82 : W1.cell? ⟨w.heap.size, 3, none⟩ = some (.int .i64 n.cur.hi) := by rw [hW1.out]; go_simp
    have cw83 : W1.cell? ⟨w.heap.size, 4, none⟩ = some (.slice r.gA n.grips.length r.gc) := by rw [hW1.out]; go_simp
    have cw84 : W1.cell? ⟨w.heap.size, 5, none⟩ = some (.slice r.aA n.ancs.length r.ac) := by rw [hW1.out]; go_simp
    have cw85 : W1.cell? ⟨w.heap.size, 6, none⟩ = some (.slice r.wA n.wals.length r.wc) := by rw [hW1.out]; go_simp
    refine wp_region_lat (by kernel_rfl) (by kernel_rfl) ?_
    repeat (go_big_quiet_step ((first | (go_at_call 90; exact Calls.lat_of (isWall_is H1.out H.out.up)) | (go_at_call 73; exact Calls.lat_of (open_is HE.out H.out.up)))))
    refine wpQuiet_nil ?_
    rintro _ ⟨δq, rfl⟩
    go_wp2_with (fail)
    go_ret2
    exact ⟨ret2 (int_eq (by rw [HF.out]; rfl)) rfl, lat_ex⟩
  · have HE := Lib.hid (show askE (valid n) false = 20 by rw [HV.out]; rfl)
    go_enter Tryd.func40, Tryd.ntmps40
    go_wp2_with (fail)
    refine wp_name fun W1 hW1 => ?_
    have iw86 : Le B W1 := by rw [hW1.out]; infer_instance
    have iw87 : Grew B w W1 := by rw [hW1.out]; infer_instance
    have iw88 : Le w.heap.size W1 := by rw [hW1.out]; infer_instance
    have iw89 : Grew w.heap.size w W1 := by rw [hW1.out]; infer_instance
    have iw90 : Lt (w.heap.size) W1 := by rw [hW1.out]; infer_instance
    have cw91 : W1.cell? ⟨w.heap.size, 0, none⟩ = some (.int .i64 n.wind.lo) := by rw [hW1.out]; go_simp
    have cw92 : W1.cell? ⟨w.heap.size, 1, none⟩ = some (.int .i64 n.wind.hi) := by rw [hW1.out]; go_simp
    have cw93 : W1.cell? ⟨w.heap.size, 2, none⟩ = some (.int .i64 n.cur.lo) := by rw [hW1.out]; go_simp
    have cw94 : W1.cell? ⟨w.heap.size, 3, none⟩ = some (.int .i64 n.cur.hi) := by rw [hW1.out]; go_simp
    have cw95 : W1.cell? ⟨w.heap.size, 4, none⟩ = some (.slice r.gA n.grips.length r.gc) := by rw [hW1.out]; go_simp
    have cw96 : W1.cell? ⟨w.heap.size, 5, none⟩ = some (.slice r.aA n.ancs.length r.ac) := by rw [hW1.out]; go_simp
    have cw97 : W1.cell? ⟨w.heap.size, 6, none⟩ = some (.slice r.wA n.wals.length r.wc) := by rw [hW1.out]; go_simp
    refine wp_region_lat (by kernel_rfl) (by kernel_rfl) ?_
    repeat (go_big_quiet_step ((first | (go_at_call 90; exact Calls.lat_of (isWall_is H1.out H.out.up)) | (go_at_call 73; exact Calls.lat_of (open_is HE.out H.out.up)))))
    refine wpQuiet_nil ?_
    rintro _ ⟨δq, rfl⟩
    go_wp2_with (fail)
    go_ret2
    exact ⟨ret2 (int_eq (by rw [HF.out]; rfl)) rfl, lat_ex⟩

end Go.Proofs.YtgpcaaknpfopgaaDoor
