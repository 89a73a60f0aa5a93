/- Layer 2: the walks of Upright. -/
import Derived.Test.YtgpcaaknpfopgaaDoorAn28
import Derived.Outline
namespace Go.Proofs.YtgpcaaknpfopgaaDoor
open Go.RowKit
open An

namespace An
def upB (x : Wal) (c : Int) : Bool := inB (x.lean * c) x.stones x.corks
/-- In how many of k currents from lo on a wall is upright. -/
def upCnt (x : Wal) (lo : Int) : Nat → Nat
  | 0 => 0
  | k + 1 => upCnt x lo k + (if upB x (lo + k) = true then 1 else 0)
def upW (x : Wal) (lo hi : Int) : Int := if x.stones < x.corks ∨ x.corks < x.lean * lo then 2 else if x.lean * hi ≤ x.corks then 1 else 3
def upV (n : Net) (wall : Int) : Int := if valid n && inB 0 (n.wals.length - 1) wall then upW (nth n.wals wall.toNat) n.cur.lo n.cur.hi else 0
theorem upCnt_le (x : Wal) (lo : Int) (k : Nat) : upCnt x lo k ≤ k := by
  induction k with
  | zero => exact Nat.le_refl _
  | succ k ih => unfold upCnt; split <;> omega
theorem upCnt_zero (x : Wal) (lo : Int) (k : Nat) : upCnt x lo k = 0 ↔ ∀ j, j < k → upB x (lo + j) = false := by
  induction k with
  | zero => simp [upCnt]
  | succ k ih =>
    unfold upCnt
    constructor
    · intro h j hj
      have h1 : upCnt x lo k = 0 := by omega
      by_cases hjk : j = k
      · subst hjk
        rw [← Bool.not_eq_true]
        intro hb
        rw [if_pos hb] at h; omega
      · exact ih.1 h1 j (by omega)
    · intro h
      rw [ih.2 fun j hj => h j (by omega), h k (by omega)]; rfl
theorem upCnt_all (x : Wal) (lo : Int) (k : Nat) : upCnt x lo k = k ↔ ∀ j, j < k → upB x (lo + j) = true := by
  induction k with
  | zero => simp [upCnt]
  | succ k ih =>
    have hl := upCnt_le x lo k
    unfold upCnt
    constructor
    · intro h j hj
      by_cases hb : upB x (lo + k) = true
      · rw [if_pos hb] at h
        by_cases hjk : j = k
        · subst hjk; exact hb
        · exact ih.1 (by omega) j (by omega)
      · rw [if_neg hb] at h; omega
    · intro h
      rw [ih.2 fun j hj => h j (by omega), if_pos (h k (by omega))]
theorem up_same {x : Wal} (hx : okWal x = true) {lo hi : Int} {k : Nat} (h0 : 0 ≤ lo) (hk : 0 < k) (hh : hi + 1 = lo + k) : knownI (upCnt x lo k) k = upW x lo hi := by
  simp only [okWal, decide_eq_true_eq] at hx
  have mono : ∀ a b : Int, a ≤ b → x.lean * a ≤ x.lean * b := fun a b h => Int.mul_le_mul_of_nonneg_left h (by omega)
  have hz : (upCnt x lo k : Int) = 0 ↔ x.stones < x.corks ∨ x.corks < x.lean * lo := by
    rw [show ((upCnt x lo k : Nat) : Int) = 0 ↔ upCnt x lo k = 0 by omega, upCnt_zero]
    constructor
    · intro h
      have := h 0 hk
      simp only [upB, inB_not, Int.ofNat_zero, Int.add_zero, Int.natCast_zero] at this
      omega
    · intro h j _
      have := mono lo (lo + j) (by omega)
      simp only [upB, inB_not]
      omega
  have ha : (upCnt x lo k : Int) = k ↔ ¬ x.stones < x.corks ∧ x.lean * hi ≤ x.corks := by
    rw [show ((upCnt x lo k : Nat) : Int) = k ↔ upCnt x lo k = k by omega, upCnt_all]
    constructor
    · intro h
      have := h (k - 1) (by omega)
      simp only [upB, inB_iff] at this
      rw [show lo + ((k - 1 : Nat) : Int) = hi by omega] at this
      omega
    · intro h j hj
      have := mono (lo + j) hi (by omega)
      simp only [upB, inB_iff]
      omega
  unfold knownI upW
  by_cases h1 : x.stones < x.corks ∨ x.corks < x.lean * lo
  · rw [if_pos (hz.2 h1), if_pos h1]
  · rw [if_neg (fun h => h1 (hz.1 h)), if_neg h1]
    by_cases h2 : x.lean * hi ≤ x.corks
    · rw [if_pos (ha.2 ⟨by omega, h2⟩), if_pos h2]
    · rw [if_neg (fun h => h2 (ha.1 h).2), if_neg h2]
end An

theorem rIsUpright_c (x : Wal) (c : Int) (w : World) (hx : okWal x = true) (hc : inB 0 20 c = true) :
    Calls Tryd.prog 95 #[.agg #[.int .i64 x.sail, .int .i64 x.drag, .int .i64 x.lean, .int .i64 x.corks, .int .i64 x.stones], .int .i64 c] w fun e w' => e = .returned (.bool (upB x c)) ∧ ∃ δ, w' = lat w δ := by
  have hb : 0 ≤ x.lean * c ∧ x.lean * c ≤ 180 := by
    simp only [okWal, decide_eq_true_eq] at hx
    have hc' := inB_iff.1 hc
    exact mul_bd (A := 9) (B := 20) (by omega) (by omega) hc'.1 hc'.2
  go_enter Tryd.func95, Tryd.ntmps95
  go_wp2_with (go_at_call 72; refine (within2_c _ _ _ _).mono ?_; rintro e w1 ⟨rfl, rfl⟩)
  go_ret
  exact ⟨rfl, lat_ex⟩
theorem rIsUpright_is {x : Wal} {c : Int} {b : Bool} (hb : upB x c = b) (w : World) (hx : okWal x = true) (hc : inB 0 20 c = true) :
    Calls Tryd.prog 95 #[.agg #[.int .i64 x.sail, .int .i64 x.drag, .int .i64 x.lean, .int .i64 x.corks, .int .i64 x.stones], .int .i64 c] w fun e w' => e = .returned (.bool b) ∧ ∃ δ, w' = lat w δ := by
  subst hb; exact rIsUpright_c x c w hx hc

set_option maxRecDepth 100000 in
set_option maxHeartbeats 4000000 in
theorem pUpright_c (r : NetR) (n : Net) (wall : Int) (B : Nat) (w : World) [hB : Le B w] (h : NetIs B w r n) :
    Calls Tryd.prog 42 #[netV r n, .int .i64 wall] w fun e w' => e = .returned (.tuple #[.int .i64 (upV n wall), .int .i64 (askE (valid n) (inB 0 (n.wals.length - 1) wall))]) ∧ ∃ δ, w' = lat w δ := by
  have H := Lib.hid h
  clear h
  by_cases hv : valid n = true
  all_goals try rw [Bool.not_eq_true] at hv
  all_goals
    by_cases h1 : inB 0 (n.wals.length - 1) wall = true
    all_goals try rw [Bool.not_eq_true] at h1
  all_goals
    have HV := Lib.hid hv
    have H1 := Lib.hid h1
    have HF := Lib.hid (show upV n wall = if valid n && inB 0 (n.wals.length - 1) wall then upW (nth n.wals wall.toNat) n.cur.lo n.cur.hi else 0 from rfl)
    rw [hv, h1] at HF ⊢
  · have h1' := inB_iff.1 H1.out
    obtain ⟨k, rfl⟩ := Int.eq_ofNat_of_zero_le h1'.1
    have hk : k < n.wals.length := by omega
    have hx := okWal_nth HV.out hk
    have hcur := (valid_iff.1 hv).2.1
    simp only [okSp, okWal, decide_eq_true_eq] at hx hcur
    have m1 := mul_bd (a := (nth n.wals k).lean) (A := 9) (b := n.cur.lo) (B := 20) (by omega) (by omega) (by omega) (by omega)
    have m2 := mul_bd (a := (nth n.wals k).lean) (A := 9) (b := n.cur.hi) (B := 20) (by omega) (by omega) (by omega) (by omega)
    clear hv h1 h1' hx hcur
    obtain ⟨gA, gc, aA, ac, wA, wc⟩ := r
    obtain ⟨b, o, hA, hb, d0, d1, d2, d3, d4⟩ := H.out.2.2.wal hk
    have hA' : wA = some ⟨b, o, none⟩ := hA
    subst hA'
    clear hA
    rw [show netV ⟨gA, gc, aA, ac, some ⟨b, o, none⟩, wc⟩ n = Value.agg #[.int .i64 n.wind.lo, .int .i64 n.wind.hi, .int .i64 n.cur.lo, .int .i64 n.cur.hi, .slice gA n.grips.length gc, .slice aA n.ancs.length ac, .slice (some ⟨b, o, none⟩) n.wals.length wc] from rfl]
    have ib : Lt b w := ⟨Nat.lt_of_lt_of_le hb hB.out⟩
    have hk0 : ¬ (k : Int) < 0 := by omega
    have hki : (k : Int) < (n.wals.length : Int) := by omega
    go_enter Tryd.func42, Tryd.ntmps42
    go_wp2_with (fail)
    refine wp_region_lat (by kernel_rfl) (by kernel_rfl) ?_
    repeat (go_big_quiet_step ((first | (go_at_call 90; exact Calls.lat_of (isWall_is (r := ⟨gA, gc, aA, ac, some ⟨b, o, none⟩, wc⟩) H1.out H.out.up)) | (go_at_call 73; exact Calls.lat_of (open_is (r := ⟨gA, gc, aA, ac, some ⟨b, o, none⟩, wc⟩) (by rw [HV.out]) H.out.up)))))
    refine wpQuiet_nil ?_
    rintro _ ⟨δq, rfl⟩
    go_wp2_with (fail)
    all_goals
      go_ret2
      refine ⟨ret2 (int_eq ?_) rfl, lat_ex⟩
      rw [HF.out]
      show _ = upW (nth n.wals k) n.cur.lo n.cur.hi
      go_light
      grind [upW]
  all_goals
    clear hv h1
    go_enter Tryd.func42, Tryd.ntmps42
    go_wp2_with (fail)
    refine wp_region_lat (by kernel_rfl) (by kernel_rfl) ?_
    repeat (go_big_quiet_step ((first | (go_at_call 90; exact Calls.lat_of (isWall_is H1.out H.out.up)) | (go_at_call 73; exact Calls.lat_of (open_is (by rw [HV.out]) H.out.up)))))
    refine wpQuiet_nil ?_
    rintro _ ⟨δq, rfl⟩
    go_wp2_with (fail)
    go_ret2
    exact ⟨ret2 (int_eq (by rw [HF.out]; rfl)) rfl, lat_ex⟩

set_option maxRecDepth 100000 in
set_option maxHeartbeats 4000000 in
theorem rUpright_c (r : NetR) (n : Net) (wall : Int) (B : Nat) (w : World) [hB : Le B w] (h : NetIs B w r n) :
    Calls Tryd.prog 43 #[netV r n, .int .i64 wall] w fun e w' => e = .returned (.tuple #[.int .i64 (upV n wall), .int .i64 (askE (valid n) (inB 0 (n.wals.length - 1) wall))]) ∧ ∃ δ, w' = lat w δ := by
  have H := Lib.hid h
  clear h
  by_cases hv : valid n = true
  all_goals try rw [Bool.not_eq_true] at hv
  all_goals
    by_cases h1 : inB 0 (n.wals.length - 1) wall = true
    all_goals try rw [Bool.not_eq_true] at h1
  all_goals
    have HV := Lib.hid hv
    have H1 := Lib.hid h1
    have HF := Lib.hid (show upV n wall = if valid n && inB 0 (n.wals.length - 1) wall then upW (nth n.wals wall.toNat) n.cur.lo n.cur.hi else 0 from rfl)
    rw [hv, h1] at HF ⊢
  · have h1' := inB_iff.1 H1.out
    obtain ⟨k, rfl⟩ := Int.eq_ofNat_of_zero_le h1'.1
    have hk : k < n.wals.length := by omega
    have HX := Lib.hid (okWal_nth HV.out hk)
    have hcur := (valid_iff.1 hv).2.1
    simp only [okSp, decide_eq_true_eq] at hcur
    obtain ⟨m, hm⟩ : ∃ m : Nat, m = (n.cur.hi + 1 - n.cur.lo).toNat := ⟨_, rfl⟩
    have hm' : n.cur.hi + 1 = n.cur.lo + m := by omega
    have HM := Lib.hid hm'
    have hm0 : 0 < m := by omega
    have hm21 : m ≤ 21 := by omega
    have HU := Lib.hid (up_same HX.out (by omega) hm0 hm')
    clear hv h1 h1' hm hm'
    obtain ⟨gA, gc, aA, ac, wA, wc⟩ := r
    obtain ⟨b, o, hA, hb, d0, d1, d2, d3, d4⟩ := H.out.2.2.wal hk
    have hA' : wA = some ⟨b, o, none⟩ := hA
    subst hA'
    clear hA
    rw [show netV ⟨gA, gc, aA, ac, some ⟨b, o, none⟩, wc⟩ n = Value.agg #[.int .i64 n.wind.lo, .int .i64 n.wind.hi, .int .i64 n.cur.lo, .int .i64 n.cur.hi, .slice gA n.grips.length gc, .slice aA n.ancs.length ac, .slice (some ⟨b, o, none⟩) n.wals.length wc] from rfl]
    have ib : Lt b w := ⟨Nat.lt_of_lt_of_le hb hB.out⟩
    have hk0 : ¬ (k : Int) < 0 := by omega
    have hki : (k : Int) < (n.wals.length : Int) := by omega
    go_enter Tryd.func43, Tryd.ntmps43
    go_wp2_with (fail)
    refine wp_region_lat (by kernel_rfl) (by kernel_rfl) ?_
    repeat (go_big_quiet_step ((first | (go_at_call 26; exact Calls.lat_of (rIsWall_is (r := ⟨gA, gc, aA, ac, some ⟨b, o, none⟩, wc⟩) H1.out H.out.up)) | (go_at_call 92; exact Calls.lat_of (rAsk_is (r := ⟨gA, gc, aA, ac, some ⟨b, o, none⟩, wc⟩) (by rw [HV.out]) H.out.up)))))
    refine wpQuiet_nil ?_
    rintro _ ⟨δq, rfl⟩
    go_upto_region 5 with fail
    refine wp_name fun W1 hW1 => ?_
    have iw1 : Le B W1 := by rw [hW1.out]; infer_instance
    have iw2 : Grew B w W1 := by rw [hW1.out]; infer_instance
    have iw3 : Le w.heap.size W1 := by rw [hW1.out]; infer_instance
    have iw4 : Grew w.heap.size w W1 := by rw [hW1.out]; infer_instance
    have iw5 : Lt (w.heap.size) W1 := by rw [hW1.out]; infer_instance
    have iw6 : Lt (b) W1 := by rw [hW1.out]; infer_instance
    have cw7 : W1.cell? ⟨w.heap.size, 0, none⟩ = some (.int .i64 n.wind.lo) := by rw [hW1.out]; go_simp
    have cw8 : W1.cell? ⟨w.heap.size, 1, none⟩ = some (.int .i64 n.wind.hi) := by rw [hW1.out]; go_simp
    have cw9 : W1.cell? ⟨w.heap.size, 2, none⟩ = some (.int .i64 n.cur.lo) := by rw [hW1.out]; go_simp
    have cw10 : W1.cell? ⟨w.heap.size, 3, none⟩ = some (.int .i64 n.cur.hi) := by rw [hW1.out]; go_simp
    have cw11 : W1.cell? ⟨w.heap.size, 4, none⟩ = some (.slice gA n.grips.length gc) := by rw [hW1.out]; go_simp
    have cw12 : W1.cell? ⟨w.heap.size, 5, none⟩ = some (.slice aA n.ancs.length ac) := by rw [hW1.out]; go_simp
    have cw13 : W1.cell? ⟨w.heap.size, 6, none⟩ = some (.slice (some ⟨b, o, none⟩) n.wals.length wc) := by rw [hW1.out]; go_simp
    have e0 : ∀ i, W1.cell? ⟨b, i, none⟩ = w.cell? ⟨b, i, none⟩ := fun i => cells_same iw2.out _ _ hb
    rw [← e0] at d0 d1 d2 d3 d4
    clear e0
    go_wp2_with (fail)
    go_loopg [7, 8, 9] m (fun g so al c wr => ∃ (j : Nat) (δ : World), j ≤ m ∧ g = m - j ∧ so = .int .i64 (upCnt (nth n.wals k) n.cur.lo j) ∧ al = .int .i64 j ∧ c = .int .i64 (n.cur.lo + j) ∧ wr = lat W1 δ)
    case atStart => exact ⟨0, W1, Nat.zero_le _, rfl, rfl, rfl, by simp, (lat_refl W1).symm⟩
    case round =>
      obtain ⟨j, δ, hj, rfl, rfl, rfl, rfl, rfl⟩ := hrel
      have hcl := upCnt_le (nth n.wals k) n.cur.lo j
      by_cases hlt : j < m
      · have hle : n.cur.lo + (j : Int) ≤ n.cur.hi := by have := HM.out; omega
        have HC := Lib.hid (show inB 0 20 (n.cur.lo + (j : Int)) = true from inB_iff.2 (by omega))
        have hs : upCnt (nth n.wals k) n.cur.lo (j + 1) = upCnt (nth n.wals k) n.cur.lo j + (if upB (nth n.wals k) (n.cur.lo + j) = true then 1 else 0) := rfl
        by_cases hu : upB (nth n.wals k) (n.cur.lo + j) = true
        all_goals try rw [Bool.not_eq_true] at hu
        all_goals
          rw [hu] at hs
          have HS := Lib.hid hs
          have HU' := Lib.hid hu
          clear hs hu
          go_wp2_with (go_at_call 95; refine (rIsUpright_is HU'.out _ HX.out HC.out).mono ?_; rintro e w1 ⟨rfl, δ1, rfl⟩)
          go_roundg (m - (j + 1))
          case measure => omega
          case rel => exact ⟨j + 1, _, by omega, rfl, int_eq (by rw [HS.out]; simp), by go_num, int_eq (by omega), lat_def⟩
      · obtain rfl : j = m := by omega
        have hgt : ¬ n.cur.lo + (j : Int) ≤ n.cur.hi := by have := HM.out; omega
        go_wp2_with (go_at_call 96; refine (known_c _ _ _).mono ?_; rintro e w1 ⟨rfl, rfl⟩)
        go_ret2
        exact ⟨ret2 (int_eq (by rw [HF.out, HU.out]; rfl)) rfl, lat_ex⟩
  all_goals
    clear hv h1
    go_enter Tryd.func43, Tryd.ntmps43
    go_wp2_with (fail)
    refine wp_region_lat (by kernel_rfl) (by kernel_rfl) ?_
    repeat (go_big_quiet_step ((first | (go_at_call 26; exact Calls.lat_of (rIsWall_is H1.out H.out.up)) | (go_at_call 92; exact Calls.lat_of (rAsk_is (by rw [HV.out]) H.out.up)))))
    refine wpQuiet_nil ?_
    rintro _ ⟨δq, rfl⟩
    go_wp2_with (fail)
    go_ret2
    exact ⟨ret2 (int_eq (by rw [HF.out]; rfl)) rfl, lat_ex⟩

end Go.Proofs.YtgpcaaknpfopgaaDoor
