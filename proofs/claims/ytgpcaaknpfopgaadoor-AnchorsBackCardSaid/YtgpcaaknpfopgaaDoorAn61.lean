/- Layer 2: the walk of Turned. -/
import Derived.Test.YtgpcaaknpfopgaaDoorAn58
namespace Go.Proofs.YtgpcaaknpfopgaaDoor
open Go.RowKit
open An

/-- The cells of a net. -/
abbrev netD (r : NetR) (n : Net) : Array Value := #[.int .i64 n.wind.lo, .int .i64 n.wind.hi, .int .i64 n.cur.lo, .int .i64 n.cur.hi, .slice r.gA n.grips.length r.gc, .slice r.aA n.ancs.length r.ac, .slice r.wA n.wals.length r.wc]
abbrev netZ : Array Value := #[.int .i64 0, .int .i64 0, .int .i64 0, .int .i64 0, .slice none 0 0, .slice none 0 0, .slice none 0 0]
/-- The middle of Turned's walk: the copy turned up to i and j. -/
structure TurnI (n : Net) (w : World) (r r' : NetR) (base bo i j : Nat) (wr : World) : Prop where
  grew : Grew w.heap.size w wr
  le : Le w.heap.size wr
  xn : Box wr w.heap.size 28 (netD r n)
  xz : Box wr (w.heap.size + 1) 28 netZ
  xo : Box wr bo 28 (netD r' n)
  own : NetOwn base wr r' (turnTo n i j)
  hb : base = w.heap.size + 2
  ha : ∀ g, (Value.slice r'.aA n.ancs.length r'.ac).ownBlock = some g → g < bo
  hw : ∀ g, (Value.slice r'.wA n.wals.length r'.wc).ownBlock = some g → g < bo
section
variable {n : Net} {w : World} {r : NetR} {base bo i j : Nat} {wr : World} {gA aA wA : Option Addr} {gc ac wc : Nat}
theorem TurnI.at1 (h : TurnI n w r ⟨gA, gc, aA, ac, wA, wc⟩ base bo i j wr) (hi : i < n.ancs.length) : ∃ g, aA = some ⟨g, 0, none⟩ ∧ w.heap.size + 2 ≤ g ∧ g < bo ∧ Lt g wr ∧ (∀ k, wr.frozen? ⟨g, k, none⟩ = false) ∧ ∀ k, k < 2 → ∃ v, wr.cell? ⟨g, i * 2 + k, none⟩ = some v := by
  have o := h.own.2.1
  obtain ⟨g, hA, hb, hl, hc, hf⟩ := own_at o (show 0 < (turnTo n i j).ancs.length by rw [show (turnTo n i j).ancs.length = n.ancs.length from revTo_len _ _]; omega)
  have hA : aA = _ := hA
  refine ⟨g, hA, by rw [← h.hb]; exact hb, h.ha g (by rw [show aA = some ⟨g, 0, none⟩ from hA]; rfl), hl, hf, fun k hk => ⟨_, hc _ _ (List.getElem?_eq_getElem (by rw [len_enc encAnc 2 (fun _ => rfl), show (turnTo n i j).ancs.length = n.ancs.length from revTo_len _ _]; omega))⟩⟩
theorem TurnI.at2 (h : TurnI n w r ⟨gA, gc, aA, ac, wA, wc⟩ base bo i j wr) (hj : j < n.wals.length) : ∃ g, wA = some ⟨g, 0, none⟩ ∧ w.heap.size + 2 ≤ g ∧ g < bo ∧ Lt g wr ∧ (∀ k, wr.frozen? ⟨g, k, none⟩ = false) ∧ ∀ k, k < 5 → ∃ v, wr.cell? ⟨g, j * 5 + k, none⟩ = some v := by
  have o := h.own.2.2
  obtain ⟨g, hA, hb, hl, hc, hf⟩ := own_at o (show 0 < (turnTo n i j).wals.length by rw [show (turnTo n i j).wals.length = n.wals.length from revTo_len _ _]; omega)
  have hA : wA = _ := hA
  refine ⟨g, hA, by rw [← h.hb]; exact hb, h.hw g (by rw [show wA = some ⟨g, 0, none⟩ from hA]; rfl), hl, hf, fun k hk => ⟨_, hc _ _ (List.getElem?_eq_getElem (by rw [len_enc encWal 5 (fun _ => rfl), show (turnTo n i j).wals.length = n.wals.length from revTo_len _ _]; omega))⟩⟩
theorem TurnI.lat {r' : NetR} (h : TurnI n w r r' base bo i j wr) (δ : World) : TurnI n w r r' base bo i j (lat wr δ) := by
  have := h.grew
  have := h.le
  exact ⟨inferInstance, inferInstance, h.xn.lat δ, h.xz.lat δ, h.xo.lat δ, h.own.lat δ, h.hb, h.ha, h.hw⟩
theorem TurnI.drew {r' : NetR} (h : TurnI n w r r' base bo i j wr) : TurnI n w r r' base bo i j wr.drew := by
  have := h.grew
  have := h.le
  exact ⟨inferInstance, inferInstance, h.xn, h.xz, h.xo, h.own, h.hb, h.ha, h.hw⟩
theorem TurnI.set1 {g : Nat} (h : TurnI n w r ⟨gA, gc, some ⟨g, 0, none⟩, ac, wA, wc⟩ base bo i j wr) (hi : i < n.ancs.length) (hg : w.heap.size + 2 ≤ g) (hgo : g < bo) :
    TurnI n w r ⟨gA, gc, some ⟨g, 0, none⟩, ac, wA, wc⟩ base bo (i + 1) j ((wr.setCell ⟨g, i * 2, none⟩ (.int .i64 (nth n.ancs (n.ancs.length - 1 - i)).wt)).setCell ⟨g, i * 2 + 1, none⟩ (.int .i64 (nth n.ancs (n.ancs.length - 1 - i)).bt)) := by
  have i1 := h.grew
  have i2 := h.le
  have i3 : LeN w.heap.size g := ⟨by omega⟩
  refine ⟨inferInstance, inferInstance, (h.xn.far (p := ⟨g, _, none⟩) (by show w.heap.size ≠ g; omega) _).far (p := ⟨g, _, none⟩) (by show w.heap.size ≠ g; omega) _, (h.xz.far (p := ⟨g, _, none⟩) (by show w.heap.size + 1 ≠ g; omega) _).far (p := ⟨g, _, none⟩) (by show w.heap.size + 1 ≠ g; omega) _, (h.xo.far (p := ⟨g, _, none⟩) (by show bo ≠ g; omega) _).far (p := ⟨g, _, none⟩) (by show bo ≠ g; omega) _, ?_, h.hb, h.ha, h.hw⟩
  have := h.own.setA (i := i) (by rw [show (turnTo n i j).ancs.length = n.ancs.length from revTo_len _ _]; exact hi) (nth n.ancs (n.ancs.length - 1 - i))
  rw [show (turnTo n i j).ancs.set i (nth n.ancs (n.ancs.length - 1 - i)) = revTo n.ancs (i + 1) from revTo_succ _ hi] at this
  exact this
theorem TurnI.set2 {g : Nat} (h : TurnI n w r ⟨gA, gc, aA, ac, some ⟨g, 0, none⟩, wc⟩ base bo i j wr) (hj : j < n.wals.length) (hg : w.heap.size + 2 ≤ g) (hgo : g < bo) :
    TurnI n w r ⟨gA, gc, aA, ac, some ⟨g, 0, none⟩, wc⟩ base bo i (j + 1) (((((wr.setCell ⟨g, j * 5, none⟩ (.int .i64 (nth n.wals (n.wals.length - 1 - j)).sail)).setCell ⟨g, j * 5 + 1, none⟩ (.int .i64 (nth n.wals (n.wals.length - 1 - j)).drag)).setCell ⟨g, j * 5 + 2, none⟩ (.int .i64 (nth n.wals (n.wals.length - 1 - j)).lean)).setCell ⟨g, j * 5 + 3, none⟩ (.int .i64 (nth n.wals (n.wals.length - 1 - j)).corks)).setCell ⟨g, j * 5 + 4, none⟩ (.int .i64 (nth n.wals (n.wals.length - 1 - j)).stones)) := by
  have i1 := h.grew
  have i2 := h.le
  have i3 : LeN w.heap.size g := ⟨by omega⟩
  have e1 : w.heap.size ≠ g := by omega
  have e2 : w.heap.size + 1 ≠ g := by omega
  have e3 : bo ≠ g := by omega
  refine ⟨inferInstance, inferInstance, ?_, ?_, ?_, ?_, h.hb, h.ha, h.hw⟩
  · iterate 5 (refine Box.far (p := ⟨g, _, none⟩) ?_ e1 _)
    exact h.xn
  · iterate 5 (refine Box.far (p := ⟨g, _, none⟩) ?_ e2 _)
    exact h.xz
  · iterate 5 (refine Box.far (p := ⟨g, _, none⟩) ?_ e3 _)
    exact h.xo
  · have := h.own.setW (i := j) (by rw [show (turnTo n i j).wals.length = n.wals.length from revTo_len _ _]; exact hj) (nth n.wals (n.wals.length - 1 - j))
    rw [show (turnTo n i j).wals.set j (nth n.wals (n.wals.length - 1 - j)) = revTo n.wals (j + 1) from revTo_succ _ hj] at this
    exact this
end

set_option maxRecDepth 100000 in
set_option maxHeartbeats 8000000 in
theorem turned_c (r : NetR) (n : Net) (h3 : n.grips.length ≤ 1000) (h6 : n.ancs.length ≤ 6) (hw : n.wals.length ≤ 6) (B : Nat) (w : World) [hB : Le B w] (h : NetIs B w r n) :
    Calls Tryd.prog 31 #[netV r n] w fun e w' => ∃ (r' : NetR) (δ : World), e = .returned (netV r' (turnN n)) ∧ w' = lat w δ ∧ NetIs (lat w δ).heap.size (lat w δ) r' (turnN n) := by
  obtain ⟨gR, cR, aR, bR, wR, dR⟩ := r
  have H := Lib.hid h
  clear h
  go_enter Tryd.func31, Tryd.ntmps31
  rw [show netV ⟨gR, cR, aR, bR, wR, dR⟩ n = Value.agg #[.int .i64 n.wind.lo, .int .i64 n.wind.hi, .int .i64 n.cur.lo, .int .i64 n.cur.hi, .slice gR n.grips.length cR, .slice aR n.ancs.length bR, .slice wR n.wals.length dR] from rfl]
  go_upto_region 1 with fail
  refine wp_name fun W0 hW0 => ?_
  have iw1 : Le B W0 := by rw [hW0.out]; infer_instance
  have iw2 : Grew B w W0 := by rw [hW0.out]; infer_instance
  have iw3 : Le w.heap.size W0 := by rw [hW0.out]; infer_instance
  have iw4 : Grew w.heap.size w W0 := by rw [hW0.out]; infer_instance
  have iw5 : Lt (w.heap.size) W0 := by rw [hW0.out]; infer_instance
  have iw6 : Lt (w.heap.size + 1) W0 := by rw [hW0.out]; infer_instance
  have cw7 : W0.cell? ⟨w.heap.size, 0, none⟩ = some (.int .i64 n.wind.lo) := by rw [hW0.out]; go_simp
  have cw8 : W0.cell? ⟨w.heap.size, 1, none⟩ = some (.int .i64 n.wind.hi) := by rw [hW0.out]; go_simp
  have cw9 : W0.cell? ⟨w.heap.size, 2, none⟩ = some (.int .i64 n.cur.lo) := by rw [hW0.out]; go_simp
  have cw10 : W0.cell? ⟨w.heap.size, 3, none⟩ = some (.int .i64 n.cur.hi) := by rw [hW0.out]; go_simp
  have cw11 : W0.cell? ⟨w.heap.size, 4, none⟩ = some (.slice gR n.grips.length cR) := by rw [hW0.out]; go_simp
  have cw12 : W0.cell? ⟨w.heap.size, 5, none⟩ = some (.slice aR n.ancs.length bR) := by rw [hW0.out]; go_simp
  have cw13 : W0.cell? ⟨w.heap.size, 6, none⟩ = some (.slice wR n.wals.length dR) := by rw [hW0.out]; go_simp
  have xn0 : Box W0 w.heap.size 28 (netD ⟨gR, cR, aR, bR, wR, dR⟩ n) := by rw [hW0.out]; exact (Box.new rfl).alloc _
  have xz0 : Box W0 (w.heap.size + 1) 28 netZ := by rw [hW0.out]; exact Box.new (by simp)
  have hs0 : W0.heap.size = w.heap.size + 2 := by rw [hW0.out]; simp
  go_wp2_with (fail)
  refine (copy_c ⟨gR, cR, aR, bR, wR, dR⟩ n B _ H.out.up h3 (by omega) (by omega)).mono ?_
  rintro e w1 ⟨r', δ, rfl, rfl, ho⟩
  obtain ⟨gA, gc, aA, ac, wA, wc⟩ := r'
  have HO := Lib.hid ho
  clear ho
  rw [show netV ⟨gA, gc, aA, ac, wA, wc⟩ n = Value.agg #[.int .i64 n.wind.lo, .int .i64 n.wind.hi, .int .i64 n.cur.lo, .int .i64 n.cur.hi, .slice gA n.grips.length gc, .slice aA n.ancs.length ac, .slice wA n.wals.length wc] from rfl]
  go_upto_region 2 with fail
  refine wp_name fun W1 hW1 => ?_
  have g1 : Grew w.heap.size w W1 := by rw [hW1.out]; infer_instance
  have g2 : Le w.heap.size W1 := by rw [hW1.out]; infer_instance
  have hbo : W0.heap.size ≤ (lat W0 δ).heap.size := lat_size _ _
  have I1 : TurnI n w ⟨gR, cR, aR, bR, wR, dR⟩ ⟨gA, gc, aA, ac, wA, wc⟩ W0.heap.size (lat W0 δ).heap.size 0 0 W1 := by
    refine ⟨g1, g2, ?_, ?_, ?_, ?_, hs0, fun g hg => (own_block HO.out.2.1 _ hg).2, fun g hg => (own_block HO.out.2.2 _ hg).2⟩
    · rw [hW1.out]
      exact (xn0.lat δ).alloc _
    · rw [hW1.out]
      exact (xz0.lat δ).alloc _
    · rw [hW1.out]
      exact Box.new rfl
    · rw [hW1.out, turnTo_zero]
      exact HO.out.alloc _
  obtain ⟨bo, hb⟩ : ∃ b, (lat W0 δ).heap.size = b := ⟨_, rfl⟩
  rw [hb] at I1 hbo
  rw [hb]
  clear hW1 hb HO
  go_wp2_with (fail)
  go_loopg [4] n.ancs.length (fun g i wr => ∃ k : Nat, k ≤ n.ancs.length ∧ g = n.ancs.length - k ∧ i = .int .i64 k ∧ TurnI n w ⟨gR, cR, aR, bR, wR, dR⟩ ⟨gA, gc, aA, ac, wA, wc⟩ W0.heap.size bo k 0 wr)
  case atStart => exact ⟨0, Nat.zero_le _, rfl, rfl, I1⟩
  case round =>
    clear I1 g1 g2
    obtain ⟨k, hk, rfl, rfl, I⟩ := hrel
    have j1 := I.grew
    have j2 := I.le
    have j3 := I.xn.lt
    have j4 := I.xo.lt
    have q3 := I.xn.cell (i := 5) rfl
    have p3 := I.xo.cell (i := 5) rfl
    have q4 := I.xn.cell (i := 6) rfl
    have p4 := I.xo.cell (i := 6) rfl
    by_cases hlt : k < n.ancs.length
    · obtain ⟨m, hm⟩ : ∃ m, n.ancs.length = k + 1 + m := ⟨n.ancs.length - 1 - k, by omega⟩
      obtain ⟨bs, os, hA, hbs, d0, d1⟩ := H.out.2.1.anc (show m < n.ancs.length by omega)
      have hA : aR = some ⟨bs, os, none⟩ := hA
      subst hA
      obtain ⟨g, rfl, hg1, hg2, hg3, hg4, hg5⟩ := I.at1 hlt
      obtain ⟨v0, r0⟩ := hg5 0 (by omega)
      obtain ⟨v1, r1⟩ := hg5 1 (by omega)
      rw [Nat.add_zero] at r0
      have hbw : bs < w.heap.size := Nat.lt_of_lt_of_le hbs hB.out
      have e0 : wr.cell? ⟨bs, os + m * 2, none⟩ = some (.int .i64 (nth n.ancs m).wt) := by rw [cells_same j1.out _ _ hbw]; exact d0
      have e1 : wr.cell? ⟨bs, os + m * 2 + 1, none⟩ = some (.int .i64 (nth n.ancs m).bt) := by rw [cells_same j1.out _ _ hbw]; exact d1
      have l1 : Lt bs wr := ⟨Nat.lt_of_lt_of_le hbw j2.out⟩
      have n1 : NeN bs g := ⟨by omega⟩
      have n2 : NeN w.heap.size g := ⟨by omega⟩
      have n3 : NeN bo g := ⟨by omega⟩
      have f0 := hg4 (k * 2)
      have f1 := hg4 (k * 2 + 1)
      have hz : (n.ancs.length : Int) - 1 - (k : Int) = (m : Int) := by omega
      have hki : (k : Int) < (n.ancs.length : Int) := by omega
      have hk0 : ¬ (k : Int) < 0 := by omega
      have hmi : (m : Int) < (n.ancs.length : Int) := by omega
      have hm0 : ¬ (m : Int) < 0 := by omega
      have HK := Lib.hid (And.intro hlt hm)
      have HG := Lib.hid (And.intro hg1 hg2)
      have HIX := Lib.hid I
      clear I hm hlt hg1 hg2 d0 d1 hg4 hg5
      go_wp2_with (fail)
      go_region
      go_wp2_with (fail)
      go_roundg (n.ancs.length - (k + 1))
      case measure => have := HK.out.1; omega
      case rel =>
        have hx := (HIX.out.set1 HK.out.1 HG.out.1 HG.out.2)
        rw [show n.ancs.length - 1 - k = m by have := HK.out.2; omega] at hx
        exact ⟨k + 1, HK.out.1, rfl, by go_num, hx.drew⟩
    · obtain rfl : k = n.ancs.length := by omega
      go_wp2_with (fail)
      clear j1 j2 j3 j4 q3 p3 q4 p4 hlt hk
      have I2 := I
      clear I
      go_loopg [5] n.wals.length (fun g i wr => ∃ k : Nat, k ≤ n.wals.length ∧ g = n.wals.length - k ∧ i = .int .i64 k ∧ TurnI n w ⟨gR, cR, aR, bR, wR, dR⟩ ⟨gA, gc, aA, ac, wA, wc⟩ W0.heap.size bo n.ancs.length k wr)
      case atStart => exact ⟨0, Nat.zero_le _, rfl, rfl, I2⟩
      case round =>
        clear I2
        obtain ⟨k, hk, rfl, rfl, I⟩ := hrel
        have j1 := I.grew
        have j2 := I.le
        have j3 := I.xn.lt
        have j4 := I.xo.lt
        have q4 := I.xn.cell (i := 6) rfl
        have p4 := I.xo.cell (i := 6) rfl
        by_cases hlt : k < n.wals.length
        · obtain ⟨m, hm⟩ : ∃ m, n.wals.length = k + 1 + m := ⟨n.wals.length - 1 - k, by omega⟩
          obtain ⟨bs, os, hA, hbs, d0, d1, d2, d3, d4⟩ := H.out.2.2.wal (show m < n.wals.length by omega)
          have hA : wR = some ⟨bs, os, none⟩ := hA
          subst hA
          obtain ⟨g, rfl, hg1, hg2, hg3, hg4, hg5⟩ := I.at2 hlt
          obtain ⟨v0, r0⟩ := hg5 0 (by omega)
          obtain ⟨v1, r1⟩ := hg5 1 (by omega)
          obtain ⟨v2, r2⟩ := hg5 2 (by omega)
          obtain ⟨v3, r3⟩ := hg5 3 (by omega)
          obtain ⟨v4, r4⟩ := hg5 4 (by omega)
          rw [Nat.add_zero] at r0
          have hbw : bs < w.heap.size := Nat.lt_of_lt_of_le hbs hB.out
          have hcs := fun o => cells_same j1.out bs o hbw
          have e0 := (hcs _).trans d0
          have e1 := (hcs _).trans d1
          have e2 := (hcs _).trans d2
          have e3 := (hcs _).trans d3
          have e4 := (hcs _).trans d4
          have l1 : Lt bs wr := ⟨Nat.lt_of_lt_of_le hbw j2.out⟩
          have n1 : NeN bs g := ⟨by omega⟩
          have n2 : NeN w.heap.size g := ⟨by omega⟩
          have n3 : NeN bo g := ⟨by omega⟩
          have f0 := hg4 (k * 5)
          have f1 := hg4 (k * 5 + 1)
          have f2 := hg4 (k * 5 + 2)
          have f3 := hg4 (k * 5 + 3)
          have f4 := hg4 (k * 5 + 4)
          have hz : (n.wals.length : Int) - 1 - (k : Int) = (m : Int) := by omega
          have hki : (k : Int) < (n.wals.length : Int) := by omega
          have hk0 : ¬ (k : Int) < 0 := by omega
          have hmi : (m : Int) < (n.wals.length : Int) := by omega
          have hm0 : ¬ (m : Int) < 0 := by omega
          have HK := Lib.hid (And.intro hlt hm)
          have HG := Lib.hid (And.intro hg1 hg2)
          have HIX := Lib.hid I
          clear I hm hlt hg1 hg2 d0 d1 d2 d3 d4 hg4 hg5 hcs
          go_wp2_with (fail)
          go_region
          go_wp2_with (fail)
          go_roundg (n.wals.length - (k + 1))
          case measure => have := HK.out.1; omega
          case rel =>
            have hx := (HIX.out.set2 HK.out.1 HG.out.1 HG.out.2)
            rw [show n.wals.length - 1 - k = m by have := HK.out.2; omega] at hx
            exact ⟨k + 1, HK.out.1, rfl, by go_num, hx.drew⟩
        · obtain rfl : k = n.wals.length := by omega
          have q0 := I.xo.cell (i := 0) rfl
          have q1 := I.xo.cell (i := 1) rfl
          have q2 := I.xo.cell (i := 2) rfl
          have q3 := I.xo.cell (i := 3) rfl
          have q5 := I.xo.cell (i := 5) rfl
          have q6 := I.xo.cell (i := 4) rfl
          have z0 := I.xz.free 0
          have z1 := I.xz.free 1
          have z2 := I.xz.free 2
          have z3 := I.xz.free 3
          have z4 := I.xz.free 4
          have z5 := I.xz.free 5
          have z6 := I.xz.free 6
          have y0 := I.xz.cell (i := 0) rfl
          have y1 := I.xz.cell (i := 1) rfl
          have y2 := I.xz.cell (i := 2) rfl
          have y3 := I.xz.cell (i := 3) rfl
          have y4 := I.xz.cell (i := 4) rfl
          have y5 := I.xz.cell (i := 5) rfl
          have y6 := I.xz.cell (i := 6) rfl
          have j5 := I.xz.lt
          have HIX := Lib.hid I
          clear I
          go_wp2_with (fail)
          refine bodyPost_ret (v := netV ⟨gA, gc, aA, ac, wA, wc⟩ (turnN n)) ?_ rfl ?_
          · simp only [results, Tryd.results31]
            go_simp
            simp [turnN, netV]
          · have hown := HIX.out.own
            rw [turnTo_full] at hown
            refine ⟨⟨gA, gc, aA, ac, wA, wc⟩, _, rfl, lat_def, ?_⟩
            rw [← lat_def (w := w)]
            refine NetOwn.is (base := W0.heap.size) ?_
            iterate 7 (refine NetOwn.set ?_ (show w.heap.size + 1 < W0.heap.size by omega) _)
            exact hown

end Go.Proofs.YtgpcaaknpfopgaaDoor
