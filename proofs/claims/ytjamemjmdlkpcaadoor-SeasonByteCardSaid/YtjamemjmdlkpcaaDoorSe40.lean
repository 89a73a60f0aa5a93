/- Season: the law SeasonByte. -/
import Derived.Test.YtjamemjmdlkpcaaDoorSe39
import Derived.Deep.RegionHeld3
import Derived.Deep.CutRange
import Derived.BigRegion
namespace Go.Proofs.YtjamemjmdlkpcaaDoor
open Go.RowKit
open Se

/-- Block b holds the bytes l, none of them frozen. -/
structure Bytes (W : World) (b : Nat) (l : Txt) : Prop where
  lt : b < W.heap.size
  cell : ∀ j x, l[j]? = some x → W.cell? ⟨b, j, none⟩ = some (.int .u8 (x.toNat : Nat))
  free : ∀ j, j < l.length → W.frozen? ⟨b, j, none⟩ = false
theorem Bytes.new (w : World) (l : Txt) : Bytes (Lib.bytesWorld w 5 (str l)) w.heap.size l where
  lt := by rw [Lib.bytesWorld_size]; omega
  cell j x hx := by
    have hj := (List.getElem?_eq_some_iff.1 hx).1
    rw [Lib.bytesWorld_cell w 5 (str l) j (by rw [size_str]; exact hj), lst_str, List.getD_eq_getElem?_getD, hx]
    rfl
  free j hj := by
    have h1 := Lib.bytesWorld_cell w 5 (str l) j (by rw [size_str]; exact hj)
    have h2 := Lib.bytesWorld_at_new w 5 (str l)
    have h3 : j < (Lib.bytesCells w 5 (str l)).size := by
      simp only [World.cell?, h2] at h1
      exact (Array.getElem?_eq_some_iff.1 h1).1
    simp only [World.frozen?, h2]
    simp
    omega
theorem Bytes.set {W : World} {b k : Nat} {l : Txt} (h : Bytes W b l) (c : UInt8) (hk : k < l.length) : Bytes (W.setCell ⟨b, k, none⟩ (.int .u8 (c.toNat : Nat))) b (l.set k c) where
  lt := by simpa [World.setCell] using h.lt
  cell j x hx := by
    by_cases hjk : j = k
    · subst hjk
      rw [List.getElem?_set_self hk] at hx
      injection hx with hx
      subst hx
      exact World.cell?_setCell_same' _ _ _ (by rw [h.cell j l[j] (List.getElem?_eq_getElem hk)]; rfl)
    · rw [List.getElem?_set_ne (Ne.symm hjk)] at hx
      rw [World.cell?_setCell_other _ _ _ _ (by intro e; injection e with _ e2; exact hjk e2.symm)]
      exact h.cell j x hx
  free j hj := by
    rw [List.length_set] at hj
    rw [World.frozen?_setCell]
    exact h.free j hj
theorem Bytes.back {W : World} {b : Nat} {l : Txt} (h : Bytes W b l) (n : Nat) (hn : l.length = n) (c : Nat) : (convert 44 9 (.slice (some ⟨b, 0, none⟩) n c)).run Tryd.prog W = .ok (.string (str l)) W := by
  subst hn
  exact run_convert_bytes_back (P := Tryd.prog) W 44 9 5 ⟨b, 0, none⟩ c l (by kernel_rfl) (by kernel_rfl) (by kernel_rfl) (fun j hj => by
    rw [show (⟨b, 0, none⟩ : Addr).add j = ⟨b, j, none⟩ by simp [Addr.add_lit]]
    exact h.cell j _ (List.getElem?_eq_getElem hj))
theorem Bytes.kep {W W' : World} {b : Nat} {l : Txt} (h : Bytes W b l) (hb : W'.heap[b]? = W.heap[b]?) : Bytes W' b l where
  lt := by
    rcases Nat.lt_or_ge b W'.heap.size with hlt | hge
    · exact hlt
    · rw [Array.getElem?_eq_none hge, Array.getElem?_eq_getElem h.lt] at hb; cases hb
  cell j x hx := by rw [World.cell?_of_block (a := ⟨b, j, none⟩) hb]; exact h.cell j x hx
  free j hj := by rw [← h.free j hj]; unfold World.frozen?; rw [hb]
theorem byte_of {c : Int} (h0 : 0 ≤ c) (h1 : c ≤ 255) : ∃ x : UInt8, c = ((x.toNat : Nat) : Int) := ⟨UInt8.ofNat c.toNat, by
  rw [UInt8.toNat_ofNat']
  omega⟩
theorem byte_wrap (x : UInt8) : IntKind.u8.wrap ((x.toNat : Nat) : Int) = ((x.toNat : Nat) : Int) := by
  have key : ∀ n : Fin 256, IntKind.u8.wrap ((n.val : Nat) : Int) = ((n.val : Nat) : Int) := by decide +kernel
  exact key ⟨x.toNat, x.toNat_lt⟩
theorem grew_below' {B : Nat} {w W : World} (h : Grew B w W) (hs : Le w.heap.size W) : Below B w W := h.out.below
set_option maxRecDepth 100000 in
set_option maxHeartbeats 4000000 in
theorem lawByte_main (A : Option Addr) (c : Nat) (ts : List Txt) (k : Nat) (x : UInt8) (hr : readyT ts = true) (hk : k < (file ts).length) (B : Nat) (w : World) (hS : Sl strE B w A c ts) [hB : Le B w] (hT : TabIs w) [h6 : Le 6 w] :
    Calls Tryd.prog 6 #[.slice A ts.length c, .agg #[.int .i64 k, .int .i64 ((x.toNat : Nat) : Int)]] w fun e w' => e = .returned (.bool true) ∧ ∃ δ, w' = lat w δ := by
  have HS := Lib.hid hS
  have HRD : Hid (∀ w : World, Sl strE w.heap.size w A c ts → Calls Tryd.prog 20 #[.slice A ts.length c] w fun e w' => e = .returned (.bool true) ∧ w = w') := Lib.hid (fun w h => ready_c A c ts true hr _ rfl _ w h)
  have HWR : Hid (∀ (w : World), Sl strE w.heap.size w A c ts → TabIs w → Le 6 w → Calls Tryd.prog 21 #[.slice A ts.length c] w fun e w' => e = .returned (.tuple #[.string (str (file ts)), .bool true]) ∧ ∃ δ, w' = lat w δ) := Lib.hid (fun w hS hT _ => written_c A c ts hr _ rfl w.heap.size w hS hT)
  have hfs := file_small hr
  have HB1 : Hid (∀ (i : Nat) (c : UInt8), (file ts).set i c ≠ file ts → isBad (readOf ((file ts).set i c))) := Lib.hid (fun i c h => byte_refused h)
  have HB2 : Hid (∀ (i : Nat), i + 1 < (file ts).length - 3 → ∀ x y, (file ts)[i]? = some x → (file ts)[i + 1]? = some y → ((file ts).set i y).set (i + 1) x ≠ file ts → isBad (readOf (((file ts).set i y).set (i + 1) x))) := Lib.hid (fun i h x y hx hy hn => swap_refused h hx hy hn)
  obtain ⟨f, hf⟩ : ∃ f, file ts = f := ⟨_, rfl⟩
  rw [hf] at HWR hfs HB1 HB2 hk
  have hki : ¬ ((f.length : Nat) : Int) ≤ (k : Int) := by omega
  have hki' : (k : Int) < ((f.length : Nat) : Int) := by omega
  have hxl := x.toNat_lt
  have hin : inB 0 255 ((x.toNat : Nat) : Int) = true := inB_iff.2 (by omega)
  have HIN := Lib.hid hin
  have hwx := byte_wrap x
  obtain ⟨u, hu⟩ : ∃ u : Int, ((x.toNat : Nat) : Int) = u := ⟨_, rfl⟩
  have HU := Lib.hid hu
  rw [hu] at HIN hwx ⊢
  have hcv := fun (W : World) => Lib.run_convert_string_bytes (P := Tryd.prog) W 9 44 5 (str f) (u := .string) (by kernel_rfl) (by kernel_rfl) (by kernel_rfl)
  have HCV := Lib.hid hcv
  clear hS hr hf hu hin hxl
  go_enter Tryd.func6, Tryd.ntmps6
  go_upto_region 9 with (first
    | (go_at_call 20; (with_reducible refine Calls.mono (HRD.out _ ?_) ?_); exact Sl.wide HS.out; rintro e w1 ⟨rfl, rfl⟩)
    | (go_at_call 27; refine (within_is _ _ _ true HIN.out _).mono ?_; rintro e w1 ⟨rfl, rfl⟩)
    | (go_at_call 21; (with_reducible refine Calls.mono (HWR.out _ ?_ ?_ ?_) ?_); exact Sl.wide HS.out; exact hT.up; infer_instance; rintro e w1 ⟨rfl, δ1, rfl⟩))
  generalize grownCap (lat (w.alloc (.cells #[.int .i64 k, .int .i64 u] 42)) δ1) f.length 0 5 = g1
  obtain ⟨V, hV⟩ : ∃ V, lat (w.alloc (.cells #[.int .i64 k, .int .i64 u] 42)) δ1 = V := ⟨_, rfl⟩
  rw [hV]
  have v1 : Le B V := by rw [← hV]; infer_instance
  have v2 : Grew B w V := by rw [← hV]; infer_instance
  have v3 : Le 6 V := by rw [← hV]; infer_instance
  have v4 : Grew 6 w V := by rw [← hV]; infer_instance
  have v5 : Le w.heap.size V := by rw [← hV]; infer_instance
  have v6 : Grew w.heap.size w V := by rw [← hV]; infer_instance
  have v7 : w.heap.size < V.heap.size := by rw [← hV]; exact Nat.lt_of_lt_of_le (by simp) (lat_size _ _)
  have e0 : V.cell? ⟨w.heap.size, 0, none⟩ = some (.int .i64 k) := by rw [← hV, cell_lat, World.cell?_alloc_at _ _ _ _ rfl]; rfl
  have e1 : V.cell? ⟨w.heap.size, 1, none⟩ = some (.int .i64 u) := by rw [← hV, cell_lat, World.cell?_alloc_at _ _ _ _ rfl]; rfl
  clear hV
  refine wp_name ?_
  intro W1 hW1
  have b1 : Below V.heap.size V W1 := by rw [hW1.out]; exact bytesWorld_below V 5 (str f)
  have HY : Hid (Bytes W1 V.heap.size f) := by rw [hW1.out]; exact Lib.hid (Bytes.new V f)
  have w8 : Grew V.heap.size V W1 := ⟨Same.of b1⟩
  have w9 : Le V.heap.size W1 := ⟨b1.size⟩
  have w1 : Grew w.heap.size w W1 := ⟨Same.of ((v6.out.below).trans (b1.mono v5.out))⟩
  have w2 : Le w.heap.size W1 := ⟨Nat.le_trans v5.out b1.size⟩
  have w3 : Grew 6 w W1 := ⟨Same.of ((v4.out.below (hs := v5)).trans (b1.mono v3.out))⟩
  have w4 : Le 6 W1 := ⟨Nat.le_trans v3.out b1.size⟩
  have i0 : Lt w.heap.size W1 := ⟨Nat.lt_of_lt_of_le v7 b1.size⟩
  have i1 : Lt V.heap.size W1 := ⟨HY.out.lt⟩
  have d0 : W1.cell? ⟨w.heap.size, 0, none⟩ = some (.int .i64 k) := (b1.cell (p := ⟨w.heap.size, 0, none⟩) v7).trans e0
  have d1 : W1.cell? ⟨w.heap.size, 1, none⟩ = some (.int .i64 u) := (b1.cell (p := ⟨w.heap.size, 1, none⟩) v7).trans e1
  obtain ⟨y, hy⟩ : ∃ y, f[k]? = some y := ⟨_, List.getElem?_eq_getElem hk⟩
  have c0 := HY.out.cell k y hy
  have f0 := HY.out.free k hk
  have n0 : NeN w.heap.size V.heap.size := ⟨by omega⟩
  have HBS : Hid (Bytes (W1.setCell ⟨V.heap.size, k, none⟩ (.int .u8 u)) V.heap.size (f.set k x)) := Lib.hid (by rw [← HU.out]; exact HY.out.set x hk)
  have hbk := HBS.out.back f.length (by rw [List.length_set]) g1
  obtain ⟨q, hq⟩ : ∃ q, f.set k x = q := ⟨_, rfl⟩
  have HQ := Lib.hid hq
  have HBD : Hid (q ≠ f → isBad (readOf q)) := Lib.hid (by rw [← hq]; exact HB1.out k x)
  have hql : q.length ≤ 1100 := by rw [← hq, List.length_set]; exact hfs
  rw [hq] at hbk
  have hqe := str_beq q f
  have hk0 : decide ((k : Int) < 0) = false := decide_eq_false (by omega)
  have l6 : LeN 6 V.heap.size := ⟨v3.out⟩
  have lB : LeN B V.heap.size := ⟨v1.out⟩
  have lw : LeN w.heap.size V.heap.size := ⟨v5.out⟩
  have w5 : Le B W1 := ⟨Nat.le_trans v1.out b1.size⟩
  have w6 : Grew B w W1 := ⟨Same.of ((v2.out.below (hs := v5)).trans (b1.mono v1.out))⟩
  clear hW1 v1 v2 v3 v4 b1 e0 e1 hq hcv
  go_upto_region 10 with fail
  go_cut [54] from 8 (fun sx wx => sx = .bool false ∧ ∃ δ, wx = lat (W1.setCell ⟨V.heap.size, k, none⟩ (.int .u8 u)) δ)
  case first =>
    by_cases hqf : q = f
    · rw [decide_eq_true hqf] at hqe
      clear hqf
      go_wp2_with fail
      go_meet
      exact ⟨rfl, _, (lat_refl _).symm⟩
    · rw [decide_eq_false hqf] at hqe
      have HBD2 := Lib.hid (HBD.out hqf)
      clear hqf
      go_wp2_with (go_at_call 25; refine (refused_c q HBD2.out (by omega) _ hT.up).mono ?_; rintro e w1 ⟨rfl, δ2, rfl⟩)
      go_meet
      exact ⟨rfl, _, rfl⟩
  obtain ⟨rfl, δ2, rfl⟩ := hcut
  obtain ⟨X, hX⟩ : ∃ X, lat (W1.setCell ⟨V.heap.size, k, none⟩ (.int .u8 u)) δ2 = X := ⟨_, rfl⟩
  rw [hX]
  have x1 : Grew w.heap.size w X := by rw [← hX]; infer_instance
  have x2 : Le w.heap.size X := by rw [← hX]; infer_instance
  have x3 : Grew 6 w X := by rw [← hX]; infer_instance
  have x4 : Le 6 X := by rw [← hX]; infer_instance
  have x7 : w.heap.size < X.heap.size := by rw [← hX]; exact (inferInstance : Lt w.heap.size (lat (W1.setCell ⟨V.heap.size, k, none⟩ (.int .u8 u)) δ2)).out
  have e0 : X.cell? ⟨w.heap.size, 0, none⟩ = some (.int .i64 k) := by rw [← hX, cell_lat, cell_set_ne]; exact d0
  have j0 : Lt w.heap.size X := ⟨x7⟩
  clear hX hbk hqe HBS HBD HQ c0 f0 HY w1 w2 w3 w4 w5 w6 w8 w9 d0 d1 i0 i1 n0 l6 lB lw v5 v6 v7
  have hcv := HCV.out
  go_upto_region 13 with fail
  generalize grownCap X f.length 0 5 = g2
  refine wp_name ?_
  intro W2 hW2
  have b2 : Below X.heap.size X W2 := by rw [hW2.out]; exact bytesWorld_below X 5 (str f)
  have HY : Hid (Bytes W2 X.heap.size f) := by rw [hW2.out]; exact Lib.hid (Bytes.new X f)
  have i1 : Lt X.heap.size W2 := ⟨HY.out.lt⟩
  have i0 : Lt w.heap.size W2 := ⟨Nat.lt_of_lt_of_le x7 b2.size⟩
  have d0 : W2.cell? ⟨w.heap.size, 0, none⟩ = some (.int .i64 k) := (b2.cell (p := ⟨w.heap.size, 0, none⟩) x7).trans e0
  have n0 : NeN w.heap.size X.heap.size := ⟨by omega⟩
  have HBX : Below w.heap.size w W2 := (x1.out.below).trans (b2.mono x2.out)
  have HB6 : Below 6 w W2 := (x3.out.below (hs := x2)).trans (b2.mono x4.out)
  have a1 : Grew w.heap.size w W2 := ⟨Same.of HBX⟩
  have a2 : Le w.heap.size W2 := ⟨HBX.size⟩
  have a3 : Grew 6 w W2 := ⟨Same.of HB6⟩
  have a4 : Le 6 W2 := ⟨Nat.le_trans h6.out HBX.size⟩
  have l6 : LeN 6 X.heap.size := ⟨x4.out⟩
  have lw : LeN w.heap.size X.heap.size := ⟨x2.out⟩
  have hw1 : IntKind.i64.wrap ((k : Int) + 1) = (k : Int) + 1 := IntWalk.i64_in _ (by omega)
  clear HBX HB6 b2 x1 x2 x3 x4 x7 e0 j0 hW2 hcv
  by_cases hks : k + 1 < f.length - 3
  · have hks' : ¬ ((f.length : Nat) : Int) - 3 ≤ (k : Int) + 1 := by omega
    obtain ⟨z, hz⟩ : ∃ z, f[k + 1]? = some z := ⟨_, List.getElem?_eq_getElem (by omega)⟩
    have c0 := HY.out.cell k y hy
    have c1 := HY.out.cell (k + 1) z hz
    have f0 := HY.out.free k hk
    have f1 := HY.out.free (k + 1) (by omega)
    have y0 := fun (W : World) t q hh => idx_str (P := Tryd.prog) W t q f (k : Int) k rfl y hh hy
    have y1 := fun (W : World) t q hh => idx_str (P := Tryd.prog) W t q f ((k : Int) + 1) (k + 1) (by omega) z hh hz
    have HBS : Hid (Bytes ((W2.setCell ⟨X.heap.size, k, none⟩ (.int .u8 (z.toNat : Nat))).setCell ⟨X.heap.size, k + 1, none⟩ (.int .u8 (y.toNat : Nat))) X.heap.size ((f.set k z).set (k + 1) y)) := Lib.hid ((HY.out.set z hk).set y (by rw [List.length_set]; omega))
    have HBD : Hid ((f.set k z).set (k + 1) y ≠ f → isBad (readOf ((f.set k z).set (k + 1) y))) := Lib.hid (HB2.out k hks y z hy hz)
    obtain ⟨q2, hq2⟩ : ∃ q, (f.set k z).set (k + 1) y = q := ⟨_, rfl⟩
    have hq2l : q2.length = f.length := by rw [← hq2, List.length_set, List.length_set]
    rw [hq2] at HBS HBD
    have hk1 : ((k : Int) + 1) < ((f.length : Nat) : Int) := by omega
    have HQL := Lib.hid hq2l
    obtain ⟨yv, hyv⟩ : ∃ v : Int, ((y.toNat : Nat) : Int) = v := ⟨_, rfl⟩
    obtain ⟨zv, hzv⟩ : ∃ v : Int, ((z.toNat : Nat) : Int) = v := ⟨_, rfl⟩
    rw [hyv] at c0 y0 HBS
    rw [hzv] at c1 y1 HBS
    clear hq2 hy hz hq2l hks hyv hzv
    have bx : Hid (Bytes ((W2.setCell ⟨X.heap.size, k, none⟩ (.int .u8 zv)).setCell ⟨X.heap.size, k + 1, none⟩ (.int .u8 yv)).drew X.heap.size q2 ∧ Below w.heap.size W2 ((W2.setCell ⟨X.heap.size, k, none⟩ (.int .u8 zv)).setCell ⟨X.heap.size, k + 1, none⟩ (.int .u8 yv)).drew ∧ Below 6 W2 ((W2.setCell ⟨X.heap.size, k, none⟩ (.int .u8 zv)).setCell ⟨X.heap.size, k + 1, none⟩ (.int .u8 yv)).drew) :=
      Lib.hid ⟨HBS.out.kep rfl, grew_below' (by infer_instance) (by infer_instance), grew_below' (by infer_instance) (by infer_instance)⟩
    go_upto_region 15 with fail
    go_cut [] from 8 (fun wx => Hid (Bytes wx X.heap.size q2 ∧ Below w.heap.size W2 wx ∧ Below 6 W2 wx))
    case first =>
      go_region
      all_goals
        go_wp2_with fail
        go_meet
        exact bx
    have HC := Lib.hid hcut.out
    have b1 := HC.out.2.1
    have b2 := HC.out.2.2
    have y1 : Grew w.heap.size w wc := ⟨Same.of ((grew_below' a1 a2).trans b1)⟩
    have y2 : Le w.heap.size wc := ⟨Nat.le_trans a2.out b1.size⟩
    have y3 : Grew 6 w wc := ⟨Same.of ((grew_below' a3 a2).trans b2)⟩
    have y4 : Le 6 wc := ⟨Nat.le_trans a4.out b2.size⟩
    have hbk := HC.out.1.back f.length HQL.out g2
    have hqe := str_beq q2 f
    have hq2l : q2.length ≤ 1100 := by have := HQL.out; omega
    clear hcut bx HBS b1 b2 c0 c1 f0 f1 y0 d0 i0 i1 a1 a2 a3 a4
    by_cases hqf : q2 = f
    · rw [decide_eq_true hqf] at hqe
      clear hqf
      go_wp2_with (go_at_call 15; refine (works_c _ hT.up).mono ?_; rintro e w1 ⟨rfl, δ4, rfl⟩)
      go_ret
      exact ⟨rfl, lat_ex⟩
    · rw [decide_eq_false hqf] at hqe
      have HBD2 := Lib.hid (HBD.out hqf)
      clear hqf
      go_wp2_with (first
        | (go_at_call 25; refine (refused_c q2 HBD2.out (by omega) _ hT.up).mono ?_; rintro e w1 ⟨rfl, δ3, rfl⟩)
        | (go_at_call 15; refine (works_c _ hT.up).mono ?_; rintro e w1 ⟨rfl, δ4, rfl⟩))
      go_ret
      exact ⟨rfl, lat_ex⟩
  · have hks' : ((f.length : Nat) : Int) - 3 ≤ (k : Int) + 1 := by omega
    clear hks
    go_wp2_with (go_at_call 15; refine (works_c _ hT.up).mono ?_; rintro e w1 ⟨rfl, δ3, rfl⟩)
    go_ret
    exact ⟨rfl, lat_ex⟩
theorem lawByte_c (A : Option Addr) (c : Nat) (ts : List Txt) (a b : Int) (B : Nat) (w : World) (hS : Sl strE B w A c ts) [hB : Le B w] (hT : TabIs w) [h6 : Le 6 w] :
    Calls Tryd.prog 6 #[.slice A ts.length c, .agg #[.int .i64 a, .int .i64 b]] w fun e w' => e = .returned (.bool true) ∧ ∃ δ, w' = lat w δ := by
  have HS := Lib.hid hS
  rcases hr : readyT ts with _ | _
  · have HR := Lib.hid hr
    clear hr hS
    go_enter Tryd.func6, Tryd.ntmps6
    go_wp2_with (first
      | (go_at_call 20; refine (ready_c A c ts false HR.out _ rfl B _ HS.out.up).mono ?_; rintro e w1 ⟨rfl, rfl⟩)
      | (go_at_call 15; refine (works_c _ hT.up).mono ?_; rintro e w1 ⟨rfl, δ5, rfl⟩))
    go_ret
    exact ⟨rfl, lat_ex⟩
  · have HR := Lib.hid hr
    by_cases ha : 0 ≤ a
    · rcases hb : inB 0 255 b with _ | _
      · have HBF := Lib.hid hb
        have ha' : ¬ a < 0 := by omega
        clear hb hr hS
        go_enter Tryd.func6, Tryd.ntmps6
        go_wp2_with (first
          | (go_at_call 20; refine (ready_c A c ts true HR.out _ rfl B _ HS.out.up).mono ?_; rintro e w1 ⟨rfl, rfl⟩)
          | (go_at_call 27; refine (within_is _ _ _ false HBF.out _).mono ?_; rintro e w1 ⟨rfl, rfl⟩)
          | (go_at_call 15; refine (works_c _ hT.up).mono ?_; rintro e w1 ⟨rfl, δ5, rfl⟩))
        go_ret
        exact ⟨rfl, lat_ex⟩
      · obtain ⟨k, rfl⟩ : ∃ k : Nat, a = k := ⟨a.toNat, by omega⟩
        obtain ⟨h0, h1⟩ := inB_iff.1 hb
        obtain ⟨x, rfl⟩ := byte_of h0 h1
        by_cases hk : k < (file ts).length
        · exact lawByte_main A c ts k x hr hk B w hS hT
        · have HBF := Lib.hid hb
          have HWR : Hid (∀ (w : World), Sl strE w.heap.size w A c ts → TabIs w → Le 6 w → Calls Tryd.prog 21 #[.slice A ts.length c] w fun e w' => e = .returned (.tuple #[.string (str (file ts)), .bool true]) ∧ ∃ δ, w' = lat w δ) := Lib.hid (fun w hS hT _ => written_c A c ts hr _ rfl w.heap.size w hS hT)
          obtain ⟨f, hf⟩ : ∃ f, file ts = f := ⟨_, rfl⟩
          rw [hf] at hk HWR
          have hk' : ((f.length : Nat) : Int) ≤ (k : Int) := by omega
          clear hb hr hS hf h0 h1
          go_enter Tryd.func6, Tryd.ntmps6
          go_wp2_with (first
            | (go_at_call 20; refine (ready_c A c ts true HR.out _ rfl B _ HS.out.up).mono ?_; rintro e w1 ⟨rfl, rfl⟩)
            | (go_at_call 27; refine (within_is _ _ _ true HBF.out _).mono ?_; rintro e w1 ⟨rfl, rfl⟩)
            | (go_at_call 21; refine (HWR.out _ (Sl.wide HS.out) hT.up inferInstance).mono ?_; rintro e w1 ⟨rfl, δ1, rfl⟩)
            | (go_at_call 15; refine (works_c _ hT.up).mono ?_; rintro e w1 ⟨rfl, δ5, rfl⟩))
          go_ret
          exact ⟨rfl, lat_ex⟩
    · have ha' : a < 0 := by omega
      clear hr hS
      go_enter Tryd.func6, Tryd.ntmps6
      go_wp2_with (first
        | (go_at_call 20; refine (ready_c A c ts true HR.out _ rfl B _ HS.out.up).mono ?_; rintro e w1 ⟨rfl, rfl⟩)
        | (go_at_call 15; refine (works_c _ hT.up).mono ?_; rintro e w1 ⟨rfl, δ5, rfl⟩))
      go_ret
      exact ⟨rfl, lat_ex⟩
end Go.Proofs.YtjamemjmdlkpcaaDoor
