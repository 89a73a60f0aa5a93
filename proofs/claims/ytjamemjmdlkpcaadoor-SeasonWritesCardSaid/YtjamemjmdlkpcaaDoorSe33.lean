/- Season: the program's Least. -/
import Derived.Test.YtjamemjmdlkpcaaDoorSe32
namespace Go.Proofs.YtjamemjmdlkpcaaDoor
open Go.RowKit
open Se

theorem least_no_c (A : Option Addr) (c : Nat) (ts : List Txt) (n : Int) (hn : textsErr 6 ts = n) (h0 : n ≠ 0) (ln : Nat) (hl : ts.length = ln) (hs : smallT ts) (B : Nat) (w : World) (hS : Sl strE B w A c ts) [hB : Le B w] :
    Calls Tryd.prog 28 #[.slice A ln c] w fun e w' => e = .returned (.tuple #[.int .i64 0, .int .i64 n]) ∧ ∃ δ, w' = lat w δ := by
  have HS := Lib.hid hS
  have HZ := Lib.hid hs
  have HN := Lib.hid hn
  have HL := Lib.hid hl
  have H0 := Lib.hid h0
  have hd : (n != 0) = true := by simpa using h0
  clear hS hs hn hl h0
  go_enter Tryd.func28, Tryd.ntmps28
  go_wp2_with (go_at_call 58; refine (check_c A c ts 6 (by omega) n HN.out _ HL.out HZ.out B _ HS.out.up).mono ?_; rintro e w1 ⟨rfl, δ, rfl⟩)
  go_ret2
  exact ⟨rfl, lat_ex⟩
set_option maxRecDepth 100000 in
theorem least_ok_c (A : Option Addr) (c : Nat) (ts : List Txt) (hn : textsErr 6 ts = 0) (ln : Nat) (hl : ts.length = ln) (hs : smallT ts) (B : Nat) (w : World) (hS : Sl strE B w A c ts) [hB : Le B w] :
    Calls Tryd.prog 28 #[.slice A ln c] w fun e w' => e = .returned (.tuple #[.int .i64 (leastN ts : Nat), .int .i64 0]) ∧ ∃ δ, w' = lat w δ := by
  have HS := Lib.hid hS
  have HZ := Lib.hid hs
  have HN := Lib.hid hn
  have HT := Lib.hid (textsErr_0 hn)
  have HL := Lib.hid hl
  have hmm := @run_makeMap Tryd.prog
  clear hS hs hn hl
  go_enter Tryd.func28, Tryd.ntmps28
  go_upto_region 7 with (go_at_call 58; refine (check_c A c ts 6 (by omega) 0 HN.out _ HL.out HZ.out B _ HS.out.up).mono ?_; rintro e w1 ⟨rfl, δ, rfl⟩)
  obtain ⟨V, hV⟩ : ∃ V, lat (w.alloc (.cells #[.slice A ln c] 31)) δ = V := ⟨_, rfl⟩
  rw [hV]
  have v1 : Le B V := by rw [← hV]; infer_instance
  have v2 : Grew B w V := by rw [← hV]; infer_instance
  have v3 : Lt w.heap.size V := by rw [← hV]; infer_instance
  have v4 : V.cell? ⟨w.heap.size, 0, none⟩ = some (.slice A ln c) := by rw [← hV, cell_lat, World.cell?_alloc_at _ _ _ _ rfl]; rfl
  have v5 : Le w.heap.size V := by rw [← hV]; infer_instance
  have v6 : Grew w.heap.size w V := by rw [← hV]; infer_instance
  have HLT : Hid (w.heap.size < V.heap.size) := Lib.hid v3.out
  clear hV
  refine wp_name ?_
  intro W4 hW
  have hWe := hW.out
  have w1 : Le B W4 := by rw [hWe]; infer_instance
  have w2 : Grew B w W4 := by rw [hWe]; infer_instance
  have w5 : Le w.heap.size W4 := by rw [hWe]; infer_instance
  have w6 : Grew w.heap.size w W4 := by rw [hWe]; infer_instance
  have w7 : Le V.heap.size W4 := by rw [hWe]; infer_instance
  have hz : W4.heap.size = V.heap.size + 3 := by rw [hWe]; simp
  have E : Hid (LeastE ts A c (V.heap.size + 1) w.heap.size (V.heap.size + 1 + 1) V.heap.size B W4) := Lib.hid {
    cf := by rw [hWe]; go_simp
    ct := by rw [hWe, HL.out]; go_simp
    cr := by rw [hWe]; go_simp
    lf := by omega
    lt := by have := HLT.out; omega
    lr := by omega
    nf := by omega
    nt := by have := HLT.out; omega
    nr := by omega
    le := v1.out
    sl := HS.out.up
    fd := by
      rw [hWe]
      have h0 : FoundE ts (V.alloc (.map #[] 0)) V.heap.size := ⟨#[], 0, heap_alloc_new V _, fun x hx => by cases hx⟩
      exact (h0.up ((Below.refl _ _).alloc (Nat.le_refl _) _)).up ((Below.refl _ _).alloc (Nat.le_refl _) _) }
  have c0 : W4.cell? ⟨V.heap.size + 1 + 1, 0, none⟩ = some (.func (.func 59) #[] #[.pointer (some ⟨V.heap.size + 1, 0, none⟩), .pointer (some ⟨w.heap.size, 0, none⟩), .pointer (some ⟨V.heap.size + 1 + 1, 0, none⟩)]) := E.out.cr
  have i0 : Lt (V.heap.size + 1 + 1) W4 := ⟨E.out.lr⟩
  have hnn : ts.length ≤ 6 := HT.out.1
  have HC : Hid (Calls Tryd.prog 59 #[.agg #[.int .u64 0, .int .i64 (-1)], .pointer (some ⟨V.heap.size + 1, 0, none⟩), .pointer (some ⟨w.heap.size, 0, none⟩), .pointer (some ⟨V.heap.size + 1 + 1, 0, none⟩)] W4 fun e W' => e = .returned (.int .i64 (specM ts 0 (-1) : Nat)) ∧ Kep (· = V.heap.size) W4 W' ∧ FoundE ts W' V.heap.size) :=
    Lib.hid (least1_c ts HT.out.2 hnn A c _ _ _ _ B ts.length 0 (-1) W4 (by rw [bits_zero]; simp) (Nat.pow_pos (by omega)) (by omega) (by omega) E.out)
  have HB : Hid (specM ts 0 (-1) + 3 = leastN ts) := Lib.hid (spec_least ts)
  have hsb : specM ts 0 (-1) ≤ 306 := by have := spec_le HT.out.2 0 (-1); omega
  obtain ⟨S, hS⟩ : ∃ S, specM ts 0 (-1) = S := ⟨_, rfl⟩
  rw [hS] at HC HB hsb
  have HBL : Hid (w.heap.size ≤ W4.heap.size) := Lib.hid w5.out
  clear hWe hz hW hS
  go_wp2_with (go_at_call 59; refine HC.out.mono ?_; rintro e w9 ⟨rfl, hK, hF⟩)
  go_ret2
  refine ⟨?_, lat_of' ((grew_below (w := w) (W := W4)).trans (hK.below HBL.out (fun b hb => by have := HLT.out; omega)))⟩
  rw [← HB.out]
  rfl
end Go.Proofs.YtjamemjmdlkpcaaDoor
