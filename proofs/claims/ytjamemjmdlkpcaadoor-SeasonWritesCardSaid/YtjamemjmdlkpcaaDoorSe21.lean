/- Season: the program's sealed. -/
import Derived.Test.YtjamemjmdlkpcaaDoorSe13
import Derived.Test.YtjamemjmdlkpcaaDoorSe20
import Derived.Test.YtjamemjmdlkpcaaDoorSeLib
import Derived.Lib.LaidTab
namespace Go.Proofs.YtjamemjmdlkpcaaDoor
open Go.RowKit
open Se
open Go.Shelf Go.Sort

/-- The library's table of the powers of ten. -/
def TabIs (w : World) : Prop := Lib.TabIs Tryd.prog w "internal/strconv.uint64pow10" .u64 Lib.pow10Tab
theorem TabIs.up {w W : World} (h : TabIs w) [hg : Grew 6 w W] : TabIs W := by
  unfold TabIs Lib.TabIs World.var? at *
  rw [show Tryd.prog.globalNamed "internal/strconv.uint64pow10" = some 3 by kernel_rfl] at *
  simp only [Option.bind_some] at *
  rw [hg.out.2.2.2 3 (by omega)]
  exact h
theorem lat_of' {w w' : World} (h : Below w.heap.size w w') : ∃ δ, w' = lat w δ := ⟨w', (lat_of h).symm⟩
theorem below_grow' (w : World) (k : Nat) (os : Array Obj) : Below w.heap.size w (grow (w.drewN k) os) :=
  ⟨rfl, rfl, rfl, by simp [grow, World.drewN], fun j hj => by
    show (w.heap ++ os)[j]? = _
    rw [Array.getElem?_append_left hj]⟩
theorem itoa_c (n : Nat) (l : Txt) (hl : Lib.itoa n = l) (hn : n < 1000) (w : World) (hT : TabIs w) :
    Calls Tryd.prog 72 #[.int .i64 n] w fun e w' => e = .returned (.string (str l)) ∧ ∃ δ, w' = lat w δ := by
  have h : Calls Tryd.prog 72 #[.int .i64 n] w fun e w' => e = .returned (.string ⟨(Lib.itoa n).toArray⟩) ∧ ∃ k os, w' = grow (w.drewN k) os := Any.strconv_Itoa Tryd.laysM171 n (by omega) (by omega) w hT
  refine h.mono ?_
  rintro e w1 ⟨rfl, k, os, rfl⟩
  rw [hl]
  exact ⟨rfl, lat_of' (below_grow' w k os)⟩
theorem rep_eq (c : Nat) : Lib.repeatL [48] c = List.replicate c 48 := by
  induction c with
  | zero => rfl
  | succ c ih => rw [List.replicate_succ, ← ih]; rfl
theorem repeat_c (s : ByteArray) (hs : s = ⟨#[48]⟩) (c : Nat) (l : Txt) (hl : List.replicate c 48 = l) (hc : c ≤ 3) (u : Int) (hu : u = (c : Int)) (w : World) :
    Calls Tryd.prog 73 #[.string s, .int .i64 u] w fun e w' => e = .returned (.string (str l)) ∧ ∃ δ, w' = lat w δ := by
  subst hs hu
  have h : Calls Tryd.prog 73 #[.string ⟨#[48]⟩, .int .i64 c] w fun e w' => e = .returned (.string ⟨(Lib.repeatL (⟨#[48]⟩ : ByteArray).data.toList c).toArray⟩) ∧ Below w.heap.size w w' := Any.strings_Repeat Tryd.lays105 Tryd.Builder_Extra_105 ⟨#[48]⟩ c w (by omega) (by show 1 * c ≤ _; omega)
  refine h.mono ?_
  rintro e w1 ⟨rfl, hb⟩
  rw [show (⟨#[48]⟩ : ByteArray).data.toList = [48] from rfl, rep_eq, hl]
  exact ⟨rfl, lat_of' hb⟩
theorem itoa_dec {n : Nat} (h : n < 1000) : Lib.itoa (n : Int) = dec n := by
  have h0 : ¬ ((n : Int) < 0) := by omega
  unfold Lib.itoa dec
  rw [if_neg h0, Int.toNat_natCast]
  by_cases h1 : n < 10
  · rw [if_pos h1, Lib.decDigits, dif_pos h1]
  · rw [if_neg h1, Lib.decDigits, dif_neg h1]
    by_cases h2 : n < 100
    · rw [if_pos h2, Lib.decDigits, dif_pos (by omega)]
      rfl
    · rw [if_neg h2, Lib.decDigits, dif_neg (by omega), Lib.decDigits, dif_pos (by omega)]
      rw [show n / 10 / 10 = n / 100 by omega]
      rfl
theorem dec_len {n : Nat} (_h : n < 1000) : 1 ≤ (dec n).length ∧ (dec n).length ≤ 3 := by
  unfold dec
  split
  · exact ⟨by simp, by simp⟩
  · split
    · exact ⟨by simp, by simp⟩
    · exact ⟨by simp [three], by simp [three]⟩
theorem sealed_c (s : ByteArray) (l : Txt) (hl : s.data.toList = l) (hs : l.length ≤ 50000) (w : World) (hT : TabIs w) [h6 : Le 6 w] :
    Calls Tryd.prog 57 #[.string s] w fun e w' => e = .returned (.string (str (sealed l))) ∧ ∃ δ, w' = lat w δ := by
  have e0 := str_eq hl
  subst e0
  obtain ⟨n, hn⟩ : ∃ n, sealOf l = n := ⟨_, rfl⟩
  have hlt : n < 1000 := by rw [← hn]; have := seal_lt l; omega
  obtain ⟨d, hd⟩ : ∃ d, dec n = d := ⟨_, rfl⟩
  have e3 : sealed l = l ++ List.replicate (3 - d.length) 48 ++ d := by
    unfold sealed
    rw [hn, three_dec hlt, List.append_assoc, hd]
  have hdl := dec_len hlt
  rw [hd] at hdl
  have HS : Hid (sealOf (str l).data.toList = n) := Lib.hid (by rw [lst_str]; exact hn)
  have HI : Hid (Lib.itoa n = d) := Lib.hid (by rw [itoa_dec hlt]; exact hd)
  rw [e3]
  clear e3 hl
  obtain ⟨z, hz⟩ : ∃ z : Txt, List.replicate (3 - d.length) 48 = z := ⟨_, rfl⟩
  have hzl : z.length = 3 - d.length := by rw [← hz, List.length_replicate]
  have hz3 : l.length + z.length ≤ 100000 := by omega
  have hz4 : (l ++ z).length + d.length ≤ 100000 := by rw [List.length_append]; omega
  rw [hz]
  have HZ := Lib.hid hz
  have a1 := fun (W : World) => add_str (P := Tryd.prog) W l z hz3
  have a2 := fun (W : World) => add_str (P := Tryd.prog) W (l ++ z) d hz4
  obtain ⟨q, hq⟩ : ∃ q, l ++ z = q := ⟨_, rfl⟩
  rw [hq] at a1 a2 ⊢
  have HL : Hid ((str l).size ≤ 140737488355328) := Lib.hid (by rw [size_str]; omega)
  clear hn hd hz hq hzl hz3 hz4
  go_enter Tryd.func57, Tryd.ntmps57
  go_wp2_with (first
    | (go_at_call 63; refine (seal_c _ n HS.out HL.out _).mono ?_; rintro e w1 ⟨rfl, δ1, rfl⟩)
    | (go_at_call 72; refine (itoa_c n d HI.out hlt _ hT.up).mono ?_; rintro e w1 ⟨rfl, δ2, rfl⟩)
    | (go_at_call 73; refine (repeat_c _ rfl (3 - d.length) z HZ.out (by omega) _ (by omega) _).mono ?_; rintro e w1 ⟨rfl, δ3, rfl⟩))
  go_ret
  exact ⟨rfl, lat_ex⟩
end Go.Proofs.YtjamemjmdlkpcaaDoor
