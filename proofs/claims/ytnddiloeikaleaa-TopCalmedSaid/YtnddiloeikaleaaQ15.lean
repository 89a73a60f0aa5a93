/- Towards the claim of XLawCalmed: Layer 13, for the calm sky: the reference's Check. Layer 13, for the calm sky: the program's within, isSpan, and Check's closure, of a valid season. Layer 13, for the calm sky: the program's Check of a valid season, isSky, isDay. Layer 13, for the calm sky: a season at work: may, worth, least. Layer 13, for the calm sky: the program's open of a valid season. Layer 13, for the calm sky: the program's Calm and Worth. Layer 13, for the calm sky: the references' copies. Layer 13, for the calm sky: the reference's net of a sky. -/
import Derived.Test.YtnddiloeikaleaaQ9
import Derived.Test.YtnddiloeikaleaaQ14
import Derived.Test.YtnddiloeikaleaaQ13
import Derived.Deep.RegionHeld3
import Derived.Test.YtnddiloeikaleaaQ5
import Derived.Test.YtnddiloeikaleaaQ2
namespace Go.Proofs.Ytnddiloeikaleaa
open Go.RowKit
open An
open Tc

theorem wpList_loadBw {P : Program} {W : World} {b : Nat} {T ty : TypeId} {cs : Array Value} {ops : Array Oper} {rest : List Oper} {o : Oper} {a : Act} {Q : Exit → Act → World → Prop} {n : Nat} (hT : RowT P ty n) (hw : Region.wanted o (yielded ops a.tmps) = true) (x : Operand) (ho : o.op = .load ty x) (hx : a.eval x = .pointer (some ⟨b, 0, none⟩)) (hb : Box W b T cs) (hn : cs.size = n)
    (h : wpList P ops Q rest (a.put o.dst (.agg cs)) W) : wpList P ops Q (o :: rest) a W := by
  obtain ⟨⟨d, h1, h2⟩, h3⟩ := hT
  subst hn
  refine wpList_step fun K hK => ?_
  rw [if_pos hw]
  exact wp_load_row ty x ho b hx T cs (0, 0) d hb h1 (by cases d <;> first | rfl | cases h2) h3 (hK _ _ h)
theorem rowSeason : RowT Try.prog 36 15 := RowT.mk' Try.underlying36 rfl (by kernel_rfl)
theorem wpQuiet_loadB {P : Program} {C : World → Prop} {b : Nat} {T ty : TypeId} {cs : Array Value} {ops : Array Oper} {rest : List Oper} {o : Oper} {a : Act} {Q : Act → Prop} {n : Nat} (hT : RowT P ty n) (hw : Region.wanted o (yielded ops a.tmps) = true) (x : Operand) (ho : o.op = .load ty x) (hx : a.eval x = .pointer (some ⟨b, 0, none⟩)) (hS : ∀ w, C w → Box w b T cs) (hn : cs.size = n)
    (h : wpQuiet P ops C Q rest (a.put o.dst (.agg cs))) : wpQuiet P ops C Q (o :: rest) a := by
  obtain ⟨⟨d, h1, h2⟩, h3⟩ := hT
  subst hn
  refine BigFrame.wpQuiet_want hw fun K hK => ⟨.agg cs, fun w hc => ?_, hK _ h⟩
  unfold Oper.quietAt execOp
  simp only [ho, hx, Instr.loadAt, Instr.sureAddr, Sem.run_bind, Sem.run_pure, Result.andThen_ok, run_loadVar_row w b T ty cs (0, 0) d (hS w hc) h1 (by cases d <;> first | rfl | cases h2) h3]
  exact ⟨rfl, rfl⟩
/-- The cells of a season. -/
def seasonA (r : SeasonR) (s : Season) : Array Value := #[.int .i64 s.net.wind.lo, .int .i64 s.net.wind.hi, .int .i64 s.net.cur.lo, .int .i64 s.net.cur.hi, .slice r.net.gA s.net.grips.length r.net.gc, .slice r.net.aA s.net.ancs.length r.net.ac, .slice r.net.wA s.net.wals.length r.net.wc,
  .int .i64 s.sea.wt.lo, .int .i64 s.sea.wt.hi, .slice r.sea.pA s.sea.places.length r.sea.pc, .slice r.sea.bA s.sea.boats.length r.sea.bc, .slice r.kA s.skies.length r.kc, .slice r.fA s.follows.length r.fc, .slice r.iA s.first.length r.ic, .slice r.dA s.days.length r.dc]
theorem Box.season {W : World} {b : Nat} {T : TypeId} {r : SeasonR} {s : Season} (h : Box W b T (seasonA r s)) :
    W.cell? ⟨b, 0, none⟩ = some (.int .i64 s.net.wind.lo) ∧ W.cell? ⟨b, 1, none⟩ = some (.int .i64 s.net.wind.hi) ∧ W.cell? ⟨b, 2, none⟩ = some (.int .i64 s.net.cur.lo) ∧ W.cell? ⟨b, 3, none⟩ = some (.int .i64 s.net.cur.hi) ∧
    W.cell? ⟨b, 4, none⟩ = some (.slice r.net.gA s.net.grips.length r.net.gc) ∧ W.cell? ⟨b, 5, none⟩ = some (.slice r.net.aA s.net.ancs.length r.net.ac) ∧ W.cell? ⟨b, 6, none⟩ = some (.slice r.net.wA s.net.wals.length r.net.wc) ∧
    W.cell? ⟨b, 7, none⟩ = some (.int .i64 s.sea.wt.lo) ∧ W.cell? ⟨b, 8, none⟩ = some (.int .i64 s.sea.wt.hi) ∧ W.cell? ⟨b, 9, none⟩ = some (.slice r.sea.pA s.sea.places.length r.sea.pc) ∧ W.cell? ⟨b, 10, none⟩ = some (.slice r.sea.bA s.sea.boats.length r.sea.bc) ∧
    W.cell? ⟨b, 11, none⟩ = some (.slice r.kA s.skies.length r.kc) ∧ W.cell? ⟨b, 12, none⟩ = some (.slice r.fA s.follows.length r.fc) ∧ W.cell? ⟨b, 13, none⟩ = some (.slice r.iA s.first.length r.ic) ∧ W.cell? ⟨b, 14, none⟩ = some (.slice r.dA s.days.length r.dc) :=
  ⟨h.cell rfl, h.cell rfl, h.cell rfl, h.cell rfl, h.cell rfl, h.cell rfl, h.cell rfl, h.cell rfl, h.cell rfl, h.cell rfl, h.cell rfl, h.cell rfl, h.cell rfl, h.cell rfl, h.cell rfl⟩
theorem within13_is {n low high : Int} {b : Bool} (hb : inB low high n = b) (w : World) :
    Calls Try.prog 20 #[.int .i64 n, .int .i64 low, .int .i64 high] w fun e w' => e = .returned (.bool b) ∧ w = w' := by
  subst hb; exact within13_c n low high w
theorem isSpan13_is {s : Sp} {m : Int} {b : Bool} (hb : okSp m s = b) (w : World) :
    Calls Try.prog 22 #[.agg #[.int .i64 s.lo, .int .i64 s.hi], .int .i64 m] w fun e w' => e = .returned (.bool b) ∧ ∃ δ, w' = lat w δ := by
  subst hb; exact isSpan13_c s m w
set_option maxRecDepth 100000 in
set_option maxHeartbeats 4000000 in
theorem rSeason_c (r : SeasonR) (s : Season) (B : Nat) (w : World) [hB : Le B w] (h : SeasonIs B w r s) (h40 : s.skies.length ≤ 40 ∧ s.sea.places.length ≤ 40) :
    Calls Try.prog 5 #[seasonV r s] w fun e w' => e = .returned (.int .i64 (errOf (seasonOk s) 130)) ∧ ∃ δ, w' = lat w δ := by
  have H := Lib.hid h
  have HIF := Lib.hid (@seasonOk_iff s)
  have h4 := h40.1
  have H4 := Lib.hid h40
  obtain ⟨v, hv⟩ : ∃ v, errOf (seasonOk s) 130 = v := ⟨_, rfl⟩
  have HV := Lib.hid hv
  rw [hv]
  clear hv h h40
  have bad : Hid (seasonOk s = false → v = 130) := Lib.hid fun hb => by rw [← HV.out, hb]; rfl
  have HCN : Hid (∀ (x : Int) (W : World), errOf (valid s.net) 20 = x → Grew B w W → Le B W → Calls Try.prog 18 #[netV r.net s.net] W fun e w' => e = .returned (.int .i64 x) ∧ ∃ δ, w' = lat W δ) := Lib.hid fun x W hx i1 i2 => by subst hx; exact rCheck_c r.net s.net B W H.out.net.up
  have HCS : Hid (∀ (x : Int) (W : World), errOf (seaOk s.sea) 50 = x → Grew B w W → Le B W → Calls Try.prog 19 #[seaV r.sea s.sea] W fun e w' => e = .returned (.int .i64 x) ∧ ∃ δ, w' = lat W δ) := Lib.hid fun x W hx i1 i2 => by subst hx; exact rSea_c r.sea s.sea B W H.out.sea.up H4.out.2
  have HCF : Hid (∀ (b : Bool) (W : World), areSk s.skies.length s.first = b → Grew B w W → Le B W → Calls Try.prog 21 #[seasonV r s, .slice r.iA s.first.length r.ic] W fun e w' => e = .returned (.bool b) ∧ ∃ δ, w' = lat W δ) := Lib.hid fun b W hb i1 i2 => by subst hb; exact areSkies_c r s r.iA r.ic s.first B W H.out.first.up H4.out.1
  rcases h1 : valid s.net with _ | _
  · have HE : Hid (errOf (valid s.net) 20 = 20) := by unfold Hid; rw [h1]; rfl
    have HB : v = 130 := bad.out (by rw [← Bool.not_eq_true]; intro hc; rw [(HIF.out.1 hc).1] at h1; cases h1)
    subst HB
    clear h1
    go_enter Try.func5, Try.ntmps5
    go_wp2_with (go_at_call 18; refine (HCN.out _ _ HE.out inferInstance inferInstance).mono ?_; rintro e w1 ⟨rfl, δ, rfl⟩)
    go_ret
    exact ⟨rfl, lat_ex⟩
  have HE : Hid (errOf (valid s.net) 20 = 0) := by unfold Hid; rw [h1]; rfl
  have HV1 := Lib.hid h1
  clear h1
  rcases h2 : seaOk s.sea with _ | _
  · have HE2 : Hid (errOf (seaOk s.sea) 50 = 50) := by unfold Hid; rw [h2]; rfl
    have HB : v = 130 := bad.out (by rw [← Bool.not_eq_true]; intro hc; rw [(HIF.out.1 hc).2.1] at h2; cases h2)
    subst HB
    clear h2
    go_enter Try.func5, Try.ntmps5
    go_upto_region 1 with fail
    refine wp_name fun W1 hW1 => ?_
    have iw1 : Le B W1 := by rw [hW1.out]; infer_instance
    have iw2 : Grew B w W1 := by rw [hW1.out]; infer_instance
    have iw3 : Le w.heap.size W1 := by rw [hW1.out]; infer_instance
    have iw4 : Grew w.heap.size w W1 := by rw [hW1.out]; infer_instance
    have iw5 : Lt (w.heap.size) W1 := by rw [hW1.out]; infer_instance
    have X1 : Hid (Box W1 w.heap.size 36 (seasonA r s)) := by rw [hW1.out]; exact Lib.hid (Box.new rfl)
    obtain ⟨c0, c1, c2, c3, c4, c5, c6, c7, c8, c9, c10, c11, c12, c13, c14⟩ := X1.out.season
    clear hW1
    go_wp2_with (first
      | (go_at_call 18; refine (HCN.out _ _ HE.out inferInstance inferInstance).mono ?_; rintro e w1 ⟨rfl, δ, rfl⟩)
      | (go_at_call 19; refine (HCS.out _ _ HE2.out inferInstance inferInstance).mono ?_; rintro e w1 ⟨rfl, δ2, rfl⟩))
    go_ret
    exact ⟨rfl, lat_ex⟩
  have HE2 : Hid (errOf (seaOk s.sea) 50 = 0) := by unfold Hid; rw [h2]; rfl
  have HV2 := Lib.hid h2
  clear h2
  rcases h3 : inB 1 4 (s.skies.length : Int) with _ | _
  · have HE3 := Lib.hid h3
    have HB : v = 130 := bad.out (by rw [← Bool.not_eq_true]; intro hc; have := (HIF.out.1 hc).2.2.1; rw [inB_iff.2 (by omega)] at h3; cases h3)
    subst HB
    clear h3
    go_enter Try.func5, Try.ntmps5
    go_upto_region 1 with fail
    refine wp_name fun W1 hW1 => ?_
    have iw6 : Le B W1 := by rw [hW1.out]; infer_instance
    have iw7 : Grew B w W1 := by rw [hW1.out]; infer_instance
    have iw8 : Le w.heap.size W1 := by rw [hW1.out]; infer_instance
    have iw9 : Grew w.heap.size w W1 := by rw [hW1.out]; infer_instance
    have iw10 : Lt (w.heap.size) W1 := by rw [hW1.out]; infer_instance
    have X1 : Hid (Box W1 w.heap.size 36 (seasonA r s)) := by rw [hW1.out]; exact Lib.hid (Box.new rfl)
    obtain ⟨c0, c1, c2, c3, c4, c5, c6, c7, c8, c9, c10, c11, c12, c13, c14⟩ := X1.out.season
    clear hW1
    go_wp2_with (first
      | (go_at_call 18; refine (HCN.out _ _ HE.out inferInstance inferInstance).mono ?_; rintro e w1 ⟨rfl, δ, rfl⟩)
      | (go_at_call 19; refine (HCS.out _ _ HE2.out inferInstance inferInstance).mono ?_; rintro e w1 ⟨rfl, δ2, rfl⟩)
      | (go_at_call 20; (with_reducible refine Calls.mono (within13_is HE3.out _) ?_); rintro e w1 ⟨rfl, rfl⟩))
    go_ret
    exact ⟨rfl, lat_ex⟩
  have HE3 := Lib.hid h3
  have hs4 := inB_iff.1 h3
  clear h3
  by_cases h4' : s.follows.length = s.skies.length
  case neg =>
    have hne : ((s.follows.length : Int) != (s.skies.length : Int)) = true := by simp; omega
    have HB : v = 130 := bad.out (by rw [← Bool.not_eq_true]; intro hc; exact h4' (HIF.out.1 hc).2.2.2.1)
    subst HB
    clear h4'
    go_enter Try.func5, Try.ntmps5
    go_upto_region 1 with fail
    refine wp_name fun W1 hW1 => ?_
    have iw11 : Le B W1 := by rw [hW1.out]; infer_instance
    have iw12 : Grew B w W1 := by rw [hW1.out]; infer_instance
    have iw13 : Le w.heap.size W1 := by rw [hW1.out]; infer_instance
    have iw14 : Grew w.heap.size w W1 := by rw [hW1.out]; infer_instance
    have iw15 : Lt (w.heap.size) W1 := by rw [hW1.out]; infer_instance
    have X1 : Hid (Box W1 w.heap.size 36 (seasonA r s)) := by rw [hW1.out]; exact Lib.hid (Box.new rfl)
    obtain ⟨c0, c1, c2, c3, c4, c5, c6, c7, c8, c9, c10, c11, c12, c13, c14⟩ := X1.out.season
    clear hW1
    go_wp2_with (first
      | (go_at_call 18; refine (HCN.out _ _ HE.out inferInstance inferInstance).mono ?_; rintro e w1 ⟨rfl, δ, rfl⟩)
      | (go_at_call 19; refine (HCS.out _ _ HE2.out inferInstance inferInstance).mono ?_; rintro e w1 ⟨rfl, δ2, rfl⟩)
      | (go_at_call 20; (with_reducible refine Calls.mono (within13_is HE3.out _) ?_); rintro e w1 ⟨rfl, rfl⟩))
    go_ret
    exact ⟨rfl, lat_ex⟩
  have hneq : ((s.follows.length : Int) != (s.skies.length : Int)) = false := by simp; omega
  have HF4 := Lib.hid h4'
  clear h4'
  rcases h5 : areSk s.skies.length s.first with _ | _
  · have HE5 := Lib.hid h5
    have HB : v = 130 := bad.out (by rw [← Bool.not_eq_true]; intro hc; rw [(HIF.out.1 hc).2.2.2.2.1] at h5; cases h5)
    subst HB
    clear h5
    go_enter Try.func5, Try.ntmps5
    go_upto_region 1 with fail
    refine wp_name fun W1 hW1 => ?_
    have iw16 : Le B W1 := by rw [hW1.out]; infer_instance
    have iw17 : Grew B w W1 := by rw [hW1.out]; infer_instance
    have iw18 : Le w.heap.size W1 := by rw [hW1.out]; infer_instance
    have iw19 : Grew w.heap.size w W1 := by rw [hW1.out]; infer_instance
    have iw20 : Lt (w.heap.size) W1 := by rw [hW1.out]; infer_instance
    have X1 : Hid (Box W1 w.heap.size 36 (seasonA r s)) := by rw [hW1.out]; exact Lib.hid (Box.new rfl)
    obtain ⟨c0, c1, c2, c3, c4, c5, c6, c7, c8, c9, c10, c11, c12, c13, c14⟩ := X1.out.season
    clear hW1
    go_wp2_with (first
      | (refine wpList_loadBw rowSeason (by rfl) _ rfl rfl X1.out rfl ?_)
      | (go_at_call 18; refine (HCN.out _ _ HE.out inferInstance inferInstance).mono ?_; rintro e w1 ⟨rfl, δ, rfl⟩)
      | (go_at_call 19; refine (HCS.out _ _ HE2.out inferInstance inferInstance).mono ?_; rintro e w1 ⟨rfl, δ2, rfl⟩)
      | (go_at_call 20; (with_reducible refine Calls.mono (within13_is HE3.out _) ?_); rintro e w1 ⟨rfl, rfl⟩)
      | (go_at_call 21; (with_reducible refine Calls.mono (HCF.out _ _ HE5.out inferInstance inferInstance) ?_); rintro e w1 ⟨rfl, δ3, rfl⟩))
    go_ret
    exact ⟨rfl, lat_ex⟩
  have HE5 := Lib.hid h5
  have HVF := Lib.hid h5
  clear h5
  by_cases h6 : 5 < s.days.length
  · have h6i : (5 : Int) < (s.days.length : Int) := by omega
    have HB : v = 130 := bad.out (by rw [← Bool.not_eq_true]; intro hc; have := (HIF.out.1 hc).2.2.2.2.2.1; omega)
    subst HB
    clear h6
    go_enter Try.func5, Try.ntmps5
    go_upto_region 1 with fail
    refine wp_name fun W1 hW1 => ?_
    have iw21 : Le B W1 := by rw [hW1.out]; infer_instance
    have iw22 : Grew B w W1 := by rw [hW1.out]; infer_instance
    have iw23 : Le w.heap.size W1 := by rw [hW1.out]; infer_instance
    have iw24 : Grew w.heap.size w W1 := by rw [hW1.out]; infer_instance
    have iw25 : Lt (w.heap.size) W1 := by rw [hW1.out]; infer_instance
    have X1 : Hid (Box W1 w.heap.size 36 (seasonA r s)) := by rw [hW1.out]; exact Lib.hid (Box.new rfl)
    obtain ⟨c0, c1, c2, c3, c4, c5, c6, c7, c8, c9, c10, c11, c12, c13, c14⟩ := X1.out.season
    clear hW1
    go_wp2_with (first
      | (refine wpList_loadBw rowSeason (by rfl) _ rfl rfl X1.out rfl ?_)
      | (go_at_call 18; refine (HCN.out _ _ HE.out inferInstance inferInstance).mono ?_; rintro e w1 ⟨rfl, δ, rfl⟩)
      | (go_at_call 19; refine (HCS.out _ _ HE2.out inferInstance inferInstance).mono ?_; rintro e w1 ⟨rfl, δ2, rfl⟩)
      | (go_at_call 20; (with_reducible refine Calls.mono (within13_is HE3.out _) ?_); rintro e w1 ⟨rfl, rfl⟩)
      | (go_at_call 21; (with_reducible refine Calls.mono (HCF.out _ _ HE5.out inferInstance inferInstance) ?_); rintro e w1 ⟨rfl, δ3, rfl⟩))
    go_ret
    exact ⟨rfl, lat_ex⟩
  have h6i : ¬ (5 : Int) < (s.days.length : Int) := by omega
  have h6d : decide ((5 : Int) < (s.days.length : Int)) = false := decide_eq_false h6i
  have HF6 : Hid (s.days.length ≤ 5) := Lib.hid (by omega)
  clear h6
  go_enter Try.func5, Try.ntmps5
  go_upto_region 1 with fail
  refine wp_name fun W1 hW1 => ?_
  have iw26 : Le B W1 := by rw [hW1.out]; infer_instance
  have iw27 : Grew B w W1 := by rw [hW1.out]; infer_instance
  have iw28 : Le w.heap.size W1 := by rw [hW1.out]; infer_instance
  have iw29 : Grew w.heap.size w W1 := by rw [hW1.out]; infer_instance
  have iw30 : Lt (w.heap.size) W1 := by rw [hW1.out]; infer_instance
  have X1 : Hid (Box W1 w.heap.size 36 (seasonA r s)) := by rw [hW1.out]; exact Lib.hid (Box.new rfl)
  obtain ⟨c0, c1, c2, c3, c4, c5, c6, c7, c8, c9, c10, c11, c12, c13, c14⟩ := X1.out.season
  clear hW1
  go_upto_region 4 with (first
      | (refine wpList_loadBw rowSeason (by rfl) _ rfl rfl X1.out rfl ?_)
      | (go_at_call 18; refine (HCN.out _ _ HE.out inferInstance inferInstance).mono ?_; rintro e w1 ⟨rfl, δ, rfl⟩)
      | (go_at_call 19; refine (HCS.out _ _ HE2.out inferInstance inferInstance).mono ?_; rintro e w1 ⟨rfl, δ2, rfl⟩)
      | (go_at_call 20; (with_reducible refine Calls.mono (within13_is HE3.out _) ?_); rintro e w1 ⟨rfl, rfl⟩)
      | (go_at_call 21; (with_reducible refine Calls.mono (HCF.out _ _ HE5.out inferInstance inferInstance) ?_); rintro e w1 ⟨rfl, δ3, rfl⟩))
  obtain ⟨V, hV⟩ : ∃ V, lat (lat (lat W1 δ) δ2) δ3 = V := ⟨_, rfl⟩
  rw [hV]
  have v1 : Le B V := by rw [← hV]; infer_instance
  have v2 : Grew B w V := by rw [← hV]; infer_instance
  have v3 : Le w.heap.size V := by rw [← hV]; infer_instance
  have v4 : Grew w.heap.size w V := by rw [← hV]; infer_instance
  have X2 : Hid (Box V w.heap.size 36 (seasonA r s)) := by rw [← hV]; exact Lib.hid (((X1.out.lat _).lat _).lat _)
  have v5 : Lt w.heap.size V := X2.out.lt
  clear hV X1 c0 c1 c2 c3 c4 c5 c6 c7 c8 c9 c10 c11 c12 c13 c14 HCN HCS HCF HE HE2 HE3 HE5
  obtain ⟨c0, c1, c2, c3, c4, c5, c6, c7, c8, c9, c10, c11, c12, c13, c14⟩ := X2.out.season
  clear c0 c1 c2 c3 c4 c5 c6 c7 c8 c9 c10 c13
  go_loopg [3] s.skies.length (fun g i wr => ∃ (k : Nat) (δ : World), k ≤ s.skies.length ∧ g = s.skies.length - k ∧ i = .int .i64 k ∧ Hid (okSkies s.skies k = true ∧ okFol s.skies.length s.follows k = true) ∧ wr = lat V δ)
  case atStart => exact ⟨0, V, Nat.zero_le _, rfl, rfl, ⟨rfl, rfl⟩, (lat_refl V).symm⟩
  case round =>
    obtain ⟨k, δ4, hk, rfl, rfl, HT, rfl⟩ := hrel
    by_cases hlt : k < s.skies.length
    · obtain ⟨b, o, hA, hb, d0, d1, d2, d3⟩ := (H.out.skies.up (w' := V)).sky hlt
      obtain ⟨bf, of_, A', c', hF, hbf, e0, hSF⟩ := (H.out.follows.up (w' := V)).at_ (k := k) (by have := HF4.out; omega)
      rw [hA] at c11
      rw [hF] at c12
      have hfe : s.follows[k]'(by have := HF4.out; omega) = nth s.follows k := (nth_get _ _).symm
      rw [hfe] at e0 hSF
      have ib : Lt b V := ⟨Nat.lt_of_lt_of_le hb v1.out⟩
      have ibf : Lt bf V := ⟨Nat.lt_of_lt_of_le hbf v1.out⟩
      have hki : (k : Int) < (s.skies.length : Int) := by omega
      have hk0 : ¬ (k : Int) < 0 := by omega
      have hkf : (k : Int) < (s.follows.length : Int) := by have := HF4.out; omega
      have HSU := Lib.hid (okSkies_succ s.skies k)
      have HFU := Lib.hid (okFol_succ s.skies.length s.follows k)
      have HNO : Hid (okSky (nth s.skies k) = false → v = 130) := Lib.hid fun hn => bad.out (by rw [← Bool.not_eq_true]; intro hc; rw [okSkies_at (HIF.out.1 hc).2.2.2.2.2.2.1 hlt] at hn; cases hn)
      have HNF : Hid (areSk s.skies.length (nth s.follows k) = false → v = 130) := Lib.hid fun hn => bad.out (by rw [← Bool.not_eq_true]; intro hc; rw [okFol_at (HIF.out.1 hc).2.2.2.2.2.2.2.1 hlt] at hn; cases hn)
      obtain ⟨q, hq⟩ : ∃ q, nth s.skies k = q := ⟨_, rfl⟩
      obtain ⟨f, hf⟩ : ∃ f, nth s.follows k = f := ⟨_, rfl⟩
      rw [hq] at d0 d1 d2 d3 HSU HNO
      rw [hf] at e0 hSF HFU HNF
      have HXB : Hid (∀ w', (∃ δ', w' = lat (lat V δ4) δ') → Box w' w.heap.size 36 (seasonA r s)) := Lib.hid fun w' hw' => by obtain ⟨δ', rfl⟩ := hw'; exact (X2.out.lat _).lat _
      have HSF := Lib.hid hSF
      have HCL : Hid (∀ (b : Bool) (m : World), areSk s.skies.length f = b → Calls Try.prog 21 #[seasonV r s, .slice A' f.length c'] (lat (lat V δ4) m) fun e w' => e = .returned (.bool b) ∧ ∃ δ, w' = lat (lat (lat V δ4) m) δ) := Lib.hid fun b m hb => by subst hb; exact areSkies_c r s A' c' f B _ HSF.out.up H4.out.1
      clear hSF hq hf hfe hA hF hb hbf
      rcases ha : okSp 20 q.wind with _ | _
      · have Fa := Lib.hid ha
        have HB : v = 130 := HNO.out (by unfold okSky; rw [ha]; rfl)
        subst HB
        clear ha
        go_wp2_with (fail)
        refine wp_region_lat (by kernel_rfl) (by kernel_rfl) ?_
        repeat (first | go_big_quiet_skip | (refine wpQuiet_loadB rowSeason (by kernel_rfl) _ rfl rfl HXB.out rfl ?_; simp only [Act.put, List.setIfInBounds_toArray, List.set_cons_zero, List.set_cons_succ]) | (go_big_quiet_step ((first | (go_at_call 22; exact Calls.lat_of (isSpan13_is Fa.out _))))))
        refine wpQuiet_nil ?_
        rintro _ ⟨δq, rfl⟩
        go_wp2_with (fail)
        go_ret
        exact ⟨rfl, lat_ex⟩
      have Fa := Lib.hid ha
      rcases hb : okSp 20 q.cur with _ | _
      · have Fb := Lib.hid hb
        have HB : v = 130 := HNO.out (by unfold okSky; rw [hb, Bool.and_false])
        subst HB
        clear ha hb
        go_wp2_with (fail)
        refine wp_region_lat (by kernel_rfl) (by kernel_rfl) ?_
        repeat (first | go_big_quiet_skip | (refine wpQuiet_loadB rowSeason (by kernel_rfl) _ rfl rfl HXB.out rfl ?_; simp only [Act.put, List.setIfInBounds_toArray, List.set_cons_zero, List.set_cons_succ]) | (go_big_quiet_step ((first | (go_at_call 22; with_reducible exact Calls.lat_of (isSpan13_is Fa.out _)) | (go_at_call 22; with_reducible exact Calls.lat_of (isSpan13_is Fb.out _))))))
        refine wpQuiet_nil ?_
        rintro _ ⟨δq, rfl⟩
        go_wp2_with (fail)
        go_ret
        exact ⟨rfl, lat_ex⟩
      have Fb := Lib.hid hb
      have HO : Hid (okSky q = true) := Lib.hid (by unfold okSky; rw [ha, hb]; rfl)
      clear ha hb
      rcases hc : areSk s.skies.length f with _ | _
      · have Fc := Lib.hid hc
        have HB : v = 130 := HNF.out hc
        subst HB
        clear hc
        go_wp2_with (fail)
        refine wp_region_lat (by kernel_rfl) (by kernel_rfl) ?_
        repeat (first | go_big_quiet_skip | (refine wpQuiet_loadB rowSeason (by kernel_rfl) _ rfl rfl HXB.out rfl ?_; simp only [Act.put, List.setIfInBounds_toArray, List.set_cons_zero, List.set_cons_succ]) | (go_big_quiet_step ((first | (go_at_call 22; with_reducible exact Calls.lat_of (isSpan13_is Fa.out _)) | (go_at_call 22; with_reducible exact Calls.lat_of (isSpan13_is Fb.out _)) | (go_at_call 21; exact Calls.lat_of (HCL.out _ _ Fc.out))))))
        refine wpQuiet_nil ?_
        rintro _ ⟨δq, rfl⟩
        go_wp2_with (fail)
        go_ret
        exact ⟨rfl, lat_ex⟩
      · have Fc := Lib.hid hc
        clear hc
        go_wp2_with (fail)
        refine wp_region_lat (by kernel_rfl) (by kernel_rfl) ?_
        repeat (first | go_big_quiet_skip | (refine wpQuiet_loadB rowSeason (by kernel_rfl) _ rfl rfl HXB.out rfl ?_; simp only [Act.put, List.setIfInBounds_toArray, List.set_cons_zero, List.set_cons_succ]) | (go_big_quiet_step ((first | (go_at_call 22; with_reducible exact Calls.lat_of (isSpan13_is Fa.out _)) | (go_at_call 22; with_reducible exact Calls.lat_of (isSpan13_is Fb.out _)) | (go_at_call 21; exact Calls.lat_of (HCL.out _ _ Fc.out))))))
        refine wpQuiet_nil ?_
        rintro _ ⟨δq, rfl⟩
        go_wp2_with (fail)
        go_roundg (s.skies.length - (k + 1))
        case measure => omega
        case rel => exact ⟨k + 1, _, hlt, rfl, by go_num, ⟨by rw [HSU.out, HT.out.1, HO.out]; rfl, by rw [HFU.out, HT.out.2, Fc.out]; rfl⟩, lat_def⟩
    · obtain rfl : k = s.skies.length := by omega
      go_wp2_with (fail)
      go_loopg [4] s.days.length (fun g i wr => ∃ (k : Nat) (δ : World), k ≤ s.days.length ∧ g = s.days.length - k ∧ i = .int .i64 k ∧ Hid (okDays s.days k = true) ∧ wr = lat V δ)
      case atStart => exact ⟨0, δ4, Nat.zero_le _, rfl, rfl, rfl, rfl⟩
      case round =>
        obtain ⟨k, δ5, hk5, rfl, rfl, HD, rfl⟩ := hrel
        by_cases hlt5 : k < s.days.length
        · obtain ⟨b, o, hA, hb, d0, d1⟩ := (H.out.days.up (w' := V)).sp hlt5
          rw [hA] at c14
          have ib : Lt b V := ⟨Nat.lt_of_lt_of_le hb v1.out⟩
          have hki : (k : Int) < (s.days.length : Int) := by omega
          have hk0 : ¬ (k : Int) < 0 := by omega
          have HDU := Lib.hid (okDays_succ s.days k)
          have HND : Hid (okSp 2000 (nth s.days k) = false → v = 130) := Lib.hid fun hn => bad.out (by rw [← Bool.not_eq_true]; intro hc; rw [okDays_at (HIF.out.1 hc).2.2.2.2.2.2.2.2 hlt5] at hn; cases hn)
          obtain ⟨q, hq⟩ : ∃ q, nth s.days k = q := ⟨_, rfl⟩
          rw [hq] at d0 d1 HDU HND
          clear hq hA hb
          rcases ha : okSp 2000 q with _ | _
          · have Fa := Lib.hid ha
            have HB : v = 130 := HND.out ha
            subst HB
            clear ha
            go_wp2_with (go_at_call 22; refine (isSpan13_is Fa.out _).mono ?_; rintro e w1 ⟨rfl, δ6, rfl⟩)
            go_ret
            exact ⟨rfl, lat_ex⟩
          · have Fa := Lib.hid ha
            clear ha
            go_wp2_with (go_at_call 22; refine (isSpan13_is Fa.out _).mono ?_; rintro e w1 ⟨rfl, δ6, rfl⟩)
            go_roundg (s.days.length - (k + 1))
            case measure => omega
            case rel => exact ⟨k + 1, _, hlt5, rfl, by go_num, by rw [Hid, HDU.out, HD.out, Fa.out]; rfl, lat_def⟩
        · obtain rfl : k = s.days.length := by omega
          have HB : Hid (v = 0) := Lib.hid (by rw [← HV.out, HIF.out.2 ⟨HV1.out, HV2.out, by omega, HF4.out, HVF.out, HF6.out, HT.out.1, HT.out.2, HD.out⟩]; rfl)
          go_wp2_with (fail)
          go_ret
          exact ⟨ret_int HB.out.symm, lat_ex⟩
end Go.Proofs.Ytnddiloeikaleaa
namespace Go.Proofs.Ytnddiloeikaleaa
open Go.RowKit
open An
open Tc

theorem pWithin_is {n low high : Int} {b : Bool} (hb : inB low high n = b) (w : World) :
    Calls Try.prog 49 #[.int .i64 n, .int .i64 low, .int .i64 high] w fun e w' => e = .returned (.bool b) ∧ w = w' := by
  subst hb
  go_enter Try.func49, Try.ntmps49
  by_cases h1 : low ≤ n
  · go_wp2
    go_ret
    exact ⟨ret_bool (by simp [inB, h1]), rfl⟩
  · go_wp2
    go_ret
    exact ⟨ret_bool (by simp [inB]; omega), rfl⟩
theorem pSpan_is {s : Sp} {m : Int} (hb : okSp m s = true) (w : World) :
    Calls Try.prog 64 #[.agg #[.int .i64 s.lo, .int .i64 s.hi], .int .i64 m] w fun e w' => e = .returned (.bool true) ∧ ∃ δ, w' = lat w δ := by
  obtain ⟨h1, h2, h3⟩ := okSp_iff.1 hb
  have F := Lib.hid (inB_iff.2 ⟨h1, h2⟩ : inB 0 s.hi s.lo = true)
  have h3i : s.hi ≤ m := h3
  have h3d : decide (s.hi ≤ m) = true := decide_eq_true h3
  clear hb
  go_enter Try.func64, Try.ntmps64
  go_wp2_with (go_at_call 49; (with_reducible refine Calls.mono (pWithin_is F.out _) ?_); rintro e w1 ⟨rfl, rfl⟩)
  go_ret
  exact ⟨rfl, lat_ex⟩
set_option maxRecDepth 100000 in
set_option maxHeartbeats 4000000 in
theorem pSkies_c (g : Nat) (r : SeasonR) (s : Season) (A : Option Addr) (c : Nat) (l : List Int) (B : Nat) (w : World) [hB : Le B w] (h : Sl encI B w A c l) (ha : areSk s.skies.length l = true) (hX : Box w g 36 (seasonA r s)) (hk : s.skies.length ≤ 40) :
    Calls Try.prog 62 #[.slice A l.length c, .pointer (some ⟨g, 0, none⟩)] w fun e w' => e = .returned (.bool true) ∧ ∃ δ, w' = lat w δ := by
  have hl := h.len
  unfold areSk at ha
  rw [Bool.and_eq_true, decide_eq_true_eq] at ha
  have h0i : (0 : Int) < (l.length : Int) := by omega
  have h0d : decide ((0 : Int) < (l.length : Int)) = true := decide_eq_true h0i
  have HR := Lib.hid ha.2
  have c11 := hX.season.2.2.2.2.2.2.2.2.2.2.2.1
  have ig : Lt g w := hX.lt
  have hw : IntKind.i64.wrap ((s.skies.length : Int) - 1) = (s.skies.length : Int) - 1 := IntWalk.i64_in _ (by omega)
  have H := Lib.hid h
  clear ha hX h
  go_enter Try.func62, Try.ntmps62
  go_wp2_with (fail)
  go_loopg [4, 5, 8] l.length (fun gg z1 z2 i wr => ∃ (k : Nat) (δ : World), k ≤ l.length ∧ gg = l.length - k ∧ i = .int .i64 k ∧ wr = lat w δ)
  case atStart => exact ⟨0, w, Nat.zero_le _, rfl, rfl, (lat_refl w).symm⟩
  case round =>
    obtain ⟨k, δ, hk2, rfl, rfl, rfl⟩ := hrel
    by_cases hlt : k < l.length
    · obtain ⟨b, o, rfl, hb, d0⟩ := H.out.int hlt
      have ib : Lt b w := ⟨Nat.lt_of_lt_of_le hb hB.out⟩
      have hki : (k : Int) < (l.length : Int) := by omega
      have hk0 : ¬ (k : Int) < 0 := by omega
      have hq := List.all_eq_true.1 HR.out k (List.mem_range.2 hlt)
      rw [Bool.and_eq_true, Bool.or_eq_true, decide_eq_true_eq, decide_eq_true_eq] at hq
      have F := Lib.hid hq.1
      rcases Nat.eq_zero_or_pos k with h0 | h0
      · subst h0
        rw [Nat.add_zero] at d0
        clear hq
        go_wp2_with (go_at_call 49; (with_reducible refine Calls.mono (pWithin_is F.out _) ?_); rintro e w1 ⟨rfl, rfl⟩)
        go_roundg (l.length - 1)
        case measure => omega
        case rel => exact ⟨1, _, by omega, rfl, by go_num, lat_def⟩
      · obtain ⟨j, rfl⟩ : ∃ j, k = j + 1 := ⟨k - 1, by omega⟩
        obtain ⟨b', o', hA', hb', d1⟩ := H.out.int (show j < l.length by omega)
        injection hA' with hA'
        injection hA' with hA1 hA2
        subst hA1 hA2
        have hq2 : nth l j < nth l (j + 1) := by rcases hq.2 with h | h; omega; rwa [Nat.add_sub_cancel] at h
        have hdn : decide (nth l (j + 1) ≤ nth l j) = false := decide_eq_false (by omega)
        have hdm : ¬ nth l (j + 1) ≤ nth l j := by omega
        have hj0 : ¬ ((j : Int) < 0) := by omega
        have hj1 : (j : Int) < (l.length : Int) := by omega
        have hjp : (0 : Int) < (j : Int) + 1 := by omega
        have hjd : decide ((0 : Int) < (j : Int) + 1) = true := decide_eq_true hjp
        clear hq hq2
        go_wp2_with (go_at_call 49; (with_reducible refine Calls.mono (pWithin_is F.out _) ?_); rintro e w1 ⟨rfl, rfl⟩)
        go_roundg (l.length - (j + 1 + 1))
        case measure => omega
        case rel => exact ⟨j + 1 + 1, _, by omega, rfl, by go_num, lat_def⟩
    · obtain rfl : k = l.length := by omega
      go_wp2_with (fail)
      go_ret
      exact ⟨ret_bool (by first | rfl | (simp; omega) | simp), lat_ex⟩
end Go.Proofs.Ytnddiloeikaleaa
namespace Go.Proofs.Ytnddiloeikaleaa
open Go.RowKit
open An
open Tc

theorem Box.upg {w W : World} {b : Nat} {T : TypeId} {cs : Array Value} (h : Box w b T cs) [hg : Grew w.heap.size w W] : Box W b T cs := (hg.out.2.2.2 b h.lt_).trans h
set_option maxRecDepth 100000 in
set_option maxHeartbeats 4000000 in
theorem pSeason_c (r : SeasonR) (s : Season) (hv : seasonOk s = true) (B : Nat) (w : World) [hB : Le B w] (h : SeasonIs B w r s) :
    Calls Try.prog 46 #[seasonV r s] w fun e w' => e = .returned (.int .i64 0) ∧ ∃ δ, w' = lat w δ := by
  obtain ⟨k1, k2, k3, k4, k5, k6, k7, k8, k9⟩ := seasonOk_iff.1 hv
  obtain ⟨nr, sr, kA, kc, fA, fc, iA, ic, dA, dc⟩ := r
  have H := Lib.hid h
  have h40 : s.skies.length ≤ 40 := by omega
  have HCN : Hid (∀ (W : World), Grew B w W → Le B W → Calls Try.prog 31 #[netV nr s.net] W fun e w' => e = .returned (.int .i64 0) ∧ ∃ δ, w' = lat W δ) := Lib.hid fun W i1 i2 => by have := check_c nr s.net B W H.out.net.up; rw [k1] at this; exact this
  have HCS : Hid (∀ (W : World), Grew B w W → Le B W → Calls Try.prog 63 #[seaV sr s.sea] W fun e w' => e = .returned (.int .i64 0) ∧ ∃ δ, w' = lat W δ) := Lib.hid fun W i1 i2 => lCheck_c sr s.sea k2 B W H.out.sea.up
  have HCF : Hid (∀ (g : Nat) (A : Option Addr) (c : Nat) (l : List Int) (W : World), Sl encI B W A c l → areSk s.skies.length l = true → Box W g 36 (seasonA ⟨nr, sr, kA, kc, fA, fc, iA, ic, dA, dc⟩ s) → Le B W → Calls Try.prog 62 #[.slice A l.length c, .pointer (some ⟨g, 0, none⟩)] W fun e w' => e = .returned (.bool true) ∧ ∃ δ, w' = lat W δ) := Lib.hid fun g A c l W a1 a2 a3 i2 => pSkies_c g ⟨nr, sr, kA, kc, fA, fc, iA, ic, dA, dc⟩ s A c l B W a1 a2 a3 h40
  have F3 : Hid (inB 1 4 (s.skies.length : Int) = true) := Lib.hid (inB_iff.2 (by omega))
  have hneq : ((s.follows.length : Int) != (s.skies.length : Int)) = false := by simp; omega
  have h6i : ¬ (5 : Int) < (s.days.length : Int) := by omega
  have h6d : decide ((5 : Int) < (s.days.length : Int)) = false := decide_eq_false h6i
  have K4 := Lib.hid k4
  have K5 := Lib.hid k5
  have K7 := Lib.hid k7
  have K8 := Lib.hid k8
  have K9 := Lib.hid k9
  clear hv h k1 k2 k3 k4 k5 k7 k8 k9
  go_enter Try.func46, Try.ntmps46
  go_upto_region 2 with fail
  refine wp_name fun W1 hW1 => ?_
  have iw1 : Le B W1 := by rw [hW1.out]; infer_instance
  have iw2 : Grew B w W1 := by rw [hW1.out]; infer_instance
  have iw3 : Le w.heap.size W1 := by rw [hW1.out]; infer_instance
  have iw4 : Grew w.heap.size w W1 := by rw [hW1.out]; infer_instance
  have iw5 : Lt (w.heap.size) W1 := by rw [hW1.out]; infer_instance
  have X1 : Hid (Box W1 w.heap.size 36 (seasonA ⟨nr, sr, kA, kc, fA, fc, iA, ic, dA, dc⟩ s)) := by rw [hW1.out]; exact Lib.hid (Box.new rfl)
  obtain ⟨c0, c1, c2, c3, c4, c5, c6, c7, c8, c9, c10, c11, c12, c13, c14⟩ := X1.out.season
  dsimp only at c4 c5 c6 c9 c10 c11 c12 c13 c14
  clear hW1
  go_upto_region 4 with (first
    | (go_at_call 31; refine (HCN.out _ inferInstance inferInstance).mono ?_; rintro e w1 ⟨rfl, δ, rfl⟩)
    | (go_at_call 63; refine (HCS.out _ inferInstance inferInstance).mono ?_; rintro e w1 ⟨rfl, δ2, rfl⟩)
    | (go_at_call 49; (with_reducible refine Calls.mono (pWithin_is F3.out _) ?_); rintro e w1 ⟨rfl, rfl⟩)
    | (go_at_call 62; refine (HCF.out _ _ _ s.first _ H.out.first.up K5.out ((X1.out.lat _).lat _) inferInstance).mono ?_; rintro e w1 ⟨rfl, δ3, rfl⟩))
  obtain ⟨V, hV⟩ : ∃ V, lat (lat (lat W1 δ) δ2) δ3 = V := ⟨_, rfl⟩
  rw [hV]
  have v1 : Le B V := by rw [← hV]; infer_instance
  have v2 : Grew B w V := by rw [← hV]; infer_instance
  have v3 : Le w.heap.size V := by rw [← hV]; infer_instance
  have v4 : Grew w.heap.size w V := by rw [← hV]; infer_instance
  have X2 : Hid (Box V w.heap.size 36 (seasonA ⟨nr, sr, kA, kc, fA, fc, iA, ic, dA, dc⟩ s)) := by rw [← hV]; exact Lib.hid (((X1.out.lat _).lat _).lat _)
  have v5 : Lt w.heap.size V := X2.out.lt
  clear hV X1 c0 c1 c2 c3 c4 c5 c6 c7 c8 c9 c10 c11 c12 c13 c14 HCN HCS F3 K5
  obtain ⟨c0, c1, c2, c3, c4, c5, c6, c7, c8, c9, c10, c11, c12, c13, c14⟩ := X2.out.season
  dsimp only at c4 c5 c6 c9 c10 c11 c12 c13 c14
  clear c0 c1 c2 c3 c4 c5 c6 c7 c8 c9 c10 c13
  go_wp2_with (fail)
  go_loopg [4, 5, 51] s.skies.length (fun g z1 z2 i wr => ∃ (k : Nat) (δ : World), k ≤ s.skies.length ∧ g = s.skies.length - k ∧ i = .int .i64 k ∧ wr = lat V δ)
  case atStart => exact ⟨0, V, Nat.zero_le _, rfl, rfl, (lat_refl V).symm⟩
  case round =>
    obtain ⟨k, δ4, hk, rfl, rfl, rfl⟩ := hrel
    by_cases hlt : k < s.skies.length
    · obtain ⟨b, o, hA, hb, d0, d1, d2, d3⟩ := (H.out.skies.up (w' := V)).sky hlt
      obtain ⟨bf, of_, A', c', hF, hbf, e0, hSF⟩ := (H.out.follows.up (w' := V)).at_ (k := k) (by have := K4.out; omega)
      have hA : kA = some ⟨b, o, none⟩ := hA
      have hF : fA = some ⟨bf, of_, none⟩ := hF
      subst hA hF
      have hfe : s.follows[k]'(by have := K4.out; omega) = nth s.follows k := (nth_get _ _).symm
      rw [hfe] at e0 hSF
      have ib : Lt b V := ⟨Nat.lt_of_lt_of_le hb v1.out⟩
      have ibf : Lt bf V := ⟨Nat.lt_of_lt_of_le hbf v1.out⟩
      have hki : (k : Int) < (s.skies.length : Int) := by omega
      have hk0 : ¬ (k : Int) < 0 := by omega
      have hkf : (k : Int) < (s.follows.length : Int) := by have := K4.out; omega
      have hsk := okSkies_at K7.out hlt
      unfold okSky at hsk
      rw [Bool.and_eq_true] at hsk
      have HF := Lib.hid (okFol_at K8.out hlt)
      obtain ⟨q, hq⟩ : ∃ q, nth s.skies k = q := ⟨_, rfl⟩
      obtain ⟨f, hf⟩ : ∃ f, nth s.follows k = f := ⟨_, rfl⟩
      rw [hq] at d0 d1 d2 d3 hsk
      rw [hf] at e0 hSF HF
      have Fa := Lib.hid hsk.1
      have Fb := Lib.hid hsk.2
      have HSF := Lib.hid hSF
      clear hSF hq hf hfe hb hbf hsk
      go_wp2_with (first
        | (go_at_call 64; (first | (with_reducible refine Calls.mono (pSpan_is Fa.out _) ?_) | (with_reducible refine Calls.mono (pSpan_is Fb.out _) ?_)); rintro e w1 ⟨rfl, δ5, rfl⟩)
        | (go_at_call 62; refine (HCF.out _ _ _ f _ HSF.out.up HF.out (Box.upg X2.out) inferInstance).mono ?_; rintro e w1 ⟨rfl, δ7, rfl⟩))
      go_roundg (s.skies.length - (k + 1))
      case measure => omega
      case rel => exact ⟨k + 1, _, hlt, rfl, by go_num, lat_def⟩
    · obtain rfl : k = s.skies.length := by omega
      go_wp2_with (fail)
      go_loopg [7, 80] s.days.length (fun g z i wr => ∃ (k : Nat) (δ : World), k ≤ s.days.length ∧ g = s.days.length - k ∧ i = .int .i64 k ∧ wr = lat V δ)
      case atStart => exact ⟨0, δ4, Nat.zero_le _, rfl, rfl, rfl⟩
      case round =>
        obtain ⟨k, δ5, hk5, rfl, rfl, rfl⟩ := hrel
        by_cases hlt5 : k < s.days.length
        · obtain ⟨b, o, hA, hb, d0, d1⟩ := (H.out.days.up (w' := V)).sp hlt5
          have hA : dA = some ⟨b, o, none⟩ := hA
          subst hA
          have ib : Lt b V := ⟨Nat.lt_of_lt_of_le hb v1.out⟩
          have hki : (k : Int) < (s.days.length : Int) := by omega
          have hk0 : ¬ (k : Int) < 0 := by omega
          have Fa := Lib.hid (okDays_at K9.out hlt5)
          obtain ⟨q, hq⟩ : ∃ q, nth s.days k = q := ⟨_, rfl⟩
          rw [hq] at d0 d1 Fa
          clear hq hb
          go_wp2_with (go_at_call 64; refine (pSpan_is Fa.out _).mono ?_; rintro e w1 ⟨rfl, δ6, rfl⟩)
          go_roundg (s.days.length - (k + 1))
          case measure => omega
          case rel => exact ⟨k + 1, _, hlt5, rfl, by go_num, lat_def⟩
        · obtain rfl : k = s.days.length := by omega
          go_wp2_with (fail)
          go_ret
          exact ⟨rfl, lat_ex⟩
theorem pIsSky_c (r : SeasonR) (s : Season) (k : Int) (b : Bool) (hb : inB 0 ((s.skies.length : Int) - 1) k = b) (w : World) (hk : s.skies.length ≤ 40) :
    Calls Try.prog 27 #[seasonV r s, .int .i64 k] w fun e w' => e = .returned (.bool b) ∧ ∃ δ, w' = lat w δ := by
  have hw : IntKind.i64.wrap ((s.skies.length : Int) - 1) = (s.skies.length : Int) - 1 := IntWalk.i64_in _ (by omega)
  have F := Lib.hid hb
  clear hb
  go_enter Try.func27, Try.ntmps27
  go_wp2_with (go_at_call 49; (with_reducible refine Calls.mono (pWithin_is F.out _) ?_); rintro e w1 ⟨rfl, rfl⟩)
  go_ret
  exact ⟨rfl, lat_ex⟩
theorem pIsDay_c (r : SeasonR) (s : Season) (k : Int) (b : Bool) (hb : inB 0 ((s.days.length : Int) - 1) k = b) (w : World) (hk : s.days.length ≤ 40) :
    Calls Try.prog 35 #[seasonV r s, .int .i64 k] w fun e w' => e = .returned (.bool b) ∧ ∃ δ, w' = lat w δ := by
  have hw : IntKind.i64.wrap ((s.days.length : Int) - 1) = (s.days.length : Int) - 1 := IntWalk.i64_in _ (by omega)
  have F := Lib.hid hb
  clear hb
  go_enter Try.func35, Try.ntmps35
  go_wp2_with (go_at_call 49; (with_reducible refine Calls.mono (pWithin_is F.out _) ?_); rintro e w1 ⟨rfl, rfl⟩)
  go_ret
  exact ⟨rfl, lat_ex⟩
end Go.Proofs.Ytnddiloeikaleaa
namespace Go.Proofs.Ytnddiloeikaleaa
open Go.RowKit
open An
open Tc

def calmC (s : Season) (k : Nat) : List Value := (List.range 4).map fun i => .int .i64 (if i < k then calmB s i else 0)
def holdN (s : Season) (k i : Nat) : Int := if i < k ∧ canHold (seaOf s i) = true then 1 else 0
def holdC (s : Season) (k : Nat) : List Value := (List.range 5).map fun i => .int .i64 (holdN s k i)
def seasonC (r : SeasonR) (s : Season) (k j : Nat) : Array Value := ((seasonA r s).toList ++ (calmC s k ++ holdC s j)).toArray
theorem seasonC_a (r : SeasonR) (s : Season) (k j : Nat) {i : Nat} (h : i < 15) {v : Value} (hv : (seasonA r s)[i]? = some v) : (seasonC r s k j)[i]? = some v := by
  unfold seasonC
  rw [List.getElem?_toArray, List.getElem?_append_left (by simpa [seasonA] using h)]
  simpa using hv
theorem seasonC_calm (r : SeasonR) (s : Season) (k j : Nat) {i : Nat} (h : i < 4) : (seasonC r s k j)[15 + i]? = some (.int .i64 (if i < k then calmB s i else 0)) := by
  unfold seasonC calmC
  rw [List.getElem?_toArray, List.getElem?_append_right (by simp [seasonA]), List.getElem?_append_left (by simp [seasonA]; exact h)]
  simp [seasonA, h]
theorem seasonC_hold (r : SeasonR) (s : Season) (k j : Nat) {i : Nat} (h : i < 5) : (seasonC r s k j)[19 + i]? = some (.int .i64 (holdN s j i)) := by
  unfold seasonC calmC holdC
  rw [List.getElem?_toArray, List.getElem?_append_right (by simp [seasonA]; omega), List.getElem?_append_right (by simp [seasonA]; omega)]
  have e : 19 + i - (seasonA r s).toList.length - ((List.range 4).map fun i => Value.int .i64 (if i < k then calmB s i else 0)).length = i := by simp [seasonA]; omega
  rw [e, List.getElem?_map, List.getElem?_range h]
  rfl
/-- A season at work. -/
def AtSeason (B g : Nat) (r : SeasonR) (s : Season) (w : World) : Prop := Box w g 72 (seasonC r s s.skies.length s.days.length) ∧ SeasonIs B w r s ∧ B ≤ g
theorem AtSeason.lat {B g : Nat} {r : SeasonR} {s : Season} {w : World} (h : AtSeason B g r s w) (δ : World) : AtSeason B g r s (lat w δ) :=
  ⟨h.1.lat δ, h.2.1.up (hg := ⟨Same.of ((lat_below w δ).mono (by have := h.2.2; have := h.1.lt_; omega))⟩), h.2.2⟩
theorem may_c (r : SeasonR) (s : Season) (hv : seasonOk s = true) (d i : Nat) (hd : d < s.days.length) (hi : i < s.skies.length) (b : Bool) (hb : mayB s d i = b) (B g : Nat) (w : World) (h : AtSeason B g r s w) :
    Calls Try.prog 61 #[.pointer (some ⟨g, 0, none⟩), .int .i64 d, .int .i64 i] w fun e w' => e = .returned (.bool b) ∧ ∃ δ, w' = lat w δ := by
  obtain ⟨_, _, k3, _, _, k6, _⟩ := seasonOk_iff.1 hv
  have hi4 : i < 4 := by omega
  have hd5 : d < 5 := by omega
  have c1 := h.1.cell (seasonC_calm r s s.skies.length s.days.length hi4)
  have c2 := h.1.cell (seasonC_hold r s s.skies.length s.days.length hd5)
  have ig : Lt g w := h.1.lt
  rw [if_pos hi] at c1
  obtain ⟨x, hx⟩ : ∃ x, calmB s i = x := ⟨_, rfl⟩
  obtain ⟨y, hy⟩ : ∃ y, holdN s s.days.length d = y := ⟨_, rfl⟩
  have HB : Hid (b = (decide (x = 1) && decide (y = 1))) := Lib.hid (by
    rw [← hb, ← hx, ← hy]
    unfold mayB holdN
    rcases hc : canHold (seaOf s d) with _ | _ <;> simp [hd])
  rw [hx] at c1
  rw [hy] at c2
  have hi4i : (i : Int) < 4 := by omega
  have hi0 : ¬ (i : Int) < 0 := by omega
  have hd5i : (d : Int) < 5 := by omega
  have hd0 : ¬ (d : Int) < 0 := by omega
  clear hv h hx hy hb k3 k6 hd hi
  go_enter Try.func61, Try.ntmps61
  by_cases h1 : x = 1
  · subst h1
    by_cases h2 : y = 1
    · subst h2
      go_wp2_with (fail)
      go_ret
      exact ⟨ret_bool HB.out.symm, lat_ex⟩
    · go_wp2_with (fail)
      go_ret
      exact ⟨ret_bool (by rw [HB.out]; simp [h2]), lat_ex⟩
  · go_wp2_with (fail)
    go_ret
    exact ⟨ret_bool (by rw [HB.out]; simp [h1]), lat_ex⟩
theorem worthN_succ (s : Season) (k i : Nat) : worthN s (k + 1) i = if mayB s (s.days.length - (k + 1)) i = true then max (minL (worthN s k) (nth s.follows i)) (nth s.days (s.days.length - (k + 1))).lo else minL (worthN s k) (nth s.follows i) := rfl
/-- The worth of a day, k days ahead of the end, and any sky. -/
def WorthAt (r : SeasonR) (s : Season) (k : Nat) : Prop := ∀ (i : Nat), i < s.skies.length → ∀ (B g : Nat) (w : World), AtSeason B g r s w →
  Calls Try.prog 36 #[.pointer (some ⟨g, 0, none⟩), .int .i64 ((s.days.length - k : Nat) : Int), .int .i64 (i : Int)] w fun e w' => e = .returned (.int .i64 (worthN s k i)) ∧ ∃ δ, w' = lat w δ
set_option maxRecDepth 100000 in
set_option maxHeartbeats 4000000 in
theorem skyLeast_c (r : SeasonR) (s : Season) (k : Nat) (hW : WorthAt r s k) (A : Option Addr) (c : Nat) (l : List Int) (hl : ∀ x ∈ l, 0 ≤ x ∧ x < s.skies.length) (B g : Nat) (w : World) (h : AtSeason B g r s w) (hS : Sl encI w.heap.size w A c l) :
    Calls Try.prog 60 #[.pointer (some ⟨g, 0, none⟩), .int .i64 ((s.days.length - k : Nat) : Int), .slice A l.length c] w fun e w' => e = .returned (.int .i64 (minL (worthN s k) l)) ∧ ∃ δ, w' = lat w δ := by
  have l1 := hS.len
  have H := Lib.hid h
  have HS := Lib.hid hS
  have HL := Lib.hid hl
  have HW := Lib.hid hW
  have ig : Lt g w := h.1.lt
  obtain ⟨d, hd⟩ : ∃ d, s.days.length - k = d := ⟨_, rfl⟩
  have HD := Lib.hid hd
  rw [hd]
  clear h hS hl hW hd
  go_enter Try.func60, Try.ntmps60
  go_wp2_with (fail)
  go_loopg [7, 9, 12] l.length (fun gg n z i wr => ∃ (j : Nat) (δ : World), j ≤ l.length ∧ gg = l.length - j ∧ i = .int .i64 j ∧ n = .int .i64 (minTo (worthN s k) l j) ∧ wr = lat w δ)
  case atStart => exact ⟨0, w, Nat.zero_le _, rfl, rfl, rfl, (lat_refl w).symm⟩
  case round =>
    obtain ⟨j, δ, hj, rfl, rfl, rfl, rfl⟩ := hrel
    by_cases hlt : j < l.length
    · obtain ⟨b, o, rfl, hb, d0⟩ := HS.out.int hlt
      have ib : Lt b w := ⟨hb⟩
      have hji : (j : Int) < (l.length : Int) := by omega
      have hj0 : ¬ (j : Int) < 0 := by omega
      obtain ⟨x1, x2⟩ := HL.out _ (nth_mem l hlt)
      obtain ⟨q, hq⟩ : ∃ q : Nat, nth l j = q := ⟨(nth l j).toNat, by omega⟩
      have hql : q < s.skies.length := by omega
      have HM := Lib.hid (minTo_succ (worthN s k) l hlt)
      rw [hq, Int.toNat_natCast] at HM
      rw [hq] at d0
      obtain ⟨u, hu⟩ : ∃ u, worthN s k q = u := ⟨_, rfl⟩
      obtain ⟨a, ha⟩ : ∃ u, minTo (worthN s k) l j = u := ⟨_, rfl⟩
      have HC : Hid (∀ m, Calls Try.prog 36 #[.pointer (some ⟨g, 0, none⟩), .int .i64 (d : Int), .int .i64 (q : Int)] (lat (lat w δ) m) fun e w' => e = .returned (.int .i64 u) ∧ ∃ δ', w' = lat (lat (lat w δ) m) δ') := Lib.hid fun m => by
        have := HW.out q hql B g _ ((H.out.lat δ).lat m); rw [HD.out, hu] at this; exact this
      have HC1 : Hid (Calls Try.prog 36 #[.pointer (some ⟨g, 0, none⟩), .int .i64 (d : Int), .int .i64 (q : Int)] (lat w δ) fun e w' => e = .returned (.int .i64 u) ∧ ∃ δ', w' = lat (lat w δ) δ') := Lib.hid (by
        have := HW.out q hql B g _ (H.out.lat δ); rw [HD.out, hu] at this; exact this)
      rw [hu, ha] at HM
      rw [ha]
      clear hq hu ha x1 x2 hb
      by_cases hm : u < a
      · have HM2 : Hid (min a u = u) := Lib.hid (by omega)
        have hmn : ¬ a ≤ u := by omega
        go_wp2_with (go_at_call 36; refine HC1.out.mono ?_; rintro e w1 ⟨rfl, δ2, rfl⟩)
        go_roundg (l.length - (j + 1))
        case measure => omega
        case rel => exact ⟨j + 1, _, hlt, rfl, by go_num, by rw [HM.out, HM2.out], lat_def⟩
      · have HM2 : Hid (min a u = a) := Lib.hid (by omega)
        have hmn : a ≤ u := by omega
        go_wp2_with (go_at_call 36; refine HC1.out.mono ?_; rintro e w1 ⟨rfl, δ2, rfl⟩)
        go_roundg (l.length - (j + 1))
        case measure => omega
        case rel => exact ⟨j + 1, _, hlt, rfl, by go_num, by rw [HM.out, HM2.out], lat_def⟩
    · obtain rfl : j = l.length := by omega
      go_wp2_with (fail)
      go_ret
      exact ⟨ret_int (minTo_all _ _), lat_ex⟩
set_option maxRecDepth 100000 in
set_option maxHeartbeats 4000000 in
theorem worth_c (r : SeasonR) (s : Season) (hv : seasonOk s = true) : ∀ k, k ≤ s.days.length → WorthAt r s k
  | 0, _, i, hi, B, g, w, h => by
    have c14 : w.cell? ⟨g, 14, none⟩ = some (.slice r.dA s.days.length r.dc) := h.1.cell (seasonC_a r s _ _ (i := 14) (by omega) rfl)
    have ig : Lt g w := h.1.lt
    have hd : s.days.length - 0 = s.days.length := rfl
    rw [hd]
    clear hd h
    go_enter Try.func36, Try.ntmps36
    go_wp2_with (fail)
    go_ret
    exact ⟨ret_int rfl, lat_ex⟩
  | k + 1, hk, i, hi, B, g, w, h => by
    obtain ⟨_, _, k3, k4, _, k6, _, k8, k9⟩ := seasonOk_iff.1 hv
    have hW := worth_c r s hv k (by omega)
    obtain ⟨d, hd⟩ : ∃ d, s.days.length - (k + 1) = d := ⟨_, rfl⟩
    have hdl : d < s.days.length := by omega
    have hd1 : s.days.length - k = d + 1 := by omega
    have c12 : w.cell? ⟨g, 12, none⟩ = some (.slice r.fA s.follows.length r.fc) := h.1.cell (seasonC_a r s _ _ (i := 12) (by omega) rfl)
    have c14 : w.cell? ⟨g, 14, none⟩ = some (.slice r.dA s.days.length r.dc) := h.1.cell (seasonC_a r s _ _ (i := 14) (by omega) rfl)
    have ig : Lt g w := h.1.lt
    have hBw : B ≤ w.heap.size := by have := h.2.2; have := ig.out; omega
    obtain ⟨bf, of_, A', c', hF, hbf, e0, hSF⟩ := h.2.1.follows.at_ (k := i) (by omega)
    obtain ⟨b, o, hA, hb, d0, d1⟩ := h.2.1.days.sp hdl
    have hfe : s.follows[i]'(by omega) = nth s.follows i := (nth_get _ _).symm
    rw [hfe] at e0 hSF
    have hfa := okFol_at k8 hi
    have HX := Lib.hid (worthN_succ s k i)
    rw [hd] at HX ⊢
    obtain ⟨f, hf⟩ : ∃ f, nth s.follows i = f := ⟨_, rfl⟩
    rw [hf] at e0 hSF hfa HX
    have HFM : Hid (∀ x ∈ f, 0 ≤ x ∧ x < s.skies.length) := Lib.hid fun x hx => by
      unfold areSk at hfa
      rw [Bool.and_eq_true] at hfa
      have := rises_mem hfa.2 x hx
      omega
    have ib : Lt b w := ⟨by omega⟩
    have ibf : Lt bf w := ⟨by omega⟩
    have HL : Hid (Calls Try.prog 60 #[.pointer (some ⟨g, 0, none⟩), .int .i64 ((d : Int) + 1), .slice A' f.length c'] w fun e w' => e = .returned (.int .i64 (minL (worthN s k) f)) ∧ ∃ δ, w' = lat w δ) := Lib.hid (by
      have := skyLeast_c r s k hW A' c' f HFM.out B g w h (hSF.more hBw)
      rw [hd1] at this
      simpa using this)
    have HMY : Hid (∀ (bb : Bool) (W : World), mayB s d i = bb → AtSeason B g r s W → Calls Try.prog 61 #[.pointer (some ⟨g, 0, none⟩), .int .i64 (d : Int), .int .i64 (i : Int)] W fun e w' => e = .returned (.bool bb) ∧ ∃ δ, w' = lat W δ) := Lib.hid fun bb W hbb hW => may_c r s hv d i hdl hi bb hbb B g W hW
    have H := Lib.hid h
    obtain ⟨m, hm⟩ : ∃ m, minL (worthN s k) f = m := ⟨_, rfl⟩
    obtain ⟨q, hq⟩ : ∃ q, (nth s.days d).lo = q := ⟨_, rfl⟩
    rw [hm] at HL HX
    rw [hq] at d0 HX
    rw [hF] at c12
    rw [hA] at c14
    have hne : ((d : Int) == (s.days.length : Int)) = false := by simp; omega
    have hdi : (d : Int) < (s.days.length : Int) := by omega
    have hd0 : ¬ (d : Int) < 0 := by omega
    have hii : (i : Int) < (s.follows.length : Int) := by omega
    have hi0 : ¬ (i : Int) < 0 := by omega
    have hw1 : IntKind.i64.wrap ((d : Int) + 1) = (d : Int) + 1 := IntWalk.i64_in _ (by omega)
    have hdne : ¬ d = s.days.length := by omega
    clear hv h k3 k4 k6 k8 k9 hW hd1 hF hA hbf hb hSF hfe hfa hf hm hq hd hk
    rcases hb2 : mayB s d i with _ | _
    · have HB := Lib.hid hb2
      rw [hb2] at HX
      clear hb2
      go_enter Try.func36, Try.ntmps36
      go_wp2_with (first
        | (go_at_call 60; refine HL.out.mono ?_; rintro e w1 ⟨rfl, δ1, rfl⟩)
        | (go_at_call 61; refine (HMY.out _ _ HB.out (H.out.lat _)).mono ?_; rintro e w1 ⟨rfl, δ2, rfl⟩))
      go_ret
      exact ⟨ret_int (by rw [HX.out]; rfl), lat_ex⟩
    · have HB := Lib.hid hb2
      rw [hb2] at HX
      clear hb2
      by_cases hmq : m < q
      · have HM : Hid (max m q = q) := Lib.hid (by omega)
        have hmx : ¬ q ≤ m := by omega
        have hmy : m ≤ q := by omega
        go_enter Try.func36, Try.ntmps36
        go_wp2_with (first
          | (go_at_call 60; refine HL.out.mono ?_; rintro e w1 ⟨rfl, δ1, rfl⟩)
          | (go_at_call 61; refine (HMY.out _ _ HB.out (H.out.lat _)).mono ?_; rintro e w1 ⟨rfl, δ2, rfl⟩))
        go_ret
        exact ⟨ret_int (by rw [HX.out]; exact HM.out.symm), lat_ex⟩
      · have HM : Hid (max m q = m) := Lib.hid (by omega)
        have hmx : q ≤ m := by omega
        go_enter Try.func36, Try.ntmps36
        go_wp2_with (first
          | (go_at_call 60; refine HL.out.mono ?_; rintro e w1 ⟨rfl, δ1, rfl⟩)
          | (go_at_call 61; refine (HMY.out _ _ HB.out (H.out.lat _)).mono ?_; rintro e w1 ⟨rfl, δ2, rfl⟩))
        go_ret
        exact ⟨ret_int (by rw [HX.out]; exact HM.out.symm), lat_ex⟩
end Go.Proofs.Ytnddiloeikaleaa
namespace Go.Proofs.Ytnddiloeikaleaa
open Go.RowKit
open An
open Tc

theorem wpList_buildC {P : Program} {W : World} {ops : Array Oper} {rest : List Oper} {o : Oper} {a : Act} {Q : Exit → Act → World → Prop} (hgd : o.guard = none) (t : TypeId) (parts : Array (Nat × Operand)) (ho : o.op = .build t parts) {cells : Array Value} {ps : List (Nat × Value)}
    (hp : parts.toList.map (fun p => (p.1, a.eval p.2)) = ps) (hc : P.built t ps = some cells) (h : wpList P ops Q rest (a.put o.dst (.agg cells)) W) : wpList P ops Q (o :: rest) a W := by
  have hp' : (parts.map fun (i, x) => (i, a.eval x)).toList = ps := by rw [← hp, Array.toList_map]
  rw [← hp'] at hc
  refine wpList_plain hgd fun _ hK => ?_
  unfold Oper.wp execOp
  simp only [ho, Sem.run_bind, run_build W t _ cells hc, Result.andThen_ok]
  exact hK _ _ h
theorem seasonC_setc (r : SeasonR) (s : Season) (j : Nat) {k : Nat} (hk : k < 4) : (seasonC r s k j).setIfInBounds (15 + k) (.int .i64 (calmB s k)) = seasonC r s (k + 1) j := by
  obtain rfl | rfl | rfl | rfl : k = 0 ∨ k = 1 ∨ k = 2 ∨ k = 3 := by omega
  all_goals rfl
theorem seasonC_seth (r : SeasonR) (s : Season) (i : Nat) {k : Nat} (hk : k < 5) (hs : canHold (seaOf s k) = true) : (seasonC r s i k).setIfInBounds (19 + k) (.int .i64 1) = seasonC r s i (k + 1) := by
  obtain rfl | rfl | rfl | rfl | rfl : k = 0 ∨ k = 1 ∨ k = 2 ∨ k = 3 ∨ k = 4 := by omega
  all_goals simp [seasonC, seasonA, calmC, holdC, holdN, List.range_succ, hs]
theorem seasonC_no (r : SeasonR) (s : Season) (i : Nat) {k : Nat} (hs : canHold (seaOf s k) = false) : seasonC r s i (k + 1) = seasonC r s i k := by
  have e : ∀ j, holdN s (k + 1) j = holdN s k j := fun j => by
    unfold holdN
    by_cases h : j = k
    · subst h; rw [if_neg (by rw [hs]; simp), if_neg (by rw [hs]; simp)]
    · have : j < k + 1 ↔ j < k := by omega
      simp only [this]
  unfold seasonC holdC
  simp only [e]
theorem sea_ok {s : Season} (hv : seasonOk s = true) {k : Nat} (hk : k < s.days.length) : seaOk (seaOf s k) = true := by
  obtain ⟨_, k2, _, _, _, _, _, _, k9⟩ := seasonOk_iff.1 hv
  obtain ⟨_, a2, a3, a4, a5, a6, a7⟩ := seaOk_iff.1 k2
  exact seaOk_iff.2 ⟨okDays_at k9 hk, a2, a3, a4, a5, a6, a7⟩
theorem grew_tr {g u : Nat} {A B C : World} (h : Grew g A B) (k : Grew u B C) (hg : g ≤ u) : Grew g A C :=
  ⟨⟨k.out.1.trans h.out.1, k.out.2.1.trans h.out.2.1, k.out.2.2.1.trans h.out.2.2.1, fun b hb => (k.out.2.2.2 b (Nat.lt_of_lt_of_le hb hg)).trans (h.out.2.2.2 b hb)⟩⟩
theorem season_built (r : SeasonR) (s : Season) : Try.prog.built 72 [(0, seasonV r s)] = some (seasonC r s 0 0) := by kernel_rfl
set_option maxRecDepth 100000 in
set_option maxHeartbeats 4000000 in
theorem sOpen_c (r : SeasonR) (s : Season) (hv : seasonOk s = true) (B : Nat) (w : World) [hB : Le B w] (h : SeasonIs B w r s) :
    Calls Try.prog 26 #[seasonV r s, .bool true] w fun e w' => ∃ g δ, e = .returned (.tuple #[.pointer (some ⟨g, 0, none⟩), .int .i64 0]) ∧ w' = lat w δ ∧ w.heap.size ≤ g ∧ Hid (AtSeason B g r s w') := by
  have HV := Lib.hid hv
  have H := Lib.hid h
  clear hv h
  go_enter Try.func26, Try.ntmps26
  go_upto_region 1 with fail
  refine wp_name fun W1 hW1 => ?_
  have iw1 : Le B W1 := by rw [hW1.out]; infer_instance
  have iw2 : Grew B w W1 := by rw [hW1.out]; infer_instance
  have iw3 : Le w.heap.size W1 := by rw [hW1.out]; infer_instance
  have iw4 : Grew w.heap.size w W1 := by rw [hW1.out]; infer_instance
  have iw5 : Lt (w.heap.size) W1 := by rw [hW1.out]; infer_instance
  have X1 : Hid (Box W1 w.heap.size 36 (seasonA r s)) := by rw [hW1.out]; exact Lib.hid (Box.new rfl)
  clear hW1
  go_upto_region 6 with (first
    | (refine wpList_loadB rowSeason rfl _ rfl rfl X1.out rfl ?_)
    | (go_at_call 46; refine (pSeason_c r s HV.out B _ H.out.up).mono ?_; rintro e w1 ⟨rfl, δ, rfl⟩))
  apply wp_region_lit
  refine wpList_loadB rowSeason rfl _ rfl rfl (X1.out.lat δ) rfl ?_
  refine wpList_buildC (ps := [(0, seasonV r s)]) (cells := seasonC r s 0 0) rfl _ _ rfl rfl (season_built r s) ?_
  go_upto_region 7 with fail
  refine wp_name fun V hV => ?_
  have XV : Hid (Box V w.heap.size 36 (seasonA r s)) := by rw [hV.out]; exact Lib.hid ((X1.out.lat _).alloc _)
  have YV : Box V (lat W1 δ).heap.size 72 (seasonC r s 0 0) := by rw [hV.out]; exact Box.new rfl
  have v1 : Le B V := by rw [hV.out]; infer_instance
  have v2 : Grew B w V := by rw [hV.out]; infer_instance
  have v3 : Le w.heap.size V := by rw [hV.out]; infer_instance
  have v4 : Grew w.heap.size w V := by rw [hV.out]; infer_instance
  have gw : w.heap.size < (lat W1 δ).heap.size := Nat.lt_of_lt_of_le X1.out.lt_ (inferInstance : Le W1.heap.size (lat W1 δ)).out
  obtain ⟨g, hg⟩ : ∃ g, (lat W1 δ).heap.size = g := ⟨_, rfl⟩
  rw [hg] at YV gw ⊢
  have YV := Lib.hid YV
  have hgV := YV.out.lt_
  have GW := Lib.hid gw
  have GV := Lib.hid hgV
  clear hV hg gw hgV X1
  obtain ⟨k1, k2, k3, k4, k5, k6, k7, k8, k9⟩ := seasonOk_iff.1 HV.out
  have hB0 := hB.out
  obtain ⟨nr, sr, kA, kc, fA, fc, iA, ic, dA, dc⟩ := r
  obtain ⟨c0, c1, c2, c3, c4, c5, c6, c7, c8, c9, c10, c11, c12, c13, c14⟩ := XV.out.season
  dsimp only at c4 c5 c6 c9 c10 c11 c12 c13 c14
  have iXV : Lt w.heap.size V := XV.out.lt
  clear c12 c13
  go_wp2_with (fail)
  go_loopg [8, 9, 10, 29] s.skies.length (fun gg z1 z2 z3 i wr => ∃ (k : Nat), k ≤ s.skies.length ∧ gg = s.skies.length - k ∧ i = .int .i64 k ∧ Hid (Box wr g 72 (seasonC ⟨nr, sr, kA, kc, fA, fc, iA, ic, dA, dc⟩ s k 0)) ∧ Grew g V wr ∧ Le V.heap.size wr)
  case atStart => exact ⟨0, Nat.zero_le _, rfl, rfl, YV, inferInstance, inferInstance⟩
  case round =>
    obtain ⟨k, hk, rfl, rfl, HBk, i1, i2⟩ := hrel
    by_cases hlt : k < s.skies.length
    · have XR : Hid (Box wr w.heap.size 36 (seasonA ⟨nr, sr, kA, kc, fA, fc, iA, ic, dA, dc⟩ s)) := Lib.hid ((i1.out.2.2.2 _ GW.out).trans XV.out)
      obtain ⟨b, o, hA, hb, d0, d1, d2, d3⟩ := (H.out.skies.up (w' := V)).sky hlt
      have hA : kA = some ⟨b, o, none⟩ := hA
      subst hA
      have hbg : b < g := by have := GW.out; omega
      have e0 := (World.cell?_of_block (a := ⟨b, o + k * 4, none⟩) (i1.out.2.2.2 b hbg)).trans d0
      have e1 := (World.cell?_of_block (a := ⟨b, o + k * 4 + 1, none⟩) (i1.out.2.2.2 b hbg)).trans d1
      have e2 := (World.cell?_of_block (a := ⟨b, o + k * 4 + 2, none⟩) (i1.out.2.2.2 b hbg)).trans d2
      have e3 := (World.cell?_of_block (a := ⟨b, o + k * 4 + 3, none⟩) (i1.out.2.2.2 b hbg)).trans d3
      obtain ⟨f0, f1, f2, f3, f4, f5, f6, f7, f8, f9, f10, f11, f12, f13, f14⟩ := XR.out.season
      dsimp only at f4 f5 f6
      have ibr : Lt b wr := ⟨by have := i2.out; have := GV.out; omega⟩
      have iwr : Lt w.heap.size wr := XR.out.lt
      have hki : (k : Int) < (s.skies.length : Int) := by omega
      have hk0 : ¬ (k : Int) < 0 := by omega
      obtain ⟨q, hq⟩ : ∃ q, nth s.skies k = q := ⟨_, rfl⟩
      rw [hq] at e0 e1 e2 e3
      have HQ := Lib.hid hq
      clear d0 d1 d2 d3 hq hb hbg f7 f8 f9 f10 f11 f12 f13 f14 c0 c1 c2 c3 c4 c5 c6 c7 c8 c9 c10 c11 c14
      go_upto_region 11 with fail
      obtain ⟨u, hu⟩ : ∃ u, wr.heap.size = u := ⟨_, rfl⟩
      have HU := Lib.hid hu
      refine wp_name fun W2 hW2 => ?_
      have N2 : Hid (Box W2 (u + 1) 28 #[.int .i64 s.net.wind.lo, .int .i64 s.net.wind.hi, .int .i64 s.net.cur.lo, .int .i64 s.net.cur.hi, .slice nr.gA s.net.grips.length nr.gc, .slice nr.aA s.net.ancs.length nr.ac, .slice nr.wA s.net.wals.length nr.wc]) := by rw [hW2.out, ← hu]; exact Lib.hid (Box.new (by simp))
      have S2 : Hid (Box W2 u 59 #[.int .i64 q.wind.lo, .int .i64 q.wind.hi, .int .i64 q.cur.lo, .int .i64 q.cur.hi]) := by rw [hW2.out, ← hu]; exact Lib.hid ((Box.new rfl).alloc _)
      have j1 : Grew wr.heap.size wr W2 := by rw [hW2.out]; infer_instance
      have j2 : Le wr.heap.size W2 := by rw [hW2.out]; infer_instance
      have m0 := N2.out.cell (i := 0) rfl
      have m1 := N2.out.cell (i := 1) rfl
      have m2 := N2.out.cell (i := 2) rfl
      have m3 := N2.out.cell (i := 3) rfl
      have n0 := S2.out.cell (i := 0) rfl
      have n1 := S2.out.cell (i := 1) rfl
      have n2 := S2.out.cell (i := 2) rfl
      have n3 := S2.out.cell (i := 3) rfl
      have r0 := N2.out.free 0
      have r1 := N2.out.free 1
      have r2 := N2.out.free 2
      have r3 := N2.out.free 3
      have l1 : Lt u W2 := S2.out.lt
      have l2 : Lt (u + 1) W2 := N2.out.lt
      clear hW2 e0 e1 e2 e3 f0 f1 f2 f3 f4 f5 f6
      rw [hu] at j1 j2 ⊢
      clear hu
      go_region
      go_upto_region 12 with fail
      refine wp_name fun W3 hW3 => ?_
      have N3 : Hid (Box W3 (u + 1) 28 #[.int .i64 q.wind.lo, .int .i64 q.wind.hi, .int .i64 q.cur.lo, .int .i64 q.cur.hi, .slice nr.gA s.net.grips.length nr.gc, .slice nr.aA s.net.ancs.length nr.ac, .slice nr.wA s.net.wals.length nr.wc]) := by rw [hW3.out]; exact Lib.hid ((((N2.out.set 0 _).set 1 _).set 2 _).set 3 _).drew
      have hgu : g < u := by rw [← HU.out]; exact HBk.out.lt_
      have G2 : Box W2 g 72 (seasonC ⟨nr, sr, some ⟨b, o, none⟩, kc, fA, fc, iA, ic, dA, dc⟩ s k 0) := (j1.out.2.2.2 g hgu).trans HBk.out
      have G3 : Box W3 g 72 (seasonC ⟨nr, sr, some ⟨b, o, none⟩, kc, fA, fc, iA, ic, dA, dc⟩ s k 0) := by rw [hW3.out]; exact ((((G2.far (by simp; omega) _).far (by simp; omega) _).far (by simp; omega) _).far (by simp; omega) _).drew
      have jj : NeN g (u + 1) := ⟨by omega⟩
      have jn : LeN u (u + 1) := ⟨Nat.le_succ u⟩
      have w1 : Grew u W2 W3 := by rw [hW3.out]; infer_instance
      have w2 : Le W2.heap.size W3 := by rw [hW3.out]; infer_instance
      clear hW3
      have y1 : Grew g V W3 := grew_tr i1 (grew_tr j1 w1 (Nat.le_refl _)) (Nat.le_of_lt hgu)
      have y2 : Le V.heap.size W3 := ⟨by have := i2.out; have := j2.out; have := w2.out; have := HU.out; omega⟩
      have y3 : Le B W3 := ⟨Nat.le_trans v1.out y2.out⟩
      have y4 : Grew B w W3 := grew_tr v2 y1 (by have := GW.out; omega)
      have hk4 : k < 4 := by omega
      have cg := G3.cell (seasonC_calm ⟨nr, sr, some ⟨b, o, none⟩, kc, fA, fc, iA, ic, dA, dc⟩ s k 0 hk4)
      rw [if_neg (Nat.lt_irrefl k)] at cg
      have fg := G3.free (15 + k)
      have lg : Lt g W3 := G3.lt
      have lu : Lt (u + 1) W3 := N3.out.lt
      have m0 := N3.out.cell (i := 0) rfl
      have m1 := N3.out.cell (i := 1) rfl
      have m2 := N3.out.cell (i := 2) rfl
      have m3 := N3.out.cell (i := 3) rfl
      have m4 := N3.out.cell (i := 4) rfl
      have m5 := N3.out.cell (i := 5) rfl
      have m6 := N3.out.cell (i := 6) rfl
      have G3H := Lib.hid G3
      have hk4i : (k : Int) < 4 := by omega
      obtain ⟨x, hx⟩ : ∃ x, calmB s k = x := ⟨_, rfl⟩
      have HX := Lib.hid hx
      have HSF : Hid (∀ W : World, Grew B w W → Le B W → Calls Try.prog 47 #[.agg #[.int .i64 q.wind.lo, .int .i64 q.wind.hi, .int .i64 q.cur.lo, .int .i64 q.cur.hi, .slice nr.gA s.net.grips.length nr.gc, .slice nr.aA s.net.ancs.length nr.ac, .slice nr.wA s.net.wals.length nr.wc]] W fun e w' => e = .returned (.tuple #[.int .i64 x, .int .i64 0]) ∧ ∃ δ, w' = lat W δ) := Lib.hid fun W a1 a2 => by
        have hvn := valid_netOf HV.out k
        have := safe_c nr (netOf s k) B W (H.out.net.up)
        rw [hvn] at this
        unfold calmB safeX at hx
        rw [hvn] at hx
        rw [hx] at this
        rw [← HQ.out]
        exact this
      clear hx N2 S2 n0 n1 n2 n3 r0 r1 r2 r3 l1 l2 w1 w2 j1 j2 G2 G3 N3
      go_region_held3 (fun W => W.cell? ⟨u + 1, 0, none⟩ = some (.int .i64 q.wind.lo) ∧ W.cell? ⟨u + 1, 1, none⟩ = some (.int .i64 q.wind.hi) ∧ W.cell? ⟨u + 1, 2, none⟩ = some (.int .i64 q.cur.lo) ∧ W.cell? ⟨u + 1, 3, none⟩ = some (.int .i64 q.cur.hi) ∧ W.cell? ⟨u + 1, 4, none⟩ = some (.slice nr.gA s.net.grips.length nr.gc) ∧ W.cell? ⟨u + 1, 5, none⟩ = some (.slice nr.aA s.net.ancs.length nr.ac) ∧ W.cell? ⟨u + 1, 6, none⟩ = some (.slice nr.wA s.net.wals.length nr.wc)) (refine ⟨?_, ?_, ?_, ?_, ?_, ?_, ?_⟩ <;> go_simp)
        (first | (go_at_call 47; refine (HSF.out _ inferInstance inferInstance).mono ?_; rintro e w1 ⟨rfl, δ5, rfl⟩))
      have B5 : Hid (Box ((lat W3.drew δ5).setCell ⟨g, 15 + k, none⟩ (.int .i64 x)) g 72 (seasonC ⟨nr, sr, some ⟨b, o, none⟩, kc, fA, fc, iA, ic, dA, dc⟩ s (k + 1) 0)) := Lib.hid (by
        rw [← seasonC_setc ⟨nr, sr, some ⟨b, o, none⟩, kc, fA, fc, iA, ic, dA, dc⟩ s 0 hk4, HX.out]
        exact ((G3H.out.drew).lat _).set (15 + k) _)
      have gg9 : LeN g g := ⟨Nat.le_refl _⟩
      have gg8 : Le g W3 := ⟨Nat.le_of_lt lg.out⟩
      have z1 : Grew g V ((lat W3.drew δ5).setCell ⟨g, 15 + k, none⟩ (.int .i64 x)) := by infer_instance
      have z2 : Le V.heap.size ((lat W3.drew δ5).setCell ⟨g, 15 + k, none⟩ (.int .i64 x)) := by infer_instance
      go_wp2_with (fail)
      go_roundg (s.skies.length - (k + 1))
      case measure => omega
      case rel => exact ⟨k + 1, hlt, rfl, by go_num, B5, z1, z2⟩
    · obtain rfl : k = s.skies.length := by omega
      obtain ⟨V2, hV2⟩ : ∃ X, X = wr := ⟨_, rfl⟩
      subst hV2
      have XR0 : Hid (Box V2 w.heap.size 36 (seasonA ⟨nr, sr, kA, kc, fA, fc, iA, ic, dA, dc⟩ s)) := Lib.hid ((i1.out.2.2.2 _ GW.out).trans XV.out)
      have c14 := XR0.out.season.2.2.2.2.2.2.2.2.2.2.2.2.2.2
      dsimp only at c14
      have iV2 : Lt w.heap.size V2 := XR0.out.lt
      clear c0 c1 c2 c3 c4 c5 c6 c7 c8 c9 c10 c11
      go_wp2_with (fail)
      go_loopg [11, 12, 13, 14, 15, 56] s.days.length (fun gg z1 z2 z3 z4 z5 i wr => ∃ (k : Nat), k ≤ s.days.length ∧ gg = s.days.length - k ∧ i = .int .i64 k ∧ Hid (Box wr g 72 (seasonC ⟨nr, sr, kA, kc, fA, fc, iA, ic, dA, dc⟩ s s.skies.length k)) ∧ Grew g V wr ∧ Le V.heap.size wr)
      case atStart => exact ⟨0, Nat.zero_le _, rfl, rfl, HBk, i1, i2⟩
      case round =>
        clear HBk i1 i2 c14 XR0 iV2
        obtain ⟨k, hk5, rfl, rfl, HBk, i1, i2⟩ := hrel
        by_cases hlt : k < s.days.length
        · have XR : Hid (Box wr w.heap.size 36 (seasonA ⟨nr, sr, kA, kc, fA, fc, iA, ic, dA, dc⟩ s)) := Lib.hid ((i1.out.2.2.2 _ GW.out).trans XV.out)
          obtain ⟨b, o, hA, hb, d0, d1⟩ := (H.out.days.up (w' := V)).sp hlt
          have hA : dA = some ⟨b, o, none⟩ := hA
          subst hA
          have hbg : b < g := by have := GW.out; omega
          have e0 := (World.cell?_of_block (a := ⟨b, o + k * 2, none⟩) (i1.out.2.2.2 b hbg)).trans d0
          have e1 := (World.cell?_of_block (a := ⟨b, o + k * 2 + 1, none⟩) (i1.out.2.2.2 b hbg)).trans d1
          obtain ⟨f0, f1, f2, f3, f4, f5, f6, f7, f8, f9, f10, f11, f12, f13, f14⟩ := XR.out.season
          dsimp only at f9 f10 f14
          have ibr : Lt b wr := ⟨by have := i2.out; have := GV.out; omega⟩
          have iwr : Lt w.heap.size wr := XR.out.lt
          have hki : (k : Int) < (s.days.length : Int) := by omega
          have hk0 : ¬ (k : Int) < 0 := by omega
          obtain ⟨q, hq⟩ : ∃ q, nth s.days k = q := ⟨_, rfl⟩
          rw [hq] at e0 e1
          have HQ := Lib.hid hq
          clear d0 d1 hq hb hbg f0 f1 f2 f3 f4 f5 f6 f11 f12 f13
          go_upto_region 18 with fail
          obtain ⟨u, hu⟩ : ∃ u, wr.heap.size = u := ⟨_, rfl⟩
          have HU := Lib.hid hu
          refine wp_name fun W2 hW2 => ?_
          have N2 : Hid (Box W2 (u + 1) 31 #[.int .i64 s.sea.wt.lo, .int .i64 s.sea.wt.hi, .slice sr.pA s.sea.places.length sr.pc, .slice sr.bA s.sea.boats.length sr.bc]) := by rw [hW2.out, ← hu]; exact Lib.hid (Box.new (by simp))
          have S2 : Hid (Box W2 u 23 #[.int .i64 q.lo, .int .i64 q.hi]) := by rw [hW2.out, ← hu]; exact Lib.hid ((Box.new rfl).alloc _)
          have j1 : Grew wr.heap.size wr W2 := by rw [hW2.out]; infer_instance
          have j2 : Le wr.heap.size W2 := by rw [hW2.out]; infer_instance
          have m0 := N2.out.cell (i := 0) rfl
          have m1 := N2.out.cell (i := 1) rfl
          have n0 := S2.out.cell (i := 0) rfl
          have n1 := S2.out.cell (i := 1) rfl
          have r0 := N2.out.free 0
          have r1 := N2.out.free 1
          have l1 : Lt u W2 := S2.out.lt
          have l2 : Lt (u + 1) W2 := N2.out.lt
          clear hW2 e0 e1 f7 f8 f9 f10 f14
          rw [hu] at j1 j2 ⊢
          clear hu
          go_upto_region 19 with fail
          refine wp_name fun W3 hW3 => ?_
          have N3 : Hid (Box W3 (u + 1) 31 #[.int .i64 q.lo, .int .i64 q.hi, .slice sr.pA s.sea.places.length sr.pc, .slice sr.bA s.sea.boats.length sr.bc]) := by rw [hW3.out]; exact Lib.hid ((N2.out.set 0 _).set 1 _)
          have hgu : g < u := by rw [← HU.out]; exact HBk.out.lt_
          have G2 : Box W2 g 72 (seasonC ⟨nr, sr, kA, kc, fA, fc, iA, ic, some ⟨b, o, none⟩, dc⟩ s s.skies.length k) := (j1.out.2.2.2 g hgu).trans HBk.out
          have jj : NeN g (u + 1) := ⟨by omega⟩
          have G3 : Box W3 g 72 (seasonC ⟨nr, sr, kA, kc, fA, fc, iA, ic, some ⟨b, o, none⟩, dc⟩ s s.skies.length k) := by rw [hW3.out]; exact (G2.far (by simp; omega) _).far (by simp; omega) _
          have jn : LeN u (u + 1) := ⟨Nat.le_succ u⟩
          have w1 : Grew u W2 W3 := by rw [hW3.out]; infer_instance
          have w2 : Le W2.heap.size W3 := by rw [hW3.out]; infer_instance
          clear hW3
          have y1 : Grew g V W3 := grew_tr i1 (grew_tr j1 w1 (Nat.le_refl _)) (Nat.le_of_lt hgu)
          have y2 : Le V.heap.size W3 := ⟨by have := i2.out; have := j2.out; have := w2.out; have := HU.out; omega⟩
          have y3 : Le B W3 := ⟨Nat.le_trans v1.out y2.out⟩
          have y4 : Grew B w W3 := grew_tr v2 y1 (by have := GW.out; omega)
          have hk5' : k < 5 := by omega
          have cg := G3.cell (seasonC_hold ⟨nr, sr, kA, kc, fA, fc, iA, ic, some ⟨b, o, none⟩, dc⟩ s s.skies.length k hk5')
          have cgv : holdN s k k = 0 := by unfold holdN; rw [if_neg (by omega)]
          rw [cgv] at cg
          have fg := G3.free (19 + k)
          have lg : Lt g W3 := G3.lt
          have lu : Lt (u + 1) W3 := N3.out.lt
          have m0 := N3.out.cell (i := 0) rfl
          have m1 := N3.out.cell (i := 1) rfl
          have m2 := N3.out.cell (i := 2) rfl
          have m3 := N3.out.cell (i := 3) rfl
          have G3H := Lib.hid G3
          have hk5i : (k : Int) < 5 := by omega
          have HLT := Lib.hid hlt
          have gg9 : LeN g g := ⟨Nat.le_refl _⟩
          have gg8 : Le g W3 := ⟨Nat.le_of_lt lg.out⟩
          have HSF : Hid (∀ (x : Int) (W : World), (if canHold (seaOf s k) = true then 0 else 3 : Int) = x → Grew B w W → Le B W → Calls Try.prog 48 #[.agg #[.int .i64 q.lo, .int .i64 q.hi, .slice sr.pA s.sea.places.length sr.pc, .slice sr.bA s.sea.boats.length sr.bc]] W fun e w' => ∃ n : Int, e = .returned (.tuple #[.int .i64 n, .int .i64 x]) ∧ ∃ δ, w' = lat W δ) := Lib.hid fun x W hx a1 a2 => by
            rw [← HQ.out]
            exact cheap_c sr (seaOf s k) (sea_ok HV.out HLT.out) x hx B W (H.out.sea.up)
          clear cgv N2 S2 n0 n1 r0 r1 l1 l2 w1 w2 j1 j2 G2 G3 N3
          rcases hc : canHold (seaOf s k) with _ | _
          · have HB6 : Hid (seasonC ⟨nr, sr, kA, kc, fA, fc, iA, ic, some ⟨b, o, none⟩, dc⟩ s s.skies.length (k + 1) = seasonC ⟨nr, sr, kA, kc, fA, fc, iA, ic, some ⟨b, o, none⟩, dc⟩ s s.skies.length k) := Lib.hid (seasonC_no _ _ _ hc)
            have HX3 : Hid ((if canHold (seaOf s k) = true then 0 else 3 : Int) = 3) := Lib.hid (by rw [hc]; rfl)
            clear hc hlt
            go_wp2_with (go_at_call 48; refine (HSF.out _ _ HX3.out inferInstance inferInstance).mono ?_; rintro e w1 ⟨n, rfl, δ5, rfl⟩)
            go_roundg (s.days.length - (k + 1))
            case measure => have := HLT.out; omega
            case rel => exact ⟨k + 1, HLT.out, rfl, by go_num, by rw [HB6.out]; exact Lib.hid (G3H.out.lat _), by infer_instance, by infer_instance⟩
          · have HX3 : Hid ((if canHold (seaOf s k) = true then 0 else 3 : Int) = 0) := Lib.hid (by rw [hc]; rfl)
            have HC := Lib.hid hc
            clear hc hlt
            go_wp2_with (go_at_call 48; refine (HSF.out _ _ HX3.out inferInstance inferInstance).mono ?_; rintro e w1 ⟨n, rfl, δ5, rfl⟩)
            go_roundg (s.days.length - (k + 1))
            case measure => have := HLT.out; omega
            case rel => exact ⟨k + 1, HLT.out, rfl, by go_num, by rw [← seasonC_seth _ s s.skies.length hk5' HC.out]; exact Lib.hid ((G3H.out.lat _).set (19 + k) _), by infer_instance, by infer_instance⟩
        · obtain rfl : k = s.days.length := by omega
          have HBH := HBk
          have hgw : w.heap.size ≤ g := Nat.le_of_lt GW.out
          have z1 : Grew w.heap.size w wr := grew_tr v4 i1 hgw
          have z2 : Le w.heap.size wr := ⟨Nat.le_trans v3.out i2.out⟩
          have z3 : Grew B w wr := grew_tr v2 i1 (by omega)
          go_wp2_with (fail)
          go_ret2
          obtain ⟨δ9, hδ⟩ : ∃ δ, wr = lat w δ := ⟨wr, lat_def⟩
          exact ⟨g, δ9, rfl, hδ, hgw, Lib.hid ⟨HBH.out, H.out.up, by omega⟩⟩
end Go.Proofs.Ytnddiloeikaleaa
namespace Go.Proofs.Ytnddiloeikaleaa
open Go.RowKit
open An
open Tc

set_option maxRecDepth 100000 in
set_option maxHeartbeats 4000000 in
theorem sCalm_c (r : SeasonR) (s : Season) (hv : seasonOk s = true) (k : Nat) (hk : k < s.skies.length) (B : Nat) (w : World) [hB : Le B w] (h : SeasonIs B w r s) :
    Calls Try.prog 9 #[seasonV r s, .int .i64 (k : Int)] w fun e w' => e = .returned (.tuple #[.int .i64 (calmB s k), .int .i64 0]) ∧ ∃ δ, w' = lat w δ := by
  obtain ⟨k1, k2, k3, k4, k5, k6, k7, k8, k9⟩ := seasonOk_iff.1 hv
  have HV := Lib.hid hv
  have H := Lib.hid h
  have h40 : s.skies.length ≤ 40 := by omega
  have HI : Hid (inB 0 ((s.skies.length : Int) - 1) (k : Int) = true) := Lib.hid (inB_iff.2 (by omega))
  have HK := Lib.hid hk
  have H4 := Lib.hid (show k < 4 by omega)
  have hi4i : (k : Int) < 4 := by omega
  have hi0 : ¬ (k : Int) < 0 := by omega
  clear k1 k2 k3 k4 k5 k6 k7 k8 k9 hv h
  go_enter Try.func9, Try.ntmps9
  go_wp2_with (fail)
  refine wp_name fun W1 hW1 => ?_
  have iw1 : Le B W1 := by rw [hW1.out]; infer_instance
  have iw2 : Grew B w W1 := by rw [hW1.out]; infer_instance
  have iw3 : Le w.heap.size W1 := by rw [hW1.out]; infer_instance
  have iw4 : Grew w.heap.size w W1 := by rw [hW1.out]; infer_instance
  have iw5 : Lt (w.heap.size) W1 := by rw [hW1.out]; infer_instance
  have X1 : Hid (Box W1 w.heap.size 36 (seasonA r s)) := by rw [hW1.out]; exact Lib.hid (Box.new rfl)
  clear hW1
  obtain ⟨c0, c1, c2, c3, c4, c5, c6, c7, c8, c9, c10, c11, c12, c13, c14⟩ := X1.out.season
  go_region_held3 (fun W => W.cell? ⟨w.heap.size, 0, none⟩ = some (.int .i64 s.net.wind.lo) ∧ W.cell? ⟨w.heap.size, 1, none⟩ = some (.int .i64 s.net.wind.hi) ∧ W.cell? ⟨w.heap.size, 2, none⟩ = some (.int .i64 s.net.cur.lo) ∧ W.cell? ⟨w.heap.size, 3, none⟩ = some (.int .i64 s.net.cur.hi) ∧ W.cell? ⟨w.heap.size, 4, none⟩ = some (.slice r.net.gA s.net.grips.length r.net.gc) ∧ W.cell? ⟨w.heap.size, 5, none⟩ = some (.slice r.net.aA s.net.ancs.length r.net.ac) ∧ W.cell? ⟨w.heap.size, 6, none⟩ = some (.slice r.net.wA s.net.wals.length r.net.wc) ∧ W.cell? ⟨w.heap.size, 7, none⟩ = some (.int .i64 s.sea.wt.lo) ∧ W.cell? ⟨w.heap.size, 8, none⟩ = some (.int .i64 s.sea.wt.hi) ∧ W.cell? ⟨w.heap.size, 9, none⟩ = some (.slice r.sea.pA s.sea.places.length r.sea.pc) ∧ W.cell? ⟨w.heap.size, 10, none⟩ = some (.slice r.sea.bA s.sea.boats.length r.sea.bc) ∧ W.cell? ⟨w.heap.size, 11, none⟩ = some (.slice r.kA s.skies.length r.kc) ∧ W.cell? ⟨w.heap.size, 12, none⟩ = some (.slice r.fA s.follows.length r.fc) ∧ W.cell? ⟨w.heap.size, 13, none⟩ = some (.slice r.iA s.first.length r.ic) ∧ W.cell? ⟨w.heap.size, 14, none⟩ = some (.slice r.dA s.days.length r.dc))
    (refine ⟨?_, ?_, ?_, ?_, ?_, ?_, ?_, ?_, ?_, ?_, ?_, ?_, ?_, ?_, ?_⟩ <;> go_simp)
    (first
      | (go_at_call 27; refine (pIsSky_c r s k true HI.out _ h40).mono ?_; rintro e w1 ⟨rfl, δ, rfl⟩)
      | (go_at_call 26; refine (sOpen_c r s HV.out B _ H.out.up).mono ?_; rintro e w1 ⟨g, δ1, rfl, rfl, hg, HA⟩))
  have cc := HA.out.1.cell (seasonC_calm r s s.skies.length s.days.length H4.out)
  rw [if_pos HK.out] at cc
  have gg : Lt g _ := HA.out.1.lt
  go_wp2_with (fail)
  go_ret2
  exact ⟨rfl, lat_ex⟩
set_option maxRecDepth 100000 in
set_option maxHeartbeats 4000000 in
theorem sWorth_c (r : SeasonR) (s : Season) (hv : seasonOk s = true) (d k : Nat) (hd : d < s.days.length) (hk : k < s.skies.length) (B : Nat) (w : World) [hB : Le B w] (h : SeasonIs B w r s) :
    Calls Try.prog 15 #[seasonV r s, .int .i64 (d : Int), .int .i64 (k : Int)] w fun e w' => e = .returned (.tuple #[.int .i64 (worthN s (s.days.length - d) k), .int .i64 0]) ∧ ∃ δ, w' = lat w δ := by
  obtain ⟨k1, k2, k3, k4, k5, k6, k7, k8, k9⟩ := seasonOk_iff.1 hv
  have HV := Lib.hid hv
  have H := Lib.hid h
  have h40 : s.skies.length ≤ 40 := by omega
  have h41 : s.days.length ≤ 40 := by omega
  have HI : Hid (inB 0 ((s.skies.length : Int) - 1) (k : Int) = true) := Lib.hid (inB_iff.2 (by omega))
  have HJ : Hid (inB 0 ((s.days.length : Int) - 1) (d : Int) = true) := Lib.hid (inB_iff.2 (by omega))
  have HW := Lib.hid (worth_c r s hv (s.days.length - d) (by omega) k hk)
  rw [show s.days.length - (s.days.length - d) = d by omega] at HW
  clear k1 k2 k3 k4 k5 k6 k7 k8 k9 hv h hk hd
  go_enter Try.func15, Try.ntmps15
  go_wp2_with (fail)
  refine wp_name fun W1 hW1 => ?_
  have iw1 : Le B W1 := by rw [hW1.out]; infer_instance
  have iw2 : Grew B w W1 := by rw [hW1.out]; infer_instance
  have iw3 : Le w.heap.size W1 := by rw [hW1.out]; infer_instance
  have iw4 : Grew w.heap.size w W1 := by rw [hW1.out]; infer_instance
  have iw5 : Lt (w.heap.size) W1 := by rw [hW1.out]; infer_instance
  have X1 : Hid (Box W1 w.heap.size 36 (seasonA r s)) := by rw [hW1.out]; exact Lib.hid (Box.new rfl)
  clear hW1
  obtain ⟨c0, c1, c2, c3, c4, c5, c6, c7, c8, c9, c10, c11, c12, c13, c14⟩ := X1.out.season
  go_region_held3 (fun W => W.cell? ⟨w.heap.size, 0, none⟩ = some (.int .i64 s.net.wind.lo) ∧ W.cell? ⟨w.heap.size, 1, none⟩ = some (.int .i64 s.net.wind.hi) ∧ W.cell? ⟨w.heap.size, 2, none⟩ = some (.int .i64 s.net.cur.lo) ∧ W.cell? ⟨w.heap.size, 3, none⟩ = some (.int .i64 s.net.cur.hi) ∧ W.cell? ⟨w.heap.size, 4, none⟩ = some (.slice r.net.gA s.net.grips.length r.net.gc) ∧ W.cell? ⟨w.heap.size, 5, none⟩ = some (.slice r.net.aA s.net.ancs.length r.net.ac) ∧ W.cell? ⟨w.heap.size, 6, none⟩ = some (.slice r.net.wA s.net.wals.length r.net.wc) ∧ W.cell? ⟨w.heap.size, 7, none⟩ = some (.int .i64 s.sea.wt.lo) ∧ W.cell? ⟨w.heap.size, 8, none⟩ = some (.int .i64 s.sea.wt.hi) ∧ W.cell? ⟨w.heap.size, 9, none⟩ = some (.slice r.sea.pA s.sea.places.length r.sea.pc) ∧ W.cell? ⟨w.heap.size, 10, none⟩ = some (.slice r.sea.bA s.sea.boats.length r.sea.bc) ∧ W.cell? ⟨w.heap.size, 11, none⟩ = some (.slice r.kA s.skies.length r.kc) ∧ W.cell? ⟨w.heap.size, 12, none⟩ = some (.slice r.fA s.follows.length r.fc) ∧ W.cell? ⟨w.heap.size, 13, none⟩ = some (.slice r.iA s.first.length r.ic) ∧ W.cell? ⟨w.heap.size, 14, none⟩ = some (.slice r.dA s.days.length r.dc))
    (refine ⟨?_, ?_, ?_, ?_, ?_, ?_, ?_, ?_, ?_, ?_, ?_, ?_, ?_, ?_, ?_⟩ <;> go_simp)
    (first
      | (go_at_call 35; refine (pIsDay_c r s d true HJ.out _ h41).mono ?_; rintro e w1 ⟨rfl, δ, rfl⟩)
      | (go_at_call 27; refine (pIsSky_c r s k true HI.out _ h40).mono ?_; rintro e w1 ⟨rfl, δ0, rfl⟩)
      | (go_at_call 26; refine (sOpen_c r s HV.out B _ H.out.up).mono ?_; rintro e w1 ⟨g, δ1, rfl, rfl, hg, HA⟩))
  go_wp2_with (go_at_call 36; refine (HW.out B _ _ HA.out).mono ?_; rintro e w1 ⟨rfl, δ2, rfl⟩)
  go_ret2
  exact ⟨rfl, lat_ex⟩
end Go.Proofs.Ytnddiloeikaleaa
namespace Go.Proofs.Ytnddiloeikaleaa
open Go.RowKit
open An
open Tc

theorem slBo : SlT Try.prog 29 88 (.agg #[.int .i64 0, .int .i64 0]) 2 16 := SlT.mk Try.underlying29 (by kernel_rfl) rfl (by omega)
theorem one_boat : ∀ x, ∀ u ∈ encBoat x, u.oneCell' = true := by intro x u hu; simp [encBoat] at hu; rcases hu with rfl | rfl <;> rfl
/-- A sea whose rows are the caller's own. -/
def SeaOwn (base : Nat) (w : World) (r : SeaR) (n : Sea) : Prop :=
  w.ownsRow base 23 2 (.slice r.pA n.places.length r.pc) n.places.length (n.places.flatMap encSp) ∧
  w.ownsRow base 88 2 (.slice r.bA n.boats.length r.bc) n.boats.length (n.boats.flatMap encBoat)
theorem SeaOwn.is {base : Nat} {w : World} {r : SeaR} {n : Sea} (h : SeaOwn base w r n) : SeaIs w.heap.size w r n := ⟨Sl.of_own h.1, Sl.of_own h.2⟩
theorem SeaOwn.set {base : Nat} {w : World} {r : SeaR} {n : Sea} (h : SeaOwn base w r n) {b i : Nat} (hb : b < base) (u : Value) : SeaOwn base (w.setCell ⟨b, i, none⟩ u) r n :=
  ⟨ownsRow_setCell_below h.1 (a := ⟨b, i, none⟩) hb u, ownsRow_setCell_below h.2 (a := ⟨b, i, none⟩) hb u⟩
theorem SeaOwn.mono {base : Nat} {w : World} {r : SeaR} {n : Sea} (h : SeaOwn base w r n) {base' : Nat} (hb : base' ≤ base) : SeaOwn base' w r n := ⟨owns_mono h.1 hb, owns_mono h.2 hb⟩

theorem step_append_litk {P : Program} (W1 : World) {W : World} {ops : Array Oper} {o : Oper} {a : Act} {K : Act → World → Prop} {Q : Exit → Act → World → Prop} {E : Prop} {t e : TypeId} {z : Value} {size bytes : Nat} (hT : SlT P t e z size bytes)
    (s x : Operand) (hgd : o.guard = none) (ho : o.op = .call { callee := .builtin .append, args := #[s, x], argTypes := #[t, t] })
    {v : Value} (hown : W.ownsRow W1.heap.size e size v 0 []) (hs : a.eval s = v)
    {B m c : Nat} {A : Option Addr} {news : List Value} (hx : a.eval x = .slice A m c) (hr : Cells W B A news) (hl : news.length = m * size) (h1 : ∀ u ∈ news, u.oneCell' = true)
    (h63 : m ≤ 1000000) (hbytes : bytes ≤ 1000) [hbase : Le W1.heap.size W]
    (h : ∀ A' c' δ, (latB W1.heap.size W δ).ownsRow W1.heap.size e size (.slice A' m c') m news → W.grownBy (latB W1.heap.size W δ) v.ownBlock → W.ownsRow W1.heap.size e size v 0 [] → K (a.put o.dst (.slice A' m c')) (latB W1.heap.size W δ)) :
    if Region.wanted o (yielded ops a.tmps) = true then Oper.wp P o a W K Q else E :=
  step_append_lit W1 hT s x hgd ho hown hs hx hr hl h1 h63 hbytes fun A' c' δ h2 h3 => h A' c' δ h2 h3 hown
theorem own_on {w w' : World} {base g n n' c' size size' : Nat} {e e' : TypeId} {v : Value} {xs xs' : List Value} (h : w.ownsRow base e size v n xs) (hg : w.grownBy w' (Value.slice (some ⟨g, 0, none⟩) n' c').ownBlock) (h' : w.ownsRow base e' size' (.slice (some ⟨g, 0, none⟩) n' c') n' xs') (hne : e ≠ e') : w'.ownsRow base e size v n xs :=
  h.kept hg (.inr (own_ne h h' hne))
theorem kept_lit {W W' : World} {base e s g g' : Nat} (h : W.ownsRow base e s (.slice (some ⟨g, 0, none⟩) 0 0) 0 []) (hgr : W.grownBy W' (Value.slice (some ⟨g', 0, none⟩) 0 0).ownBlock) (hne : g ≠ g') : W'.ownsRow base e s (.slice (some ⟨g, 0, none⟩) 0 0) 0 [] :=
  h.kept hgr (.inr fun he => hne (Option.some.inj he))
theorem lit_fst {W1 : World} {e1 e2 s g : Nat} (hg : g = W1.heap.size) : ((W1.alloc (.cells #[] e1)).alloc (.cells #[] e2)).drew.ownsRow W1.heap.size e1 s (.slice (some ⟨g, 0, none⟩) 0 0) 0 [] := by
  subst hg
  exact (own_lit0 (Nat.le_refl _) rfl).alloc _
theorem lit_snd {W1 : World} {e1 e2 s g : Nat} (hg : g = W1.heap.size + 1) : ((W1.alloc (.cells #[] e1)).alloc (.cells #[] e2)).drew.ownsRow W1.heap.size e2 s (.slice (some ⟨g, 0, none⟩) 0 0) 0 [] := by
  have h : (W1.alloc (.cells #[] e1)).heap.size = W1.heap.size + 1 := by go_simp
  exact own_lit0 (W := W1.alloc (.cells #[] e1)) (by omega) (by omega)
theorem ne_succ' {n : Nat} : n ≠ n + 1 := by omega
theorem succ_ne' {n : Nat} : n + 1 ≠ n := by omega
set_option maxRecDepth 100000 in
set_option maxHeartbeats 4000000 in
theorem seaCopy_c (r : SeaR) (n : Sea) (B : Nat) (w : World) [hB : Le B w] (h : SeaIs B w r n) (q1 : n.places.length ≤ 1000) (q2 : n.boats.length ≤ 1000) :
    Calls Try.prog 34 #[seaV r n] w fun e w' => ∃ (r' : SeaR) (δ : World), e = .returned (seaV r' n) ∧ w' = lat w δ ∧ SeaOwn w.heap.size (lat w δ) r' n := by
  go_enter Try.func34, Try.ntmps34
  have H := Lib.hid h
  clear h
  go_upto_region 1 with fail
  refine wp_name fun W1 hW1 => ?_
  have iw1 : Le B W1 := by rw [hW1.out]; infer_instance
  have iw2 : Grew B w W1 := by rw [hW1.out]; infer_instance
  have iw3 : Le w.heap.size W1 := by rw [hW1.out]; infer_instance
  have iw4 : Grew w.heap.size w W1 := by rw [hW1.out]; infer_instance
  have iw5 : Lt (w.heap.size) W1 := by rw [hW1.out]; infer_instance
  have iw6 : Lt (w.heap.size + 1) W1 := by rw [hW1.out]; infer_instance
  have cw7 : W1.cell? ⟨w.heap.size, 0, none⟩ = some (.int .i64 n.wt.lo) := by rw [hW1.out]; go_simp
  have cw8 : W1.cell? ⟨w.heap.size, 1, none⟩ = some (.int .i64 n.wt.hi) := by rw [hW1.out]; go_simp
  have cw9 : W1.cell? ⟨w.heap.size, 2, none⟩ = some (.slice r.pA n.places.length r.pc) := by rw [hW1.out]; go_simp
  have cw10 : W1.cell? ⟨w.heap.size, 3, none⟩ = some (.slice r.bA n.boats.length r.bc) := by rw [hW1.out]; go_simp
  have cw11 : W1.cell? ⟨w.heap.size + 1, 0, none⟩ = some (.int .i64 0) := by rw [hW1.out]; go_simp
  have cw12 : W1.cell? ⟨w.heap.size + 1, 1, none⟩ = some (.int .i64 0) := by rw [hW1.out]; go_simp
  have cw13 : W1.cell? ⟨w.heap.size + 1, 2, none⟩ = some (.slice none 0 0) := by rw [hW1.out]; go_simp
  have cw14 : W1.cell? ⟨w.heap.size + 1, 3, none⟩ = some (.slice none 0 0) := by rw [hW1.out]; go_simp
  have fw15 : W1.frozen? ⟨w.heap.size + 1, 0, none⟩ = false := by rw [hW1.out]; go_simp
  have fw16 : W1.frozen? ⟨w.heap.size + 1, 1, none⟩ = false := by rw [hW1.out]; go_simp
  have fw17 : W1.frozen? ⟨w.heap.size + 1, 2, none⟩ = false := by rw [hW1.out]; go_simp
  have fw18 : W1.frozen? ⟨w.heap.size + 1, 3, none⟩ = false := by rw [hW1.out]; go_simp
  clear hW1
  go_region_held3 (fun W => W.cell? ⟨w.heap.size, 0, none⟩ = some (.int .i64 n.wt.lo) ∧ W.cell? ⟨w.heap.size, 1, none⟩ = some (.int .i64 n.wt.hi) ∧ W.cell? ⟨w.heap.size, 2, none⟩ = some (.slice r.pA n.places.length r.pc) ∧ W.cell? ⟨w.heap.size, 3, none⟩ = some (.slice r.bA n.boats.length r.bc))
    (refine ⟨?_, ?_, ?_, ?_⟩ <;> go_simp)
    (first
      | (refine step_append_litk W1 slSp (.tmp 5) (.tmp 7) rfl rfl (v := .slice (some ⟨_, 0, none⟩) 0 0) (by first | exact own_lit0 (by go_simp; done) (by go_simp; done) | exact (own_lit0 (by go_simp; done) (by go_simp; done)).alloc _ | exact kept_lit (lit_fst rfl) hg2 ne_succ' | exact kept_lit (lit_snd rfl) hg2 succ_ne') rfl (B := B) (A := r.pA) (m := n.places.length) (c := r.pc) (news := n.places.flatMap encSp) rfl (H.out.up.1.2.2) (len_enc encSp 2 (fun _ => rfl) _) (one_enc encSp one_sp _) (by omega) (by omega) ?_; intro A1 c1 δ1 own1 hg1 hl1; try have p2 := (by first | exact own_on own2 hg1 hl1 (by decide) | exact own_on (own2.alloc _) hg1 hl1 (by decide)))
      | (refine step_append_litk W1 slBo (.tmp 9) (.tmp 11) rfl rfl (v := .slice (some ⟨_, 0, none⟩) 0 0) (by first | exact own_lit0 (by go_simp; done) (by go_simp; done) | exact (own_lit0 (by go_simp; done) (by go_simp; done)).alloc _ | exact kept_lit (lit_fst rfl) hg1 ne_succ' | exact kept_lit (lit_snd rfl) hg1 succ_ne') rfl (B := B) (A := r.bA) (m := n.boats.length) (c := r.bc) (news := n.boats.flatMap encBoat) rfl (H.out.up.2.2.2) (len_enc encBoat 2 (fun _ => rfl) _) (one_enc encBoat one_boat _) (by omega) (by omega) ?_; intro A2 c2 δ2 own2 hg2 hl2; try have p1 := (by first | exact own_on own1 hg2 hl2 (by decide) | exact own_on (own1.alloc _) hg2 hl2 (by decide))))
  all_goals try have p3 := (And.intro own1 p2 : SeaOwn W1.heap.size _ ⟨A1, c1, A2, c2⟩ n)
  all_goals try have p3 := (And.intro p1 own2 : SeaOwn W1.heap.size _ ⟨A1, c1, A2, c2⟩ n)
  all_goals
    go_wp2
    refine bodyPost_ret (v := seaV ⟨A1, c1, A2, c2⟩ n) ?_ rfl ?_
    · simp only [results, Try.results34]
      go_simp
    · refine ⟨⟨A1, c1, A2, c2⟩, rfl, _, lat_def, ?_⟩
      rw [← lat_def (w := w)]
      refine SeaOwn.mono (base := W1.heap.size) ?_ iw3.out
      iterate 4 (refine SeaOwn.set ?_ iw6.out _)
      exact p3

end Go.Proofs.Ytnddiloeikaleaa
namespace Go.Proofs.Ytnddiloeikaleaa
open Go.RowKit
open An
open Tc

theorem netOwn_drew {base : Nat} {w : World} {r : NetR} {n : Net} (h : NetOwn base w r n) : NetOwn base w.drew r n := h
set_option maxRecDepth 100000 in
set_option maxHeartbeats 4000000 in
theorem rNetOf_c (r : SeasonR) (s : Season) (k : Nat) (hk : k < s.skies.length) (q1 : s.net.grips.length ≤ 1000) (q2 : s.net.ancs.length ≤ 1000) (q3 : s.net.wals.length ≤ 1000) (_q4 : s.skies.length ≤ 40) (B : Nat) (w : World) [hB : Le B w] (h : SeasonIs B w r s) :
    Calls Try.prog 8 #[seasonV r s, .int .i64 (k : Int)] w fun e w' => ∃ (r' : NetR) (δ : World), e = .returned (netV r' (netOf s k)) ∧ w' = lat w δ ∧ NetOwn w.heap.size (lat w δ) r' (netOf s k) := by
  obtain ⟨nr, sr, kA, kc, fA, fc, iA, ic, dA, dc⟩ := r
  obtain ⟨b, o, rfl, hb, d0, d1, d2, d3⟩ := h.skies.sky hk
  have H := Lib.hid h
  have hki : (k : Int) < (s.skies.length : Int) := by omega
  have hk0 : ¬ (k : Int) < 0 := by omega
  have hbw : Lt b w := ⟨Nat.lt_of_lt_of_le hb hB.out⟩
  clear h
  go_enter Try.func8, Try.ntmps8
  go_upto_region 1 with fail
  refine wp_name fun W1 hW1 => ?_
  have iw1 : Le B W1 := by rw [hW1.out]; infer_instance
  have iw2 : Grew B w W1 := by rw [hW1.out]; infer_instance
  have iw3 : Le w.heap.size W1 := by rw [hW1.out]; infer_instance
  have iw4 : Grew w.heap.size w W1 := by rw [hW1.out]; infer_instance
  have iw5 : Lt (w.heap.size) W1 := by rw [hW1.out]; infer_instance
  have iw6 : Lt (w.heap.size + 1) W1 := by rw [hW1.out]; infer_instance
  have iw7 : Lt (b) W1 := by rw [hW1.out]; infer_instance
  have cw8 : W1.cell? ⟨w.heap.size + 1, 0, none⟩ = some (.int .i64 0) := by rw [hW1.out]; go_simp
  have cw9 : W1.cell? ⟨w.heap.size + 1, 1, none⟩ = some (.int .i64 0) := by rw [hW1.out]; go_simp
  have cw10 : W1.cell? ⟨w.heap.size + 1, 2, none⟩ = some (.int .i64 0) := by rw [hW1.out]; go_simp
  have cw11 : W1.cell? ⟨w.heap.size + 1, 3, none⟩ = some (.int .i64 0) := by rw [hW1.out]; go_simp
  have cw12 : W1.cell? ⟨w.heap.size + 1, 4, none⟩ = some (.slice none 0 0) := by rw [hW1.out]; go_simp
  have cw13 : W1.cell? ⟨w.heap.size + 1, 5, none⟩ = some (.slice none 0 0) := by rw [hW1.out]; go_simp
  have cw14 : W1.cell? ⟨w.heap.size + 1, 6, none⟩ = some (.slice none 0 0) := by rw [hW1.out]; go_simp
  have fw15 : W1.frozen? ⟨w.heap.size + 1, 0, none⟩ = false := by rw [hW1.out]; go_simp
  have fw16 : W1.frozen? ⟨w.heap.size + 1, 1, none⟩ = false := by rw [hW1.out]; go_simp
  have fw17 : W1.frozen? ⟨w.heap.size + 1, 2, none⟩ = false := by rw [hW1.out]; go_simp
  have fw18 : W1.frozen? ⟨w.heap.size + 1, 3, none⟩ = false := by rw [hW1.out]; go_simp
  have fw19 : W1.frozen? ⟨w.heap.size + 1, 4, none⟩ = false := by rw [hW1.out]; go_simp
  have fw20 : W1.frozen? ⟨w.heap.size + 1, 5, none⟩ = false := by rw [hW1.out]; go_simp
  have fw21 : W1.frozen? ⟨w.heap.size + 1, 6, none⟩ = false := by rw [hW1.out]; go_simp
  have X1 : Hid (Box W1 w.heap.size 36 (seasonA ⟨nr, sr, some ⟨b, o, none⟩, kc, fA, fc, iA, ic, dA, dc⟩ s)) := by rw [hW1.out]; exact Lib.hid ((Box.new rfl).alloc _)
  have e0 : ∀ i, W1.cell? ⟨b, i, none⟩ = w.cell? ⟨b, i, none⟩ := fun i => cells_same iw2.out _ _ hb
  rw [← e0] at d0 d1 d2 d3
  clear e0
  obtain ⟨c0, c1, c2, c3, c4, c5, c6, c7, c8, c9, c10, c11, c12, c13, c14⟩ := X1.out.season
  dsimp only at c4 c5 c6 c9 c10 c11 c12 c13 c14
  go_upto_region 2 with (go_at_call 25; refine (copy_c nr s.net B _ H.out.net.up q1 q2 q3).mono ?_; rintro e w1 ⟨r', δ, rfl, rfl, h''⟩; obtain ⟨bs, hbs, h'⟩ : ∃ bs, Hid (bs = _) ∧ NetOwn bs _ r' s.net := ⟨_, rfl, h''⟩; clear h'')
  have b1 : w.heap.size + 1 < bs := by rw [hbs.out]; go_simp
  go_region
  go_wp2_with (fail)
  refine bodyPost_ret (v := netV r' (netOf s k)) ?_ rfl ?_
  · simp only [results, Try.results8]
    go_simp
    simp [netOf]
  · refine ret_own ?_
    refine NetOwn.mono (base := bs) ?_ (Nat.le_of_lt (Nat.lt_of_succ_lt b1))
    refine netOwn_drew ?_
    refine NetOwn.alloc ?_ _
    iterate 7 (refine NetOwn.set ?_ b1 _)
    exact h'
end Go.Proofs.Ytnddiloeikaleaa
