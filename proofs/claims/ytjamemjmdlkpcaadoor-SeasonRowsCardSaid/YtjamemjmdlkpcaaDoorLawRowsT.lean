/- SeasonRows: for every input the law returns true, and every argument reads behind the call as before. Condition: five tables of Go's library start as its text lays them (tied by the card). -/
import Derived.Test.YtjamemjmdlkpcaaDoorRows
import Derived.Test.YtjamemjmdlkpcaaDoorTie
import Derived.Test.YtjamemjmdlkpcaaDoorCards
import Derived.Test.YtjamemjmdlkpcaaDoorSe38
import Derived.Test.YtjamemjmdlkpcaaDoorSeOpen
import Derived.SevenTiedAt
import Derived.Carry
namespace Go.Proofs.YtjamemjmdlkpcaaDoor.seasonRowsDone
open Go.ChangeShapes Go.WideShapes Go.ChangeAt Go.RowKit
open Se

set_option maxRecDepth 100000 in
set_option maxHeartbeats 1000000 in
theorem lifted (os : Os) (started : os.Started) (H : Type) (enc : TypeId × Value → H) :
    ReturnsInHanded {} Tryd.checked os 5 .any (fun w args => (Rows.seasonRowsSpec.pre enc Tryd.prog Tryd.f5 [] false w args ∧ laidMetH Tryd.prog laid5 w) ∧ sizedMet enc Tryd.prog Tryd.f5 (OpenSpec.ofChange Rows.seasonRowsSpec) false w args)
      (Rows.seasonRowsSpec.post enc Tryd.prog Tryd.f5 false true false false) := by
  refine returnsInHanded_of_change_and (C := Tryd.checked) (X := fun w _ => laidMetH Tryd.prog laid5 w) (fun _ _ _ hh h => h.of_heap hh) own started (by kernel_rfl) Tryd.func5
    (ChangeSpec.witness_shaped (enc := enc) (C := Tryd.checked) (os := os) (X := fun w _ => laidMetH Tryd.prog laid5 w) false (World.laidAll Tryd.prog os laid5) #[.string ⟨#[]⟩, .string ⟨#[]⟩, .agg #[.int .i64 0, .int .i64 0, .string ⟨#[]⟩]] 8 (World.laidAll_os _ _ _) (World.shaped_of_ZipB (by kernel_rfl) (by kernel_rfl)) (by kernel_rfl) (by kernel_rfl) (by kernel_rfl) (all_met os _)) ?_
  intro W base args ds gs before hval0 hW _ hsz hL _
  have hval : ∀ (j : Nat) t v, Tryd.f5.params[j]? = some t → args[j]? = some v → Value.okWide Tryd.prog W .any base t v := hval0
  have hW' := hW
  obtain ⟨p, q, hA0, hV, rfl, hfz, hnd⟩ := hW
  have hA : DataW.TrodAll enc Tryd.prog W 0 (fun _ => true) true Tryd.f5.params.toList args.toList ds p := hA0
  rw [Tryd.params5] at hA hval hsz
  obtain ⟨v0, vs0, d0, ds0, p0, q0, hargs, rfl, rfl, h0, r0⟩ := trodAll_cons hA
  obtain ⟨v1, vs1, d1, ds1, p1, q1, rfl, rfl, rfl, h1, r1⟩ := trodAll_cons r0
  obtain ⟨v2, vs2, d2, ds2, p2, q2, rfl, rfl, rfl, h2, r2⟩ := trodAll_cons r1
  obtain ⟨rfl, rfl, rfl⟩ := trodAll_nil r2
  obtain rfl : args = #[v0, v1, v2] := by cases args; simp_all
  obtain ⟨rfl, rfl⟩ := trodVars_none hV
  have k0 := h0
  have lt0 : ∀ x ∈ p0, x.block < W.heap.size := by obtain ⟨m, hm⟩ := k0; exact DataW.trod_lt m _ _ _ hm
  obtain ⟨t0, rfl, rfl⟩ := open_text (hval 0 9 v0 rfl rfl) k0
  have z0 : t0.length ≤ 140737488355328 := by have hle : t0.length ≤ reachBytes := of_decide_eq_true (List.all_eq_true.1 hsz t0.length (by simp [DataW.weightsEach, DataW.weights])); have hre : reachBytes = 140737488351232 := rfl; omega
  have k1 := h1
  have lt1 : ∀ x ∈ p1, x.block < W.heap.size := by obtain ⟨m, hm⟩ := k1; exact DataW.trod_lt m _ _ _ hm
  obtain ⟨t1, rfl, rfl⟩ := open_text (hval 1 9 v1 rfl rfl) k1
  have z1 : t1.length ≤ 140737488355328 := by have hle : t1.length ≤ reachBytes := of_decide_eq_true (List.all_eq_true.1 hsz t1.length (by simp [DataW.weightsEach, DataW.weights])); have hre : reachBytes = 140737488351232 := rfl; omega
  have k2 := h2
  have lt2 : ∀ x ∈ p2, x.block < W.heap.size := by obtain ⟨m, hm⟩ := k2; exact DataW.trod_lt m _ _ _ hm
  obtain ⟨r102, rfl⟩ := open_rowA (hval 2 23 v2 rfl rfl) k2
  obtain ⟨hT, hs6⟩ := tab_of_laid hL
  have h6 : Le 6 W := ⟨hs6⟩
  clear hA0 hval0
  refine (lawRows_c t0 t1 r102 z0 z1 W hT).mono fun e W' ⟨he, δ, hδ⟩ => ?_
  subst he
  have bel : Below W.heap.size W W' := by rw [hδ]; exact lat_below W δ
  exact ⟨_, rfl, _, _, _, [], _, [], hW', trodAll_mk1 (shut_bool Tryd.underlying4 _), (trodAll_cons_mk (Below.trod laidOut (by kernel_rfl) (of_decide_eq_true (by kernel_rfl)) k0 bel lt0) (trodAll_cons_mk (Below.trod laidOut (by kernel_rfl) (of_decide_eq_true (by kernel_rfl)) k1 bel lt1) (trodAll_cons_mk (Below.trod laidOut (by kernel_rfl) (of_decide_eq_true (by kernel_rfl)) k2 bel lt2) trodAll_mk0))), rfl, bel.frame _, fun h => by cases h⟩

theorem over : Rows.seasonRowsRow.holds Tryd.pinned (OpenSpec.ofChange Rows.seasonRowsSpec) :=
  OpenClaim.holds_of_wide 5 Tryd.f5 rfl rfl rfl rfl rfl rfl rfl ⟨rfl, rfl, rfl, rfl, rfl⟩ rfl rfl rfl rfl rfl (by kernel_rfl) Tryd.func5 (by kernel_rfl)
    (of_decide_eq_true (by kernel_rfl)) (by unfold Func.isWrapper; first | (rw [if_pos (by decide +kernel)]; kernel_rfl) | (rw [if_neg (by decide +kernel)]; exact ⟨rfl, rfl⟩))
    (fun os started H enc _ => lifted os started H enc)

theorem seasonRows_holds : Rows.SeasonRowsCardSaid :=
  Claim7.holds_tied_plain_at .later [] [.data, .data, .data, .data, .pinned] true (true, "e890075cb154df08cbfd902b10904a842f5a996aab9930a95ada0fd4a0848bd5") false
    over (fun _ h => by cases h) (by kernel_rfl) (fun _ h => by cases h) seasonRows_row_tie rfl ⟨rfl, rfl⟩ (by kernel_rfl) rfl
    (fun f fn hf hfn => by
      obtain rfl : f = 5 := Option.some.inj ((show Tryd.prog.funcNamed "almadraba/almadrabalaw14.SeasonRows" = some 5 by kernel_rfl).symm.trans hf) |>.symm
      obtain rfl : fn = Tryd.f5 := (Option.some.inj (Tryd.func5.symm.trans hfn)).symm
      exact ⟨by kernel_rfl, fun j t ht => by
        rw [Tryd.params5] at ht
        have hm : t ∈ [9, 9, 23] := by simpa using Array.mem_of_getElem? ht
        have hall : ([9, 9, 23].all fun u => !Tryd.prog.wantsStandIn u) = true := by kernel_rfl
        exact (show Tryd.prog.wantsStandIn t = false by simpa using List.all_eq_true.1 hall t hm)⟩)
    (by kernel_rfl)
#print axioms seasonRows_holds
end Go.Proofs.YtjamemjmdlkpcaaDoor.seasonRowsDone
