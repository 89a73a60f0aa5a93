/- Layer 2: the walks of the lists of anchors, and of the program's questions about a truth. -/
import Derived.Test.YtgpcaaknpfopgaaDoorAn7
namespace Go.Proofs.YtgpcaaknpfopgaaDoor
open Go.RowKit
open An

/-- Where the table of the lowest bits is asked. -/
def tzOff (s : Nat) : Nat := (IntKind.u64.wrap (bits BinOp.and IntKind.u64 (s : Int) (IntKind.u64.wrap (-(s : Int))) * 285870213051353865) / 288230376151711744).toNat
/-- The table of math/bits lies as its text lays it. -/
def TabIs (w : World) : Prop := ∀ s : Nat, 0 < s → s < 64 → w.cell? ⟨1, tzOff s, none⟩ = some (.int .u8 (tzN s))
theorem TabIs.up {w W : World} (h : TabIs w) (hg : Same 2 w W) : TabIs W := fun s h0 h1 => (cells_same hg _ _ (by omega)).trans (h s h0 h1)

theorem tz_c (s : Nat) (w : World) (h1 : 0 < s) (hs : s < 64) (hT : TabIs w) :
    Calls Tryd.prog 114 #[.int .u64 s] w fun e w' => e = .returned (.int .i64 (tzN s)) ∧ w = w' := by
  have h0 : ((s : Int) == 0) = false := by simp; omega
  have hc := hT s h1 hs
  unfold tzOff at hc
  have hi : 0 ≤ IntKind.u64.wrap (bits BinOp.and IntKind.u64 (↑s) (IntKind.u64.wrap (-↑s)) * 285870213051353865) / 288230376151711744 := by
    have : 0 ≤ IntKind.u64.wrap (bits BinOp.and IntKind.u64 (↑s) (IntKind.u64.wrap (-↑s)) * 285870213051353865) := by rw [IntKind.wrap_u64]; omega
    omega
  have hi2 : IntKind.u64.wrap (bits BinOp.and IntKind.u64 (↑s) (IntKind.u64.wrap (-↑s)) * 285870213051353865) / 288230376151711744 < 64 := by
    have : IntKind.u64.wrap (bits BinOp.and IntKind.u64 (↑s) (IntKind.u64.wrap (-↑s)) * 285870213051353865) < 18446744073709551616 := by rw [IntKind.wrap_u64]; omega
    omega
  have ht : tzN s < 256 := by have := (listM_step ⟨s, hs⟩ (by simp; omega)).2.2; simp at this; omega
  go_enter Tryd.func114, Tryd.ntmps114
  go_wp2
  go_ret
  exact ⟨rfl, rfl⟩

theorem listM_len (s : Nat) : (listM s).length ≤ 6 := by
  unfold listM
  rw [List.length_map]
  have := List.length_filter_le (fun i => s.testBit i) (List.range 6)
  simpa using this

theorem and_form (s : Nat) (h0 : 0 < s) (hs : s < 64) : bits .and .u64 (s : Int) ((s : Int) - 1) = ((s &&& (s - 1) : Nat) : Int) := by
  rw [show ((s : Int) - 1) = ((s - 1 : Nat) : Int) by omega]
  exact u64_and_nat _ _ (by omega) (by omega)

theorem list_c (s0 : Nat) (w : World) (hs : s0 < 64) (hT : TabIs w) [h2 : Le 2 w] :
    Calls Tryd.prog 102 #[.int .u64 s0] w fun e w' => ∃ (A : Option Addr) (c : Nat) (δ : World), e = .returned (.slice A (listM s0).length c) ∧ w' = lat w δ ∧ Sl encI (lat w δ).heap.size (lat w δ) A c (listM s0) := by
  have hl := Lib.hid (listM_len s0)
  have HT := Lib.hid hT
  clear hT
  go_enter Tryd.func102, Tryd.ntmps102
  go_wp2_with (fail)
  go_loopw [0, 3] (fun d o wr => ∃ (s k c : Nat) (A : Option Addr) (δ : World) (pre : List Int), s < 64 ∧ k ≤ 6 ∧ d = .int .u64 s ∧ o = .slice A k c ∧ Hid (pre.length = k ∧ listM s0 = pre ++ listM s) ∧ wr.ownsRow w.heap.size 3 1 (.slice A k c) k (pre.flatMap encI) ∧ wr = lat w δ) (fun d _ _ => (intOf d).toNat)
  case atStart => exact ⟨s0, 0, 0, none, w, [], hs, by omega, rfl, rfl, ⟨rfl, rfl⟩, World.ownsRow_nil _ _ _ _, (lat_refl w).symm⟩
  case round =>
    obtain ⟨s, k, c, A, δ, pre, hs', hk, rfl, rfl, hp, hown, rfl⟩ := hrel
    have HO := Lib.hid hown
    clear hown
    by_cases h0 : s = 0
    · subst h0
      go_wp2_with (fail)
      go_ret
      obtain ⟨hp1, hp2⟩ := hp.out
      rw [listM_zero, List.append_nil] at hp2
      rw [hp2]
      subst hp1
      exact ⟨A, c, δ, rfl, rfl, Sl.of_own (by exact HO.out)⟩
    · have hne : ((s : Int) == 0) = false := by simp; omega
      have hst := listM_step ⟨s, hs'⟩ h0
      simp only at hst
      have hk' : k + 1 ≤ 6 := by
        have h1 := hp.out.2
        have h2 := hl.out
        rw [h1, hst.1, List.length_append, hp.out.1] at h2
        simp at h2; omega
      have HS := Lib.hid hst
      have HF := Lib.hid (and_form s (by omega) hs')
      have hpos : 1 ≤ (s : Int) := by omega
      clear hst
      go_wp2_with (first
        | (go_at_call 114; refine (tz_c s _ (by omega) hs' (HT.out.up Grew.out)).mono ?_; rintro e w1 ⟨rfl, rfl⟩)
        | (at_builtin; (refine wpList_append_new w slI (.tmp 10) (.tmp 13) rfl rfl HO.out rfl rfl (by go_simp) rfl (by simp [Value.oneCell']) (by omega) (by omega) ?_); intro A' c' δ' hown'))
      go_roundw
      case rel =>
        refine ⟨s &&& (s - 1), k + 1, c', A', _, pre ++ [(tzN s : Int)], by have := HS.out.2.1; omega, hk', ?_, rfl, ?_, ?_, lat_def⟩
        · rw [← HF.out]
        · refine ⟨by rw [List.length_append, hp.out.1]; rfl, ?_⟩
          rw [hp.out.2, HS.out.1]; simp
        · rw [List.flatMap_append]
          exact hown'
      case measure =>
        have := HS.out.2.1
        rw [HF.out]
        simp [intOf]; omega

end Go.Proofs.YtgpcaaknpfopgaaDoor
