/- Layer 2: the walks of OnesCount and of len of the program's sets. -/
import Derived.Test.YtgpcaaknpfopgaaDoorAn8
import Derived.Outline
namespace Go.Proofs.YtgpcaaknpfopgaaDoor
open Go.RowKit
open An

def ocA (s : Nat) : Int := IntKind.u64.wrap (bits BinOp.and IntKind.u64 ((s : Int) / 2) 6148914691236517205 + bits BinOp.and IntKind.u64 (s : Int) 6148914691236517205)
def ocB (s : Nat) : Int := IntKind.u64.wrap (bits BinOp.and IntKind.u64 (ocA s / 4) 3689348814741910323 + bits BinOp.and IntKind.u64 (ocA s) 3689348814741910323)
def ocC (s : Nat) : Int := bits BinOp.and IntKind.u64 (IntKind.u64.wrap (ocB s / 16 + ocB s)) 1085102592571150095
def ocD (s : Nat) : Int := IntKind.u64.wrap (ocC s + ocC s / 256)
def ocE (s : Nat) : Int := IntKind.u64.wrap (ocD s + ocD s / 65536)
def ocF (s : Nat) : Int := IntKind.u64.wrap (ocE s + ocE s / 4294967296)
theorem oc_all : ∀ s : Fin 64, bits BinOp.and IntKind.i64 (ocF s.val) 127 = ((listM s.val).length : Int) ∧ ocF s.val < 1000 ∧ 0 ≤ ocF s.val := by decide +kernel

set_option maxRecDepth 100000 in
set_option maxHeartbeats 4000000 in
theorem ones64_c (s : Nat) (w : World) (hs : s < 64) :
    Calls Tryd.prog 121 #[.int .u64 s] w fun e w' => e = .returned (.int .i64 (listM s).length) ∧ w = w' := by
  have HO := Lib.hid (oc_all ⟨s, hs⟩)
  go_enter Tryd.func121, Tryd.ntmps121
  go_wp2_with (fail)
  go_ret
  refine ⟨ret_int ?_, rfl⟩
  show bits BinOp.and IntKind.i64 (wrap64 (ocF s)) 127 = _
  have h1 := HO.out.2
  rw [w64 (by show -9223372036854775808 ≤ ocF s ∧ ocF s ≤ 9223372036854775807; have h2 : ocF s < 1000 ∧ 0 ≤ ocF s := h1; omega)]
  exact HO.out.1

theorem ones_c (s : Nat) (w : World) (hs : s < 64) :
    Calls Tryd.prog 115 #[.int .u64 s] w fun e w' => e = .returned (.int .i64 (listM s).length) ∧ w = w' := by
  go_enter Tryd.func115, Tryd.ntmps115
  go_wp2_with (go_at_call 121; refine (ones64_c s _ hs).mono ?_; rintro e w1 ⟨rfl, rfl⟩)
  go_ret
  exact ⟨rfl, rfl⟩
theorem setLen_c (s : Nat) (w : World) (hs : s < 64) :
    Calls Tryd.prog 106 #[.int .u64 s] w fun e w' => e = .returned (.int .i64 (listM s).length) ∧ w = w' := by
  go_enter Tryd.func106, Tryd.ntmps106
  go_wp2_with (go_at_call 115; refine (ones_c s _ hs).mono ?_; rintro e w1 ⟨rfl, rfl⟩)
  go_ret
  exact ⟨rfl, rfl⟩

end Go.Proofs.YtgpcaaknpfopgaaDoor
