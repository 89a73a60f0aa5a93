/- Layer 4: Least, Order, Done, Calm of the program. -/
import Derived.Test.YtbfehifidlojlaaMe11
namespace Go.Proofs.Ytbfehifidlojlaa
open Go.RowKit
open Me

theorem mkHigh_c (r : NetR) (n : Net) (w : World) : Calls Try.prog 85 #[netV r n] w fun e w' => e = .returned (.func (.func 82) #[netV r n] #[]) ∧ ∃ δ, w' = lat w δ := by
  go_enter Try.func85, Try.ntmps85
  go_wp2_with (fail)
  go_ret
  exact ⟨rfl, lat_ex⟩
theorem mkLast_c (r : NetR) (n : Net) (w : World) : Calls Try.prog 84 #[netV r n] w fun e w' => e = .returned (.func (.func 100) #[netV r n] #[]) ∧ ∃ δ, w' = lat w δ := by
  go_enter Try.func84, Try.ntmps84
  go_wp2_with (fail)
  go_ret
  exact ⟨rfl, lat_ex⟩
theorem mkRegret_c (r : NetR) (n : Net) (w : World) : Calls Try.prog 66 #[netV r n] w fun e w' => e = .returned (.func (.func 62) #[netV r n] #[]) ∧ ∃ δ, w' = lat w δ := by
  go_enter Try.func66, Try.ntmps66
  go_wp2_with (fail)
  go_ret
  exact ⟨rfl, lat_ex⟩

theorem tells_high (r : NetR) (n : Net) (hv : valid n = true) (B : Nat) (w : World) : Tells 82 r n B w (worst n) := fun l A c W hl hN hB hS => by
  have i : Le W.heap.size W := inferInstance
  exact high_c r n A c _ l W.heap.size W hS (hN.more hB) hv hl rfl
theorem tells_last (r : NetR) (n : Net) (hv : valid n = true) (B : Nat) (w : World) : Tells 100 r n B w (lastOf n) := fun l A c W hl hN hB hS => by
  have i : Le W.heap.size W := inferInstance
  exact last_c r n A c _ l W.heap.size W hS (hN.more hB) hv hl rfl
theorem tells_regret (r : NetR) (n : Net) (hv : valid n = true) (B : Nat) (w : World) : Tells 62 r n B w (regret n) := fun l A c W hl hN hB hS => by
  have i : Le W.heap.size W := inferInstance
  exact regret_c r n A c _ l W.heap.size W hS (hN.more hB) hv hl rfl
theorem ent_high : ∀ args w, (callFunc 82 args).run Try.prog w = .ok (.enter 82 args) w := Go.Proofs.enters_of Try.func82 (by kernel_rfl) rfl
theorem ent_last : ∀ args w, (callFunc 100 args).run Try.prog w = .ok (.enter 100 args) w := Go.Proofs.enters_of Try.func100 (by kernel_rfl) rfl
theorem ent_regret : ∀ args w, (callFunc 62 args).run Try.prog w = .ok (.enter 62 args) w := Go.Proofs.enters_of Try.func62 (by kernel_rfl) rfl

/-- What 'found' says of a net that is not valid. -/
theorem found_no (g : Value) (r : NetR) (n : Net) (hv : valid n = false) (B : Nat) (w : World) (hN : NetIs B w r n) [hB : Le B w] :
    Calls Try.prog 65 #[netV r n, g] w fun e w' => e = .returned (.tuple #[.slice none 0 0, .int .i64 0, .int .i64 40]) ∧ ∃ δ, w' = lat w δ := by
  have HN := Lib.hid hN
  have HE := Lib.hid (show errOf (valid n) 40 = 40 by rw [hv]; rfl)
  clear hN hv
  go_enter Try.func65, Try.ntmps65
  go_wp2_with (go_at_call 32; refine (check_c r n B _ HN.out.up).mono ?_; rw [HE.out]; rintro e w1 ⟨rfl, δ, rfl⟩)
  go_ret3
  exact ⟨rfl, lat_ex⟩
def FoundPost (f : List Int → Int) (n : Net) (w : World) (e : Ending) (w' : World) : Prop := ∃ (A : Option Addr) (c : Nat) (δ : World), e = .returned (.tuple #[.slice A n.hs.length c, .int .i64 (f (least f (allO n))), .int .i64 0]) ∧ w' = lat w δ ∧ Hid (Sl encI (lat w δ).heap.size (lat w δ) A c (least f (allO n)))
set_option maxRecDepth 100000 in
theorem found_c (mk fid : Nat) (f : List Int → Int) (hentm : ∀ args w, (callFunc mk args).run Try.prog w = .ok (.enter mk args) w) (hent : ∀ args w, (callFunc fid args).run Try.prog w = .ok (.enter fid args) w) (r : NetR) (n : Net) (hv : valid n = true) (B : Nat) (w : World) (hN : NetIs B w r n) [hB : Le B w]
    (hmk : ∀ W, Calls Try.prog mk #[netV r n] W fun e w' => e = .returned (.func (.func fid) #[netV r n] #[]) ∧ ∃ δ, w' = lat W δ) (hf : ∀ W, Tells fid r n B W f) :
    Calls Try.prog 65 #[netV r n, .func (.func mk) #[] #[]] w (FoundPost f n w) := by
  have HN := Lib.hid hN
  have HV := Lib.hid hv
  have HE := Lib.hid (show errOf (valid n) 40 = 0 by rw [hv]; rfl)
  have HM := Lib.hid hmk
  have HF := Lib.hid hf
  clear hN hv hmk hf
  go_enter Try.func65, Try.ntmps65
  go_wp2_with (go_at_call 32; refine (check_c r n B _ HN.out.up).mono ?_; rw [HE.out]; rintro e w1 ⟨rfl, δ, hw⟩; have bq : Box w1 w.heap.size 25 #[.int .i64 n.m, .slice r.hA n.hs.length r.hc, .slice r.pA n.ps.length r.pc] := (by rw [hw]; exact (Box.new rfl).lat _); have e0 := bq.cell (i := 0) rfl; have e1 := bq.cell (i := 1) rfl; have e2 := bq.cell (i := 2) rfl; have ilt := bq.lt; have g1 : Grew B w w1 := (by rw [hw]; infer_instance); have g2 : Le B w1 := (by rw [hw]; infer_instance); have g3 : Grew w.heap.size w w1 := (by rw [hw]; infer_instance); have g4 : Le w.heap.size w1 := (by rw [hw]; infer_instance); clear hw bq)
  go_region_held3 (fun W => W.cell? ⟨w1.heap.size, 0, none⟩ = some (.int .i64 n.m) ∧ W.cell? ⟨w1.heap.size, 1, none⟩ = some (.slice r.hA n.hs.length r.hc) ∧ W.cell? ⟨w1.heap.size, 2, none⟩ = some (.slice r.pA n.ps.length r.pc))
    (refine ⟨?_, ?_, ?_⟩ <;> go_simp)
    (first
      | (go_at_call 87; refine (least_c fid hent f r n HV.out B _ HN.out.up (HF.out _)).mono ?_; rintro e w2 ⟨A, c, δ2, rfl, rfl, hS⟩)
      | (with_reducible refine (HM.out _).mono ?_; rintro e w3 ⟨rfl, δ3, rfl⟩))
  all_goals
    go_wp2_with (fail)
    go_ret3
    exact ⟨A, c, _, rfl, lat_def, sl_def hS.out.wide⟩

theorem leastP_yes (r : NetR) (n : Net) (hv : valid n = true) (B : Nat) (w : World) (hN : NetIs B w r n) [hB : Le B w] :
    Calls Try.prog 48 #[netV r n] w fun e w' => e = .returned (.tuple #[.int .i64 (leastN n), .int .i64 0]) ∧ ∃ δ, w' = lat w δ := by
  have HN := Lib.hid hN
  have HV := Lib.hid hv
  clear hN hv
  go_enter Try.func48, Try.ntmps48
  go_wp2_with (go_at_call 65; refine (found_c 85 82 (worst n) (Go.Proofs.enters_of Try.func85 (by kernel_rfl) rfl) ent_high r n HV.out B _ HN.out.up (mkHigh_c r n) (tells_high r n HV.out B)).mono ?_; rintro e w1 ⟨A, c, δ, rfl, rfl, hS⟩)
  go_ret2
  exact ⟨rfl, lat_ex⟩
theorem leastP_no (r : NetR) (n : Net) (hv : valid n = false) (B : Nat) (w : World) (hN : NetIs B w r n) [hB : Le B w] :
    Calls Try.prog 48 #[netV r n] w fun e w' => e = .returned (.tuple #[.int .i64 0, .int .i64 40]) ∧ ∃ δ, w' = lat w δ := by
  have HN := Lib.hid hN
  have HV := Lib.hid hv
  clear hN hv
  go_enter Try.func48, Try.ntmps48
  go_wp2_with (go_at_call 65; refine (found_no _ r n HV.out B _ HN.out.up).mono ?_; rintro e w1 ⟨rfl, δ, rfl⟩)
  go_ret2
  exact ⟨rfl, lat_ex⟩

theorem doneP_yes (r : NetR) (n : Net) (hv : valid n = true) (B : Nat) (w : World) (hN : NetIs B w r n) [hB : Le B w] :
    Calls Try.prog 44 #[netV r n] w fun e w' => e = .returned (.tuple #[.int .i64 (doneN n), .int .i64 0]) ∧ ∃ δ, w' = lat w δ := by
  have HN := Lib.hid hN
  have HV := Lib.hid hv
  clear hN hv
  go_enter Try.func44, Try.ntmps44
  go_wp2_with (go_at_call 65; refine (found_c 84 100 (lastOf n) (Go.Proofs.enters_of Try.func84 (by kernel_rfl) rfl) ent_last r n HV.out B _ HN.out.up (mkLast_c r n) (tells_last r n HV.out B)).mono ?_; rintro e w1 ⟨A, c, δ, rfl, rfl, hS⟩)
  go_ret2
  exact ⟨rfl, lat_ex⟩
theorem doneP_no (r : NetR) (n : Net) (hv : valid n = false) (B : Nat) (w : World) (hN : NetIs B w r n) [hB : Le B w] :
    Calls Try.prog 44 #[netV r n] w fun e w' => e = .returned (.tuple #[.int .i64 0, .int .i64 40]) ∧ ∃ δ, w' = lat w δ := by
  have HN := Lib.hid hN
  have HV := Lib.hid hv
  clear hN hv
  go_enter Try.func44, Try.ntmps44
  go_wp2_with (go_at_call 65; refine (found_no _ r n HV.out B _ HN.out.up).mono ?_; rintro e w1 ⟨rfl, δ, rfl⟩)
  go_ret2
  exact ⟨rfl, lat_ex⟩

theorem orderP_yes (r : NetR) (n : Net) (hv : valid n = true) (B : Nat) (w : World) (hN : NetIs B w r n) [hB : Le B w] :
    Calls Try.prog 45 #[netV r n] w fun e w' => ∃ (A : Option Addr) (c : Nat) (δ : World), e = .returned (.tuple #[.slice A n.hs.length c, .int .i64 0]) ∧ w' = lat w δ ∧ Hid (Sl encI (lat w δ).heap.size (lat w δ) A c (bestO n)) := by
  have HN := Lib.hid hN
  have HV := Lib.hid hv
  clear hN hv
  go_enter Try.func45, Try.ntmps45
  go_wp2_with (go_at_call 65; refine (found_c 85 82 (worst n) (Go.Proofs.enters_of Try.func85 (by kernel_rfl) rfl) ent_high r n HV.out B _ HN.out.up (mkHigh_c r n) (tells_high r n HV.out B)).mono ?_; rintro e w1 ⟨A, c, δ, rfl, rfl, hS⟩)
  go_ret2
  exact ⟨A, c, _, rfl, lat_def, sl_def hS.out.wide⟩
theorem orderP_no (r : NetR) (n : Net) (hv : valid n = false) (B : Nat) (w : World) (hN : NetIs B w r n) [hB : Le B w] :
    Calls Try.prog 45 #[netV r n] w fun e w' => e = .returned (.tuple #[.slice none 0 0, .int .i64 40]) ∧ ∃ δ, w' = lat w δ := by
  have HN := Lib.hid hN
  have HV := Lib.hid hv
  clear hN hv
  go_enter Try.func45, Try.ntmps45
  go_wp2_with (go_at_call 65; refine (found_no _ r n HV.out B _ HN.out.up).mono ?_; rintro e w1 ⟨rfl, δ, rfl⟩)
  go_ret2
  exact ⟨rfl, lat_ex⟩

theorem calmP_yes (r : NetR) (n : Net) (hv : valid n = true) (B : Nat) (w : World) (hN : NetIs B w r n) [hB : Le B w] :
    Calls Try.prog 24 #[netV r n] w fun e w' => ∃ (A : Option Addr) (c : Nat) (δ : World), e = .returned (.tuple #[.slice A n.hs.length c, .int .i64 0]) ∧ w' = lat w δ ∧ Hid (Sl encI (lat w δ).heap.size (lat w δ) A c (calm n)) := by
  have HN := Lib.hid hN
  have HV := Lib.hid hv
  clear hN hv
  go_enter Try.func24, Try.ntmps24
  go_wp2_with (go_at_call 65; refine (found_c 66 62 (regret n) (Go.Proofs.enters_of Try.func66 (by kernel_rfl) rfl) ent_regret r n HV.out B _ HN.out.up (mkRegret_c r n) (tells_regret r n HV.out B)).mono ?_; rintro e w1 ⟨A, c, δ, rfl, rfl, hS⟩)
  go_ret2
  exact ⟨A, c, _, rfl, lat_def, sl_def hS.out.wide⟩
theorem calmP_no (r : NetR) (n : Net) (hv : valid n = false) (B : Nat) (w : World) (hN : NetIs B w r n) [hB : Le B w] :
    Calls Try.prog 24 #[netV r n] w fun e w' => e = .returned (.tuple #[.slice none 0 0, .int .i64 40]) ∧ ∃ δ, w' = lat w δ := by
  have HN := Lib.hid hN
  have HV := Lib.hid hv
  clear hN hv
  go_enter Try.func24, Try.ntmps24
  go_wp2_with (go_at_call 65; refine (found_no _ r n HV.out B _ HN.out.up).mono ?_; rintro e w1 ⟨rfl, δ, rfl⟩)
  go_ret2
  exact ⟨rfl, lat_ex⟩

end Go.Proofs.Ytbfehifidlojlaa
