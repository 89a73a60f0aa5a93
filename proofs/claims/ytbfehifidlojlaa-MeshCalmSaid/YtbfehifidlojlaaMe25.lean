/- Layer 4: MeshRegret: its guards, and what its numbers keep to. -/
import Derived.Test.YtbfehifidlojlaaMe24
namespace Go.Proofs.Ytbfehifidlojlaa
open Go.RowKit
open Me

theorem regret_bd {n : Net} (hv : valid n = true) {l : List Int} (hl : isOrd n l = true) : 0 ≤ regret n l ∧ regret n l ≤ 12000 := by
  have h6 := (ok_of hv).2.1
  refine ⟨regret_nn n l, maxL_le _ _ (by omega) fun o ho => ?_⟩
  have := (regK_bd hv hl (allO_mem.1 ho) n.hs.length (Nat.le_refl _)).2
  unfold reg2
  omega
theorem truth_le {n : Net} (hv : valid n = true) {t : List Int} (ht : truthB n t) : allLe 20 t := fun j => by
  rcases Nat.lt_or_ge j t.length with hj | hj
  · have hj' : j < n.hs.length := by rw [← ht.1]; exact hj
    have a := ht.2 j hj'
    have b := okHole_iff.1 (okHoles_at (ok_of hv).2.2.2.1 hj')
    omega
  · have : nth t j = 0 := by simp [nth, List.getElem?_eq_none hj]
    omega
theorem lReady4r_c (r : NetR) (n : Net) (b : Bool) (hb : readyL n 4 = b) (B : Nat) (w : World) (hN : NetIs B w r n) [hB : Le B w] :
    Calls Try.prog 14 #[netV r n, .int .i64 4] w fun e w' => e = .returned (.bool b) ∧ ∃ δ, w' = lat w δ := lReady_c r n 4 (by omega) b hb B w hN

/-- Three lists as an argument. -/
structure TriR where
  a1 : Option Addr
  c1 : Nat
  a2 : Option Addr
  c2 : Nat
  a3 : Option Addr
  c3 : Nat
abbrev triV (q : TriR) (l1 l2 l3 : List Int) : Value := .agg #[.slice q.a1 l1.length q.c1, .slice q.a2 l2.length q.c2, .slice q.a3 l3.length q.c3]
def TriIs (B : Nat) (w : World) (q : TriR) (l1 l2 l3 : List Int) : Prop := Sl encI B w q.a1 q.c1 l1 ∧ Sl encI B w q.a2 q.c2 l2 ∧ Sl encI B w q.a3 q.c3 l3

set_option maxRecDepth 100000 in
set_option maxHeartbeats 4000000 in
theorem regNo1_c (r : NetR) (n : Net) (q : TriR) (l1 l2 l3 : List Int) (B : Nat) (w : World) [hB : Le B w] (hN : NetIs B w r n) (hQ : TriIs B w q l1 l2 l3) (hg : readyL n 4 = false ∨ (readyL n 4 = true ∧ 40 < l1.length) ∨ (readyL n 4 = true ∧ l1.length ≤ 40 ∧ 40 < l2.length)) :
    Calls Try.prog 5 #[netV r n, triV q l1 l2 l3] w fun e w' => e = .returned (.bool true) ∧ ∃ δ, w' = lat w δ := by
  have z1 := hQ.1.len
  have z2 := hQ.2.1.len
  have z3 := hQ.2.2.len
  have HN := Lib.hid hN
  clear hN
  rcases hg with hr | ⟨hr, h1⟩ | ⟨hr, h1, h2⟩
  · have HR := Lib.hid hr
    clear hr
    go_enter Try.func5, Try.ntmps5
    go_wp2_with (fail)
    refine wp_region_lat (by kernel_rfl) (by kernel_rfl) ?_
    repeat (go_big_quiet_step ((first | (fail))))
    refine wpQuiet_nil ?_
    rintro _ ⟨δq, rfl⟩
    go_wp2_with (first
      | (go_at_call 14; refine (lReady4r_c r n _ HR.out B _ HN.out.up).mono ?_; rintro e w1 ⟨rfl, δ, rfl⟩)
      | (go_at_call 16; refine (works_c _).mono ?_; rintro e w1 ⟨rfl, δ2, rfl⟩))
    go_ret
    exact ⟨rfl, lat_ex⟩
  · have HR := Lib.hid hr
    have d1 : decide ((40 : Int) < (l1.length : Int)) = true := by simp; omega
    clear hr
    go_enter Try.func5, Try.ntmps5
    go_wp2_with (fail)
    refine wp_region_lat (by kernel_rfl) (by kernel_rfl) ?_
    repeat (go_big_quiet_step ((first | (fail))))
    refine wpQuiet_nil ?_
    rintro _ ⟨δq, rfl⟩
    go_wp2_with (first
      | (go_at_call 14; refine (lReady4r_c r n _ HR.out B _ HN.out.up).mono ?_; rintro e w1 ⟨rfl, δ, rfl⟩)
      | (go_at_call 16; refine (works_c _).mono ?_; rintro e w1 ⟨rfl, δ2, rfl⟩))
    go_ret
    exact ⟨rfl, lat_ex⟩
  · have HR := Lib.hid hr
    have d1 : decide ((40 : Int) < (l1.length : Int)) = false := by simp; omega
    have d2 : decide ((40 : Int) < (l2.length : Int)) = true := by simp; omega
    clear hr
    go_enter Try.func5, Try.ntmps5
    go_wp2_with (fail)
    refine wp_region_lat (by kernel_rfl) (by kernel_rfl) ?_
    repeat (go_big_quiet_step ((first | (fail))))
    refine wpQuiet_nil ?_
    rintro _ ⟨δq, rfl⟩
    go_wp2_with (first
      | (go_at_call 14; refine (lReady4r_c r n _ HR.out B _ HN.out.up).mono ?_; rintro e w1 ⟨rfl, δ, rfl⟩)
      | (go_at_call 16; refine (works_c _).mono ?_; rintro e w1 ⟨rfl, δ2, rfl⟩))
    go_ret
    exact ⟨rfl, lat_ex⟩

set_option maxRecDepth 100000 in
set_option maxHeartbeats 4000000 in
theorem regNo2_c (r : NetR) (n : Net) (q : TriR) (l1 l2 l3 : List Int) (B : Nat) (w : World) [hB : Le B w] (hN : NetIs B w r n) (hQ : TriIs B w q l1 l2 l3) (hr : readyL n 4 = true) (h1 : l1.length ≤ 40) (h2 : l2.length ≤ 40)
    (hg : isOrd n l1 = false ∨ (isOrd n l1 = true ∧ isOrd n l2 = false) ∨ (isOrd n l1 = true ∧ isOrd n l2 = true ∧ l3.length ≠ n.hs.length)) :
    Calls Try.prog 5 #[netV r n, triV q l1 l2 l3] w fun e w' => e = .returned (.bool true) ∧ ∃ δ, w' = lat w δ := by
  have z1 := hQ.1.len
  have z2 := hQ.2.1.len
  have z3 := hQ.2.2.len
  have z4 := hN.1.len
  have HN := Lib.hid hN
  have HQ := Lib.hid hQ
  have HR := Lib.hid hr
  have d1 : decide ((40 : Int) < (l1.length : Int)) = false := by simp; omega
  have d2 : decide ((40 : Int) < (l2.length : Int)) = false := by simp; omega
  clear hN hQ hr
  obtain ⟨q1, k1, q2, k2, q3, k3⟩ := q
  rcases hg with ho | ⟨ho, ho2⟩ | ⟨ho, ho2, h3⟩
  · have HO := Lib.hid ho
    clear ho
    go_enter Try.func5, Try.ntmps5
    go_wp2_with (fail)
    refine wp_region_lat (by kernel_rfl) (by kernel_rfl) ?_
    repeat (go_big_quiet_step ((first | (fail))))
    refine wpQuiet_nil ?_
    rintro _ ⟨δq, rfl⟩
    go_wp2_with (first
      | (go_at_call 14; refine (lReady4r_c r n _ HR.out B _ HN.out.up).mono ?_; rintro e w1 ⟨rfl, δ, rfl⟩)
      | (go_at_call 19; refine (rIsOrder_c r n q1 k1 l1 _ HO.out B _ HQ.out.1.up HN.out.up).mono ?_; rintro e w1 ⟨rfl, δ, rfl⟩)
      | (go_at_call 16; refine (works_c _).mono ?_; rintro e w1 ⟨rfl, δ2, rfl⟩))
    go_ret
    exact ⟨rfl, lat_ex⟩
  · have HO := Lib.hid ho
    have HO2 := Lib.hid ho2
    clear ho ho2
    go_enter Try.func5, Try.ntmps5
    go_wp2_with (fail)
    refine wp_region_lat (by kernel_rfl) (by kernel_rfl) ?_
    repeat (go_big_quiet_step ((first | (fail))))
    refine wpQuiet_nil ?_
    rintro _ ⟨δq, rfl⟩
    go_wp2_with (first
      | (go_at_call 14; refine (lReady4r_c r n _ HR.out B _ HN.out.up).mono ?_; rintro e w1 ⟨rfl, δ, rfl⟩))
    refine (rIsOrder_c r n q1 k1 l1 _ HO.out B _ HQ.out.1.up HN.out.up).mono ?_
    rintro e w1 ⟨rfl, δ1, rfl⟩
    go_wp2_with (fail)
    refine (rIsOrder_c r n q2 k2 l2 _ HO2.out B _ HQ.out.2.1.up HN.out.up).mono ?_
    rintro e w1 ⟨rfl, δ2, rfl⟩
    go_wp2_with (go_at_call 16; refine (works_c _).mono ?_; rintro e w1 ⟨rfl, δ2, rfl⟩)
    go_ret
    exact ⟨rfl, lat_ex⟩
  · have HO := Lib.hid ho
    have HO2 := Lib.hid ho2
    have h3' : ((l3.length : Int) != (n.hs.length : Int)) = true := by simp; omega
    clear ho ho2
    go_enter Try.func5, Try.ntmps5
    go_wp2_with (fail)
    refine wp_region_lat (by kernel_rfl) (by kernel_rfl) ?_
    repeat (go_big_quiet_step ((first | (fail))))
    refine wpQuiet_nil ?_
    rintro _ ⟨δq, rfl⟩
    go_wp2_with (first
      | (go_at_call 14; refine (lReady4r_c r n _ HR.out B _ HN.out.up).mono ?_; rintro e w1 ⟨rfl, δ, rfl⟩))
    refine (rIsOrder_c r n q1 k1 l1 _ HO.out B _ HQ.out.1.up HN.out.up).mono ?_
    rintro e w1 ⟨rfl, δ1, rfl⟩
    go_wp2_with (fail)
    refine (rIsOrder_c r n q2 k2 l2 _ HO2.out B _ HQ.out.2.1.up HN.out.up).mono ?_
    rintro e w1 ⟨rfl, δ2, rfl⟩
    go_wp2_with (go_at_call 16; refine (works_c _).mono ?_; rintro e w1 ⟨rfl, δ2, rfl⟩)
    go_ret
    exact ⟨rfl, lat_ex⟩

end Go.Proofs.Ytbfehifidlojlaa
