/- Season: the law SeasonMore. -/
import Derived.Test.YtjamemjmdlkpcaaDoorSe41
namespace Go.Proofs.YtjamemjmdlkpcaaDoor
open Go.RowKit
open Se

theorem ready_nil : readyT [] = true := by decide
theorem add_step {ts : List Txt} (h : readyT ts = true) {k : Nat} (hk : k < ts.length) : outV (addOf (file (ts.take k)) (nth ts k)) = .tuple #[.string (str (file (ts.take (k + 1)))), .int .i64 0] := by
  have := add_one (ready_yes h).2 (ready_yes h).1 hk
  rw [nth_get _ hk, this]; rfl
theorem cut_step {ts : List Txt} (h : readyT ts = true) {k : Nat} (hk : k < ts.length) : outV (cutOf (file (ts.take (k + 1)))) = .tuple #[.string (str (file (ts.take k))), .int .i64 0] := by
  have := cut_one (ready_yes h).2 (ready_yes h).1 hk
  rw [this]; rfl
set_option maxRecDepth 100000 in
set_option maxHeartbeats 4000000 in
theorem lawMore_main (A : Option Addr) (c : Nat) (ts : List Txt) (hr : readyT ts = true) (B : Nat) (w : World) (hS : Sl strE B w A c ts) [hB : Le B w] (hT : TabIs w) [h6 : Le 6 w] :
    Calls Tryd.prog 10 #[.slice A ts.length c] w fun e w' => e = .returned (.bool true) ∧ ∃ δ, w' = lat w δ := by
  have HS := Lib.hid hS
  have HR := Lib.hid hr
  have hcl := hS.len
  have HW1 : Hid (∀ (w : World), Sl strE w.heap.size w A c ts → TabIs w → Le 6 w → Calls Tryd.prog 21 #[.slice A ts.length c] w fun e w' => e = .returned (.tuple #[.string (str (file ts)), .bool true]) ∧ ∃ δ, w' = lat w δ) := Lib.hid (fun w hS hT _ => written_c A c ts hr _ rfl w.heap.size w hS hT)
  have HW2 : Hid (∀ (w : World), TabIs w → Le 6 w → Calls Tryd.prog 21 #[.slice none 0 0] w fun e w' => e = .returned (.tuple #[.string (str (file (ts.take 0))), .bool true]) ∧ ∃ δ, w' = lat w δ) := Lib.hid (fun w hT _ => written_c none 0 [] ready_nil 0 rfl w.heap.size w Sl.none_ hT)
  clear hS hr
  go_enter Tryd.func10, Tryd.ntmps10
  go_wp2_with (first
    | (go_at_call 20; refine (ready_c A c ts true HR.out _ rfl B _ HS.out.up).mono ?_; rintro e w1 ⟨rfl, rfl⟩)
    | (go_at_call 21; (with_reducible refine Calls.mono (HW1.out _ ?_ ?_ ?_) ?_); exact Sl.wide HS.out; exact hT.up; infer_instance; rintro e w1 ⟨rfl, δ1, rfl⟩)
    | (go_at_call 21; (with_reducible refine Calls.mono (HW2.out _ ?_ ?_) ?_); exact hT.up; infer_instance; rintro e w1 ⟨rfl, δ2, rfl⟩))
  go_loopg [5, 7] ts.length (fun g f i wr => ∃ (k : Nat) (δ : World), k ≤ ts.length ∧ g = ts.length - k ∧ f = .string (str (file (ts.take k))) ∧ i = .int .i64 k ∧ wr = lat (lat (lat w δ1) δ2) δ)
  case atStart => exact ⟨0, lat (lat w δ1) δ2, Nat.zero_le _, rfl, rfl, rfl, (lat_refl _).symm⟩
  case round =>
    obtain ⟨k, δ, hk, rfl, rfl, rfl, rfl⟩ := hrel
    by_cases hlt : k < ts.length
    · obtain ⟨b, o, rfl, hb, d0⟩ := HS.out.txt hlt
      have ib : Lt b w := ⟨Nat.lt_of_lt_of_le hb hB.out⟩
      have hki : (k : Int) < (ts.length : Int) := by omega
      have hk0 : ¬ (k : Int) < 0 := by omega
      have htl := (isText_iff.1 ((ready_yes HR.out).2 _ (nth_mem _ hlt))).2
      have hf1 := file_small (ready_take HR.out k)
      have hf2 := file_small (ready_take HR.out (k + 1))
      have hadd := add_step HR.out hlt
      have hcut := cut_step HR.out hlt
      obtain ⟨f1, h1⟩ : ∃ f, file (ts.take k) = f := ⟨_, rfl⟩
      obtain ⟨f2, h2⟩ : ∃ f, file (ts.take (k + 1)) = f := ⟨_, rfl⟩
      have HF2 := Lib.hid h2
      obtain ⟨t, ht⟩ : ∃ t, nth ts k = t := ⟨_, rfl⟩
      rw [ht] at d0 htl
      rw [h1, h2, ht] at hadd
      rw [h1, h2] at hcut
      rw [h1] at hf1 ⊢
      rw [h2] at hf2
      have HA := Lib.hid hadd
      have HC := Lib.hid hcut
      have hz1 : f1.length ≤ 100000 := by omega
      have hz2 : f2.length ≤ 100000 := by omega
      have hz3 : t.length ≤ 2000 := by omega
      have hf2' : ¬ (1100 : Int) < ((f2.length : Nat) : Int) := by omega
      clear h1 h2 ht hadd hcut
      go_wp2_with (first
        | (go_at_call 29; refine (add_c f1 t hz1 hz3 _ hT.up).mono ?_; rw [HA.out]; rintro e w1 ⟨rfl, δ3, rfl⟩)
        | (go_at_call 31; refine (cut_c f2 hz2 _ hT.up).mono ?_; rw [HC.out]; rintro e w1 ⟨rfl, δ4, rfl⟩))
      go_roundg (ts.length - (k + 1))
      case measure => omega
      case rel => exact ⟨k + 1, _, hlt, rfl, by rw [HF2.out], by go_num, lat_def⟩
    · obtain rfl : k = ts.length := by omega
      rw [List.take_length]
      go_wp2_with (go_at_call 15; refine (works_c _ hT.up).mono ?_; rintro e w1 ⟨rfl, δ5, rfl⟩)
      go_ret
      exact ⟨rfl, lat_ex⟩
theorem lawMore_c (A : Option Addr) (c : Nat) (ts : List Txt) (B : Nat) (w : World) (hS : Sl strE B w A c ts) [hB : Le B w] (hT : TabIs w) [h6 : Le 6 w] :
    Calls Tryd.prog 10 #[.slice A ts.length c] w fun e w' => e = .returned (.bool true) ∧ ∃ δ, w' = lat w δ := by
  rcases hr : readyT ts with _ | _
  · have HS := Lib.hid hS
    have HR := Lib.hid hr
    clear hr hS
    go_enter Tryd.func10, Tryd.ntmps10
    go_wp2_with (first
      | (go_at_call 20; refine (ready_c A c ts false HR.out _ rfl B _ HS.out.up).mono ?_; rintro e w1 ⟨rfl, rfl⟩)
      | (go_at_call 15; refine (works_c _ hT.up).mono ?_; rintro e w1 ⟨rfl, δ5, rfl⟩))
    go_ret
    exact ⟨rfl, lat_ex⟩
  · exact lawMore_main A c ts hr B w hS hT
end Go.Proofs.YtjamemjmdlkpcaaDoor
