/- Season: the program's seal. -/
import Derived.Test.YtjamemjmdlkpcaaDoorSe6
import Derived.Lib.ConvBytes
namespace Go.Proofs.YtjamemjmdlkpcaaDoor
open Go.RowKit
open Se

theorem sealN_snoc (n : Nat) (l : Txt) {k : Nat} {b : UInt8} (hb : l[k]? = some b) : sealN n (l.take (k + 1)) = (sealN n (l.take k) * 31 + b.toNat) % 997 := by
  rw [List.take_add_one, hb]
  unfold sealN
  rw [List.foldl_append]
  rfl
theorem sealN_lt (l : Txt) : sealN 0 l < 997 := by
  unfold sealN
  rcases List.eq_nil_or_concat l with rfl | ⟨l', b, rfl⟩
  · decide
  · rw [List.concat_eq_append, List.foldl_append]
    exact Nat.mod_lt _ (by decide)
theorem bytesWorld_below (w : World) (e : TypeId) (s : ByteArray) : Below w.heap.size w (Lib.bytesWorld w e s) :=
  ⟨rfl, rfl, rfl, by rw [Lib.bytesWorld_size]; omega, fun k hk => Lib.bytesWorld_at_old w e s k hk⟩
theorem getD_byte (s : ByteArray) (i : Nat) (h : i < s.size) : s.data.toList.getD i 0 = s[i]'h := by
  rw [List.getD, get_byte s i h]; rfl
theorem seal_c (s : ByteArray) (n : Nat) (hn : sealOf s.data.toList = n) (hs : s.size ≤ 140737488355328) (w : World) :
    Calls Tryd.prog 63 #[.string s] w fun e w' => e = .returned (.int .i64 n) ∧ ∃ δ, w' = lat w δ := by
  have hcv := fun (W : World) => Lib.run_convert_string_bytes (P := Tryd.prog) W 9 44 5 s (u := .string) (by kernel_rfl) (by kernel_rfl) (by kernel_rfl)
  have HN := Lib.hid hn
  clear hn
  go_enter Tryd.func63, Tryd.ntmps63
  go_wp2_with (fail)
  refine wp_name fun W1 hW1 => ?_
  have hbl := bytesWorld_below w 5 s
  have hcell := Lib.bytesWorld_cell w 5 s
  have hlt : w.heap.size < (Lib.bytesWorld w 5 s).heap.size := by rw [Lib.bytesWorld_size]; omega
  rw [← hW1.out] at hbl hcell hlt
  have iw1 : Lt w.heap.size W1 := ⟨hlt⟩
  have iw2 : Le w.heap.size W1 := ⟨by omega⟩
  have iw3 : Grew w.heap.size w W1 := ⟨Same.of hbl⟩
  have HC : Hid (∀ j (h : j < s.size), W1.cell? ⟨w.heap.size, j, none⟩ = some (.int .u8 (s[j]'h).toNat)) := fun j h => by rw [hcell j h, getD_byte s j h]
  clear hW1 hbl hcell hlt hcv
  go_loop [2, 8] (fun v i => ∃ k : Nat, k ≤ s.size ∧ v = .int .i64 (sealN 0 (s.data.toList.take k) : Nat) ∧ i = .int .i64 k) (fun _ i => s.size - (intOf i).toNat)
  case atStart => exact ⟨0, Nat.zero_le _, by rw [List.take_zero]; rfl, rfl⟩
  case round =>
    obtain ⟨k, hk, rfl, rfl⟩ := hrel
    by_cases hlt : k < s.size
    · have hki : (k : Int) < (s.size : Int) := by omega
      have hk0 : ¬ (k : Int) < 0 := by omega
      have d0 := HC.out k hlt
      have hm := sealN_lt (s.data.toList.take k)
      have hu : (s[k]'hlt).toNat < 256 := (s[k]'hlt).toNat_lt
      have HS := Lib.hid (sealN_snoc 0 s.data.toList (get_byte s k hlt))
      have e1 : (((sealN 0 (s.data.toList.take k) : Nat) : Int) * 31 + ((s[k]'hlt).toNat : Int)).tmod 997 = (((sealN 0 (s.data.toList.take k) * 31 + (s[k]'hlt).toNat) % 997 : Nat) : Int) := by
        rw [Int.tmod_eq_emod_of_nonneg (by omega)]
        omega
      obtain ⟨v, hv⟩ : ∃ v : Nat, v = sealN 0 (s.data.toList.take k) := ⟨_, rfl⟩
      rw [← hv] at hm e1 HS ⊢
      obtain ⟨u, hu2⟩ : ∃ u : Nat, u = (s[k]'hlt).toNat := ⟨_, rfl⟩
      rw [← hu2] at hu e1 d0 HS
      have HV := Lib.hid hv
      clear hv hu2
      go_wp2
      go_round
      case rel => exact ⟨k + 1, hlt, int_eq (by rw [HS.out]; omega), by go_num⟩
      case measure => simp [intOf]; omega
    · obtain rfl : k = s.size := by omega
      rw [List.take_of_length_le (by rw [size_len]; exact Nat.le_refl _)]
      have HE : Hid (sealN 0 s.data.toList = n) := HN.out
      go_wp2
      go_ret
      exact ⟨ret_int (by rw [HE.out]), lat_ex⟩

/-! Season: the reference's SealOf, three, Sealed. -/
open Go.RowKit
open Se

theorem rSealOf_c (s : ByteArray) (n : Nat) (hn : sealOf s.data.toList = n) (hs : s.size ≤ 140737488355328) (w : World) :
    Calls Tryd.prog 48 #[.string s] w fun e w' => e = .returned (.int .i64 n) ∧ w = w' := by
  have HN := Lib.hid hn
  clear hn
  go_enter Tryd.func48, Tryd.ntmps48
  go_wp2
  go_loop [3, 4] (fun v i => ∃ k : Nat, k ≤ s.size ∧ v = .int .i64 (sealN 0 (s.data.toList.take k) : Nat) ∧ i = .int .i64 k) (fun _ i => s.size - (intOf i).toNat)
  case atStart => exact ⟨0, Nat.zero_le _, by rw [List.take_zero]; rfl, rfl⟩
  case round =>
    obtain ⟨k, hk, rfl, rfl⟩ := hrel
    by_cases hlt : k < s.size
    · have hki : (k : Int) < (s.size : Int) := by omega
      have hk0 : ¬ (k : Int) < 0 := by omega
      have hx := fun t kk h => idx_at (P := Tryd.prog) w t s kk k h hlt
      have hm := sealN_lt (s.data.toList.take k)
      have hu : (s[k]'hlt).toNat < 256 := (s[k]'hlt).toNat_lt
      have HS := Lib.hid (sealN_snoc 0 s.data.toList (get_byte s k hlt))
      have e1 : (31 * ((sealN 0 (s.data.toList.take k) : Nat) : Int) + ((s[k]'hlt).toNat : Int)).tmod 997 = (((sealN 0 (s.data.toList.take k) * 31 + (s[k]'hlt).toNat) % 997 : Nat) : Int) := by
        rw [Int.tmod_eq_emod_of_nonneg (by omega)]
        omega
      obtain ⟨v, hv⟩ : ∃ v : Nat, v = sealN 0 (s.data.toList.take k) := ⟨_, rfl⟩
      rw [← hv] at hm e1 HS ⊢
      obtain ⟨u, hu2⟩ : ∃ u : Nat, u = (s[k]'hlt).toNat := ⟨_, rfl⟩
      rw [← hu2] at hu e1 hx HS
      have HV := Lib.hid hv
      clear hv hu2
      go_wp2
      go_round
      case rel => exact ⟨k + 1, hlt, int_eq (by rw [HS.out]; omega), by go_num⟩
      case measure => simp [intOf]; omega
    · obtain rfl : k = s.size := by omega
      rw [List.take_of_length_le (by rw [size_len]; exact Nat.le_refl _)]
      have HE : Hid (sealN 0 s.data.toList = n) := HN.out
      go_wp2
      go_ret
      exact ⟨ret_int (by rw [HE.out]), rfl⟩
theorem back_three (w : World) (l : Txt) (a b c : Int) (hl : l.map (fun x => (x.toNat : Int)) = [a, b, c]) :
    (convert 44 9 (.slice (some ⟨w.heap.size, 0, none⟩) 3 3)).run Tryd.prog (w.alloc (.cells #[.int .u8 a, .int .u8 b, .int .u8 c] 5)) = .ok (.string (str l)) (w.alloc (.cells #[.int .u8 a, .int .u8 b, .int .u8 c] 5)) := by
  have h3 : l.length = 3 := by
    have := congrArg List.length hl
    simpa using this
  have h := run_convert_bytes_back (P := Tryd.prog) (w.alloc (.cells #[.int .u8 a, .int .u8 b, .int .u8 c] 5)) 44 9 5 ⟨w.heap.size, 0, none⟩ 3 l (by kernel_rfl) (by kernel_rfl) (by kernel_rfl) (fun j hj => by
    rw [show (⟨w.heap.size, 0, none⟩ : Addr).add j = ⟨w.heap.size, j, none⟩ by simp [Addr.add_lit], World.cell?_alloc_at _ _ _ _ rfl]
    match l, hl, hj with
    | [x, y, z], hl, hj =>
      simp only [List.map_cons, List.map_nil, List.cons.injEq, and_true] at hl
      obtain ⟨rfl, rfl, rfl⟩ := hl
      match j, hj with
      | 0, _ => rfl
      | 1, _ => rfl
      | 2, _ => rfl)
  rw [h3] at h
  exact h
theorem three_c (n : Nat) (hn : n < 1000) (w : World) :
    Calls Tryd.prog 64 #[.int .i64 n] w fun e w' => e = .returned (.string (str (three n))) ∧ ∃ δ, w' = lat w δ := by
  obtain ⟨a, ha⟩ : ∃ a, a = n / 100 := ⟨_, rfl⟩
  obtain ⟨b, hb⟩ : ∃ b, b = n / 10 := ⟨_, rfl⟩
  obtain ⟨c, hc⟩ : ∃ c, c = b % 10 := ⟨_, rfl⟩
  obtain ⟨d, hd⟩ : ∃ d, d = n % 10 := ⟨_, rfl⟩
  have q1 : (n : Int).tdiv 100 = (a : Int) := by rw [Int.tdiv_eq_ediv_of_nonneg (by omega)]; omega
  have q2 : (n : Int).tdiv 10 = (b : Int) := by rw [Int.tdiv_eq_ediv_of_nonneg (by omega)]; omega
  have q3 : (b : Int).tmod 10 = (c : Int) := by rw [Int.tmod_eq_emod_of_nonneg (by omega)]; omega
  have q4 : (n : Int).tmod 10 = (d : Int) := by rw [Int.tmod_eq_emod_of_nonneg (by omega)]; omega
  have l1 : a < 10 := by omega
  have l4 : b < 100 := by omega
  have l2 : c < 10 := by omega
  have l3 : d < 10 := by omega
  have HT : Hid (three n = [UInt8.ofNat (48 + a), UInt8.ofNat (48 + c), UInt8.ofNat (48 + d)]) := Lib.hid (by subst ha hb hc hd; rfl)
  clear ha hb hc hd
  have u1 : ∀ x : Nat, x < 10 → (UInt8.ofNat (48 + x)).toNat = 48 + x := fun x hx => by rw [UInt8.toNat_ofNat']; omega
  have hcv := back_three w (three n) (48 + a) (48 + c) (48 + d) (by rw [HT.out]; simp only [List.map_cons, List.map_nil, u1 a l1, u1 c l2, u1 d l3]; simp)
  clear u1
  go_enter Tryd.func64, Tryd.ntmps64
  go_wp2
  go_ret
  exact ⟨rfl, lat_ex⟩
theorem rSealed_c (s : ByteArray) (l : Txt) (hl : s.data.toList = l) (hs : s.size ≤ 140737488355328) (w : World) :
    Calls Tryd.prog 47 #[.string s] w fun e w' => e = .returned (.string (str (sealed l))) ∧ ∃ δ, w' = lat w δ := by
  have e1 : s ++ str (three (sealOf l)) = str (sealed l) := by
    apply str_eq
    rw [app_lst, lst_str, hl]
    rfl
  have hz : (str (three (sealOf l))).size = 3 := by rw [size_str]; rfl
  have e2 := fun (W : World) => run_string_add_sum (P := Tryd.prog) W s (str (three (sealOf l))) (by omega)
  rw [e1] at e2
  have HL := Lib.hid hl
  have hlt : sealOf l < 997 := sealN_lt l
  obtain ⟨n, hn⟩ : ∃ n, sealOf l = n := ⟨_, rfl⟩
  rw [hn] at e2 hlt
  have HN : Hid (sealOf s.data.toList = n) := Lib.hid (by rw [hl]; exact hn)
  clear hl hn e1 hz
  go_enter Tryd.func47, Tryd.ntmps47
  go_wp2_with (first
    | (go_at_call 48; refine (rSealOf_c s n HN.out hs _).mono ?_; rintro e w1 ⟨rfl, rfl⟩)
    | (go_at_call 64; refine (three_c n (by omega) _).mono ?_; rintro e w1 ⟨rfl, δ, rfl⟩))
  go_ret
  exact ⟨rfl, lat_ex⟩
end Go.Proofs.YtjamemjmdlkpcaaDoor
