/- Season: the program's Least, its recursion. -/
import Derived.Test.YtjamemjmdlkpcaaDoorSe31
import Derived.Deep.RegionHeld3
import Derived.Deep.CutRange
import Derived.Deep.DeepMust
namespace Go.Proofs.YtjamemjmdlkpcaaDoor
open Go.RowKit
open Se

/-- What the recursion works on: its four blocks, and the texts. -/
structure LeastE (ts : List Txt) (A : Option Addr) (c bf bt br bm B : Nat) (W : World) : Prop where
  cf : W.cell? ⟨bf, 0, none⟩ = some (.map (some bm))
  ct : W.cell? ⟨bt, 0, none⟩ = some (.slice A ts.length c)
  cr : W.cell? ⟨br, 0, none⟩ = some (.func (.func 59) #[] #[.pointer (some ⟨bf, 0, none⟩), .pointer (some ⟨bt, 0, none⟩), .pointer (some ⟨br, 0, none⟩)])
  lf : bf < W.heap.size
  lt : bt < W.heap.size
  lr : br < W.heap.size
  nf : bf ≠ bm
  nt : bt ≠ bm
  nr : br ≠ bm
  le : B ≤ bm
  sl : Sl strE B W A c ts
  fd : FoundE ts W bm
theorem FoundE.lt {ts : List Txt} {w : World} {b : Nat} (h : FoundE ts w b) : b < w.heap.size := by
  obtain ⟨_, _, h⟩ := h; exact h.lt
section
variable {ts : List Txt} {A : Option Addr} {c bf bt br bm B : Nat} {W W' : World}
theorem LeastE.kep (h : LeastE ts A c bf bt br bm B W) (hk : Kep (· = bm) W W') (hf : FoundE ts W' bm) : LeastE ts A c bf bt br bm B W' where
  cf := (hk.cell h.lf h.nf).trans h.cf
  ct := (hk.cell h.lt h.nt).trans h.ct
  cr := (hk.cell h.lr h.nr).trans h.cr
  lf := Nat.lt_of_lt_of_le h.lf hk.size
  lt := Nat.lt_of_lt_of_le h.lt hk.size
  lr := Nat.lt_of_lt_of_le h.lr hk.size
  nf := h.nf
  nt := h.nt
  nr := h.nr
  le := h.le
  sl := hk.slB h.sl (Nat.le_trans h.le (Nat.le_of_lt h.fd.lt)) (fun b hb => by subst hb; exact h.le)
  fd := hf
end
theorem run_mid (a b : Int) (m : ByteArray) (W : World) : (Instr.field 23 (.agg #[.int .i64 a, .int .i64 b, .string m]) 2).run Tryd.prog W = .ok (.string m) W := by kernel_rfl
theorem bit_and : ∀ m : Fin 64, ∀ k : Fin 6, (bits BinOp.and IntKind.u64 (((m.val : Nat) : Int) / 2 ^ k.val) 1 == 1) = m.val.testBit k.val := by decide +kernel
theorem bit_or : ∀ m : Fin 64, ∀ k : Fin 6, bits BinOp.or IntKind.u64 ((m.val : Nat) : Int) (IntKind.u64.wrap (2 ^ k.val)) = ((m.val ||| 1 <<< k.val : Nat) : Int) := by decide +kernel
theorem kep_inst {S : Nat → Prop} {W W' : World} [Grew W.heap.size W W'] [Le W.heap.size W'] : Kep S W W' := Kep.of_below below_inst
theorem LeastE.grew {ts : List Txt} {A : Option Addr} {c bf bt br bm B : Nat} {W W' : World} (h : LeastE ts A c bf bt br bm B W) [Grew W.heap.size W W'] [Le W.heap.size W'] : LeastE ts A c bf bt br bm B W' := h.kep kep_inst (h.fd.up below_inst)
set_option maxRecDepth 100000 in
set_option maxHeartbeats 8000000 in
theorem least1_c (ts : List Txt) (hT : allT ts) (hn6 : ts.length ≤ 6) (A : Option Addr) (c bf bt br bm B : Nat) (d : Nat) :
    ∀ (mask : Nat) (l : Int) (W : World), (bitsL ts.length mask).length + d = ts.length → mask < 2 ^ ts.length → -1 ≤ l → l < ts.length → LeastE ts A c bf bt br bm B W →
    Calls Tryd.prog 59 #[keyV mask l, .pointer (some ⟨bf, 0, none⟩), .pointer (some ⟨bt, 0, none⟩), .pointer (some ⟨br, 0, none⟩)] W fun e W' => e = .returned (.int .i64 (specM ts mask l : Nat)) ∧ Kep (· = bm) W W' ∧ FoundE ts W' bm := by
  induction d using Nat.strongRecOn with
  | _ d ih =>
  intro mask l W hd hm hl1 hl2 hE
  have IH := Lib.hid ih
  have HE := Lib.hid hE
  have HT := Lib.hid hT
  have HD := Lib.hid hd
  have hm64 : mask < 64 := Nat.lt_of_lt_of_le hm (Nat.pow_le_pow_right (n := 2) (by omega) hn6)
  have HM := Lib.hid hm
  have c0 := hE.cf
  have c1 := hE.ct
  have c2 := hE.cr
  have i0 : Lt bf W := ⟨hE.lf⟩
  have i1 : Lt bt W := ⟨hE.lt⟩
  have i2 : Lt br W := ⟨hE.lr⟩
  have hcl := hE.sl.len
  have F1 : Hid (FoundE ts (W.alloc (.cells #[.int .u64 mask, .int .i64 l] 72)) bm) := Lib.hid (hE.fd.up ((Below.refl _ _).alloc (Nat.le_refl _) _))
  clear ih hE hT hd hm
  unfold keyV
  rcases found_look F1.out (m := mask) (l := l) hm64 hl1 (by omega) with h | h
  · have HL := Lib.hid (h true)
    clear h
    go_enter Tryd.func59, Tryd.ntmps59
    go_wp2_with (at_lookup; go_must (refine wpList_look _ rfl (.tmp 14) (.tmp 15) _ true rfl _ _ _ rfl rfl HL.out ?_))
    go_ret
    exact ⟨rfl, Kep.of_below ((Below.refl _ _).alloc (Nat.le_refl _) _), F1.out⟩
  · have HL := Lib.hid (h true)
    clear h
    go_enter Tryd.func59, Tryd.ntmps59
    go_upto_if 23 with (at_lookup; refine wpList_look _ rfl (.tmp 14) (.tmp 15) _ true rfl _ _ _ rfl rfl HL.out ?_)
    obtain ⟨bs, hbs⟩ : ∃ bs, W.heap.size = bs := ⟨_, rfl⟩
    refine wp_name ?_
    intro W1 hW1
    have e1 : W1 = W.alloc (.cells #[.int .u64 mask, .int .i64 l] 72) := hW1.out
    have K1 : Hid (Kep (· = bm) W W1) := Lib.hid (by rw [e1]; exact Kep.of_below ((Below.refl _ _).alloc (Nat.le_refl _) _))
    have E1 : Hid (LeastE ts A c bf bt br bm B W1) := Lib.hid (HE.out.kep K1.out (by rw [e1]; exact F1.out))
    have hs1 : W1.heap.size = bs + 1 := by rw [e1, ← hbs]; simp
    have d0 : W1.cell? ⟨bs, 0, none⟩ = some (.int .u64 mask) := by rw [e1, ← hbs]; simp
    have d1 : W1.cell? ⟨bs, 1, none⟩ = some (.int .i64 l) := by rw [e1, ← hbs]; simp
    have hbm : bm < bs := by rw [← hbs]; exact HE.out.fd.lt
    have hne : bs ≠ bm := by omega
    have HS := Lib.hid hs1
    rw [hbs]
    clear c0 c1 c2 i0 i1 i2 e1 hs1 hW1 hbs
    have c0 := E1.out.cf
    have c1 := E1.out.ct
    have c2 := E1.out.cr
    have i0 : Lt bf W1 := ⟨E1.out.lf⟩
    have i1 : Lt bt W1 := ⟨E1.out.lt⟩
    have i2 : Lt br W1 := ⟨E1.out.lr⟩
    have i3 : Lt bs W1 := ⟨by rw [HS.out]; omega⟩
    go_cut [8] from 21 (fun s8 wx => s8 = .string (str (lastT ts l)) ∧ W1 = wx)
    case first =>
      by_cases hl : l < 0
      · have HL2 : Hid (lastT ts l = []) := Lib.hid (if_pos hl)
        have hl' : ¬ 0 ≤ l := by omega
        go_wp2_with fail
        go_meet
        exact ⟨by rw [HL2.out]; rfl, rfl⟩
      · obtain ⟨k, rfl⟩ : ∃ k : Nat, l = k := ⟨l.toNat, by omega⟩
        have hlt : k < ts.length := by omega
        obtain ⟨b, o, hA, hb, t0⟩ := E1.out.sl.txt hlt
        have HL2 : Hid (lastT ts (k : Int) = nth ts k) := Lib.hid (by unfold lastT at_ nth; rw [if_neg (by omega), Int.toNat_natCast]; rfl)
        subst hA
        have ib : Lt b W1 := ⟨by have := E1.out.le; have := E1.out.fd.lt; omega⟩
        have hl' : (0 : Int) ≤ (k : Int) := by omega
        go_wp2_with fail
        go_meet
        exact ⟨by rw [HL2.out], rfl⟩
    obtain ⟨rfl, rfl⟩ := hcut
    obtain ⟨y, hy⟩ : ∃ y, lastT ts l = y := ⟨_, rfl⟩
    have HY := Lib.hid hy
    rw [hy]
    clear hy
    go_upto_region 8 with fail
    go_loopg [9, 31] ts.length (fun g f i wr => ∃ k : Nat, k ≤ ts.length ∧ g = ts.length - k ∧ f = .int .i64 (fewK (viaM ts mask l) (bitsL ts.length mask) k) ∧ i = .int .i64 k ∧ Hid (Kep (· = bm) W1 wr) ∧ Hid (FoundE ts wr bm))
    case atStart => exact ⟨0, Nat.zero_le _, rfl, rfl, rfl, Kep.refl _ _, E1.out.fd⟩
    case round =>
      obtain ⟨k, hk, rfl, rfl, rfl, HK, HF⟩ := hrel
      have ER : Hid (LeastE ts A c bf bt br bm B wr) := Lib.hid (E1.out.kep HK.out HF.out)
      have e0 : wr.cell? ⟨bs, 0, none⟩ = some (.int .u64 mask) := (HK.out.cell i3.out hne).trans d0
      have e1 : wr.cell? ⟨bs, 1, none⟩ = some (.int .i64 l) := (HK.out.cell i3.out hne).trans d1
      have j3 : Lt bs wr := ⟨Nat.lt_of_lt_of_le i3.out HK.out.size⟩
      clear c0 c1 c2 d0 d1 i0 i1 i2
      have c0 := ER.out.cf
      have c1 := ER.out.ct
      have c2 := ER.out.cr
      have i0 : Lt bf wr := ⟨ER.out.lf⟩
      have i1 : Lt bt wr := ⟨ER.out.lt⟩
      have i2 : Lt br wr := ⟨ER.out.lr⟩
      have hvb := fewK_le (g := viaM ts mask l) (f := bitsL ts.length mask) (k := k) (b := 400) (fun i => by have := via_le HT.out mask l i; omega)
      by_cases hlt : k < ts.length
      · obtain ⟨b, o, rfl, hb, t0⟩ := ER.out.sl.txt hlt
        have ib : Lt b wr := ⟨by have := ER.out.le; have := ER.out.fd.lt; omega⟩
        have hki : (k : Int) < (ts.length : Int) := by omega
        have hk0 : ¬ (k : Int) < 0 := by omega
        rcases hq : mask.testBit k with _ | _
        · have hand : (bits BinOp.and IntKind.u64 ((mask : Int) / 2 ^ k) 1 == 1) = false := (bit_and ⟨mask, hm64⟩ ⟨k, by omega⟩).trans hq
          have hmk : (bitsL ts.length mask).length < ts.length := bits_lt hlt hq
          have hd1 : d - 1 < d := by have := HD.out; omega
          obtain ⟨M, hM⟩ : ∃ M, mask ||| 1 <<< k = M := ⟨_, rfl⟩
          have IH2 : Hid (∀ W', LeastE ts (some ⟨b, o, none⟩) c bf bt br bm B W' → Calls Tryd.prog 59 #[.agg #[.int .u64 M, .int .i64 k], .pointer (some ⟨bf, 0, none⟩), .pointer (some ⟨bt, 0, none⟩), .pointer (some ⟨br, 0, none⟩)] W' fun e W'' => e = .returned (.int .i64 (specM ts M k : Nat)) ∧ Kep (· = bm) W' W'' ∧ FoundE ts W'' bm) := Lib.hid (fun W' hE' => IH.out (d - 1) hd1 M k W' (by rw [← hM, bits_or_len hlt hq]; have := HD.out; omega) (by rw [← hM]; exact or_lt hlt HM.out) (by omega) (by omega) hE')
          have HV : Hid (viaM ts mask l k = cost (lastT ts l) (nth ts k) + specM ts M k) := Lib.hid (by rw [via_next hlt hq, hM]; rfl)
          have HW : Hid (fewK (viaM ts mask l) (bitsL ts.length mask) (k + 1) = if fewK (viaM ts mask l) (bitsL ts.length mask) k < 0 ∨ (viaM ts mask l k : Int) < fewK (viaM ts mask l) (bitsL ts.length mask) k then (viaM ts mask l k : Int) else fewK (viaM ts mask l) (bitsL ts.length mask) k) := Lib.hid (by rw [fewK, if_neg (fun hc => by have := (mem_bits.1 hc).2; rw [hq] at this; cases this)])
          have hsb : specM ts M k ≤ 306 := by have := spec_le HT.out M k; omega
          have hcl2 : (midOf (lastT ts l) (nth ts k)).length ≤ 48 := by
            have h1 := mid_len (lastT ts l) (nth ts k)
            have h2 := (isText_iff.1 (HT.out _ (nth_mem _ hlt))).2
            omega
          obtain ⟨t, ht⟩ : ∃ t, nth ts k = t := ⟨_, rfl⟩
          obtain ⟨S, hS⟩ : ∃ S, specM ts M k = S := ⟨_, rfl⟩
          have hyl : y.length ≤ 48 := by rw [← HY.out]; unfold lastT; split; · simp
                                         · exact at_len HT.out _
          have htl : t.length ≤ 48 := by rw [← ht]; exact (isText_iff.1 (HT.out _ (nth_mem _ hlt))).2
          have HZ : Hid ((str y).size ≤ 140737488355328 ∧ (str t).size ≤ 140737488355328) := Lib.hid (by rw [size_str, size_str]; omega)
          rw [hS] at IH2 HV hsb
          rw [HY.out, ht] at HV hcl2
          rw [ht] at t0
          have hor : bits BinOp.or IntKind.u64 (mask : Int) (IntKind.u64.wrap (2 ^ k)) = (M : Int) := by rw [← hM]; exact bit_or ⟨mask, hm64⟩ ⟨k, by omega⟩
          clear hM ht hS hq hmk hyl htl
          have hfield := run_mid
          have hwr : IntKind.i64.wrap (IntKind.i64.wrap (((midOf y t).length : Int) + 3) + (S : Int)) = (((midOf y t).length + 3 + S : Nat) : Int) := by
            rw [IntWalk.i64_in (((midOf y t).length : Int) + 3) (by omega), IntWalk.i64_in _ (by omega)]; omega
          go_upto_region 11 with fail
          go_cut [12] from 32 to 66 (fun s12 wx => s12 = .int .i64 ((midOf y t).length + 3 + S : Nat) ∧ Hid (Kep (· = bm) W1 wx) ∧ Hid (FoundE ts wx bm))
          case first =>
            go_region_held3 (fun W => W.cell? ⟨bs, 0, none⟩ = some (.int .u64 mask) ∧ W.cell? ⟨br, 0, none⟩ = some (.func (.func 59) #[] #[.pointer (some ⟨bf, 0, none⟩), .pointer (some ⟨bt, 0, none⟩), .pointer (some ⟨br, 0, none⟩)]))
              (refine ⟨?_, ?_⟩ <;> go_simp)
              (first
                | (go_at_call 51; go_must (refine (row_c (str y) (str t) y t (lst_str y) (lst_str t) HZ.out.1 HZ.out.2 _).mono ?_; rintro e w1 ⟨rfl, δ1, rfl⟩))
                | (go_at_call 59; refine Calls.mono (IH2.out _ ?_) ?_; exact ER.out.grew; (rintro e w2 ⟨rfl, hk2, hf2⟩; have q0 : w2.cell? ⟨bs, 0, none⟩ = some (.int .u64 mask) := (hk2.cell (Lt.out (b := bs)) hne).trans (by go_simp); have q1 : w2.cell? ⟨br, 0, none⟩ = some (.func (.func 59) #[] #[.pointer (some ⟨bf, 0, none⟩), .pointer (some ⟨bt, 0, none⟩), .pointer (some ⟨br, 0, none⟩)]) := (hk2.cell (Lt.out (b := br)) ER.out.nr).trans (by go_simp); have q2 : Lt bs w2 := ⟨Nat.lt_of_lt_of_le (Lt.out (b := bs)) hk2.size⟩; have q3 : Lt br w2 := ⟨Nat.lt_of_lt_of_le (Lt.out (b := br)) hk2.size⟩)))
            all_goals (go_wp2_with fail; go_meet; first | exact ⟨int_eq (by first | exact hwr | omega), HK.out.trans ((kep_inst (W := wr)).trans hk2), hf2⟩ | exact ⟨int_eq (by first | exact hwr | omega), HK.out.trans ((kep_inst (W := wr)).trans (hk2.trans kep_inst)), hf2.up below_inst⟩)
          obtain ⟨rfl, HK2, HF2⟩ := hcut
          have HV2 : Hid (viaM ts mask l k = (midOf y t).length + 3 + S) := Lib.hid (by rw [HV.out]; unfold cost; rfl)
          rw [HV2.out] at HW
          obtain ⟨q, hq⟩ : ∃ q : Nat, (midOf y t).length + 3 + S = q := ⟨_, rfl⟩
          obtain ⟨u, hu⟩ : ∃ u : Int, fewK (viaM ts mask l) (bitsL ts.length mask) k = u := ⟨_, rfl⟩
          rw [hq] at HW ⊢
          rw [hu] at HW hvb ⊢
          have hqb : q ≤ 400 := by omega
          clear hq hu hcl2 HV2 HV
          by_cases hu0 : u < 0
          · rw [if_pos (Or.inl hu0)] at HW
            go_wp2
            go_roundg (ts.length - (k + 1))
            case measure => omega
            case rel => exact ⟨k + 1, hlt, rfl, by rw [HW.out], by go_num, HK2, HF2⟩
          · by_cases hqu : (q : Int) < u
            · rw [if_pos (Or.inr hqu)] at HW
              go_wp2
              go_roundg (ts.length - (k + 1))
              case measure => omega
              case rel => exact ⟨k + 1, hlt, rfl, by rw [HW.out], by go_num, HK2, HF2⟩
            · rw [if_neg (by omega)] at HW
              go_wp2
              go_roundg (ts.length - (k + 1))
              case measure => omega
              case rel => exact ⟨k + 1, hlt, rfl, by rw [HW.out], by go_num, HK2, HF2⟩
        · have hand : (bits BinOp.and IntKind.u64 ((mask : Int) / 2 ^ k) 1 == 1) = true := (bit_and ⟨mask, hm64⟩ ⟨k, by omega⟩).trans hq
          have HW : Hid (fewK (viaM ts mask l) (bitsL ts.length mask) (k + 1) = fewK (viaM ts mask l) (bitsL ts.length mask) k) := Lib.hid (if_pos (mem_bits.2 ⟨hlt, hq⟩))
          clear hq
          go_wp2
          go_roundg (ts.length - (k + 1))
          case measure => omega
          case rel => exact ⟨k + 1, hlt, rfl, by rw [HW.out], by go_num, HK, HF⟩
      · obtain rfl : k = ts.length := by omega
        have HS2 : Hid ((fewK (viaM ts mask l) (bitsL ts.length mask) ts.length).toNat = specM ts mask l) := Lib.hid (spec_few ts mask l)
        obtain ⟨v, hv⟩ : ∃ v, fewK (viaM ts mask l) (bitsL ts.length mask) ts.length = v := ⟨_, rfl⟩
        rw [hv] at HS2 hvb ⊢
        clear hv
        obtain ⟨w2, hr1, hK2, hF2, hr2⟩ := found_lay ER.out.fd (m := mask) (l := l) hm64 hl1 (by omega) (max 0 v) (by have := HS2.out; omega)
        have HR1 := Lib.hid hr1
        have HR2 := Lib.hid (hr2 false)
        have KK : Hid (Kep (· = bm) W w2) := Lib.hid ((K1.out.trans HK.out).trans hK2)
        have c0' : w2.cell? ⟨bf, 0, none⟩ = some (.map (some bm)) := (hK2.cell i0.out ER.out.nf).trans c0
        have e0' : w2.cell? ⟨bs, 0, none⟩ = some (.int .u64 mask) := (hK2.cell j3.out hne).trans e0
        have e1' : w2.cell? ⟨bs, 1, none⟩ = some (.int .i64 l) := (hK2.cell j3.out hne).trans e1
        have HF2 := Lib.hid hF2
        clear hr1 hr2 hK2 hF2
        go_wp2_with (first
          | (at_mapUpdate; go_must (refine wpList_lay _ rfl (.tmp 67) (.tmp 68) (.tmp 70) _ rfl _ _ _ rfl rfl rfl HR1.out ?_))
          | (at_lookup; go_must (refine wpList_look _ rfl (.tmp 71) (.tmp 72) _ false rfl _ _ _ rfl rfl HR2.out ?_)))
        go_ret
        exact ⟨rfl, KK.out, HF2.out⟩
end Go.Proofs.YtjamemjmdlkpcaaDoor
