/- Season: the program's file. -/
import Derived.Test.YtjamemjmdlkpcaaDoorSe21
import Derived.Lib.OthersKept
namespace Go.Proofs.YtjamemjmdlkpcaaDoor
open Go.RowKit
open Se
open Go.Shelf

theorem own_mono {w : World} {base base' : Nat} {e : TypeId} {size n : Nat} {v : Value} {xs : List Value} (h : w.ownsRow base e size v n xs) (hb : base' ≤ base) : w.ownsRow base' e size v n xs := by
  refine ⟨h.1, ?_⟩
  rcases h.2 with h2 | ⟨g, cap, cur, hv, hg, r⟩
  · exact .inl h2
  · exact .inr ⟨g, cap, cur, hv, Nat.le_trans hb hg, r⟩
theorem Bld.is {b base B : Nat} {l : Txt} {w : World} (h : Bld b base l w) (h1 : B ≤ b) (h2 : B ≤ base) : Lib.IsBuilderF 89 5 B b (Lib.byteCells l) w := by
  obtain ⟨p, v, hb, hp, hown⟩ := h
  have hne := Lib.ownBlock_ne hown hb (by decide)
  have ho : w.ownsRow B 5 1 v (Lib.byteCells l).length (Lib.byteCells l) := by rw [Lib.byteCells_length]; exact own_mono hown h2
  refine Lib.IsBuilderF.of ?_
  rcases hp with rfl | rfl
  · exact .inl ⟨h1, v, hb, ho, hne⟩
  · exact .inr ⟨h1, v, hb, ho, hne⟩
theorem string_c (b base B : Nat) (l : Txt) (w : World) (h : Bld b base l w) (h1 : B ≤ b) (h2 : B ≤ base) (hB : B ≤ w.heap.size) :
    Calls Tryd.prog 79 #[.pointer (some ⟨b, 0, none⟩)] w fun e w' => e = .returned (.string (str l)) ∧ Below B w w' ∧ ∀ (D : Nat), w.heap[D]? = some (Obj.deferred (some [])) → w'.heap[D]? = some (Obj.deferred (some [])) := by
  have hc : Calls Tryd.prog 79 #[.pointer (some ⟨b, 0, none⟩)] w fun e w' => e = .returned (.string ⟨l.toArray⟩) ∧ (Lib.IsBuilderF 89 5 B b (Lib.byteCells l) w' ∧ Below B w w' ∧ Lib.OthersKept 5 (some b) w w') := Any.Builder_String_any_k Tryd.lays169 Tryd.Builder_Extra_169 B b l w (h.is h1 h2) hB
  refine hc.mono ?_
  rintro e w' ⟨rfl, _, hb, hk⟩
  refine ⟨rfl, hb, fun D hD => hk D _ hD ?_ (by intro c fz e; cases e)⟩
  intro e
  injection e with e
  subst e
  obtain ⟨p, v, hb', _⟩ := h
  unfold Box at hb'
  rw [hD] at hb'
  cases hb'
theorem bld_new (w w2 : World) (base : Nat) (h : w2.heap[w.heap.size]? = some (.cells #[.pointer none, .slice none 0 0] 89 (0, 0))) : Bld w.heap.size base [] w2 :=
  ⟨none, .slice none 0 0, h, .inl rfl, World.ownsRow_nil _ _ _ _⟩
theorem calls_over {f : FuncId} {fn : Func} {c : Code} {args : Array Value} {w : World} {R : Ending → World → Prop} (hf : Tryd.prog.funcs[f]? = some fn) (hb : fn.body = some c)
    (h : c.wp Tryd.prog (bodyPostM Fence.wide 3 Tryd.prog fn R) { tmps := args ++ Array.replicate (fn.ntmps - args.size) undef, defers := [] } w) : Calls Tryd.prog f args w R :=
  (callsIn_wide (n := 3)).1 (callsIn_of_wp_marks hf hb trivial (wpIn_wide.2 h) rfl)
theorem over_ret {fn : Func} {R : Ending → World → Prop} {t : Array Value} {D : Nat} {W : World} {v : Value} (hD : W.heap[D]? = some (.deferred (some [])))
    (hr : (results fn t).run Tryd.prog (W.putObj D (.deferred none)) = .ok v (W.putObj D (.deferred none))) (h : R (.returned v) (W.putObj D (.deferred none))) :
    bodyPostM Fence.wide 3 Tryd.prog fn R .ret { tmps := t, defers := [{ target := .collected D, args := #[] }] } W :=
  ⟨by simp, .inl ⟨_, _, rfl, run_takeDeferred hD, _, hr, h⟩⟩
theorem in_round {P : Program} {f : FuncId} {args : Array Value} {W : World} {R R' : Ending → World → Prop} (l m : Nat) (h : Calls P f args W R) (hm : ∀ e w', R e w' → R' e w') :
    Fence.wide.fn f ∧ (Fence.wide.depth.isSome = true → 1 ≤ m) ∧ CallsIn (Fence.wide.inRound l) (m - 1) P f args W R' :=
  ⟨trivial, fun h => by simp [Fence.wide] at h, (CallsIn.inRound l (callsIn_wide.2 (h.mono hm)))⟩
section
attribute [local go_sem] Oper.semAt_some
set_option maxHeartbeats 4000000 in
theorem file_c (A : Option Addr) (c : Nat) (ts : List Txt) (ln : Nat) (hn : ts.length = ln) (ht : allT ts) (h20 : ts.length ≤ 20) (B : Nat) (w : World) (hS : Sl strE B w A c ts) [hB : Le B w] (hT : TabIs w) [h6 : Le 6 w] :
    Calls Tryd.prog 60 #[.slice A ln c] w fun e w' => e = .returned (.string (str (file ts))) ∧ ∃ δ, w' = lat w δ := by
  subst hn
  have HS := Lib.hid hS
  have HT := Lib.hid ht
  have HF : Hid (file ts = sealed (bytesL (rows [] ts))) := Lib.hid rfl
  have HL : Hid ((bytesL (rows [] ts)).length ≤ 1020) := Lib.hid (by have := bytes_len (a := []) ht; omega)
  rw [HF.out]
  clear hS ht
  refine calls_over Tryd.func60 rfl ?_
  simp only [Tryd.ntmps60, List.size_toArray, List.length_cons, List.length_nil, Nat.reduceAdd, Nat.reduceSub, Array.replicate_succ, Array.replicate_zero, List.push_toArray, List.append_toArray, List.nil_append, List.cons_append]
  go_wp2_with (go_at_call 76; refine (rows_c A ts.length c _).mono ?_; rintro e w1 ⟨rfl, rfl⟩)
  refine wp_name fun W0 hW0 => ?_
  have iw1 : Le B W0 := by rw [hW0.out]; infer_instance
  have iw2 : Grew B w W0 := by rw [hW0.out]; infer_instance
  have iw3 : Le 6 W0 := by rw [hW0.out]; infer_instance
  have iw4 : Grew 6 w W0 := by rw [hW0.out]; infer_instance
  have iw5 : Le w.heap.size W0 := by rw [hW0.out]; infer_instance
  have iw6 : Grew w.heap.size w W0 := by rw [hW0.out]; infer_instance
  have iw7 : Lt (w.heap.size) W0 := by rw [hW0.out]; infer_instance
  have iw8 : Lt (w.heap.size + 1) W0 := by rw [hW0.out]; infer_instance
  have cw9 : W0.cell? ⟨w.heap.size + 1, 0, none⟩ = some (.slice A ts.length c) := by rw [hW0.out]; go_simp
  have X0 : W0.heap[w.heap.size]? = some (.cells #[.pointer none, .slice none 0 0] 89 (0, 0)) := by rw [hW0.out]; exact (Box.new (w := w) rfl).alloc _
  have HZ : Hid (W0.heap.size = w.heap.size + 2) := Lib.hid (by rw [hW0.out]; simp)
  have HX := Lib.hid X0
  have hBw := hB.out
  have gS : ∀ b, (b = w.heap.size ∨ W0.heap.size + 2 ≤ b) → B ≤ b ∧ b ≠ w.heap.size + 1 ∧ b ≠ W0.heap.size ∧ b ≠ W0.heap.size + 1 := by
    rintro b (rfl | h) <;> (have := HZ.out; omega)
  clear hW0 X0
  refine wp_rows A c ts HT.out B (w.heap.size + 1) rfl HS.out.up (by have := HZ.out; omega) (by have := HZ.out; omega) (by assumption)
    (fun b => b = w.heap.size ∨ W0.heap.size + 2 ≤ b) gS
    (fun pre W => Bld w.heap.size (W0.heap.size + 2) (bytesL pre) W)
    (fun pre W W' h hk => h.kept fun k cur T fr hh hkk => hk.block k (heap_lt hh) (by rintro (h | h | h); exact h; all_goals (have := HZ.out; omega)))
    (bld_new w W0 _ HX.out)
    (fun x bx => { tmps := #[.slice A ts.length c, undef, .string ⟨#[]⟩, .pointer (some ⟨w.heap.size, 0, none⟩), .pointer (some ⟨bx, 0, none⟩), .slice A ts.length c, .func (.func 97) #[] #[.pointer (some ⟨w.heap.size + 1, 0, none⟩)], .agg #[.int .i64 x.pre, .int .i64 x.suf, .string (str x.mid)], undef, undef, undef, undef, undef, undef, undef, undef, undef, undef, undef, undef, undef, undef], defers := [] }) ?assign ?body ?done
  case assign =>
    intro l m x W K hK
    unfold rowCs at hK
    unfold rowV
    gi_wp2
    exact hK
  case body =>
    rintro l m pre x bx W hpre hI hx hbx hs
    have hmem : x ∈ rows [] ts := hpre.subset (by simp)
    obtain ⟨g1, g2, g3, g4, g5⟩ := rows_good text_nil HT.out x hmem
    have hpl : (bytesL pre).length ≤ 1020 := by
      obtain ⟨q, hq⟩ := hpre
      have := HL.out
      rw [← hq] at this
      simp [bytesL] at this ⊢
      omega
    have HB : Hid (bytesL (pre ++ [x]) = bytesL pre ++ [letter x.pre.toNat] ++ [letter x.suf.toNat] ++ (x.mid ++ [10])) := Lib.hid (by rw [bytesL_snoc]; simp [bytesOf])
    obtain ⟨xp, xs, xm⟩ := x
    obtain ⟨p, rfl⟩ := Int.eq_ofNat_of_zero_le g1
    obtain ⟨q, rfl⟩ := Int.eq_ofNat_of_zero_le g3
    simp only [Int.toNat_natCast] at HB
    have hp48 : p ≤ 48 := by simp at g2; omega
    have hq48 : q ≤ 48 := by simp at g4; omega
    have hml : xm.length ≤ 48 := (isText_iff.1 g5).2
    have x1 := fun (W : World) t k h => index_letters (P := Tryd.prog) W t k p h hp48
    have x2 := fun (W : World) t k h => index_letters (P := Tryd.prog) W t k q h hq48
    have a1 := fun (W : World) => add_str (P := Tryd.prog) W xm [10] (by simp; omega)
    have a0 : (⟨#[10]⟩ : ByteArray) = str [10] := rfl
    rw [← a0] at a1
    have HI := Lib.hid hI
    have HX' : Hid (Box W bx 23 #[.int .i64 p, .int .i64 q, .string (str xm)]) := Lib.hid hx
    have hne : bx ≠ w.heap.size := by have := HZ.out; omega
    have HS2 := Lib.hid hs
    have c1 := HX'.out.cell (i := 0) (v := .int .i64 p) rfl
    have ib := HX'.out.lt
    clear hpre hI hx hmem g1 g2 g3 g4 g5 hs a0
    gi_wp2_with (fail)
    refine in_round l m (writeByte_c w.heap.size (W0.heap.size + 2) _ (letter p) _ rfl W HI.out (by omega) HS2.out) ?_
    rintro e w1 ⟨rfl, b1, r1⟩
    have X1 := Lib.hid (r1.box HX'.out hne (by decide))
    have B1 := Lib.hid b1
    have R1 := Lib.hid r1
    have c2 := X1.out.cell (i := 1) (v := .int .i64 q) rfl
    have ib1 := X1.out.lt
    have S1 : Hid (W0.heap.size + 2 ≤ w1.heap.size) := Lib.hid (Nat.le_trans HS2.out r1.kep.size)
    clear b1 r1
    gi_wp2_with (fail)
    refine in_round l m (writeByte_c w.heap.size (W0.heap.size + 2) _ (letter q) _ rfl w1 B1.out (by simp; omega) S1.out) ?_
    rintro e w2 ⟨rfl, b2, r2⟩
    have X2 := Lib.hid (r2.box X1.out hne (by decide))
    have B2 := Lib.hid b2
    have R2 := Lib.hid (R1.out.trans r2)
    have c3 := X2.out.cell (i := 2) (v := .string (str xm)) rfl
    have ib2 := X2.out.lt
    have S2 : Hid (W0.heap.size + 2 ≤ w2.heap.size) := Lib.hid (Nat.le_trans S1.out r2.kep.size)
    clear b2 r2
    gi_wp2_with (fail)
    refine in_round l m (writeString_c w.heap.size (W0.heap.size + 2) _ _ _ (lst_str _) w2 B2.out (by simp; omega) (by simp; omega) S2.out) ?_
    rintro e w3 ⟨rfl, b3, r3⟩
    have B3 : Hid (Bld w.heap.size (W0.heap.size + 2) (bytesL (pre ++ [⟨p, q, xm⟩])) w3) := Lib.hid (by rw [HB.out]; exact b3)
    have R3 := Lib.hid (R2.out.trans r3)
    clear b3 r3
    gi_wp2
    exact ⟨R3.out.kep, B3.out⟩
  case done =>
    rintro W hI hk hD
    have HI := Lib.hid hI
    have HK := Lib.hid hk
    have HD := Lib.hid hD
    clear hI hk hD
    have hBW : Below w.heap.size w W := (grew_below (w := w) (W := W0)).trans (HK.out.below (Nat.le_of_lt (by have := HZ.out; omega)) (by rintro b ((h | h) | h | h) <;> (have := HZ.out; omega)))
    go_wp2_with (fail)
    refine (string_c w.heap.size (W0.heap.size + 2) w.heap.size _ W HI.out (Nat.le_refl _) (by have := HZ.out; omega) hBW.size).mono ?_
    rintro e w2 ⟨rfl, hb2, hk2⟩
    have HB2 := Lib.hid (hBW.trans hb2)
    have HD2 := Lib.hid (hk2 _ HD.out)
    have g6 : Grew 6 w w2 := ⟨Same.of (HB2.out.mono h6.out)⟩
    have l6 : Le 6 w2 := ⟨Nat.le_trans h6.out HB2.out.size⟩
    have hT2 : TabIs w2 := hT.up
    have HL2 : Hid ((bytesL (rows [] ts)).length ≤ 50000) := Lib.hid (by have := HL.out; omega)
    clear hBW hb2 hk2 g6
    go_wp2_with (go_at_call 57; refine (sealed_c _ _ (lst_str _) HL2.out w2 hT2).mono ?_; rintro e w3 ⟨rfl, δ, rfl⟩)
    refine over_ret (v := .string (str (sealed (bytesL (rows [] ts))))) (((lat_below w2 δ).block _ (heap_lt HD2.out)).trans HD2.out) ?_ ⟨rfl, lat_of' ?_⟩
    · simp only [results, Tryd.results60]
      go_simp
    · have hb3 : Below w.heap.size w (lat w2 δ) := HB2.out.trans ((lat_below w2 δ).mono HB2.out.size)
      exact ⟨hb3.os, hb3.tape, hb3.output, by rw [World.putObj_size]; exact hb3.size, fun k hk => (World.putObj_heap_other (by have := HZ.out; omega)).trans (hb3.block k hk)⟩
end
end Go.Proofs.YtjamemjmdlkpcaaDoor
