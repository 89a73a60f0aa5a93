/- Layer 4: Huge, Far, copied, Copy, Same. -/
import Derived.Test.YtbfehifidlojlaaMe16
import Derived.Test.YtbfehifidlojlaaMeB
namespace Go.Proofs.Ytbfehifidlojlaa
open Go.RowKit
open Me

theorem slHo : SlT Try.prog 22 33 (.agg #[.int .i64 0, .int .i64 0, .int .i64 0, .int .i64 0]) 4 32 := SlT.mk Try.underlying22 (by kernel_rfl) rfl (by omega)
theorem slPr : SlT Try.prog 23 63 (.agg #[.int .i64 0, .int .i64 0]) 2 16 := SlT.mk Try.underlying23 (by kernel_rfl) rfl (by omega)
theorem one_hole : ∀ x, ∀ u ∈ encHole x, u.oneCell' = true := by intro x u hu; simp [encHole] at hu; rcases hu with rfl | rfl | rfl | rfl <;> rfl
theorem one_pr : ∀ x, ∀ u ∈ encPr x, u.oneCell' = true := by intro x u hu; simp [encPr] at hu; rcases hu with rfl | rfl <;> rfl
theorem one_int : ∀ x, ∀ u ∈ encI x, u.oneCell' = true := by intro x u hu; simp [encI] at hu; subst hu; rfl

/-- Has a net, or a list, far too much of something? -/
def hugeB (n : Net) (k : Nat) : Bool := decide (40 < n.hs.length) || (decide (40 < n.ps.length) || decide (40 < k))
def farB (n : Net) (most : Nat) : Bool := hugeB n 0 || (decide (most < n.hs.length) && decide (n.hs.length ≤ 6))
set_option maxRecDepth 100000 in
theorem huge_c (r : NetR) (n : Net) (A : Option Addr) (k c : Nat) (b : Bool) (hb : hugeB n k = b) (hk : k ≤ 9223372036854775807) (B : Nat) (w : World) (hN : NetIs B w r n) :
    Calls Try.prog 31 #[netV r n, .slice A k c] w fun e w' => e = .returned (.bool b) ∧ ∃ δ, w' = lat w δ := by
  subst hb
  have l1 := hN.1.len
  have l2 := hN.2.len
  go_enter Try.func31, Try.ntmps31
  go_wp2
  all_goals
    go_ret
    exact ⟨ret_bool (by unfold hugeB; rw [Bool.eq_iff_iff]; simp at *; omega), lat_ex⟩
set_option maxRecDepth 100000 in
theorem far_c (r : NetR) (n : Net) (most : Nat) (hm : most ≤ 100) (b : Bool) (hb : farB n most = b) (B : Nat) (w : World) (hN : NetIs B w r n) [hB : Le B w] :
    Calls Try.prog 22 #[netV r n, .int .i64 most] w fun e w' => e = .returned (.bool b) ∧ ∃ δ, w' = lat w δ := by
  subst hb
  have l1 := hN.1.len
  have l2 := hN.2.len
  have HN := Lib.hid hN
  clear hN
  cases hh : hugeB n 0 with
  | true =>
    have HH := Lib.hid hh
    clear hh
    go_enter Try.func22, Try.ntmps22
    go_wp2_with (go_at_call 31; refine (huge_c r n none 0 0 _ HH.out (by omega) B _ HN.out.up).mono ?_; rintro e w1 ⟨rfl, δ, rfl⟩)
    go_ret
    exact ⟨ret_bool (by unfold farB; rw [HH.out]; rfl), lat_ex⟩
  | false =>
    have HH := Lib.hid hh
    clear hh
    go_enter Try.func22, Try.ntmps22
    go_wp2_with (go_at_call 31; refine (huge_c r n none 0 0 _ HH.out (by omega) B _ HN.out.up).mono ?_; rintro e w1 ⟨rfl, δ, rfl⟩)
    all_goals
      go_ret
      exact ⟨ret_bool (by unfold farB; rw [HH.out, Bool.eq_iff_iff]; simp at *; omega), lat_ex⟩

theorem copied_c (A : Option Addr) (c m : Nat) (l : List Int) (hm : l.length = m) (hl : l.length ≤ 1000) (B : Nat) (w : World) [hB : Le B w] (hS : Sl encI B w A c l) :
    Calls Try.prog 21 #[.slice A m c] w fun e w' => ∃ (A' : Option Addr) (c' : Nat) (δ : World), e = .returned (.slice A' m c') ∧ w' = lat w δ ∧ Hid (Sl encI (lat w δ).heap.size (lat w δ) A' c' l) := by
  subst hm
  have HS := Lib.hid hS
  clear hS
  go_enter Try.func21, Try.ntmps21
  go_wp2_with (at_builtin; (refine wpList_append_lit w slI (.tmp 3) (.tmp 4) rfl rfl (v := .slice (some ⟨_, 0, none⟩) 0 0) (own_lit0 (by go_simp) (by go_simp)) rfl (B := B) (A := A) (m := l.length) (c := c) (news := l.flatMap encI) rfl (HS.out.up.2.2) (len_enc encI 1 (fun _ => rfl) _) (one_enc encI one_int _) (by omega) (by omega) ?_); intro A1 c1 δ1 own1 hg1)
  go_ret
  refine ⟨A1, c1, _, rfl, lat_def, ?_⟩
  rw [← lat_def (w := w)]
  exact Sl.of_own own1

/-- A net whose rows are the caller's own: each lies whole in a block from base on. -/
def NetOwn (base : Nat) (w : World) (r : NetR) (n : Net) : Prop :=
  w.ownsRow base 33 4 (.slice r.hA n.hs.length r.hc) n.hs.length (n.hs.flatMap encHole) ∧
  w.ownsRow base 63 2 (.slice r.pA n.ps.length r.pc) n.ps.length (n.ps.flatMap encPr)
section
variable {base : Nat} {w : World} {r : NetR} {n : Net}
theorem NetOwn.is (h : NetOwn base w r n) : NetIs w.heap.size w r n := ⟨Sl.of_own h.1, Sl.of_own h.2⟩
theorem NetOwn.mono (h : NetOwn base w r n) {base' : Nat} (hb : base' ≤ base) : NetOwn base' w r n := ⟨owns_mono h.1 hb, owns_mono h.2 hb⟩
theorem NetOwn.set (h : NetOwn base w r n) {b i : Nat} (hb : b < base) (u : Value) : NetOwn base (w.setCell ⟨b, i, none⟩ u) r n := ⟨ownsRow_set_below h.1 hb, ownsRow_set_below h.2 hb⟩
theorem NetOwn.alloc (h : NetOwn base w r n) (o : Obj) : NetOwn base (w.alloc o) r n := ⟨h.1.alloc o, h.2.alloc o⟩
theorem NetOwn.up (h : NetOwn base w r n) {W : World} [hg : Grew w.heap.size w W] : NetOwn base W r n := ⟨owns_up h.1, owns_up h.2⟩
end

theorem own_ne {w : World} {base base' g n n' c' size size' : Nat} {e e' : TypeId} {v : Value} {xs xs' : List Value} (h : w.ownsRow base e size v n xs) (h' : w.ownsRow base' e' size' (.slice (some ⟨g, 0, none⟩) n' c') n' xs') (hne : e ≠ e') : v.ownBlock ≠ some g := by
  intro hv
  rcases h.2 with h2 | ⟨g1, cap1, cur1, hv1, _, h2, _⟩
  · rw [h2.1] at hv; cases hv
  · rw [hv1] at hv
    injection hv with hv
    rcases h'.2 with ⟨h3, _⟩ | ⟨g2, _, cur2, hv2, _, h4, _⟩
    · cases h3
    · injection hv2 with hA
      injection hA with hA
      injection hA with hg
      subst hg
      subst hv
      rw [h2] at h4
      injection h4 with h4
      injection h4 with _ he
      exact hne he

theorem step_append_litk {P : Program} (W1 : World) {W : World} {ops : Array Oper} {o : Oper} {a : Act} {K : Act → World → Prop} {Q : Exit → Act → World → Prop} {E : Prop} {t e : TypeId} {z : Value} {size bytes : Nat} (hT : SlT P t e z size bytes)
    (s x : Operand) (hgd : o.guard = none) (ho : o.op = .call { callee := .builtin .append, args := #[s, x], argTypes := #[t, t] })
    {v : Value} (hown : W.ownsRow W1.heap.size e size v 0 []) (hs : a.eval s = v)
    {B m c : Nat} {A : Option Addr} {news : List Value} (hx : a.eval x = .slice A m c) (hr : Cells W B A news) (hl : news.length = m * size) (h1 : ∀ u ∈ news, u.oneCell' = true)
    (h63 : m ≤ 1000000) (hbytes : bytes ≤ 1000) [hbase : Le W1.heap.size W]
    (h : ∀ A' c' δ, (latB W1.heap.size W δ).ownsRow W1.heap.size e size (.slice A' m c') m news → W.grownBy (latB W1.heap.size W δ) v.ownBlock → W.ownsRow W1.heap.size e size v 0 [] → K (a.put o.dst (.slice A' m c')) (latB W1.heap.size W δ)) :
    if Region.wanted o (yielded ops a.tmps) = true then Oper.wp P o a W K Q else E :=
  step_append_lit W1 hT s x hgd ho hown hs hx hr hl h1 h63 hbytes fun A' c' δ h2 h3 => h A' c' δ h2 h3 hown
theorem own_on {w w' : World} {base g n n' c' size size' : Nat} {e e' : TypeId} {v : Value} {xs xs' : List Value} (h : w.ownsRow base e size v n xs) (hg : w.grownBy w' (Value.slice (some ⟨g, 0, none⟩) n' c').ownBlock) (h' : w.ownsRow base e' size' (.slice (some ⟨g, 0, none⟩) n' c') n' xs') (hne : e ≠ e') : w'.ownsRow base e size v n xs :=
  h.kept hg (.inr (own_ne h h' hne))
theorem kept_lit {W W' : World} {base e s g g' : Nat} (h : W.ownsRow base e s (.slice (some ⟨g, 0, none⟩) 0 0) 0 []) (hgr : W.grownBy W' (Value.slice (some ⟨g', 0, none⟩) 0 0).ownBlock) (hne : g ≠ g') : W'.ownsRow base e s (.slice (some ⟨g, 0, none⟩) 0 0) 0 [] :=
  h.kept hgr (.inr fun he => hne (Option.some.inj he))
theorem lit_fst {W1 : World} {e1 e2 s g : Nat} (hg : g = W1.heap.size) : ((W1.alloc (.cells #[] e1)).alloc (.cells #[] e2)).drew.ownsRow W1.heap.size e1 s (.slice (some ⟨g, 0, none⟩) 0 0) 0 [] := by
  subst hg
  exact (own_lit0 (Nat.le_refl _) rfl).alloc _
theorem lit_snd {W1 : World} {e1 e2 s g : Nat} (hg : g = W1.heap.size + 1) : ((W1.alloc (.cells #[] e1)).alloc (.cells #[] e2)).drew.ownsRow W1.heap.size e2 s (.slice (some ⟨g, 0, none⟩) 0 0) 0 [] := by
  have h : (W1.alloc (.cells #[] e1)).heap.size = W1.heap.size + 1 := by go_simp
  exact own_lit0 (W := W1.alloc (.cells #[] e1)) (by omega) (by omega)
theorem ne_succ' {n : Nat} : n ≠ n + 1 := by omega
theorem succ_ne' {n : Nat} : n + 1 ≠ n := by omega
set_option maxRecDepth 100000 in
set_option maxHeartbeats 4000000 in
theorem copy_c (r : NetR) (n : Net) (B : Nat) (w : World) [hB : Le B w] (h : NetIs B w r n) (q1 : n.hs.length ≤ 1000) (q2 : n.ps.length ≤ 1000) :
    Calls Try.prog 17 #[netV r n] w fun e w' => ∃ (r' : NetR) (δ : World), e = .returned (netV r' n) ∧ w' = lat w δ ∧ NetOwn w.heap.size (lat w δ) r' n := by
  go_enter Try.func17, Try.ntmps17
  have H := Lib.hid h
  clear h
  go_upto_region 1 with fail
  refine wp_name fun W1 hW1 => ?_
  have iw1 : Le B W1 := by rw [hW1.out]; infer_instance
  have iw2 : Grew B w W1 := by rw [hW1.out]; infer_instance
  have iw3 : Le w.heap.size W1 := by rw [hW1.out]; infer_instance
  have iw4 : Grew w.heap.size w W1 := by rw [hW1.out]; infer_instance
  have iw5 : Lt (w.heap.size) W1 := by rw [hW1.out]; infer_instance
  have iw6 : Lt (w.heap.size + 1) W1 := by rw [hW1.out]; infer_instance
  have cw7 : W1.cell? ⟨w.heap.size, 0, none⟩ = some (.int .i64 n.m) := by rw [hW1.out]; go_simp
  have cw8 : W1.cell? ⟨w.heap.size, 1, none⟩ = some (.slice r.hA n.hs.length r.hc) := by rw [hW1.out]; go_simp
  have cw9 : W1.cell? ⟨w.heap.size, 2, none⟩ = some (.slice r.pA n.ps.length r.pc) := by rw [hW1.out]; go_simp
  have cw10 : W1.cell? ⟨w.heap.size + 1, 0, none⟩ = some (.int .i64 0) := by rw [hW1.out]; go_simp
  have cw11 : W1.cell? ⟨w.heap.size + 1, 1, none⟩ = some (.slice none 0 0) := by rw [hW1.out]; go_simp
  have cw12 : W1.cell? ⟨w.heap.size + 1, 2, none⟩ = some (.slice none 0 0) := by rw [hW1.out]; go_simp
  have fw13 : W1.frozen? ⟨w.heap.size + 1, 0, none⟩ = false := by rw [hW1.out]; go_simp
  have fw14 : W1.frozen? ⟨w.heap.size + 1, 1, none⟩ = false := by rw [hW1.out]; go_simp
  have fw15 : W1.frozen? ⟨w.heap.size + 1, 2, none⟩ = false := by rw [hW1.out]; go_simp
  clear hW1
  go_region_held3 (fun W => W.cell? ⟨w.heap.size, 0, none⟩ = some (.int .i64 n.m) ∧ W.cell? ⟨w.heap.size, 1, none⟩ = some (.slice r.hA n.hs.length r.hc) ∧ W.cell? ⟨w.heap.size, 2, none⟩ = some (.slice r.pA n.ps.length r.pc))
    (refine ⟨?_, ?_, ?_⟩ <;> go_simp)
    (first
      | (refine step_append_litk W1 slHo (.tmp 5) (.tmp 7) rfl rfl (v := .slice (some ⟨_, 0, none⟩) 0 0) (by first | exact own_lit0 (by go_simp; done) (by go_simp; done) | exact (own_lit0 (by go_simp; done) (by go_simp; done)).alloc _ | exact kept_lit (lit_fst rfl) hg2 ne_succ' | exact kept_lit (lit_snd rfl) hg2 succ_ne') rfl (B := B) (A := r.hA) (m := n.hs.length) (c := r.hc) (news := n.hs.flatMap encHole) rfl (H.out.up.1.2.2) (len_enc encHole 4 (fun _ => rfl) _) (one_enc encHole one_hole _) (by omega) (by omega) ?_; intro A1 c1 δ1 own1 hg1 hl1; try have p2 := (by first | exact own_on own2 hg1 hl1 (by decide) | exact own_on (own2.alloc _) hg1 hl1 (by decide)))
      | (refine step_append_litk W1 slPr (.tmp 9) (.tmp 11) rfl rfl (v := .slice (some ⟨_, 0, none⟩) 0 0) (by first | exact own_lit0 (by go_simp; done) (by go_simp; done) | exact (own_lit0 (by go_simp; done) (by go_simp; done)).alloc _ | exact kept_lit (lit_fst rfl) hg1 ne_succ' | exact kept_lit (lit_snd rfl) hg1 succ_ne') rfl (B := B) (A := r.pA) (m := n.ps.length) (c := r.pc) (news := n.ps.flatMap encPr) rfl (H.out.up.2.2.2) (len_enc encPr 2 (fun _ => rfl) _) (one_enc encPr one_pr _) (by omega) (by omega) ?_; intro A2 c2 δ2 own2 hg2 hl2; try have p1 := (by first | exact own_on own1 hg2 hl2 (by decide) | exact own_on (own1.alloc _) hg2 hl2 (by decide))))
  all_goals try have p3 := (And.intro own1 p2 : NetOwn W1.heap.size _ ⟨A1, c1, A2, c2⟩ n)
  all_goals try have p3 := (And.intro p1 own2 : NetOwn W1.heap.size _ ⟨A1, c1, A2, c2⟩ n)
  go_goals
  all_goals
    go_wp2
    refine bodyPost_ret (v := netV ⟨A1, c1, A2, c2⟩ n) ?_ rfl ?_
    · simp only [results, Try.results17]
      go_simp
    · refine ⟨⟨A1, c1, A2, c2⟩, rfl, _, lat_def, ?_⟩
      rw [← lat_def (w := w)]
      refine NetOwn.mono (base := W1.heap.size) ?_ iw3.out
      iterate 3 (refine NetOwn.set ?_ iw6.out _)
      exact p3

end Go.Proofs.Ytbfehifidlojlaa
