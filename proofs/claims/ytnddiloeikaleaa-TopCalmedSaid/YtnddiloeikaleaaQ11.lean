/- Towards the claim of XLawCalmed: Layer 13, for the calm sky: how seasons come in as arguments. -/
import Derived.Test.YtnddiloeikaleaaRows
import Derived.Test.YtnddiloeikaleaaQ9
import Derived.Deep.Slices
import Derived.Deep.Fields
import Derived.ChangeSame
import Derived.ChangeSlices
import Derived.ProofKit
import Derived.OpenShut
namespace Go.Proofs.Ytnddiloeikaleaa
open Go.RowKit Go.ChangeShapes Go.WideShapes Go.Deep
open An
open Tc

theorem len_enx {α : Type} (enc : α → List Value) (size : Nat) (h : ∀ x, (enc x).length = size) (xs : List α) : (xs.flatMap enc).length = xs.length * size := by
  induction xs with
  | nil => simp
  | cons x xs ih => rw [List.flatMap_cons, List.length_append, ih, h, List.length_cons, Nat.succ_mul]; omega
theorem nth_range_mapx {α : Type} [Inhabited α] (f : Nat → α) {m j : Nat} (h : j < m) : nth ((List.range m).map f) j = f j := by
  rw [nth_get _ (by simpa using h)]; simp

section
variable {H : Type} {enc : TypeId × Value → H} {P : Program} {w : World} {spare : Nat → Bool} {held : Bool}
open Classical in
/-- A slice whose elements are of one shape. -/
theorem open_slg {α : Type} [Inhabited α] {en : α → List Value} {R : α → Prop} {size : Nat} {t e : TypeId} {fuel : Nat} {v : Value} {x : DataW H × List MemPlace} (ht : P.underlying t = some (.slice e)) (hC : P.cellsOf e = size) (hp : 0 < size) (hen : ∀ x, (en x).length = size)
    (hop : ∀ (fuel : Nat) (cs : List Value) (x : DataW H × List MemPlace), DataW.trod enc P w 0 spare held fuel e cs = some x → ∃ a, cs = en a ∧ R a)
    (h : DataW.trod enc P w 0 spare held fuel t [v] = some x) : ∃ (A : Option Addr) (c : Nat) (xs : List α), v = .slice A xs.length c ∧ Sl en w.heap.size w A c xs ∧ ∀ i, i < xs.length → R (nth xs i) := by
  rcases open_slice ht h with ⟨hcs, _⟩ | ⟨a, len, cap, m, n, D, Pl, hcs, _, hl, hm, hmm, _, hi⟩
  · simp at hcs
    exact ⟨none, 0, [], hcs, Sl.none_, fun i hi => absurd hi (by simp)⟩
  · simp at hcs
    have hlm : len ≤ m := by rw [hmm]; split <;> omega
    have hcell : ∀ i, i < len → ∃ y : α, (∀ j, j < size → w.cell? (a.add (i * size + j)) = (en y)[j]?) ∧ R y := by
      intro i hil
      obtain ⟨cs', hc, htr⟩ := hi i (by omega)
      obtain ⟨y, hy, hR⟩ := hop _ _ _ htr
      obtain ⟨_, hcl, hat⟩ := World.cells?_some hc
      rw [hC] at hcl hat
      refine ⟨y, fun j hj => ?_, hR⟩
      have := hat j (by omega)
      rw [← Go.Deep.add_add, ← hy]
      exact this
    let F : Nat → α := fun i => if h : ∃ y : α, (∀ j, j < size → w.cell? (a.add (i * size + j)) = (en y)[j]?) ∧ R y then Classical.choose h else default
    have hF0 : ∀ i, i < len → (∀ j, j < size → w.cell? (a.add (i * size + j)) = (en (F i))[j]?) ∧ R (F i) := by
      intro i hil
      have he := hcell i hil
      show (∀ j, j < size → w.cell? (a.add (i * size + j)) = (en (if h : ∃ y : α, (∀ j, j < size → w.cell? (a.add (i * size + j)) = (en y)[j]?) ∧ R y then Classical.choose h else default))[j]?) ∧ R (if h : ∃ y : α, (∀ j, j < size → w.cell? (a.add (i * size + j)) = (en y)[j]?) ∧ R y then Classical.choose h else default)
      rw [dif_pos he]
      exact Classical.choose_spec he
    have hF : ∀ i, i < len → ∀ j, j < size → w.cell? (a.add (i * size + j)) = (en (F i))[j]? := fun i hi => (hF0 i hi).1
    refine ⟨some a, cap, (List.range len).map F, by simpa using hcs, ?_, fun i hi => by rw [nth_range_mapx F (by simpa using hi)]; exact (hF0 i (by simpa using hi)).2⟩
    refine ⟨by simpa using hl, by unfold maxLen at hm; omega, ?_⟩
    intro hne
    have hlen : 0 < len := by
      rcases Nat.eq_zero_or_pos len with h0 | h0
      · subst h0; simp at hne
      · exact h0
    obtain ⟨v0, hv0⟩ : ∃ v0, (en (F 0))[0]? = some v0 := ⟨_, List.getElem?_eq_getElem (by rw [hen]; exact hp)⟩
    have h0 := hF 0 hlen 0 hp
    rw [hv0] at h0
    obtain ⟨b, o, spot⟩ := a
    have hspot : spot = none := by
      have := h0
      simp only [Nat.zero_mul, Nat.zero_add, Addr.add, if_true] at this
      exact World.cell?_spot this
    subst hspot
    refine ⟨b, o, rfl, ?_, ?_⟩
    · have := World.block_lt_of_cell? w _ h0
      simpa [Addr.add_lit] using this
    · intro j u hj
      have hjl := (List.getElem?_eq_some_iff.1 hj).1
      rw [len_enx en size hen, List.length_map, List.length_range] at hjl
      have hdiv : j / size < len := Nat.div_lt_of_lt_mul (by rw [Nat.mul_comm]; exact hjl)
      have hmod : j % size < size := Nat.mod_lt _ hp
      have hjj : j = j / size * size + j % size := by rw [Nat.mul_comm]; exact (Nat.div_add_mod _ _).symm
      rw [hjj] at hj ⊢
      rw [flatMap_nth en size hen _ _ _ (by simpa using hdiv) hmod, nth_range_mapx _ hdiv] at hj
      have := hF _ hdiv _ hmod
      rw [Addr.add_lit] at this
      rw [this]
      exact hj
end

theorem cells_int : Try.prog.cellsOf 3 = 1 := by kernel_rfl
theorem cells_sp : Try.prog.cellsOf 23 = 2 := by kernel_rfl
theorem cells_anc : Try.prog.cellsOf 51 = 2 := by kernel_rfl
theorem cells_wal : Try.prog.cellsOf 86 = 5 := by kernel_rfl
theorem cells_boat : Try.prog.cellsOf 88 = 2 := by kernel_rfl
theorem cells_sky : Try.prog.cellsOf 59 = 4 := by kernel_rfl
theorem cells_sps : Try.prog.cellsOf 24 = 1 := by kernel_rfl
theorem cells_ancs : Try.prog.cellsOf 25 = 1 := by kernel_rfl
theorem cells_wals : Try.prog.cellsOf 26 = 1 := by kernel_rfl
theorem cells_boats : Try.prog.cellsOf 29 = 1 := by kernel_rfl
theorem cells_skies : Try.prog.cellsOf 32 = 1 := by kernel_rfl
theorem cells_ints : Try.prog.cellsOf 34 = 1 := by kernel_rfl
theorem cells_intss : Try.prog.cellsOf 33 = 1 := by kernel_rfl
theorem cells_net : Try.prog.cellsOf 28 = 7 := by kernel_rfl
theorem cells_sea : Try.prog.cellsOf 31 = 4 := by kernel_rfl
theorem cells_season : Try.prog.cellsOf 36 = 15 := by kernel_rfl
section
variable {H : Type} {enc : TypeId × Value → H} {w : World} {spare : Nat → Bool} {held : Bool}
theorem open_int1 {fuel : Nat} {cs : List Value} {x : DataW H × List MemPlace} (h : DataW.trod enc Try.prog w 0 spare held fuel 3 cs = some x) : ∃ a : Int, cs = encI a := by
  obtain ⟨m, e0, _⟩ := DataW.trod_int Try.underlying3 h
  exact ⟨m, e0⟩
set_option maxRecDepth 100000 in
theorem open_two {t : TypeId} {fs : Array Field} {fuel : Nat} {cs : List Value} {x : DataW H × List MemPlace} (ht : Try.prog.underlying t = some (.struct fs)) (hc : Try.prog.cellsOf t = 2) (hf : fs.size = 2)
    (h0 : ∃ f, fs[0]? = some f ∧ f.offset = 0 ∧ f.type = 3) (h1 : ∃ f, fs[1]? = some f ∧ f.offset = 1 ∧ f.type = 3) (h : DataW.trod enc Try.prog w 0 spare held fuel t cs = some x) : ∃ a b : Int, cs = [.int .i64 a, .int .i64 b] := by
  obtain ⟨xs, n, _, _, hl, hlen, hg⟩ := DataW.trod_struct ht h
  rw [hc] at hl
  rw [hf] at hlen
  obtain ⟨F0, e0, o0, t0⟩ := h0
  obtain ⟨F1, e1, o1, t1⟩ := h1
  match cs, hl, xs, hlen with
  | [c0, c1], _, [y0, y1], _ =>
    have g0 := hg 0 F0 e0
    have g1 := hg 1 F1 e1
    rw [o0, t0, cells_int] at g0
    rw [o1, t1, cells_int] at g1
    obtain ⟨a, ha⟩ := open_int1 g0
    obtain ⟨b, hb⟩ := open_int1 g1
    simp [encI] at ha hb
    exact ⟨a, b, by rw [ha, hb]⟩
theorem open_sp {fuel : Nat} {cs : List Value} {x : DataW H × List MemPlace} (h : DataW.trod enc Try.prog w 0 spare held fuel 23 cs = some x) : ∃ p : Sp, cs = encSp p := by
  obtain ⟨a, b, hab⟩ := open_two Try.underlying23 cells_sp rfl ⟨_, rfl, rfl, rfl⟩ ⟨_, rfl, rfl, rfl⟩ h
  exact ⟨⟨a, b⟩, hab⟩
theorem open_anc {fuel : Nat} {cs : List Value} {x : DataW H × List MemPlace} (h : DataW.trod enc Try.prog w 0 spare held fuel 51 cs = some x) : ∃ p : Anc, cs = encAnc p := by
  obtain ⟨a, b, hab⟩ := open_two Try.underlying51 cells_anc rfl ⟨_, rfl, rfl, rfl⟩ ⟨_, rfl, rfl, rfl⟩ h
  exact ⟨⟨a, b⟩, hab⟩
theorem open_boat {fuel : Nat} {cs : List Value} {x : DataW H × List MemPlace} (h : DataW.trod enc Try.prog w 0 spare held fuel 88 cs = some x) : ∃ p : Boat, cs = encBoat p := by
  obtain ⟨a, b, hab⟩ := open_two Try.underlying88 cells_boat rfl ⟨_, rfl, rfl, rfl⟩ ⟨_, rfl, rfl, rfl⟩ h
  exact ⟨⟨a, b⟩, hab⟩
set_option maxRecDepth 100000 in
theorem open_wal {fuel : Nat} {cs : List Value} {x : DataW H × List MemPlace} (h : DataW.trod enc Try.prog w 0 spare held fuel 86 cs = some x) : ∃ p : Wal, cs = encWal p := by
  obtain ⟨xs, n, _, _, hl, hlen, hg⟩ := DataW.trod_struct Try.underlying86 h
  rw [cells_wal] at hl
  match cs, hl, xs, hlen with
  | [c0, c1, c2, c3, c4], _, [y0, y1, y2, y3, y4], _ =>
    have g0 : DataW.trod enc Try.prog w 0 spare held n 3 [c0] = some y0 := by simpa [cells_int] using hg 0 _ rfl
    have g1 : DataW.trod enc Try.prog w 0 spare held n 3 [c1] = some y1 := by simpa [cells_int] using hg 1 _ rfl
    have g2 : DataW.trod enc Try.prog w 0 spare held n 3 [c2] = some y2 := by simpa [cells_int] using hg 2 _ rfl
    have g3 : DataW.trod enc Try.prog w 0 spare held n 3 [c3] = some y3 := by simpa [cells_int] using hg 3 _ rfl
    have g4 : DataW.trod enc Try.prog w 0 spare held n 3 [c4] = some y4 := by simpa [cells_int] using hg 4 _ rfl
    obtain ⟨a, ha⟩ := open_int1 g0
    obtain ⟨b, hb⟩ := open_int1 g1
    obtain ⟨c, hc⟩ := open_int1 g2
    obtain ⟨d, hd⟩ := open_int1 g3
    obtain ⟨e, he⟩ := open_int1 g4
    simp [encI] at ha hb hc hd he
    exact ⟨⟨a, b, c, d, e⟩, by rw [ha, hb, hc, hd, he]; rfl⟩
set_option maxRecDepth 100000 in
theorem open_sky {fuel : Nat} {cs : List Value} {x : DataW H × List MemPlace} (h : DataW.trod enc Try.prog w 0 spare held fuel 59 cs = some x) : ∃ p : Sky, cs = encSky p := by
  obtain ⟨xs, n, _, _, hl, hlen, hg⟩ := DataW.trod_struct Try.underlying59 h
  rw [cells_sky] at hl
  match cs, hl, xs, hlen with
  | [c0, c1, c2, c3], _, [y0, y1], _ =>
    have g0 : DataW.trod enc Try.prog w 0 spare held n 23 [c0, c1] = some y0 := by simpa [cells_sp] using hg 0 _ rfl
    have g1 : DataW.trod enc Try.prog w 0 spare held n 23 [c2, c3] = some y1 := by simpa [cells_sp] using hg 1 _ rfl
    obtain ⟨a, ha⟩ := open_sp g0
    obtain ⟨b, hb⟩ := open_sp g1
    simp [encSp] at ha hb
    exact ⟨⟨a, b⟩, by rw [ha.1, ha.2, hb.1, hb.2]; rfl⟩
theorem open_sps {fuel : Nat} {v : Value} {x : DataW H × List MemPlace} (h : DataW.trod enc Try.prog w 0 spare held fuel 24 [v] = some x) : ∃ (A : Option Addr) (c : Nat) (xs : List Sp), v = .slice A xs.length c ∧ Sl encSp w.heap.size w A c xs := by
  obtain ⟨A, c, xs, h1, h2, _⟩ := open_slg (R := fun _ => True) Try.underlying24 cells_sp (by omega) (fun _ => rfl) (fun _ _ _ h => (open_sp h).imp fun _ e => ⟨e, trivial⟩) h
  exact ⟨A, c, xs, h1, h2⟩
theorem open_ancs {fuel : Nat} {v : Value} {x : DataW H × List MemPlace} (h : DataW.trod enc Try.prog w 0 spare held fuel 25 [v] = some x) : ∃ (A : Option Addr) (c : Nat) (xs : List Anc), v = .slice A xs.length c ∧ Sl encAnc w.heap.size w A c xs := by
  obtain ⟨A, c, xs, h1, h2, _⟩ := open_slg (R := fun _ => True) Try.underlying25 cells_anc (by omega) (fun _ => rfl) (fun _ _ _ h => (open_anc h).imp fun _ e => ⟨e, trivial⟩) h
  exact ⟨A, c, xs, h1, h2⟩
theorem open_wals {fuel : Nat} {v : Value} {x : DataW H × List MemPlace} (h : DataW.trod enc Try.prog w 0 spare held fuel 26 [v] = some x) : ∃ (A : Option Addr) (c : Nat) (xs : List Wal), v = .slice A xs.length c ∧ Sl encWal w.heap.size w A c xs := by
  obtain ⟨A, c, xs, h1, h2, _⟩ := open_slg (R := fun _ => True) Try.underlying26 cells_wal (by omega) (fun _ => rfl) (fun _ _ _ h => (open_wal h).imp fun _ e => ⟨e, trivial⟩) h
  exact ⟨A, c, xs, h1, h2⟩
theorem open_boats {fuel : Nat} {v : Value} {x : DataW H × List MemPlace} (h : DataW.trod enc Try.prog w 0 spare held fuel 29 [v] = some x) : ∃ (A : Option Addr) (c : Nat) (xs : List Boat), v = .slice A xs.length c ∧ Sl encBoat w.heap.size w A c xs := by
  obtain ⟨A, c, xs, h1, h2, _⟩ := open_slg (R := fun _ => True) Try.underlying29 cells_boat (by omega) (fun _ => rfl) (fun _ _ _ h => (open_boat h).imp fun _ e => ⟨e, trivial⟩) h
  exact ⟨A, c, xs, h1, h2⟩
theorem open_skies {fuel : Nat} {v : Value} {x : DataW H × List MemPlace} (h : DataW.trod enc Try.prog w 0 spare held fuel 32 [v] = some x) : ∃ (A : Option Addr) (c : Nat) (xs : List Sky), v = .slice A xs.length c ∧ Sl encSky w.heap.size w A c xs := by
  obtain ⟨A, c, xs, h1, h2, _⟩ := open_slg (R := fun _ => True) Try.underlying32 cells_sky (by omega) (fun _ => rfl) (fun _ _ _ h => (open_sky h).imp fun _ e => ⟨e, trivial⟩) h
  exact ⟨A, c, xs, h1, h2⟩
theorem open_ints {fuel : Nat} {v : Value} {x : DataW H × List MemPlace} (h : DataW.trod enc Try.prog w 0 spare held fuel 34 [v] = some x) : ∃ (A : Option Addr) (c : Nat) (xs : List Int), v = .slice A xs.length c ∧ Sl encI w.heap.size w A c xs := by
  obtain ⟨A, c, xs, h1, h2, _⟩ := open_slg (R := fun _ => True) Try.underlying34 cells_int (by omega) (fun _ => rfl) (fun _ _ _ h => (open_int1 h).imp fun _ e => ⟨e, trivial⟩) h
  exact ⟨A, c, xs, h1, h2⟩
theorem trod_one {fuel : Nat} {cs : List Value} {x : DataW H × List MemPlace} (h : DataW.trod enc Try.prog w 0 spare held fuel 34 cs = some x) : ∃ v, cs = [v] := by
  rcases open_slice Try.underlying34 h with ⟨hcs, _⟩ | ⟨a, len, cap, m, n, D, Pl, hcs, _⟩
  · exact ⟨_, hcs⟩
  · exact ⟨_, hcs⟩
theorem open_intss {fuel : Nat} {v : Value} {x : DataW H × List MemPlace} (h : DataW.trod enc Try.prog w 0 spare held fuel 33 [v] = some x) : ∃ (A : Option Addr) (c : Nat) (xs : List (List Int)), v = .slice A xs.length c ∧ SlL encI w.heap.size w A c xs := by
  obtain ⟨A, c, ys, h1, h2, h3⟩ := open_slg (α := Option Addr × Nat × List Int) (en := fun y => [.slice y.1 y.2.2.length y.2.1]) (R := fun y => Sl encI w.heap.size w y.1 y.2.1 y.2.2) Try.underlying33 cells_ints (by omega) (fun _ => rfl) (fun _ _ _ h => by
    obtain ⟨v, rfl⟩ := trod_one h
    obtain ⟨A, c, xs, e, hS⟩ := open_ints h
    exact ⟨(A, c, xs), by rw [e], hS⟩) h
  refine ⟨A, c, ys.map fun y => y.2.2, by rw [List.length_map]; exact h1, by rw [List.length_map]; exact h2.1, h2.2.1, ys.flatMap fun y => [.slice y.1 y.2.2.length y.2.1], h2.2.2, ?_, fun i hi => ?_⟩
  · rw [len_enx _ 1 (fun _ => rfl), List.length_map, Nat.mul_one]
  · rw [List.length_map] at hi
    have h4 := h3 i hi
    have h5 := flatMap_nth (fun y : Option Addr × Nat × List Int => [Value.slice y.1 y.2.2.length y.2.1]) 1 (fun _ => rfl) ys i 0 hi (by omega)
    rw [Nat.mul_one, Nat.add_zero] at h5
    rw [nth_get _ hi] at h4 h5
    refine ⟨ys[i].1, ys[i].2.1, ?_, ?_⟩
    · rw [h5]; simp
    · simpa using h4
set_option maxRecDepth 100000 in
theorem open_net0 {fuel : Nat} {c0 c1 c2 c3 c4 c5 c6 : Value} {x : DataW H × List MemPlace} (h : DataW.trod enc Try.prog w 0 spare held fuel 28 [c0, c1, c2, c3, c4, c5, c6] = some x) :
    ∃ (r : NetR) (n : Net), [c0, c1, c2, c3, c4, c5, c6] = [.int .i64 n.wind.lo, .int .i64 n.wind.hi, .int .i64 n.cur.lo, .int .i64 n.cur.hi, .slice r.gA n.grips.length r.gc, .slice r.aA n.ancs.length r.ac, .slice r.wA n.wals.length r.wc] ∧ NetIs w.heap.size w r n := by
  obtain ⟨xs, n, _, _, _, hlen, hg⟩ := DataW.trod_struct Try.underlying28 h
  match xs, hlen with
  | [y0, y1, y2, y3, y4], _ =>
    have g0 : DataW.trod enc Try.prog w 0 spare held n 23 [c0, c1] = some y0 := by simpa [cells_sp] using hg 0 _ rfl
    have g1 : DataW.trod enc Try.prog w 0 spare held n 23 [c2, c3] = some y1 := by simpa [cells_sp] using hg 1 _ rfl
    have g2 : DataW.trod enc Try.prog w 0 spare held n 24 [c4] = some y2 := by simpa [cells_sps] using hg 2 _ rfl
    have g3 : DataW.trod enc Try.prog w 0 spare held n 25 [c5] = some y3 := by simpa [cells_ancs] using hg 3 _ rfl
    have g4 : DataW.trod enc Try.prog w 0 spare held n 26 [c6] = some y4 := by simpa [cells_wals] using hg 4 _ rfl
    obtain ⟨s, hs⟩ := open_sp g0
    obtain ⟨s', hs'⟩ := open_sp g1
    obtain ⟨gA, gc, gs, hgs, hG⟩ := open_sps g2
    obtain ⟨aA, ac, al, has, hA⟩ := open_ancs g3
    obtain ⟨wA, wc, wl, hws, hW⟩ := open_wals g4
    simp [encSp] at hs hs'
    refine ⟨⟨gA, gc, aA, ac, wA, wc⟩, ⟨s, s', gs, al, wl⟩, ?_, hG, hA, hW⟩
    rw [hs.1, hs.2, hs'.1, hs'.2, hgs, has, hws]
set_option maxRecDepth 100000 in
theorem open_sea0 {fuel : Nat} {c0 c1 c2 c3 : Value} {x : DataW H × List MemPlace} (h : DataW.trod enc Try.prog w 0 spare held fuel 31 [c0, c1, c2, c3] = some x) :
    ∃ (r : SeaR) (n : Sea), [c0, c1, c2, c3] = [.int .i64 n.wt.lo, .int .i64 n.wt.hi, .slice r.pA n.places.length r.pc, .slice r.bA n.boats.length r.bc] ∧ SeaIs w.heap.size w r n := by
  obtain ⟨xs, n, _, _, _, hlen, hg⟩ := DataW.trod_struct Try.underlying31 h
  match xs, hlen with
  | [y0, y1, y2], _ =>
    have g0 : DataW.trod enc Try.prog w 0 spare held n 23 [c0, c1] = some y0 := by simpa [cells_sp] using hg 0 _ rfl
    have g1 : DataW.trod enc Try.prog w 0 spare held n 24 [c2] = some y1 := by simpa [cells_sps] using hg 1 _ rfl
    have g2 : DataW.trod enc Try.prog w 0 spare held n 29 [c3] = some y2 := by simpa [cells_boats] using hg 2 _ rfl
    obtain ⟨s, hs⟩ := open_sp g0
    obtain ⟨pA, pc, ps, hps, hP⟩ := open_sps g1
    obtain ⟨bA, bc, bs, hbs, hB⟩ := open_boats g2
    simp [encSp] at hs
    exact ⟨⟨pA, pc, bA, bc⟩, ⟨s, ps, bs⟩, by rw [hs.1, hs.2, hps, hbs], hP, hB⟩
set_option maxRecDepth 100000 in
theorem open_season {r : Reach} {b0 : Nat} {v : Value} {d : DataW H} {p : List MemPlace} (hv : Value.okWide Try.prog w r b0 36 v) (h : DataW.Trod enc Try.prog w 0 (fun _ => true) held 36 v d p) : ∃ (r : SeasonR) (s : Season), v = seasonV r s ∧ SeasonIs w.heap.size w r s := by
  obtain ⟨cs, rfl, hsz⟩ := okWide_struct Try.underlying36 hv
  rw [cells_season] at hsz
  obtain ⟨l⟩ := cs
  match l, hsz with
  | [c0, c1, c2, c3, c4, c5, c6, c7, c8, c9, c10, c11, c12, c13, c14], _ =>
    obtain ⟨fuel, hf⟩ := h
    obtain ⟨xs, n, _, _, _, hlen, hg⟩ := DataW.trod_struct Try.underlying36 hf
    match xs, hlen with
    | [y0, y1, y2, y3, y4, y5], _ =>
      have g0 : DataW.trod enc Try.prog w 0 (fun _ => true) held n 28 [c0, c1, c2, c3, c4, c5, c6] = some y0 := by simpa [Value.cells, cells_net] using hg 0 _ rfl
      have g1 : DataW.trod enc Try.prog w 0 (fun _ => true) held n 31 [c7, c8, c9, c10] = some y1 := by simpa [Value.cells, cells_sea] using hg 1 _ rfl
      have g2 : DataW.trod enc Try.prog w 0 (fun _ => true) held n 32 [c11] = some y2 := by simpa [Value.cells, cells_skies] using hg 2 _ rfl
      have g3 : DataW.trod enc Try.prog w 0 (fun _ => true) held n 33 [c12] = some y3 := by simpa [Value.cells, cells_intss] using hg 3 _ rfl
      have g4 : DataW.trod enc Try.prog w 0 (fun _ => true) held n 34 [c13] = some y4 := by simpa [Value.cells, cells_ints] using hg 4 _ rfl
      have g5 : DataW.trod enc Try.prog w 0 (fun _ => true) held n 24 [c14] = some y5 := by simpa [Value.cells, cells_sps] using hg 5 _ rfl
      obtain ⟨rn, tn, en, hN⟩ := open_net0 g0
      obtain ⟨rs, ts, es, hS⟩ := open_sea0 g1
      obtain ⟨kA, kc, ks, rfl, hK⟩ := open_skies g2
      obtain ⟨fA, fc, fs, rfl, hF⟩ := open_intss g3
      obtain ⟨iA, ic, is, rfl, hI⟩ := open_ints g4
      obtain ⟨dA, dc, ds, rfl, hD⟩ := open_sps g5
      simp at en es
      obtain ⟨rfl, rfl, rfl, rfl, rfl, rfl, rfl⟩ := en
      obtain ⟨rfl, rfl, rfl, rfl⟩ := es
      exact ⟨⟨rn, rs, kA, kc, fA, fc, iA, ic, dA, dc⟩, ⟨tn, ts, ks, fs, is, ds⟩, rfl, hN, hS, hK, hF, hI, hD⟩
end
theorem own : ownKnob Try.prog.godebug = none := by kernel_rfl
theorem laidOut : laidOutB Try.prog = true := by kernel_rfl
end Go.Proofs.Ytnddiloeikaleaa
