/- The plain words of layer 2 (anchors): nets, truths, what is valid, what an anchor bears. No program in sight. -/
import Derived.Test.YtgpcaaknpfopgaaDoorBase
namespace Go.Proofs.YtgpcaaknpfopgaaDoor
namespace An

structure Sp where
  lo : Int
  hi : Int
structure Anc where
  wt : Int
  bt : Int
structure Wal where
  sail : Int
  drag : Int
  lean : Int
  corks : Int
  stones : Int
structure Net where
  wind : Sp
  cur : Sp
  grips : List Sp
  ancs : List Anc
  wals : List Wal
structure Tru where
  wind : Int
  cur : Int
  grips : List Int

instance : Inhabited Sp := ⟨⟨0, 0⟩⟩
instance : Inhabited Anc := ⟨⟨0, 0⟩⟩
instance : Inhabited Wal := ⟨⟨0, 0, 0, 0, 0⟩⟩

/-- Is a span one of numbers from 0 to m? -/
def okSp (m : Int) (s : Sp) : Bool := decide (0 ≤ s.lo ∧ s.lo ≤ s.hi ∧ s.hi ≤ m)
def okAnc (bots : Nat) (a : Anc) : Bool := decide (0 ≤ a.wt ∧ a.wt ≤ 20 ∧ 0 ≤ a.bt ∧ a.bt < bots)
def okWal (w : Wal) : Bool := decide (0 ≤ w.sail ∧ w.sail ≤ 9 ∧ 0 ≤ w.drag ∧ w.drag ≤ 9 ∧ 0 ≤ w.lean ∧ w.lean ≤ 9 ∧ 0 ≤ w.corks ∧ w.corks ≤ 99 ∧ 0 ≤ w.stones ∧ w.stones ≤ 99)
def okSps (xs : List Sp) : Bool := xs.all (okSp 9)
def okAncl (g : Nat) (xs : List Anc) : Bool := xs.all (okAnc g)
def okWall (xs : List Wal) : Bool := xs.all okWal
def valid (n : Net) : Bool :=
  okSp 20 n.wind && okSp 20 n.cur && decide (n.grips.length ≤ 3) && decide (n.ancs.length ≤ 6) && decide (n.wals.length = n.ancs.length - 1) && okSps n.grips && okAncl n.grips.length n.ancs && okWall n.wals
theorem valid_iff {n : Net} : valid n = true ↔ okSp 20 n.wind = true ∧ okSp 20 n.cur = true ∧ n.grips.length ≤ 3 ∧ n.ancs.length ≤ 6 ∧ n.wals.length = n.ancs.length - 1 ∧ okSps n.grips = true ∧ okAncl n.grips.length n.ancs = true ∧ okWall n.wals = true := by
  simp [valid, and_assoc]

/-- The load of a wall. -/
def ldW (x : Wal) (wi cu : Int) : Int := x.sail * wi + x.drag * cu
def ld (n : Net) (t : Tru) (k : Nat) : Int := ldW (nth n.wals k) t.wind t.cur
/-- What an anchor bears on one side: the wall k, the anchor o on its other side. -/
def side (n : Net) (t : Tru) (d : Nat → Bool) (k o : Nat) : Int := ld n t k * (if d o then 2 else 1)
/-- What an anchor bears, if some have dragged. -/
def bears (n : Net) (t : Tru) (i : Nat) (d : Nat → Bool) : Int :=
  (if 0 < i then side n t d (i - 1) (i - 1) else 0) + (if i < n.wals.length then side n t d i (i + 1) else 0)
def can (n : Net) (t : Tru) (i : Nat) : Int := 2 * (nth n.ancs i).wt * nth t.grips (nth n.ancs i).bt.toNat
def spare (n : Net) (t : Tru) (i : Nat) (d : Nat → Bool) : Int := can n t i - bears n t i d
/-- A wind, a current and grips that a net can be in (its own wind and current aside). -/
def okTru (n : Net) (t : Tru) : Prop := valid n = true ∧ inB 0 20 t.wind = true ∧ inB 0 20 t.cur = true ∧ t.grips.length = n.grips.length ∧ ∀ g ∈ t.grips, inB 0 9 g = true

theorem mul_bd {a b A B : Int} (h0 : 0 ≤ a) (h1 : a ≤ A) (h2 : 0 ≤ b) (h3 : b ≤ B) : 0 ≤ a * b ∧ a * b ≤ A * B :=
  ⟨Int.mul_nonneg h0 h2, Int.mul_le_mul h1 h3 h2 (Int.le_trans h0 h1)⟩
theorem ldW_bd {x : Wal} {wi cu : Int} (hx : okWal x = true) (hw : inB 0 20 wi = true) (hc : inB 0 20 cu = true) : 0 ≤ x.sail * wi ∧ x.sail * wi ≤ 180 ∧ 0 ≤ x.drag * cu ∧ x.drag * cu ≤ 180 ∧ 0 ≤ ldW x wi cu ∧ ldW x wi cu ≤ 360 := by
  simp only [okWal, inB, decide_eq_true_eq] at *
  have h1 := mul_bd hx.1 hx.2.1 hw.1 hw.2
  have h2 := mul_bd hx.2.2.1 hx.2.2.2.1 hc.1 hc.2
  unfold ldW
  omega
theorem okWal_nth {n : Net} (hv : valid n = true) {k : Nat} (hk : k < n.wals.length) : okWal (nth n.wals k) = true := by
  have := (valid_iff.1 hv).2.2.2.2.2.2.2
  unfold okWall at this
  exact (List.all_eq_true.1 this) _ (nth_mem _ hk)
theorem okAnc_nth {n : Net} (hv : valid n = true) {k : Nat} (hk : k < n.ancs.length) : okAnc n.grips.length (nth n.ancs k) = true := by
  have := (valid_iff.1 hv).2.2.2.2.2.2.1
  unfold okAncl at this
  exact (List.all_eq_true.1 this) _ (nth_mem _ hk)
theorem ld_bd {n : Net} {t : Tru} (h : okTru n t) {k : Nat} (hk : k < n.wals.length) : 0 ≤ ld n t k ∧ ld n t k ≤ 360 := by
  have := ldW_bd (okWal_nth h.1 hk) h.2.1 h.2.2.1
  unfold ld; omega
theorem side_bd {n : Net} {t : Tru} (h : okTru n t) {d : Nat → Bool} {k o : Nat} (hk : k < n.wals.length) : 0 ≤ side n t d k o ∧ side n t d k o ≤ 720 := by
  have := ld_bd h hk
  unfold side; split <;> omega
theorem bears_bd {n : Net} {t : Tru} (h : okTru n t) {d : Nat → Bool} {i : Nat} (hi : i < n.ancs.length) : 0 ≤ bears n t i d ∧ bears n t i d ≤ 1440 := by
  have hw := (valid_iff.1 h.1).2.2.2.2.1
  unfold bears
  by_cases h1 : 0 < i
  · have a := side_bd h (d := d) (k := i - 1) (o := i - 1) (by omega)
    by_cases h2 : i < n.wals.length
    · have b := side_bd h (d := d) (k := i) (o := i + 1) h2
      simp only [h1, h2, if_true]; omega
    · simp only [h1, h2, if_true, if_false]; omega
  · by_cases h2 : i < n.wals.length
    · have b := side_bd h (d := d) (k := i) (o := i + 1) h2
      simp only [h1, h2, if_true, if_false]; omega
    · simp only [h1, h2, if_false]; omega
theorem can_bd {n : Net} {t : Tru} (h : okTru n t) {i : Nat} (hi : i < n.ancs.length) :
    0 ≤ (nth n.ancs i).wt ∧ (nth n.ancs i).wt ≤ 20 ∧ 0 ≤ (nth n.ancs i).bt ∧ (nth n.ancs i).bt.toNat < t.grips.length ∧ 0 ≤ nth t.grips (nth n.ancs i).bt.toNat ∧ nth t.grips (nth n.ancs i).bt.toNat ≤ 9 ∧ 0 ≤ can n t i ∧ can n t i ≤ 360 := by
  have ha := okAnc_nth h.1 hi
  simp only [okAnc, decide_eq_true_eq] at ha
  have hb : (nth n.ancs i).bt.toNat < t.grips.length := by rw [h.2.2.2.1]; omega
  have hg := h.2.2.2.2 _ (nth_mem _ hb)
  simp only [inB, decide_eq_true_eq] at hg
  have := mul_bd (a := 2 * (nth n.ancs i).wt) (A := 40) (by omega) (by omega) hg.1 hg.2
  unfold can
  omega

end An
end Go.Proofs.YtgpcaaknpfopgaaDoor
