/- Season: the reference's orders, plain and walked. -/
import Derived.Test.YtjamemjmdlkpcaaDoorSe45
namespace Go.Proofs.YtjamemjmdlkpcaaDoor
open Go.RowKit
open Se

namespace Se
/-- The orders of the numbers below n that begin with f, m more to come. -/
def ordI (n : Nat) : Nat → List Nat → List (List Nat)
  | 0, f => [f]
  | m + 1, f => (List.range n).flatMap fun i => if f.contains i then [] else ordI n m (f ++ [i])
/-- What the first j numbers give of them. -/
def ordK (n m : Nat) (f : List Nat) (j : Nat) : List (List Nat) := (List.range j).flatMap fun i => if f.contains i then [] else ordI n m (f ++ [i])
theorem ordK_succ {n m : Nat} {f : List Nat} {j : Nat} : ordK n m f (j + 1) = ordK n m f j ++ (if f.contains j then [] else ordI n m (f ++ [j])) := by simp [ordK, List.range_succ]
theorem ordI_len {n : Nat} (h6 : n ≤ 6) (k : Nat) (l : List Nat) : (ordI n k l).length ≤ 6 ^ k := by
  induction k generalizing l with
  | zero => simp [ordI]
  | succ k ih =>
    have key : ∀ j, (ordK n k l j).length ≤ j * 6 ^ k := by
      intro j
      induction j with
      | zero => simp [ordK]
      | succ j ihj =>
        rw [ordK_succ, List.length_append, Nat.succ_mul]
        have := ih (l ++ [j])
        split <;> simp <;> omega
    have h1 := key n
    have : n * 6 ^ k ≤ 6 * 6 ^ k := Nat.mul_le_mul_right _ h6
    rw [Nat.pow_succ, Nat.mul_comm]
    exact Nat.le_trans h1 this
theorem sub_perm : ∀ (l r : List Nat), l.Nodup → (∀ x ∈ l, x ∈ r) → ∃ d, (l ++ d).Perm r
  | [], r, _, _ => ⟨r, List.Perm.refl _⟩
  | a :: l, r, hn, hs => by
    rw [List.nodup_cons] at hn
    obtain ⟨d, hd⟩ := sub_perm l (r.erase a) hn.2 (fun x hx => (List.mem_erase_of_ne (by rintro rfl; exact hn.1 hx)).2 (hs x (List.mem_cons_of_mem _ hx)))
    exact ⟨d, (hd.cons a).trans (List.perm_cons_erase (hs a List.mem_cons_self)).symm⟩
theorem ordI_nodup {n : Nat} : ∀ (m : Nat) (f : List Nat), f.Nodup → (∀ x ∈ f, x < n) → ∀ p ∈ ordI n m f, p.Nodup ∧ (∀ x ∈ p, x < n) ∧ p.length = f.length + m
  | 0, f, h1, h2, p, hp => by
    have : p = f := by simpa [ordI] using hp
    subst this
    exact ⟨h1, h2, rfl⟩
  | m + 1, f, h1, h2, p, hp => by
    simp only [ordI, List.mem_flatMap, List.mem_range] at hp
    obtain ⟨i, hi, hp⟩ := hp
    split at hp
    · cases hp
    · rename_i hc
      have hc' : i ∉ f := by simpa using hc
      obtain ⟨a, b, c⟩ := ordI_nodup m (f ++ [i]) (by
        rw [List.nodup_append]
        exact ⟨h1, by simp, fun x hx y hy => by simp at hy; subst hy; rintro rfl; exact hc' hx⟩) (fun x hx => by
        rcases List.mem_append.1 hx with h | h
        · exact h2 x h
        · simp at h; omega) p hp
      exact ⟨a, b, by rw [c, List.length_append]; simp; omega⟩
theorem ordI_mem {n : Nat} : ∀ (m : Nat) (f q : List Nat), (f ++ q).Nodup → (∀ x ∈ q, x < n) → q.length = m → f ++ q ∈ ordI n m f
  | 0, f, q, _, _, h => by
    have : q = [] := List.eq_nil_of_length_eq_zero h
    subst this; simp [ordI]
  | m + 1, f, [], _, _, h => by cases h
  | m + 1, f, x :: q, h1, h2, h => by
    simp only [ordI, List.mem_flatMap, List.mem_range]
    refine ⟨x, h2 x List.mem_cons_self, ?_⟩
    have hx : x ∉ f := fun hx => by
      rw [List.nodup_append] at h1
      exact h1.2.2 x hx x List.mem_cons_self rfl
    rw [if_neg (by simpa using hx)]
    have := ordI_mem m (f ++ [x]) q (by simpa using h1) (fun y hy => h2 y (List.mem_cons_of_mem _ hy)) (by simpa using h)
    simpa using this
theorem ts_range (ts : List Txt) : (List.range ts.length).map (nth ts) = ts := by
  apply List.ext_getElem
  · simp
  · intro i h1 h2
    simp [nth_get _ h2]
def ordT (ts : List Txt) (m : Nat) (f : List Nat) : List (List Txt) := (ordI ts.length m f).map fun p => p.map (nth ts)
/-- The orders of the texts. -/
def allO (ts : List Txt) : List (List Txt) := ordT ts ts.length []
theorem allO_perm {ts us : List Txt} (h : us ∈ allO ts) : us.Perm ts := by
  obtain ⟨p, hp, rfl⟩ := List.mem_map.1 h
  obtain ⟨h1, h2, h3⟩ := ordI_nodup ts.length [] List.nodup_nil (fun x hx => by cases hx) p hp
  obtain ⟨d, hd⟩ := sub_perm p (List.range ts.length) h1 (fun x hx => List.mem_range.2 (h2 x hx))
  have hl := hd.length_eq
  rw [List.length_append, List.length_range, h3] at hl
  have : d = [] := List.eq_nil_of_length_eq_zero (by simp only [List.length_nil] at hl; omega)
  rw [this, List.append_nil] at hd
  have := hd.map (nth ts)
  rwa [ts_range] at this
theorem perm_allO {ts us : List Txt} (h : us.Perm ts) : us ∈ allO ts := by
  obtain ⟨l, hp, rfl⟩ := perm_map (nth ts) h (List.range ts.length) (ts_range ts).symm
  exact List.mem_map.2 ⟨l, ordI_mem ts.length [] l (by rw [List.nil_append]; exact hp.nodup_iff.2 List.nodup_range) (fun x hx => List.mem_range.1 (hp.mem_iff.1 hx)) (by rw [hp.length_eq, List.length_range]), rfl⟩
/-- The fewest bytes of the files of orders. -/
def fewest : List (List Txt) → Nat
  | [] => 0
  | us :: L => L.foldl (fun v us => min v (file us).length) (file us).length
theorem foldl_min : ∀ (L : List (List Txt)) (a : Nat), L.foldl (fun v us => min v (file us).length) a ≤ a ∧ (∀ us ∈ L, L.foldl (fun v us => min v (file us).length) a ≤ (file us).length) ∧ (L.foldl (fun v us => min v (file us).length) a = a ∨ ∃ us ∈ L, L.foldl (fun v us => min v (file us).length) a = (file us).length)
  | [], a => ⟨Nat.le_refl _, (fun _ h => by cases h), .inl rfl⟩
  | us :: L, a => by
    obtain ⟨h1, h2, h3⟩ := foldl_min L (min a (file us).length)
    refine ⟨Nat.le_trans h1 (Nat.min_le_left _ _), fun vs hv => ?_, ?_⟩
    · rcases List.mem_cons.1 hv with rfl | hv
      · exact Nat.le_trans h1 (Nat.min_le_right _ _)
      · exact h2 vs hv
    · rcases h3 with h3 | ⟨vs, hv, h3⟩
      · show List.foldl _ (min a _) L = a ∨ _
        rcases Nat.le_total a (file us).length with hc | hc
        · exact .inl (by rw [h3]; exact Nat.min_eq_left hc)
        · exact .inr ⟨us, List.mem_cons_self, by show List.foldl _ (min a _) L = _; rw [h3]; exact Nat.min_eq_right hc⟩
      · exact .inr ⟨vs, List.mem_cons_of_mem _ hv, h3⟩
theorem allO_ne (ts : List Txt) : 0 < (allO ts).length := List.length_pos_of_mem (perm_allO (List.Perm.refl ts))
theorem fewest_least (ts : List Txt) : fewest (allO ts) = leastN ts := by
  have hne := allO_ne ts
  have hp := fun us => allO_perm (ts := ts) (us := us)
  obtain ⟨vs, hv, he⟩ := least_at ts
  have hm := perm_allO hv
  generalize allO ts = L at *
  cases L with
  | nil => simp at hne
  | cons us L =>
    obtain ⟨h1, h2, h3⟩ := foldl_min L (file us).length
    show List.foldl _ _ L = _
    have ge : leastN ts ≤ List.foldl (fun v us => min v (file us).length) (file us).length L := by
      rcases h3 with h3 | ⟨ws, hw, h3⟩
      · rw [h3]; exact least_le (hp us List.mem_cons_self)
      · rw [h3]; exact least_le (hp ws (List.mem_cons_of_mem _ hw))
    have le : List.foldl (fun v us => min v (file us).length) (file us).length L ≤ leastN ts := by
      rw [he]
      rcases List.mem_cons.1 hm with rfl | hm
      · exact h1
      · exact h2 vs hm
    omega
end Se

def natE (x : Nat) : List Value := [.int .i64 x]
theorem slN : SlT Tryd.prog 99 3 (.int .i64 0) 1 8 := SlT.mk Tryd.underlying99 (by kernel_rfl) rfl (by omega)
theorem slSS : SlT Tryd.prog 75 31 (.slice none 0 0) 1 24 := SlT.mk Tryd.underlying75 (by kernel_rfl) rfl (by omega)
theorem one_nat : ∀ x : Nat, ∀ u ∈ natE x, u.oneCell' = true := by intro x u hu; simp only [natE, List.mem_singleton] at hu; subst hu; rfl
theorem Sl.nat {B : Nat} {w : World} {A : Option Addr} {c : Nat} {xs : List Nat} (h : Sl natE B w A c xs) {k : Nat} (hk : k < xs.length) : ∃ b o, A = some ⟨b, o, none⟩ ∧ b < B ∧ w.cell? ⟨b, o + k, none⟩ = some (.int .i64 ((nth xs k : Nat) : Int)) := by
  obtain ⟨b, o, hA, hb, hc⟩ := h.at_ (size := 1) (fun _ => rfl) hk (by omega)
  refine ⟨b, o, hA, hb, ?_⟩
  have := hc 0 _ rfl
  rw [nth_get _ hk]
  simpa using this
theorem in_n (A : Option Addr) (c ln : Nat) (xs : List Nat) (x : Nat) (B : Nat) (w : World) (h : Sl natE B w A c xs) (hn : xs.length = ln) (hm : xs.length ≤ 1000000) :
    Calls Tryd.prog 81 #[.slice A ln c, .int .i64 x] w fun e w' => e = .returned (.bool (xs.contains x)) ∧ w = w' := by
  subst hn
  have hl := h.len
  go_enter Tryd.func81, Tryd.ntmps81
  go_wp2
  go_loopg [5] xs.length (fun g i wr => ∃ k : Nat, k ≤ xs.length ∧ g = xs.length - k ∧ i = .int .i64 k ∧ Hid (x ∉ xs.take k) ∧ wr = w)
  case atStart => exact ⟨0, Nat.zero_le _, rfl, rfl, by simp [Hid], rfl⟩
  case round =>
    obtain ⟨k, hk, rfl, rfl, hn, rfl⟩ := hrel
    by_cases hlt : k < xs.length
    · obtain ⟨b, o, rfl, hb, hc⟩ := h.nat hlt
      have hm := Lib.hid (nth_mem xs hlt)
      have ht : Hid (xs.take (k + 1) = xs.take k ++ [nth xs k]) := Lib.hid (by rw [nth_get _ hlt]; exact (List.take_append_getElem hlt).symm)
      have hki : (k : Int) < (xs.length : Int) := by omega
      have hk0 : ¬ (k : Int) < 0 := by omega
      by_cases he : nth xs k = x
      · subst he
        go_wp2
        go_ret
        exact ⟨ret_bool (by simpa using hm.out), rfl⟩
      · have he' : (((nth xs k : Nat) : Int) == (x : Int)) = false := by simp; omega
        go_wp2
        go_roundg (xs.length - (k + 1))
        case rel =>
          refine ⟨k + 1, by omega, rfl, by go_num, ?_, rfl⟩
          have := hn.out
          unfold Hid
          rw [ht.out]
          simp [this, Ne.symm he]
        case measure => omega
    · obtain rfl : k = xs.length := by omega
      go_wp2
      go_ret
      refine ⟨ret_bool ?_, rfl⟩
      have := hn.out
      simpa using this
end Go.Proofs.YtjamemjmdlkpcaaDoor
