/- Season: the law SeasonRows. -/
import Derived.Test.YtjamemjmdlkpcaaDoorSe37
import Derived.Test.YtjamemjmdlkpcaaDoorSe36
import Derived.Deep.CutRange
namespace Go.Proofs.YtjamemjmdlkpcaaDoor
open Go.RowKit
open Se

/-- The bytes behind what two texts have in common at the beginning differ. -/
theorem pre_ne {x y : Txt} (h1 : preOf x y < x.length) (h2 : preOf x y < y.length) {a b : UInt8} (ha : x[preOf x y]? = some a) (hb : y[preOf x y]? = some b) : a ≠ b := by
  intro h
  subst h
  exact cmn_ne (a := x) (b := y) h1 h2 (ha.trans hb.symm)
/-- .. and those ahead of what they have in common at the end. -/
theorem suf_ne {x y : Txt} (h1 : sufOf x y < min x.length y.length - preOf x y) {a b : UInt8} (ha : x[x.length - 1 - sufOf x y]? = some a) (hb : y[y.length - 1 - sufOf x y]? = some b) : a ≠ b := by
  have h2 : sufOf x y = cmn x.reverse y.reverse := by
    have := suf_rev x y
    omega
  have h3 : sufOf x y < x.length := by omega
  have h4 : sufOf x y < y.length := by omega
  intro h
  subst h
  have h5 := (end_eq_iff (a := x) (b := y) (n := sufOf x y) h3 h4 (by omega)).1 (by
    rw [List.getElem?_eq_getElem (by omega)] at ha hb
    injection ha with ha
    injection hb with hb
    rw [ha, hb])
  omega
theorem beq_u8 {a b : UInt8} (h : a ≠ b) : (((a.toNat : Nat) : Int) == ((b.toNat : Nat) : Int)) = false := by
  simp only [beq_eq_false_iff_ne, ne_eq]
  exact u8_ne h
set_option maxRecDepth 100000 in
set_option maxHeartbeats 4000000 in
theorem lawRows_main (x y : Txt) (r : Row) (hx : isText x = true) (hy : isText y = true) (hm : r.mid.length ≤ 200) (w : World) (hT : TabIs w) [h6 : Le 6 w] :
    Calls Tryd.prog 5 #[.string (str x), .string (str y), .agg #[.int .i64 r.pre, .int .i64 r.suf, .string (str r.mid)]] w fun e w' => e = .returned (.bool true) ∧ ∃ δ, w' = lat w δ := by
  obtain ⟨rp, rq, rm⟩ := r
  simp only at hm ⊢
  have lx := (isText_iff.1 hx).2
  have ly := (isText_iff.1 hy).2
  have hrl := row_le x y
  have hml := mid_len x y
  have X := Lib.hid hx
  have Y := Lib.hid hy
  have HQX : Hid (isText (str x).data.toList = true) := Lib.hid (by rw [lst_str]; exact hx)
  have HQY : Hid (isText (str y).data.toList = true) := Lib.hid (by rw [lst_str]; exact hy)
  have HZX : Hid ((str x).size ≤ 140737488355328) := Lib.hid (by rw [size_str]; omega)
  have HZY : Hid ((str y).size ≤ 140737488355328) := Lib.hid (by rw [size_str]; omega)
  have HT1 : Hid (x.take (preOf x y) = y.take (preOf x y)) := Lib.hid (cmn_take x y)
  have HD1 : Hid (x.drop (x.length - sufOf x y) = y.drop (y.length - sufOf x y)) := Lib.hid (suf_drop x y)
  have HB1 : Hid (backOf x ⟨preOf x y, sufOf x y, midOf x y⟩ = some y) := Lib.hid (back_row hy)
  have HMT : Hid (isText (midOf x y) = true) := Lib.hid (mid_text hy)
  have HP1 := Lib.hid (fun a b => pre_ne (x := x) (y := y) (a := a) (b := b))
  have HS1 := Lib.hid (fun a b => suf_ne (x := x) (y := y) (a := a) (b := b))
  have hrow := fun W => row_yes (str x) (str y) x y (lst_str x) (lst_str y) hx hy W
  have hbk := fun W => Back_ok (str x) (preOf x y) (sufOf x y) (str (midOf x y)) x (midOf x y) y (lst_str x) (lst_str _) hx HMT.out HB1.out W
  obtain ⟨p, hp⟩ : ∃ p, preOf x y = p := ⟨_, rfl⟩
  obtain ⟨s, hs⟩ : ∃ s, sufOf x y = s := ⟨_, rfl⟩
  obtain ⟨m, hmd⟩ : ∃ m, midOf x y = m := ⟨_, rfl⟩
  rw [hp, hs, hmd] at hrow hbk
  rw [hp, hs] at hrl HS1 hml
  rw [hp] at HT1 HP1
  rw [hs] at HD1
  rw [hmd] at hml
  have HROW := Lib.hid hrow
  have HBK := Lib.hid hbk
  obtain ⟨sh, hsh⟩ : ∃ sh, min x.length y.length = sh := ⟨_, rfl⟩
  have hmn : min (x.length : Int) (y.length : Int) = (sh : Int) := by omega
  have t1 := fun (W : World) t k hh => to_str (P := Tryd.prog) W t k x p (x.take p) hh (by omega) rfl
  have t2 := fun (W : World) t k hh => to_str (P := Tryd.prog) W t k y p (x.take p) hh (by omega) HT1.out.symm
  have f1 := fun (W : World) t k hh => from_str (P := Tryd.prog) W t k x ((x.length : Int) - (s : Int)) (x.length - s) (by omega) (x.drop (x.length - s)) hh (by omega) rfl
  have f2 := fun (W : World) t k hh => from_str (P := Tryd.prog) W t k y ((y.length : Int) - (s : Int)) (y.length - s) (by omega) (x.drop (x.length - s)) hh (by omega) HD1.out.symm
  obtain ⟨z1, hz1⟩ : ∃ z, x.take p = z := ⟨_, rfl⟩
  obtain ⟨z2, hz2⟩ : ∃ z, x.drop (x.length - s) = z := ⟨_, rfl⟩
  rw [hz1] at t1 t2
  rw [hz2] at f1 f2
  have b1 : decide ((p : Int) < 0) = false := decide_eq_false (by omega)
  have b2 : decide ((s : Int) < 0) = false := decide_eq_false (by omega)
  have b3 : decide ((sh : Int) < (p : Int)) = false := decide_eq_false (by omega)
  have b3' : decide (sh < p) = false := decide_eq_false (by omega)
  have b4 : decide ((sh : Int) - (p : Int) < (s : Int)) = false := decide_eq_false (by omega)
  have b5 : (((m.length : Nat) : Int) != (y.length : Int) - (p : Int) - (s : Int)) = false := by simp; omega
  have hm' : ((rm.length : Nat) : Int) ≤ 200 := by omega
  clear hx hy hp hs hmd hrow hbk hz1 hz2 hsh hml
  go_enter Tryd.func5, Tryd.ntmps5
  go_upto_region 7 with (first
    | (go_at_call 26; with_reducible refine (rIsText_c (str x) _ HQX.out HZX.out _).mono ?_; rintro e w1 ⟨rfl, rfl⟩)
    | (go_at_call 26; with_reducible refine (rIsText_c (str y) _ HQY.out HZY.out _).mono ?_; rintro e w1 ⟨rfl, rfl⟩)
    | (go_at_call 16; refine (HROW.out _).mono ?_; rintro e w1 ⟨rfl, δ1, rfl⟩))
  simp only [List.append_eq, List.cons_append, List.nil_append]
  refine wp_region_lat (by kernel_rfl) (by kernel_rfl) ?_
  repeat (go_big_quiet_step ((first | (fail))))
  refine wpQuiet_nil ?_
  rintro _ ⟨δq, rfl⟩
  go_upto_region 7 with fail
  go_cut [153] from 111 (fun sx wx => sx = .bool false ∧ ∃ δ, wx = lat (lat ((lat (w.alloc (.cells #[.int .i64 rp, .int .i64 rq, .string (str rm)] 23)) δ1).alloc (.cells #[.int .i64 p, .int .i64 s, .string (str m)] 23)) δq) δ)
  case first =>
    by_cases hps : p < sh
    · obtain ⟨a, ha⟩ : ∃ a, x[p]? = some a := ⟨_, List.getElem?_eq_getElem (by omega)⟩
      obtain ⟨b, hb⟩ : ∃ b, y[p]? = some b := ⟨_, List.getElem?_eq_getElem (by omega)⟩
      have xa := fun (W : World) t k hh => idx_str (P := Tryd.prog) W t k x (p : Int) p rfl a hh ha
      have ya := fun (W : World) t k hh => idx_str (P := Tryd.prog) W t k y (p : Int) p rfl b hh hb
      have hab := beq_u8 (HP1.out a b (by omega) (by omega) ha hb)
      obtain ⟨u1, hu1⟩ : ∃ u : Int, ((a.toNat : Nat) : Int) = u := ⟨_, rfl⟩
      obtain ⟨u2, hu2⟩ : ∃ u : Int, ((b.toNat : Nat) : Int) = u := ⟨_, rfl⟩
      rw [hu1] at xa hab
      rw [hu2] at ya hab
      have d1 : decide (p < sh) = true := decide_eq_true hps
      have d2 : decide ((p : Int) < (sh : Int)) = true := decide_eq_true (by omega)
      by_cases hss : s < sh - p
      · obtain ⟨a', ha'⟩ : ∃ a, x[x.length - 1 - s]? = some a := ⟨_, List.getElem?_eq_getElem (by omega)⟩
        obtain ⟨b', hb'⟩ : ∃ b, y[y.length - 1 - s]? = some b := ⟨_, List.getElem?_eq_getElem (by omega)⟩
        have xe := fun (W : World) t k hh => idx_str (P := Tryd.prog) W t k x ((x.length : Int) - 1 - (s : Int)) (x.length - 1 - s) (by omega) a' hh ha'
        have ye := fun (W : World) t k hh => idx_str (P := Tryd.prog) W t k y ((y.length : Int) - 1 - (s : Int)) (y.length - 1 - s) (by omega) b' hh hb'
        have hab' := beq_u8 (HS1.out a' b' (by omega) ha' hb')
        obtain ⟨u3, hu3⟩ : ∃ u : Int, ((a'.toNat : Nat) : Int) = u := ⟨_, rfl⟩
        obtain ⟨u4, hu4⟩ : ∃ u : Int, ((b'.toNat : Nat) : Int) = u := ⟨_, rfl⟩
        rw [hu3] at xe hab'
        rw [hu4] at ye hab'
        have d3 : decide ((s : Int) < (sh : Int) - (p : Int)) = true := decide_eq_true (by omega)
        clear ha hb hu1 hu2 ha' hb' hu3 hu4 hps hss
        refine wp_region_lat (by kernel_rfl) (by kernel_rfl) ?_
        repeat (go_big_quiet_step ((first | (fail))))
        refine wpQuiet_nil ?_
        rintro _ ⟨δr, rfl⟩
        go_wp2_with fail
        go_meet
        exact ⟨rfl, _, rfl⟩
      · have d3 : decide ((s : Int) < (sh : Int) - (p : Int)) = false := decide_eq_false (by omega)
        clear ha hb hu1 hu2 hps hss
        refine wp_region_lat (by kernel_rfl) (by kernel_rfl) ?_
        repeat (go_big_quiet_step ((first | (fail))))
        refine wpQuiet_nil ?_
        rintro _ ⟨δr, rfl⟩
        go_wp2_with fail
        go_meet
        exact ⟨rfl, _, rfl⟩
    · have d1 : decide (p < sh) = false := decide_eq_false hps
      have d2 : decide ((p : Int) < (sh : Int)) = false := decide_eq_false (by omega)
      have d3 : decide ((s : Int) < (sh : Int) - (p : Int)) = false := decide_eq_false (by omega)
      clear hps
      refine wp_region_lat (by kernel_rfl) (by kernel_rfl) ?_
      repeat (go_big_quiet_step ((first | (fail))))
      refine wpQuiet_nil ?_
      rintro _ ⟨δr, rfl⟩
      go_wp2_with fail
      go_meet
      exact ⟨rfl, _, rfl⟩
  obtain ⟨rfl, δz, rfl⟩ := hcut
  have bkn : Hid (∀ (h : isText rm = false) (W : World), Calls Tryd.prog 18 #[.string (str x), .agg #[.int .i64 rp, .int .i64 rq, .string (str rm)]] W fun e w' => e = .returned (.tuple #[.string ⟨#[]⟩, .int .i64 1]) ∧ ∃ δ, w' = lat W δ) := Lib.hid (fun h W => Back_arg (str x) rp rq (str rm) (by rw [lst_str, lst_str, X.out, h]; rfl) (by rw [size_str]; omega) (by rw [size_str]; omega) W)
  clear t1 t2 f1 f2 b1 b2 b3 b3' b4 b5
  rcases hrm : isText rm with _ | _
  · have HN := Lib.hid (bkn.out hrm)
    clear hrm
    go_wp2_with (first
      | (go_at_call 18; with_reducible refine (HBK.out _).mono ?_; rintro e w1 ⟨rfl, δ2, rfl⟩)
      | (go_at_call 18; with_reducible refine (HN.out _).mono ?_; rintro e w1 ⟨rfl, δ3, rfl⟩)
      | (go_at_call 15; refine (works_c _ hT.up).mono ?_; rintro e w1 ⟨rfl, δ4, rfl⟩))
    go_ret
    exact ⟨rfl, lat_ex⟩
  · rcases hbo : backOf x ⟨rp, rq, rm⟩ with _ | t
    · have HN := Lib.hid (fun W => Back_row (str x) rp rq (str rm) x rm (lst_str x) (lst_str _) X.out hrm hbo W)
      clear hrm hbo
      go_wp2_with (first
        | (go_at_call 18; with_reducible refine (HBK.out _).mono ?_; rintro e w1 ⟨rfl, δ2, rfl⟩)
        | (go_at_call 18; with_reducible refine (HN.out _).mono ?_; rintro e w1 ⟨rfl, δ3, rfl⟩)
        | (go_at_call 15; refine (works_c _ hT.up).mono ?_; rintro e w1 ⟨rfl, δ4, rfl⟩))
      go_ret
      exact ⟨rfl, lat_ex⟩
    · obtain ⟨ht1, ht2⟩ := back_some hbo
      have HN := Lib.hid (fun W => Back_ok (str x) rp rq (str rm) x rm t (lst_str x) (lst_str _) X.out hrm hbo W)
      have hr2 := fun W => row_yes (str x) (str t) x t (lst_str x) (lst_str t) X.out ht1 W
      have h3 : ((preOf x t : Nat) : Int) = rp ∧ ((sufOf x t : Nat) : Int) = rq ∧ midOf x t = rm := by
        unfold rowOf at ht2
        simp only [Row.mk.injEq] at ht2
        exact ht2
      rw [h3.1, h3.2.1, h3.2.2] at hr2
      have HR2 := Lib.hid hr2
      have hq := fun W => eql_row true rp rq rp rq (str rm) (str rm) (by simp) W
      have lt := (isText_iff.1 ht1).2
      have lt' : ¬ (48 : Int) < ((t.length : Nat) : Int) := by omega
      clear hrm hbo ht1 ht2 h3 hr2
      go_wp2_with (first
        | (go_at_call 18; with_reducible refine (HBK.out _).mono ?_; rintro e w1 ⟨rfl, δ2, rfl⟩)
        | (go_at_call 18; with_reducible refine (HN.out _).mono ?_; rintro e w1 ⟨rfl, δ3, rfl⟩)
        | (go_at_call 16; refine (HR2.out _).mono ?_; rintro e w1 ⟨rfl, δ5, rfl⟩)
        | (go_at_call 15; refine (works_c _ hT.up).mono ?_; rintro e w1 ⟨rfl, δ4, rfl⟩))
      go_ret
      exact ⟨rfl, lat_ex⟩
set_option maxRecDepth 100000 in
theorem lawRows_c (x y : Txt) (r : Row) (zx : x.length ≤ 140737488355328) (zy : y.length ≤ 140737488355328) (w : World) (hT : TabIs w) [h6 : Le 6 w] :
    Calls Tryd.prog 5 #[.string (str x), .string (str y), .agg #[.int .i64 r.pre, .int .i64 r.suf, .string (str r.mid)]] w fun e w' => e = .returned (.bool true) ∧ ∃ δ, w' = lat w δ := by
  have HZX : Hid ((str x).size ≤ 140737488355328) := Lib.hid (by rw [size_str]; exact zx)
  have HZY : Hid ((str y).size ≤ 140737488355328) := Lib.hid (by rw [size_str]; exact zy)
  rcases hx : isText x with _ | _
  · have HQX : Hid (isText (str x).data.toList = false) := Lib.hid (by rw [lst_str]; exact hx)
    clear hx
    obtain ⟨p, s, m⟩ := r
    simp only
    go_enter Tryd.func5, Tryd.ntmps5
    go_wp2_with (first
      | (go_at_call 26; with_reducible refine (rIsText_c (str x) _ HQX.out HZX.out _).mono ?_; rintro e w1 ⟨rfl, rfl⟩)
      | (go_at_call 15; refine (works_c _ hT.up).mono ?_; rintro e w1 ⟨rfl, δ5, rfl⟩))
    go_ret
    exact ⟨rfl, lat_ex⟩
  · rcases hy : isText y with _ | _
    · have HQX : Hid (isText (str x).data.toList = true) := Lib.hid (by rw [lst_str]; exact hx)
      have HQY : Hid (isText (str y).data.toList = false) := Lib.hid (by rw [lst_str]; exact hy)
      clear hx hy
      obtain ⟨p, s, m⟩ := r
      simp only
      go_enter Tryd.func5, Tryd.ntmps5
      go_wp2_with (first
        | (go_at_call 26; with_reducible refine (rIsText_c (str x) _ HQX.out HZX.out _).mono ?_; rintro e w1 ⟨rfl, rfl⟩)
        | (go_at_call 26; with_reducible refine (rIsText_c (str y) _ HQY.out HZY.out _).mono ?_; rintro e w1 ⟨rfl, rfl⟩)
        | (go_at_call 15; refine (works_c _ hT.up).mono ?_; rintro e w1 ⟨rfl, δ5, rfl⟩))
      go_ret
      exact ⟨rfl, lat_ex⟩
    · by_cases hm : r.mid.length ≤ 200
      · exact lawRows_main x y r hx hy hm w hT
      · have HQX : Hid (isText (str x).data.toList = true) := Lib.hid (by rw [lst_str]; exact hx)
        have HQY : Hid (isText (str y).data.toList = true) := Lib.hid (by rw [lst_str]; exact hy)
        clear hx hy
        obtain ⟨p, s, m⟩ := r
        simp only at hm ⊢
        have hm' : (200 : Int) < ((m.length : Nat) : Int) := by omega
        go_enter Tryd.func5, Tryd.ntmps5
        go_wp2_with (first
          | (go_at_call 26; with_reducible refine (rIsText_c (str x) _ HQX.out HZX.out _).mono ?_; rintro e w1 ⟨rfl, rfl⟩)
          | (go_at_call 26; with_reducible refine (rIsText_c (str y) _ HQY.out HZY.out _).mono ?_; rintro e w1 ⟨rfl, rfl⟩)
          | (go_at_call 15; refine (works_c _ hT.up).mono ?_; rintro e w1 ⟨rfl, δ5, rfl⟩))
        go_ret
        exact ⟨rfl, lat_ex⟩
end Go.Proofs.YtjamemjmdlkpcaaDoor
