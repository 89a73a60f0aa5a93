/- Plain: texts, rows, seals and files of a season (layer 14). No program in sight. -/
namespace Go.Proofs.YtjamemjmdlkpcaaDoor
namespace Se

abbrev Txt := List UInt8
def okB (b : UInt8) : Bool := decide (32 ≤ b.toNat ∧ b.toNat ≤ 126)
def isText (s : Txt) : Bool := s.all okB && decide (s.length ≤ 48)
theorem isText_iff {s : Txt} : isText s = true ↔ (∀ b ∈ s, okB b = true) ∧ s.length ≤ 48 := by simp [isText]
/-- How many first marks two texts have in common. -/
def cmn : Txt → Txt → Nat
  | x :: xs, y :: ys => if x = y then cmn xs ys + 1 else 0
  | _, _ => 0
theorem cmn_le (a b : Txt) : cmn a b ≤ a.length ∧ cmn a b ≤ b.length := by
  induction a generalizing b with
  | nil => simp [cmn]
  | cons x xs ih =>
    cases b with
    | nil => simp [cmn]
    | cons y ys =>
      unfold cmn
      have := ih ys
      split <;> simp <;> omega
theorem cmn_iff (a b : Txt) (n : Nat) : n ≤ cmn a b ↔ n ≤ a.length ∧ n ≤ b.length ∧ a.take n = b.take n := by
  induction a generalizing b n with
  | nil => simp [cmn]; intro h; subst h; simp
  | cons x xs ih =>
    cases b with
    | nil => simp [cmn]; intro h; subst h; simp
    | cons y ys =>
      cases n with
      | zero => simp
      | succ n =>
        unfold cmn
        by_cases h : x = y
        · rw [if_pos h]
          simp [h, ih ys n]
        · rw [if_neg h]
          simp [h]
theorem cmn_take (a b : Txt) : a.take (cmn a b) = b.take (cmn a b) := ((cmn_iff a b _).1 (Nat.le_refl _)).2.2
theorem cmn_self (a : Txt) : cmn a a = a.length := by
  have h1 := (cmn_le a a).1
  have h2 := (cmn_iff a a a.length).2 ⟨Nat.le_refl _, Nat.le_refl _, rfl⟩
  omega
/-- The mark behind them is another one. -/
theorem cmn_ne {a b : Txt} (h1 : cmn a b < a.length) (h2 : cmn a b < b.length) : a[cmn a b]? ≠ b[cmn a b]? := by
  intro h
  have := (cmn_iff a b (cmn a b + 1)).2 ⟨h1, h2, by
    rw [List.take_add_one, List.take_add_one, cmn_take, h]⟩
  omega

structure Row where
  pre : Int
  suf : Int
  mid : Txt
deriving DecidableEq
def preOf (a b : Txt) : Nat := cmn a b
def sufOf (a b : Txt) : Nat := min (cmn a.reverse b.reverse) (min a.length b.length - cmn a b)
def midOf (a b : Txt) : Txt := (b.take (b.length - sufOf a b)).drop (preOf a b)
def rowOf (a b : Txt) : Row := ⟨preOf a b, sufOf a b, midOf a b⟩
theorem row_le (a b : Txt) : preOf a b ≤ a.length ∧ preOf a b ≤ b.length ∧ sufOf a b ≤ a.length - preOf a b ∧ sufOf a b ≤ b.length - preOf a b := by
  have := cmn_le a b
  unfold sufOf preOf
  omega
theorem suf_drop (a b : Txt) : a.drop (a.length - sufOf a b) = b.drop (b.length - sufOf a b) := by
  have h1 : sufOf a b ≤ cmn a.reverse b.reverse := by unfold sufOf; omega
  have h2 := ((cmn_iff _ _ _).1 h1).2.2
  have h3 := congrArg List.reverse h2
  rw [List.reverse_take, List.reverse_take, List.reverse_reverse, List.reverse_reverse, List.length_reverse, List.length_reverse] at h3
  exact h3
/-- A text out of its row. -/
def join (a : Txt) (p s : Nat) (m : Txt) : Txt := a.take p ++ m ++ a.drop (a.length - s)
theorem join_row (a b : Txt) : join a (preOf a b) (sufOf a b) (midOf a b) = b := by
  have h := row_le a b
  unfold join midOf
  rw [show a.take (preOf a b) = b.take (preOf a b) from cmn_take a b, suf_drop]
  have e : b.take (preOf a b) = (b.take (b.length - sufOf a b)).take (preOf a b) := by rw [List.take_take, Nat.min_eq_left (by omega)]
  rw [e, List.take_append_drop, List.take_append_drop]
theorem mid_len (a b : Txt) : (midOf a b).length = b.length - sufOf a b - preOf a b := by
  unfold midOf; rw [List.length_drop, List.length_take]; omega
theorem mid_text {a b : Txt} (h : isText b = true) : isText (midOf a b) = true := by
  rw [isText_iff] at h ⊢
  refine ⟨fun x hx => h.1 x (List.mem_of_mem_take (List.mem_of_mem_drop hx)), ?_⟩
  rw [mid_len]; omega
def backOf (a : Txt) (r : Row) : Option Txt :=
  if 0 ≤ r.pre ∧ 0 ≤ r.suf ∧ r.pre ≤ a.length ∧ r.suf ≤ a.length - r.pre ∧ isText (join a r.pre.toNat r.suf.toNat r.mid) = true ∧ rowOf a (join a r.pre.toNat r.suf.toNat r.mid) = r then some (join a r.pre.toNat r.suf.toNat r.mid) else none
theorem back_row {a b : Txt} (h : isText b = true) : backOf a (rowOf a b) = some b := by
  have hl := row_le a b
  have hj := join_row a b
  unfold backOf
  have e : join a (rowOf a b).pre.toNat (rowOf a b).suf.toNat (rowOf a b).mid = b := hj
  rw [e, if_pos]
  exact ⟨by simp [rowOf], by simp [rowOf], by simp [rowOf]; omega, by simp [rowOf]; omega, h, rfl⟩
theorem back_some {a t : Txt} {r : Row} (h : backOf a r = some t) : isText t = true ∧ rowOf a t = r := by
  unfold backOf at h
  split at h
  · rename_i hc
    injection h with h
    subst h
    exact ⟨hc.2.2.2.2.1, hc.2.2.2.2.2⟩
  · cases h

/-! ### Letters, bytes, seals -/
def letter (n : Nat) : UInt8 := if n < 26 then UInt8.ofNat (65 + n) else UInt8.ofNat (71 + n)
def unletter (b : UInt8) : Option Nat := if 65 ≤ b.toNat ∧ b.toNat ≤ 90 then some (b.toNat - 65) else if 97 ≤ b.toNat ∧ b.toNat ≤ 119 then some (b.toNat - 71) else none
theorem unletter_letter {n : Nat} (h : n ≤ 48) : unletter (letter n) = some n := by
  have key : ∀ n : Fin 49, unletter (letter n.val) = some n.val := by decide
  exact key ⟨n, by omega⟩
theorem letter_unletter {b : UInt8} {n : Nat} (h : unletter b = some n) : letter n = b ∧ n ≤ 48 := by
  unfold unletter at h
  have hb : b = UInt8.ofNat b.toNat := by simp
  split at h
  · rename_i hc
    injection h with h
    subst h
    refine ⟨?_, by omega⟩
    unfold letter
    rw [if_pos (by omega), show 65 + (b.toNat - 65) = b.toNat by omega]
    exact hb.symm
  · split at h
    · rename_i hc
      injection h with h
      subst h
      refine ⟨?_, by omega⟩
      unfold letter
      rw [if_neg (by omega), show 71 + (b.toNat - 71) = b.toNat by omega]
      exact hb.symm
    · cases h
theorem letter_ne {n : Nat} (h : n ≤ 48) : letter n ≠ 10 := by
  have key : ∀ n : Fin 49, letter n.val ≠ 10 := by decide
  exact key ⟨n, by omega⟩
def bytesOf (r : Row) : Txt := letter r.pre.toNat :: letter r.suf.toNat :: (r.mid ++ [10])
/-- The rows of texts. -/
def rows : Txt → List Txt → List Row
  | _, [] => []
  | a, t :: ts => rowOf a t :: rows t ts
def bytesL (rs : List Row) : Txt := rs.flatMap bytesOf
def sealN (n : Nat) (s : Txt) : Nat := s.foldl (fun n c => (n * 31 + c.toNat) % 997) n
def sealOf (s : Txt) : Nat := sealN 0 s
def three (n : Nat) : Txt := [UInt8.ofNat (48 + n / 100), UInt8.ofNat (48 + n / 10 % 10), UInt8.ofNat (48 + n % 10)]
def sealed (s : Txt) : Txt := s ++ three (sealOf s)
def file (ts : List Txt) : Txt := sealed (bytesL (rows [] ts))

/-! ### Reading -/
def mkRow : Option Nat → Option Nat → Txt → Option Row
  | some p, some s, m => if isText m = true then some ⟨p, s, m⟩ else none
  | _, _, _ => none
theorem mkRow_some (p s : Nat) (m : Txt) : mkRow (some p) (some s) m = if isText m = true then some ⟨p, s, m⟩ else none := rfl
def lineRow : Txt → Option Row
  | a :: b :: m => mkRow (unletter a) (unletter b) m
  | _ => none
def consO : Option Row → Option (List Row) → Option (List Row)
  | some r, x => x.map (r :: ·)
  | none, _ => none
/-- The rows of what is left, of which a part of a line has been read. -/
def parse : Txt → Txt → Option (List Row)
  | [], [] => some []
  | _ :: _, [] => none
  | cur, b :: bs => if b = 10 then consO (lineRow cur) (parse [] bs) else parse (cur ++ [b]) bs
def isDigit (b : UInt8) : Bool := decide (48 ≤ b.toNat ∧ b.toNat ≤ 57)
def formOf (s : Txt) : Option (List Row) := if 3 ≤ s.length ∧ s.length ≤ 1100 ∧ (s.drop (s.length - 3)).all isDigit = true then parse [] (s.take (s.length - 3)) else none
def texts : Txt → List Row → Option (List Txt)
  | _, [] => some []
  | a, r :: rs => match backOf a r with | some t => (texts t rs).map (t :: ·) | none => none
inductive Got where
  | bad (e : Int)
  | all (ts : List Txt)
def readOf (s : Txt) : Got := match formOf s with
  | none => .bad 140
  | some rs => if sealed (s.take (s.length - 3)) = s then (match texts [] rs with | none => .bad 142 | some ts => if ts.length ≤ 20 then .all ts else .bad 142) else .bad 141

end Se

/-! Plain: what is written is read again, and nothing else is read (layer 14). No program in sight. -/
namespace Se

/-! ### Lines -/
def goodR (r : Row) : Prop := 0 ≤ r.pre ∧ r.pre ≤ 48 ∧ 0 ≤ r.suf ∧ r.suf ≤ 48 ∧ isText r.mid = true
theorem text_feed {s : Txt} (h : isText s = true) : ∀ b ∈ s, b ≠ 10 := by
  intro b hb e
  have := (isText_iff.1 h).1 b hb
  rw [e] at this
  revert this
  decide
theorem parse_line (cur l rest : Txt) (h : ∀ b ∈ l, b ≠ 10) : parse cur (l ++ 10 :: rest) = consO (lineRow (cur ++ l)) (parse [] rest) := by
  induction l generalizing cur with
  | nil =>
    rw [List.nil_append, List.append_nil]
    cases cur <;> simp [parse]
  | cons b l ih =>
    have hb : b ≠ 10 := h b (by simp)
    have e : parse cur (b :: (l ++ 10 :: rest)) = parse (cur ++ [b]) (l ++ 10 :: rest) := by
      cases cur <;> simp [parse, hb]
    rw [List.cons_append, e, ih _ (fun x hx => h x (by simp [hx]))]
    simp
theorem line_row {r : Row} (h : goodR r) : lineRow (letter r.pre.toNat :: letter r.suf.toNat :: r.mid) = some r := by
  obtain ⟨h1, h2, h3, h4, h5⟩ := h
  show mkRow (unletter (letter r.pre.toNat)) (unletter (letter r.suf.toNat)) r.mid = some r
  rw [unletter_letter (by omega), unletter_letter (by omega)]
  rw [mkRow_some, if_pos h5]
  obtain ⟨p, q, m⟩ := r
  simp only at h1 h2 h3 h4 ⊢
  rw [Int.toNat_of_nonneg h1, Int.toNat_of_nonneg h3]
theorem line_some {l : Txt} {r : Row} (h : lineRow l = some r) : goodR r ∧ l ++ [10] = bytesOf r := by
  match l with
  | [] => simp [lineRow] at h
  | [_] => simp [lineRow] at h
  | a :: b :: m =>
    have h : mkRow (unletter a) (unletter b) m = some r := h
    cases ha : unletter a with
    | none => rw [ha] at h; cases h
    | some p =>
      cases hb : unletter b with
      | none => rw [ha, hb] at h; cases h
      | some s =>
        rw [ha, hb, mkRow_some] at h
        split at h
        · rename_i hm
          injection h with h
          subst h
          obtain ⟨e1, l1⟩ := letter_unletter ha
          obtain ⟨e2, l2⟩ := letter_unletter hb
          refine ⟨⟨by simp, by simp; omega, by simp, by simp; omega, hm⟩, ?_⟩
          simp [bytesOf, e1, e2]
        · cases h
theorem parse_rows {rs : List Row} (h : ∀ r ∈ rs, goodR r) : parse [] (bytesL rs) = some rs := by
  induction rs with
  | nil => rfl
  | cons r rs ih =>
    have hr := h r (by simp)
    have e : bytesL (r :: rs) = (letter r.pre.toNat :: letter r.suf.toNat :: r.mid) ++ 10 :: bytesL rs := by simp [bytesL, bytesOf]
    rw [e, parse_line, List.nil_append, line_row hr, ih (fun x hx => h x (by simp [hx]))]
    · rfl
    · intro b hb
      obtain ⟨h1, h2, h3, h4, h5⟩ := hr
      rcases List.mem_cons.1 hb with rfl | hb
      · exact letter_ne (by omega)
      · rcases List.mem_cons.1 hb with rfl | hb
        · exact letter_ne (by omega)
        · exact text_feed h5 b hb
theorem parse_some {cur s : Txt} {rs : List Row} (h : parse cur s = some rs) : cur ++ s = bytesL rs ∧ ∀ r ∈ rs, goodR r := by
  induction s generalizing cur rs with
  | nil =>
    cases cur with
    | nil => simp [parse] at h; subst h; exact ⟨rfl, fun r hr => by cases hr⟩
    | cons x xs => simp [parse] at h
  | cons b bs ih =>
    by_cases hb : b = 10
    · subst hb
      have e : parse cur (10 :: bs) = consO (lineRow cur) (parse [] bs) := by cases cur <;> simp [parse]
      rw [e] at h
      cases hl : lineRow cur with
      | none => rw [hl] at h; cases h
      | some r =>
        rw [hl] at h
        cases hp : parse [] bs with
        | none => rw [hp] at h; cases h
        | some rs' =>
          rw [hp] at h
          injection h with h
          subst h
          obtain ⟨i1, i2⟩ := ih hp
          obtain ⟨j1, j2⟩ := line_some hl
          refine ⟨?_, fun r' hr' => ?_⟩
          · have : bytesL (r :: rs') = bytesOf r ++ bytesL rs' := by simp [bytesL]
            rw [this, ← j2, ← i1]; simp
          · rcases List.mem_cons.1 hr' with rfl | hr'
            · exact j1
            · exact i2 r' hr'
    · have e : parse cur (b :: bs) = parse (cur ++ [b]) bs := by cases cur <;> simp [parse, hb]
      rw [e] at h
      obtain ⟨i1, i2⟩ := ih h
      exact ⟨by rw [← i1]; simp, i2⟩

/-! ### The rows of texts -/
def allT (ts : List Txt) : Prop := ∀ t ∈ ts, isText t = true
theorem rows_good {a : Txt} {ts : List Txt} (ha : isText a = true) (h : allT ts) : ∀ r ∈ rows a ts, goodR r := by
  induction ts generalizing a with
  | nil => intro r hr; cases hr
  | cons t ts ih =>
    intro r hr
    have ht := h t (by simp)
    rcases List.mem_cons.1 hr with rfl | hr
    · have hl := row_le a t
      have h1 := (isText_iff.1 ha).2
      have h2 := (isText_iff.1 ht).2
      exact ⟨by simp [rowOf], by simp [rowOf]; omega, by simp [rowOf], by simp [rowOf]; omega, mid_text ht⟩
    · exact ih ht (fun x hx => h x (by simp [hx])) r hr
theorem rows_len (a : Txt) (ts : List Txt) : (rows a ts).length = ts.length := by
  induction ts generalizing a with
  | nil => rfl
  | cons t ts ih => simp [rows, ih]
theorem texts_rows {a : Txt} {ts : List Txt} (h : allT ts) : texts a (rows a ts) = some ts := by
  induction ts generalizing a with
  | nil => rfl
  | cons t ts ih =>
    unfold rows texts
    rw [back_row (h t (by simp))]
    simp only [ih (fun x hx => h x (by simp [hx]))]
    rfl
theorem texts_some {a : Txt} {rs : List Row} {ts : List Txt} (h : texts a rs = some ts) : rs = rows a ts ∧ allT ts := by
  induction rs generalizing a ts with
  | nil => simp [texts] at h; subst h; exact ⟨rfl, fun t ht => by cases ht⟩
  | cons r rs ih =>
    unfold texts at h
    cases hb : backOf a r with
    | none => rw [hb] at h; cases h
    | some t =>
      rw [hb] at h
      simp only at h
      cases ht : texts t rs with
      | none => rw [ht] at h; cases h
      | some ts' =>
        rw [ht] at h
        injection h with h
        subst h
        obtain ⟨i1, i2⟩ := ih ht
        obtain ⟨j1, j2⟩ := back_some hb
        refine ⟨by rw [rows, j2, ← i1], fun x hx => ?_⟩
        rcases List.mem_cons.1 hx with rfl | hx
        · exact j1
        · exact i2 x hx

/-! ### Seals -/
theorem sealN_lt {n : Nat} (h : n < 997) (s : Txt) : sealN n s < 997 := by
  induction s generalizing n with
  | nil => exact h
  | cons c s ih => exact ih (Nat.mod_lt _ (by omega))
theorem seal_lt (s : Txt) : sealOf s < 997 := sealN_lt (by omega) s
theorem three_len (n : Nat) : (three n).length = 3 := rfl
theorem three_digits {n : Nat} (h : n < 1000) : (three n).all isDigit = true := by
  simp only [three, List.all_cons, List.all_nil, Bool.and_true, Bool.and_eq_true]
  have h1 : n / 100 ≤ 9 := by omega
  have h2 : n / 10 % 10 ≤ 9 := by omega
  have h3 : n % 10 ≤ 9 := by omega
  have key : ∀ k : Fin 10, isDigit (UInt8.ofNat (48 + k.val)) = true := by decide
  exact ⟨key ⟨n / 100, by omega⟩, key ⟨n / 10 % 10, by omega⟩, key ⟨n % 10, by omega⟩⟩
theorem three_inj {n m : Nat} (hn : n < 1000) (hm : m < 1000) (h : three n = three m) : n = m := by
  have key : ∀ k l : Fin 10, UInt8.ofNat (48 + k.val) = UInt8.ofNat (48 + l.val) → k = l := by decide
  simp only [three, List.cons.injEq, and_true] at h
  have a := key ⟨n / 100, by omega⟩ ⟨m / 100, by omega⟩ h.1
  have b := key ⟨n / 10 % 10, by omega⟩ ⟨m / 10 % 10, by omega⟩ h.2.1
  have c := key ⟨n % 10, by omega⟩ ⟨m % 10, by omega⟩ h.2.2
  simp only [Fin.mk.injEq] at a b c
  omega
theorem sealed_len (s : Txt) : (sealed s).length = s.length + 3 := by simp [sealed, three_len]
theorem sealed_take (s : Txt) : (sealed s).take ((sealed s).length - 3) = s := by rw [sealed_len]; simp [sealed]
theorem sealed_drop (s : Txt) : (sealed s).drop ((sealed s).length - 3) = three (sealOf s) := by rw [sealed_len]; simp [sealed]
theorem row_bytes (a t : Txt) : (bytesOf (rowOf a t)).length = (midOf a t).length + 3 := by simp [bytesOf, rowOf]
theorem bytes_len {a : Txt} {ts : List Txt} (h : allT ts) : (bytesL (rows a ts)).length ≤ 51 * ts.length := by
  induction ts generalizing a with
  | nil => simp [rows, bytesL]
  | cons t ts ih =>
    have e : bytesL (rows a (t :: ts)) = bytesOf (rowOf a t) ++ bytesL (rows t ts) := by simp [rows, bytesL]
    have := ih (a := t) (fun x hx => h x (by simp [hx]))
    have h1 := (isText_iff.1 (h t (by simp))).2
    have h2 := mid_len a t
    rw [e, List.length_append, row_bytes, List.length_cons]
    omega
theorem text_nil : isText [] = true := by decide
theorem form_file {ts : List Txt} (h : allT ts) (hn : ts.length ≤ 20) : formOf (file ts) = some (rows [] ts) := by
  have hb := bytes_len (a := []) h
  unfold formOf file
  rw [sealed_take, sealed_drop, if_pos, parse_rows (rows_good text_nil h)]
  rw [sealed_len]
  have := seal_lt (bytesL (rows [] ts))
  exact ⟨by omega, by omega, three_digits (by omega)⟩
theorem read_file {ts : List Txt} (h : allT ts) (hn : ts.length ≤ 20) : readOf (file ts) = .all ts := by
  unfold readOf
  rw [form_file h hn]
  simp only
  rw [if_pos (by unfold file; rw [sealed_take]), texts_rows h]
  simp only
  rw [if_pos hn]
theorem read_some {s : Txt} {ts : List Txt} (h : readOf s = .all ts) : ts.length ≤ 20 ∧ allT ts ∧ file ts = s ∧ formOf s = some (rows [] ts) := by
  unfold readOf at h
  cases hf : formOf s with
  | none => rw [hf] at h; cases h
  | some rs =>
    rw [hf] at h
    simp only at h
    split at h
    · rename_i hs
      cases ht : texts [] rs with
      | none => rw [ht] at h; cases h
      | some ts' =>
        rw [ht] at h
        simp only at h
        split at h
        · rename_i hl
          injection h with h
          subst h
          obtain ⟨e1, e2⟩ := texts_some ht
          refine ⟨hl, e2, ?_, by rw [← e1]⟩
          unfold formOf at hf
          split at hf
          · have := (parse_some hf).1
            rw [List.nil_append] at this
            unfold file
            rw [← e1, ← this, hs]
          · cases hf
        · cases h
    · cases h
theorem file_inj {ts us : List Txt} (h : allT ts) (hn : ts.length ≤ 20) (h' : allT us) (hn' : us.length ≤ 20) (e : file ts = file us) : ts = us := by
  have h1 := read_file h hn
  rw [e, read_file h' hn'] at h1
  injection h1 with h1
  exact h1.symm

/-! ### A byte that has become another one -/
theorem step_n {n m c : Nat} (hn : n < 997) (hm : m < 997) (h : (n * 31 + c) % 997 = (m * 31 + c) % 997) : n = m := by omega
theorem step_c {n c d : Nat} (hc : c < 256) (hd : d < 256) (h : (n * 31 + c) % 997 = (n * 31 + d) % 997) : c = d := by omega
theorem sealN_inj {n m : Nat} (hn : n < 997) (hm : m < 997) (s : Txt) (h : sealN n s = sealN m s) : n = m := by
  induction s generalizing n m with
  | nil => exact h
  | cons c s ih => exact step_n hn hm (ih (Nat.mod_lt _ (by omega)) (Nat.mod_lt _ (by omega)) h)
theorem sealN_append (n : Nat) (a b : Txt) : sealN n (a ++ b) = sealN (sealN n a) b := by simp [sealN]
theorem u8_eq {b c : UInt8} (h : b.toNat = c.toNat) : b = c := UInt8.toNat_inj.1 h
/-- A byte of a string has become another one: its seal is another one. -/
theorem seal_byte {p q : Txt} {b c : UInt8} (h : sealOf (p ++ b :: q) = sealOf (p ++ c :: q)) : b = c := by
  unfold sealOf at h
  rw [sealN_append, sealN_append] at h
  have h1 : sealN 0 p < 997 := sealN_lt (by omega) p
  have h2 := sealN_inj (Nat.mod_lt _ (by omega)) (Nat.mod_lt _ (by omega)) q h
  exact u8_eq (step_c b.toNat_lt c.toNat_lt h2)
theorem step_x {n a b : Nat} (ha : a < 256) (hb : b < 256) (h : ((n * 31 + a) % 997 * 31 + b) % 997 = ((n * 31 + b) % 997 * 31 + a) % 997) : a = b := by omega
/-- Two bytes side by side have been exchanged. -/
theorem seal_swap {p q : Txt} {b c : UInt8} (h : sealOf (p ++ b :: c :: q) = sealOf (p ++ c :: b :: q)) : b = c := by
  unfold sealOf at h
  rw [sealN_append, sealN_append] at h
  have h2 := sealN_inj (Nat.mod_lt _ (by omega)) (Nat.mod_lt _ (by omega)) q h
  exact u8_eq (step_x b.toNat_lt c.toNat_lt h2)

end Se

/-! Plain: the theorems of the byte, the beginnings, the length and the form (layer 14). No program in sight. -/
namespace Se

/-- What 'Write' returns. -/
def valid (ts : List Txt) : Prop := allT ts ∧ ts.length ≤ 20
theorem file_len (ts : List Txt) : (file ts).length = (bytesL (rows [] ts)).length + 3 := by unfold file; rw [sealed_len]
theorem sealed_inj_len {a b : Txt} (h : sealed a = sealed b) : a = b := by
  have h1 := sealed_take a
  rw [h, sealed_take] at h1
  exact h1.symm
/-- Two sealed strings that differ in one byte at most are the same. -/
theorem sealed_byte {a b : Txt} {i : Nat} {c : UInt8} (h : sealed b = (sealed a).set i c) : sealed b = sealed a := by
  have hl := congrArg List.length h
  rw [List.length_set, sealed_len, sealed_len] at hl
  have hl : b.length = a.length := by omega
  by_cases hi : i < a.length
  · -- ahead of the seal
    unfold sealed at h ⊢
    rw [List.set_append_left _ _ hi] at h
    obtain ⟨h1, h2⟩ := List.append_inj h (by rw [List.length_set]; exact hl)
    have h3 := three_inj (Nat.lt_trans (seal_lt b) (by omega)) (Nat.lt_trans (seal_lt a) (by omega)) h2
    have ea : a = a.take i ++ a[i] :: a.drop (i + 1) := by rw [← List.drop_eq_getElem_cons hi, List.take_append_drop]
    have eb : b = a.take i ++ c :: a.drop (i + 1) := by rw [h1, List.set_eq_take_append_cons_drop, if_pos hi]
    have h4 : sealOf (a.take i ++ a[i] :: a.drop (i + 1)) = sealOf (a.take i ++ c :: a.drop (i + 1)) := by rw [← ea, ← eb]; exact h3.symm
    have h5 := seal_byte h4
    have e : b = a := by rw [eb, ← h5]; exact ea.symm
    rw [e]
  · unfold sealed at h ⊢
    rw [List.set_append_right _ _ (by omega)] at h
    obtain ⟨h1, _⟩ := List.append_inj h hl
    rw [h1]
/-- .. and so are two that differ in the order of two neighbours ahead of the seal. -/
theorem sealed_swap {p q b : Txt} {x y : UInt8} (h : sealed b = p ++ y :: x :: q ++ three (sealOf (p ++ x :: y :: q))) : x = y := by
  unfold sealed at h
  have hl := congrArg List.length h
  simp only [List.length_append, List.length_cons, three_len] at hl
  obtain ⟨h1, h2⟩ := List.append_inj h (by simp only [List.length_append, List.length_cons]; omega)
  have h3 := three_inj (Nat.lt_trans (seal_lt b) (by omega)) (Nat.lt_trans (seal_lt _) (by omega)) h2
  rw [h1] at h3
  exact (seal_swap h3).symm

def isBad (g : Got) : Prop := g = .bad 140 ∨ g = .bad 141 ∨ g = .bad 142
theorem got_cases (s : Txt) : isBad (readOf s) ∨ ∃ ts, readOf s = .all ts := by
  unfold readOf
  cases formOf s with
  | none => exact .inl (.inl rfl)
  | some rs =>
    simp only
    split
    · cases texts [] rs with
      | none => exact .inl (.inr (.inr rfl))
      | some ts =>
        simp only
        split
        · exact .inr ⟨ts, rfl⟩
        · exact .inl (.inr (.inr rfl))
    · exact .inl (.inr (.inl rfl))
theorem byte_refused {ts : List Txt} {i : Nat} {c : UInt8} (hne : (file ts).set i c ≠ file ts) : isBad (readOf ((file ts).set i c)) := by
  rcases got_cases ((file ts).set i c) with h | ⟨us, h⟩
  · exact h
  · obtain ⟨_, _, h3, _⟩ := read_some h
    exact absurd (h3.symm.trans (sealed_byte h3)) hne
theorem swap_refused {ts : List Txt} {i : Nat} (hi : i + 1 < (file ts).length - 3) {x y : UInt8} (hx : (file ts)[i]? = some x) (hy : (file ts)[i + 1]? = some y)
    (hne : ((file ts).set i y).set (i + 1) x ≠ file ts) : isBad (readOf (((file ts).set i y).set (i + 1) x)) := by
  rcases got_cases (((file ts).set i y).set (i + 1) x) with h | ⟨us, h⟩
  · exact h
  · obtain ⟨_, _, h3, _⟩ := read_some h
    rw [file_len] at hi
    obtain ⟨A, hA⟩ : ∃ A, bytesL (rows [] ts) = A := ⟨_, rfl⟩
    have hf : file ts = A ++ three (sealOf A) := by unfold file sealed; rw [hA]
    rw [hA] at hi
    have hi : i + 1 < A.length := by omega
    rw [hf, List.getElem?_append_left (by omega)] at hx hy
    have e1 : A.drop i = x :: A.drop (i + 1) := by
      rw [List.drop_eq_getElem_cons (by omega)]
      rw [List.getElem?_eq_getElem (by omega)] at hx
      injection hx with hx
      rw [hx]
    have e2 : A.drop (i + 1) = y :: A.drop (i + 2) := by
      rw [List.drop_eq_getElem_cons hi]
      rw [List.getElem?_eq_getElem hi] at hy
      injection hy with hy
      rw [hy]
    have eA : A = A.take i ++ x :: y :: A.drop (i + 2) := by rw [← e2, ← e1, List.take_append_drop]
    obtain ⟨p, q, hp, hq⟩ : ∃ p q, A = p ++ x :: y :: q ∧ p.length = i := ⟨A.take i, A.drop (i + 2), eA, by rw [List.length_take]; omega⟩
    have es : ((file ts).set i y).set (i + 1) x = p ++ y :: x :: q ++ three (sealOf (p ++ x :: y :: q)) := by
      rw [hf, hp, ← hq]
      simp
    have hsw := sealed_swap (b := bytesL (rows [] us)) (h3.trans es)
    subst hsw
    exfalso
    apply hne
    rw [es, hf, hp]

/-! ### Beginnings, lengths -/
theorem rows_take (a : Txt) (ts : List Txt) (k : Nat) : rows a (ts.take k) = (rows a ts).take k := by
  induction ts generalizing a k with
  | nil => simp [rows]
  | cons t ts ih => cases k with
    | zero => rfl
    | succ k => simp [rows, ih]
theorem bytes_take (rs : List Row) (k : Nat) : bytesL rs = bytesL (rs.take k) ++ bytesL (rs.drop k) := by
  unfold bytesL
  rw [← List.flatMap_append, List.take_append_drop]
/-- How many bytes texts have, and one more for each. -/
def whole (ts : List Txt) : Nat := (ts.map List.length).sum + ts.length
theorem bytes_le (a : Txt) (ts : List Txt) : (bytesL (rows a ts)).length ≤ whole ts + 2 * ts.length := by
  induction ts generalizing a with
  | nil => simp [rows, bytesL, whole]
  | cons t ts ih =>
    have e : bytesL (rows a (t :: ts)) = bytesOf (rowOf a t) ++ bytesL (rows t ts) := by simp [rows, bytesL]
    have := ih t
    have h2 := mid_len a t
    rw [e, List.length_append, row_bytes]
    simp only [whole, List.map_cons, List.sum_cons, List.length_cons] at this ⊢
    omega
theorem row_same (t : Txt) : rowOf t t = ⟨t.length, 0, []⟩ := by
  have hs : sufOf t t = 0 := by unfold sufOf; rw [cmn_self t]; omega
  unfold rowOf midOf
  rw [hs]
  unfold preOf
  rw [cmn_self]
  simp
theorem twice_len (a : Txt) (ts : List Txt) (k : Nat) (hk : k < ts.length) : (bytesL (rows a (ts.take (k + 1) ++ ts.drop k))).length = (bytesL (rows a ts)).length + 3 := by
  induction ts generalizing a k with
  | nil => simp at hk
  | cons t ts ih =>
    cases k with
    | zero =>
      have e : (t :: ts).take (0 + 1) ++ (t :: ts).drop 0 = t :: t :: ts := by simp
      rw [e]
      simp [rows, bytesL, row_same, bytesOf]
      omega
    | succ k =>
      have e : (t :: ts).take (k + 1 + 1) ++ (t :: ts).drop (k + 1) = t :: (ts.take (k + 1) ++ ts.drop k) := by simp
      rw [e]
      have := ih t k (by simpa using hk)
      have e1 : ∀ us, bytesL (rows a (t :: us)) = bytesOf (rowOf a t) ++ bytesL (rows t us) := fun us => by simp [rows, bytesL]
      rw [e1, e1, List.length_append, List.length_append, this]
      omega

/-! ### The form -/
theorem form_seal (s : Txt) (n m : Nat) (hn : n < 1000) (hm : m < 1000) : formOf (s ++ three n) = formOf (s ++ three m) := by
  have l : ∀ k, (s ++ three k).length = s.length + 3 := fun k => by simp [three_len]
  have t : ∀ k, (s ++ three k).take ((s ++ three k).length - 3) = s := fun k => by rw [l]; simp
  have d : ∀ k, (s ++ three k).drop ((s ++ three k).length - 3) = three k := fun k => by rw [l]; simp
  unfold formOf
  rw [t, t, d, d, three_digits hn, three_digits hm, l, l]
theorem read_other {s : Txt} {rs : List Row} {m : Nat} (hm : m < 1000) (hne : m ≠ sealOf s) (hf : formOf (sealed s) = some rs) : readOf (s ++ three m) = .bad 141 := by
  have hf' : formOf (s ++ three m) = some rs := by rw [← hf]; exact form_seal s m (sealOf s) hm (Nat.lt_trans (seal_lt s) (by omega))
  unfold readOf
  rw [hf']
  simp only
  rw [if_neg]
  have l : (s ++ three m).length = s.length + 3 := by simp [three_len]
  have t : (s ++ three m).take ((s ++ three m).length - 3) = s := by rw [l]; simp
  rw [t]
  intro h
  unfold sealed at h
  exact hne (three_inj (Nat.lt_trans (seal_lt s) (by omega)) hm (List.append_cancel_left h)).symm
theorem read_sealed {s : Txt} {rs : List Row} (hf : formOf (sealed s) = some rs) : readOf (sealed s) ≠ .bad 140 ∧ readOf (sealed s) ≠ .bad 141 := by
  unfold readOf
  rw [hf]
  simp only
  rw [sealed_take, if_pos rfl]
  cases texts [] rs with
  | none => exact ⟨(fun h => by simp at h), (fun h => by simp at h)⟩
  | some ts =>
    simp only
    split <;> exact ⟨(fun h => by simp at h), (fun h => by simp at h)⟩

end Se

/-! Plain: one more text, one less; the fewest bytes in any order (layer 14). No program in sight. -/
namespace Se

/-! ### One more text, one less -/
inductive Out where
  | bad (e : Int)
  | ok (s : Txt)
def writeOf (ts : List Txt) : Out := if 20 < ts.length then .bad 2 else if ts.all isText = true then .ok (file ts) else .bad 1
theorem write_ok {ts : List Txt} (h : allT ts) (hn : ts.length ≤ 20) : writeOf ts = .ok (file ts) := by
  unfold writeOf
  rw [if_neg (by omega), if_pos (List.all_eq_true.2 h)]
def addOf (s t : Txt) : Out := match readOf s with
  | .bad e => .bad e
  | .all ts => writeOf (ts ++ [t])
def cutOf (s : Txt) : Out := match readOf s with
  | .bad e => .bad e
  | .all ts => if ts = [] then .bad 3 else .ok (file (ts.take (ts.length - 1)))
theorem add_one {ts : List Txt} (h : allT ts) (hn : ts.length ≤ 20) {i : Nat} (hi : i < ts.length) : addOf (file (ts.take i)) ts[i] = .ok (file (ts.take (i + 1))) := by
  unfold addOf
  rw [read_file (fun t ht => h t (List.mem_of_mem_take ht)) (by rw [List.length_take]; omega)]
  simp only
  rw [← List.take_succ_eq_append_getElem hi]
  exact write_ok (fun t ht => h t (List.mem_of_mem_take ht)) (by rw [List.length_take]; omega)
theorem cut_one {ts : List Txt} (h : allT ts) (hn : ts.length ≤ 20) {i : Nat} (hi : i < ts.length) : cutOf (file (ts.take (i + 1))) = .ok (file (ts.take i)) := by
  unfold cutOf
  rw [read_file (fun t ht => h t (List.mem_of_mem_take ht)) (by rw [List.length_take]; omega)]
  simp only
  have hl : (ts.take (i + 1)).length = i + 1 := by rw [List.length_take]; omega
  rw [if_neg (by intro e; rw [e] at hl; simp at hl), hl, Nat.add_sub_cancel, List.take_take, Nat.min_eq_left (by omega)]

/-! ### The fewest bytes -/
def cost (a t : Txt) : Nat := (midOf a t).length + 3
def chain : Txt → List Txt → Nat
  | _, [] => 0
  | a, t :: ts => cost a t + chain t ts
theorem chain_bytes (a : Txt) (ts : List Txt) : (bytesL (rows a ts)).length = chain a ts := by
  induction ts generalizing a with
  | nil => rfl
  | cons t ts ih =>
    have e : bytesL (rows a (t :: ts)) = bytesOf (rowOf a t) ++ bytesL (rows t ts) := by simp [rows, bytesL]
    rw [e, List.length_append, row_bytes, ih]; rfl
theorem file_chain (ts : List Txt) : (file ts).length = chain [] ts + 3 := by rw [file_len, chain_bytes]
/-- The least of the first k values; 0 where there are none. -/
def minF (f : Nat → Nat) : Nat → Nat
  | 0 => 0
  | 1 => f 0
  | k + 2 => min (minF f (k + 1)) (f (k + 1))
theorem minF_le {f : Nat → Nat} {k i : Nat} (h : i < k) : minF f k ≤ f i := by
  induction k with
  | zero => omega
  | succ k ih =>
    cases k with
    | zero => obtain rfl : i = 0 := by omega
              exact Nat.le_refl _
    | succ k =>
      unfold minF
      rcases Nat.lt_or_ge i (k + 1) with hl | hl
      · have := ih hl; omega
      · obtain rfl : i = k + 1 := by omega
        omega
theorem minF_at {f : Nat → Nat} {k : Nat} (h : 0 < k) : ∃ i, i < k ∧ minF f k = f i := by
  induction k with
  | zero => omega
  | succ k ih =>
    cases k with
    | zero => exact ⟨0, by omega, rfl⟩
    | succ k =>
      obtain ⟨i, hi, he⟩ := ih (by omega)
      unfold minF
      by_cases hc : f (k + 1) < minF f (k + 1)
      · exact ⟨k + 1, by omega, by omega⟩
      · exact ⟨i, by omega, by omega⟩
/-- The fewest bytes of the rows of texts that are left, behind a text, in whatever order. -/
def rest : Nat → Txt → List Txt → Nat
  | 0, _, _ => 0
  | m + 1, a, l => minF (fun i => cost a (l.getD i []) + rest m (l.getD i []) (l.eraseIdx i)) l.length
theorem erase_perm {l : List Txt} {i : Nat} (h : i < l.length) : (l[i] :: l.eraseIdx i).Perm l := by
  rw [List.eraseIdx_eq_take_drop_succ]
  have e : l = l.take i ++ l[i] :: l.drop (i + 1) := by rw [← List.drop_eq_getElem_cons h, List.take_append_drop]
  conv => rhs; rw [e]
  exact List.perm_middle.symm
theorem rest_le {us l : List Txt} (h : us.Perm l) (a : Txt) : rest l.length a l ≤ chain a us := by
  induction us generalizing l a with
  | nil =>
    have : l.length = 0 := by rw [← h.length_eq]; rfl
    rw [this]; exact Nat.le_refl _
  | cons u us ih =>
    obtain ⟨i, hi, he⟩ := List.getElem_of_mem (h.mem_iff.1 (List.mem_cons_self))
    have hp : us.Perm (l.eraseIdx i) := by
      have h1 := h.trans (erase_perm hi).symm
      rw [he] at h1
      exact h1.cons_inv
    have hl : l.length = (l.eraseIdx i).length + 1 := by rw [List.length_eraseIdx, if_pos hi]; omega
    have hg : l.getD i [] = u := by simp [List.getD, hi, he]
    rw [hl]
    unfold rest
    have h2 := minF_le (f := fun i => cost a (l.getD i []) + rest (l.eraseIdx i).length (l.getD i []) (l.eraseIdx i)) hi
    have h3 := ih hp u
    have h4 : minF (fun j => cost a (l.getD j []) + rest (l.eraseIdx i).length (l.getD j []) (l.eraseIdx j)) l.length ≤ cost a (l.getD i []) + rest (l.eraseIdx i).length (l.getD i []) (l.eraseIdx i) := minF_le (f := fun j => cost a (l.getD j []) + rest (l.eraseIdx i).length (l.getD j []) (l.eraseIdx j)) hi
    rw [hg] at h4
    refine Nat.le_trans h4 ?_
    show _ ≤ cost a u + chain u us
    omega
theorem rest_at (m : Nat) (a : Txt) (l : List Txt) (h : l.length = m) : ∃ us, us.Perm l ∧ rest m a l = chain a us := by
  induction m generalizing a l with
  | zero => exact ⟨[], by rw [List.length_eq_zero_iff.1 h], rfl⟩
  | succ m ih =>
    obtain ⟨i, hi, he⟩ := minF_at (f := fun i => cost a (l.getD i []) + rest m (l.getD i []) (l.eraseIdx i)) (k := l.length) (by omega)
    obtain ⟨us, hp, hc⟩ := ih (l.getD i []) (l.eraseIdx i) (by rw [List.length_eraseIdx, if_pos hi]; omega)
    have hg : l.getD i [] = l[i] := by simp [List.getD, hi]
    refine ⟨l.getD i [] :: us, ?_, ?_⟩
    · rw [hg]
      exact (hp.cons _).trans (erase_perm hi)
    · show minF _ _ = cost a _ + chain _ us
      rw [he, hc]
def leastN (ts : List Txt) : Nat := rest ts.length [] ts + 3
theorem least_le {us ts : List Txt} (h : us.Perm ts) : leastN ts ≤ (file us).length := by
  rw [file_chain]
  have := rest_le h []
  unfold leastN
  omega
theorem least_at (ts : List Txt) : ∃ us, us.Perm ts ∧ leastN ts = (file us).length := by
  obtain ⟨us, h, e⟩ := rest_at ts.length [] ts rfl
  exact ⟨us, h, by rw [file_chain, ← e]; rfl⟩
/-- The fewest bytes are the same for all orders. -/
theorem least_perm {us ts : List Txt} (h : us.Perm ts) : leastN us = leastN ts := by
  obtain ⟨a, ha, ea⟩ := least_at ts
  obtain ⟨b, hb, eb⟩ := least_at us
  have h1 := least_le (ha.trans h.symm)
  have h2 := least_le (hb.trans h)
  omega

end Se

/-! Plain: the fewest bytes, as they are found by the numbers of the texts (layer 14). No program in sight. -/
namespace Se

theorem perm_map {α β : Type} (f : α → β) {us vs : List β} (h : us.Perm vs) : ∀ l : List α, vs = l.map f → ∃ l' : List α, l'.Perm l ∧ us = l'.map f := by
  induction h with
  | nil => intro l hl; exact ⟨[], by cases l with | nil => exact List.Perm.nil | cons => simp at hl, rfl⟩
  | cons x _ ih =>
    intro l hl
    cases l with
    | nil => simp at hl
    | cons y l =>
      simp only [List.map_cons, List.cons.injEq] at hl
      obtain ⟨l', hp, he⟩ := ih l hl.2
      exact ⟨y :: l', hp.cons y, by rw [List.map_cons, ← hl.1, he]⟩
  | swap x y w =>
    intro l hl
    match l, hl with
    | [], hl => simp at hl
    | [_], hl => simp at hl
    | p :: q :: l, hl =>
      simp only [List.map_cons, List.cons.injEq] at hl
      obtain ⟨e1, e2, e3⟩ := hl
      exact ⟨q :: p :: l, List.Perm.swap _ _ _, by rw [List.map_cons, List.map_cons, ← e1, ← e2, e3]⟩
  | trans _ _ ih1 ih2 =>
    intro l hl
    obtain ⟨l2, hp2, he2⟩ := ih2 l hl
    obtain ⟨l1, hp1, he1⟩ := ih1 l2 he2
    exact ⟨l1, hp1.trans hp2, he1⟩

def at_ (ts : List Txt) (i : Nat) : Txt := ts.getD i []
theorem range_at (ts : List Txt) : (List.range ts.length).map (at_ ts) = ts := by
  apply List.ext_getElem
  · simp
  · intro i h1 h2
    simp only [List.getElem_map, List.getElem_range, at_, List.getD, List.getElem?_eq_getElem h2, Option.getD_some]
/-- What comes behind some texts, whose numbers are f: the numbers of all others, in some order. -/
def goesI (n : Nat) (f l : List Nat) : Prop := l.Nodup ∧ (∀ i ∈ l, i < n ∧ i ∉ f) ∧ ∀ i, i < n → i ∉ f → i ∈ l
theorem goes_nil {n : Nat} {l : List Nat} : goesI n [] l ↔ l.Perm (List.range n) := by
  constructor
  · rintro ⟨h1, h2, h3⟩
    refine (List.perm_ext_iff_of_nodup h1 List.nodup_range).2 fun i => ?_
    rw [List.mem_range]
    exact ⟨fun h => (h2 i h).1, fun h => h3 i h (by simp)⟩
  · intro h
    refine ⟨(h.nodup_iff).2 List.nodup_range, fun i hi => ⟨List.mem_range.1 (h.mem_iff.1 hi), by simp⟩, fun i hi _ => h.mem_iff.2 (List.mem_range.2 hi)⟩
theorem goes_cons {n : Nat} {f l : List Nat} {i : Nat} : goesI n f (i :: l) ↔ i < n ∧ i ∉ f ∧ goesI n (i :: f) l := by
  constructor
  · rintro ⟨h1, h2, h3⟩
    rw [List.nodup_cons] at h1
    refine ⟨(h2 i (by simp)).1, (h2 i (by simp)).2, h1.2, fun j hj => ⟨(h2 j (by simp [hj])).1, ?_⟩, fun j hj hf => ?_⟩
    · intro hc
      rcases List.mem_cons.1 hc with rfl | hc
      · exact h1.1 hj
      · exact (h2 j (by simp [hj])).2 hc
    · have := h3 j hj (fun hc => hf (by simp [hc]))
      rcases List.mem_cons.1 this with rfl | h
      · exact absurd (by simp) hf
      · exact h
  · rintro ⟨h1, h2, h3, h4, h5⟩
    refine ⟨List.nodup_cons.2 ⟨fun hc => (h4 i hc).2 (by simp), h3⟩, fun j hj => ?_, fun j hj hf => ?_⟩
    · rcases List.mem_cons.1 hj with rfl | hj
      · exact ⟨h1, h2⟩
      · exact ⟨(h4 j hj).1, fun hc => (h4 j hj).2 (by simp [hc])⟩
    · by_cases hji : j = i
      · simp [hji]
      · exact List.mem_cons.2 (.inr (h5 j hj (by simp [hji, hf])))

/-- The least of the numbers of the first k texts that are not among f; below 0: there are none. -/
def fewK (g : Nat → Nat) (f : List Nat) : Nat → Int
  | 0 => -1
  | k + 1 => if k ∈ f then fewK g f k else if fewK g f k < 0 ∨ (g k : Int) < fewK g f k then (g k : Int) else fewK g f k
/-- The fewest bytes of the rows of all texts that are not among f, behind a text; m: how many these are. -/
def restI (ts : List Txt) : Nat → List Nat → Txt → Nat
  | 0, _, _ => 0
  | m + 1, f, a => (fewK (fun i => cost a (at_ ts i) + restI ts m (i :: f) (at_ ts i)) f ts.length).toNat
theorem fewK_spec (g : Nat → Nat) (f : List Nat) (k : Nat) : (fewK g f k = -1 ∧ ∀ i, i < k → i ∈ f) ∨ (0 ≤ fewK g f k ∧ (∃ i, i < k ∧ i ∉ f ∧ fewK g f k = g i) ∧ ∀ i, i < k → i ∉ f → fewK g f k ≤ g i) := by
  induction k with
  | zero => exact .inl ⟨rfl, fun i hi => by omega⟩
  | succ k ih =>
    by_cases hk : k ∈ f
    · have e : fewK g f (k + 1) = fewK g f k := if_pos hk
      rw [e]
      rcases ih with ⟨h1, h2⟩ | ⟨h1, ⟨i, hi, hf, he⟩, h3⟩
      · refine .inl ⟨h1, fun i hi => ?_⟩
        rcases Nat.lt_or_ge i k with h | h
        · exact h2 i h
        · obtain rfl : i = k := by omega
          exact hk
      · refine .inr ⟨h1, ⟨i, by omega, hf, he⟩, fun j hj hjf => ?_⟩
        rcases Nat.lt_or_ge j k with h | h
        · exact h3 j h hjf
        · obtain rfl : j = k := by omega
          exact absurd hk hjf
    · by_cases hc : fewK g f k < 0 ∨ (g k : Int) < fewK g f k
      · have e : fewK g f (k + 1) = g k := by rw [fewK, if_neg hk, if_pos hc]
        rw [e]
        refine .inr ⟨by omega, ⟨k, by omega, hk, rfl⟩, fun j hj hjf => ?_⟩
        rcases Nat.lt_or_ge j k with h | h
        · rcases ih with ⟨h1, h2⟩ | ⟨h1, _, h3⟩
          · exact absurd (h2 j h) hjf
          · have := h3 j h hjf
            omega
        · obtain rfl : j = k := by omega
          exact Int.le_refl _
      · have e : fewK g f (k + 1) = fewK g f k := by rw [fewK, if_neg hk, if_neg hc]
        rw [e]
        rcases ih with ⟨h1, h2⟩ | ⟨h1, ⟨i, hi, hf, he⟩, h3⟩
        · exfalso; omega
        · refine .inr ⟨h1, ⟨i, by omega, hf, he⟩, fun j hj hjf => ?_⟩
          rcases Nat.lt_or_ge j k with h | h
          · exact h3 j h hjf
          · obtain rfl : j = k := by omega
            omega
theorem restI_le {ts : List Txt} {l f : List Nat} (h : goesI ts.length f l) (a : Txt) : restI ts l.length f a ≤ chain a (l.map (at_ ts)) := by
  induction l generalizing f a with
  | nil => exact Nat.le_refl _
  | cons i l ih =>
    obtain ⟨h1, h2, h3⟩ := goes_cons.1 h
    have h4 := ih h3 (at_ ts i)
    show (fewK _ f ts.length).toNat ≤ cost a (at_ ts i) + chain (at_ ts i) (l.map (at_ ts))
    rcases fewK_spec (fun i => cost a (at_ ts i) + restI ts l.length (i :: f) (at_ ts i)) f ts.length with ⟨e, _⟩ | ⟨_, _, e⟩
    · rw [e]; show 0 ≤ _; omega
    · have := e i h1 h2
      omega
theorem restI_at {ts : List Txt} (m : Nat) (f : List Nat) (a : Txt) {l0 : List Nat} (h0 : goesI ts.length f l0) (hm : l0.length = m) : ∃ l, goesI ts.length f l ∧ l.length = m ∧ restI ts m f a = chain a (l.map (at_ ts)) := by
  induction m generalizing f a l0 with
  | zero => exact ⟨l0, h0, hm, by rw [List.length_eq_zero_iff.1 hm]; rfl⟩
  | succ m ih =>
    rcases fewK_spec (fun i => cost a (at_ ts i) + restI ts m (i :: f) (at_ ts i)) f ts.length with ⟨e, he⟩ | ⟨_, ⟨i, hi, hf, e⟩, _⟩
    · exfalso
      cases l0 with
      | nil => simp at hm
      | cons j l0 => exact (h0.2.1 j (by simp)).2 (he j (h0.2.1 j (by simp)).1)
    · -- the others, without i
      have hmem : i ∈ l0 := h0.2.2 i hi hf
      have hp : l0.Perm (i :: l0.erase i) := List.perm_cons_erase hmem
      have hg : goesI ts.length f (i :: l0.erase i) := ⟨(hp.nodup_iff).1 h0.1, fun j hj => h0.2.1 j (hp.mem_iff.2 hj), fun j hj hjf => hp.mem_iff.1 (h0.2.2 j hj hjf)⟩
      have hl : (l0.erase i).length = m := by have := hp.length_eq; rw [List.length_cons] at this; omega
      obtain ⟨l, hl1, hl2, hl3⟩ := ih (i :: f) (at_ ts i) (goes_cons.1 hg).2.2 hl
      refine ⟨i :: l, goes_cons.2 ⟨hi, hf, hl1⟩, by rw [List.length_cons, hl2], ?_⟩
      show (fewK _ f ts.length).toNat = cost a (at_ ts i) + chain (at_ ts i) (l.map (at_ ts))
      rw [e, ← hl3]
      rfl
/-- It is the fewest of all orders. -/
theorem restI_least (ts : List Txt) : restI ts ts.length [] [] + 3 = leastN ts := by
  have h0 : goesI ts.length [] (List.range ts.length) := goes_nil.2 (List.Perm.refl _)
  obtain ⟨l, h1, h2, h3⟩ := restI_at (ts := ts) ts.length [] [] h0 (by simp)
  have hp : (l.map (at_ ts)).Perm ts := by
    have := (goes_nil.1 h1).map (at_ ts)
    rwa [range_at] at this
  have e1 := least_le hp
  rw [file_chain, ← h3] at e1
  obtain ⟨us, hu, eu⟩ := least_at ts
  obtain ⟨l', hl', hul⟩ := perm_map (at_ ts) hu (List.range ts.length) (range_at ts).symm
  have e2 := restI_le (ts := ts) (goes_nil.2 hl') []
  rw [hl'.length_eq, List.length_range, ← hul] at e2
  rw [file_chain] at eu
  omega

end Se

/-! Plain: what the loops of the program and of the reference find (layer 14). No program in sight. -/
namespace Se

/-! ### What is in common -/
theorem take_eq_iff {a b : Txt} {n : Nat} (h1 : n ≤ a.length) (h2 : n ≤ b.length) : a.take n = b.take n ↔ n ≤ cmn a b :=
  ⟨fun h => (cmn_iff a b n).2 ⟨h1, h2, h⟩, fun h => ((cmn_iff a b n).1 h).2.2⟩
theorem drop_eq_iff {a b : Txt} {n : Nat} (h1 : n ≤ a.length) (h2 : n ≤ b.length) : a.drop (a.length - n) = b.drop (b.length - n) ↔ n ≤ cmn a.reverse b.reverse := by
  rw [← take_eq_iff (by rw [List.length_reverse]; exact h1) (by rw [List.length_reverse]; exact h2)]
  constructor
  · intro h
    rw [List.take_reverse, List.take_reverse, h]
  · intro h
    have := congrArg List.reverse h
    rwa [List.reverse_take, List.reverse_take, List.reverse_reverse, List.reverse_reverse, List.length_reverse, List.length_reverse] at this
theorem at_eq_iff {a b : Txt} {n : Nat} (h1 : n < a.length) (h2 : n < b.length) (h : n ≤ cmn a b) : a[n] = b[n] ↔ n < cmn a b := by
  constructor
  · intro he
    refine (cmn_iff a b (n + 1)).2 ⟨h1, h2, ?_⟩
    rw [List.take_succ_eq_append_getElem h1, List.take_succ_eq_append_getElem h2, he, ((cmn_iff a b n).1 h).2.2]
  · intro hl
    have h3 := ((cmn_iff a b (n + 1)).1 hl).2.2
    rw [List.take_succ_eq_append_getElem h1, List.take_succ_eq_append_getElem h2, ((cmn_iff a b n).1 h).2.2] at h3
    simpa using List.append_cancel_left h3
/-- The same, counted from the ends. -/
theorem end_eq_iff {a b : Txt} {n : Nat} (h1 : n < a.length) (h2 : n < b.length) (h : n ≤ cmn a.reverse b.reverse) : a[a.length - 1 - n] = b[b.length - 1 - n] ↔ n < cmn a.reverse b.reverse := by
  have := at_eq_iff (a := a.reverse) (b := b.reverse) (n := n) (by rw [List.length_reverse]; exact h1) (by rw [List.length_reverse]; exact h2) h
  rw [List.getElem_reverse, List.getElem_reverse] at this
  exact this
theorem suf_rev (a b : Txt) : sufOf a b = min (cmn a.reverse b.reverse) (min a.length b.length - preOf a b) := rfl

/-! ### Lines of a string, read from the left -/
theorem parse_end (cur : Txt) : parse cur [] = if cur = [] then some [] else none := by cases cur <;> simp [parse]
theorem parse_feed (cur bs : Txt) : parse cur (10 :: bs) = consO (lineRow cur) (parse [] bs) := by cases cur <;> simp [parse]
theorem parse_byte (cur bs : Txt) {b : UInt8} (h : b ≠ 10) : parse cur (b :: bs) = parse (cur ++ [b]) bs := by cases cur <;> simp [parse, h]
/-- Where the rows of a string stand when some have been read: 'out' are these, 'cur' is what has been read of the next line, 'more' is what is left. -/
def Stands (body : Txt) (out : List Row) (cur more : Txt) : Prop := parse [] body = (parse cur more).map (out ++ ·)
theorem stands_start (body : Txt) : Stands body [] [] body := by
  unfold Stands
  cases parse [] body <;> simp
theorem stands_byte {body : Txt} {out : List Row} {cur more : Txt} {b : UInt8} (h : Stands body out cur (b :: more)) (hb : b ≠ 10) : Stands body out (cur ++ [b]) more := by
  unfold Stands at h ⊢
  rw [h, parse_byte _ _ hb]
theorem stands_feed {body : Txt} {out : List Row} {cur more : Txt} {r : Row} (h : Stands body out cur (10 :: more)) (hr : lineRow cur = some r) : Stands body (out ++ [r]) [] more := by
  unfold Stands at h ⊢
  rw [h, parse_feed, hr]
  show ((parse [] more).map (r :: ·)).map (out ++ ·) = _
  cases parse [] more <;> simp
theorem stands_bad {body : Txt} {out : List Row} {cur more : Txt} (h : Stands body out cur (10 :: more)) (hr : lineRow cur = none) : parse [] body = none := by
  unfold Stands at h
  rw [h, parse_feed, hr]; rfl
theorem stands_end {body : Txt} {out : List Row} {cur : Txt} (h : Stands body out cur []) : parse [] body = if cur = [] then some out else none := by
  unfold Stands at h
  rw [h, parse_end]
  split <;> simp
/-- A whole line at once. -/
theorem stands_line {body : Txt} {out : List Row} {l more : Txt} (h : Stands body out [] (l ++ 10 :: more)) (hl : ∀ b ∈ l, b ≠ 10) : (∀ r, lineRow l = some r → Stands body (out ++ [r]) [] more) ∧ (lineRow l = none → parse [] body = none) := by
  have h2 : parse [] body = (consO (lineRow l) (parse [] more)).map (out ++ ·) := by
    have := h
    unfold Stands at this
    rw [this, parse_line _ _ _ hl, List.nil_append]
  constructor
  · intro r hr
    unfold Stands
    rw [h2, hr]
    show ((parse [] more).map (r :: ·)).map (out ++ ·) = _
    cases parse [] more <;> simp
  · intro hr
    rw [h2, hr]; rfl
/-- A line without an end. -/
theorem stands_open {body : Txt} {out : List Row} {l : Txt} (h : Stands body out [] l) (hl : ∀ b ∈ l, b ≠ 10) (h0 : l ≠ []) : parse [] body = none := by
  have key : ∀ (l cur : Txt), (∀ b ∈ l, b ≠ 10) → parse cur l = if cur ++ l = [] then some [] else none := by
    intro l
    induction l with
    | nil => intro cur _; rw [parse_end, List.append_nil]
    | cons b l ih =>
      intro cur hb
      rw [parse_byte _ _ (hb b (by simp)), ih _ (fun x hx => hb x (by simp [hx]))]
      simp
  unfold Stands at h
  rw [h, key l [] hl, List.nil_append, if_neg h0]; rfl
def letterI (b : UInt8) : Int := match unletter b with
  | some n => n
  | none => -1
theorem line_iff {a b : UInt8} {m : Txt} : lineRow (a :: b :: m) = if 0 ≤ letterI a ∧ 0 ≤ letterI b ∧ isText m = true then some ⟨letterI a, letterI b, m⟩ else none := by
  show mkRow (unletter a) (unletter b) m = _
  unfold letterI
  cases ha : unletter a with
  | none => simp [mkRow]
  | some p =>
    cases hb : unletter b with
    | none => simp [mkRow]
    | some s =>
      rw [mkRow_some]
      by_cases hm : isText m = true
      · rw [if_pos hm, if_pos ⟨by simp, by simp, hm⟩]
      · rw [if_neg hm, if_neg (fun h => hm h.2.2)]
theorem line_short {l : Txt} (h : l.length < 2) : lineRow l = none := by
  match l, h with
  | [], _ => rfl
  | [_], _ => rfl

/-! ### Digits -/
def dec (n : Nat) : Txt := if n < 10 then [UInt8.ofNat (48 + n)] else if n < 100 then [UInt8.ofNat (48 + n / 10), UInt8.ofNat (48 + n % 10)] else three n
theorem three_dec {n : Nat} (h : n < 1000) : three n = List.replicate (3 - (dec n).length) 48 ++ dec n := by
  unfold dec
  by_cases h1 : n < 10
  · rw [if_pos h1]
    have e1 : n / 100 = 0 := by omega
    have e2 : n / 10 % 10 = 0 := by omega
    have e3 : n % 10 = n := by omega
    simp [three, e1, e2, e3, List.replicate]
  · rw [if_neg h1]
    by_cases h2 : n < 100
    · rw [if_pos h2]
      have e1 : n / 100 = 0 := by omega
      have e2 : n / 10 % 10 = n / 10 := by omega
      simp [three, e1, e2]
    · rw [if_neg h2]
      simp [three]
theorem seal_comm (s : Txt) (n : Nat) : s.foldl (fun n c => (31 * n + c.toNat) % 997) n = sealN n s := by
  unfold sealN
  congr
  funext n c
  rw [Nat.mul_comm]

end Se

/-! Plain: the texts that are written, as the bits of a number (layer 14). No program in sight. -/
namespace Se

/-- The numbers of the bits that are set, below n. -/
def bitsL (n mask : Nat) : List Nat := (List.range n).filter fun i => mask.testBit i
theorem mem_bits {n mask i : Nat} : i ∈ bitsL n mask ↔ i < n ∧ mask.testBit i = true := by simp [bitsL]
theorem bits_nodup (n mask : Nat) : (bitsL n mask).Nodup := List.nodup_range.filter _
theorem bits_zero (n : Nat) : bitsL n 0 = [] := by simp [bitsL]
theorem bits_len_le (n mask : Nat) : (bitsL n mask).length ≤ n := by
  have := List.length_filter_le (fun i => mask.testBit i) (List.range n)
  rwa [List.length_range] at this
theorem bits_or {n mask k : Nat} (hk : k < n) (hb : mask.testBit k = false) : (bitsL n (mask ||| 1 <<< k)).Perm (k :: bitsL n mask) := by
  refine (List.perm_ext_iff_of_nodup (bits_nodup _ _) ?_).2 fun i => ?_
  · refine List.nodup_cons.2 ⟨fun hc => ?_, bits_nodup _ _⟩
    have := (mem_bits.1 hc).2
    rw [hb] at this; cases this
  · rw [mem_bits, List.mem_cons, mem_bits, Nat.testBit_or, Nat.one_shiftLeft, Nat.testBit_two_pow]
    simp only [Bool.or_eq_true, decide_eq_true_eq]
    constructor
    · rintro ⟨h1, h2 | h2⟩
      · exact .inr ⟨h1, h2⟩
      · exact .inl h2.symm
    · rintro (h | ⟨h1, h2⟩)
      · exact ⟨by omega, .inr h.symm⟩
      · exact ⟨h1, .inl h2⟩
theorem bits_or_len {n mask k : Nat} (hk : k < n) (hb : mask.testBit k = false) : (bitsL n (mask ||| 1 <<< k)).length = (bitsL n mask).length + 1 := by
  rw [(bits_or hk hb).length_eq]; rfl
theorem bits_lt {n mask k : Nat} (hk : k < n) (hb : mask.testBit k = false) : (bitsL n mask).length < n := by
  have := bits_or_len hk hb
  have := bits_len_le n (mask ||| 1 <<< k)
  omega
theorem or_lt {n mask k : Nat} (hk : k < n) (hm : mask < 2 ^ n) : mask ||| 1 <<< k < 2 ^ n := by
  refine Nat.or_lt_two_pow hm ?_
  rw [Nat.one_shiftLeft]
  exact Nat.pow_lt_pow_right (by omega) hk

theorem fewK_congr {g g' : Nat → Nat} {f f' : List Nat} {n : Nat} (hg : ∀ i, i < n → g i = g' i) (hf : ∀ i, i < n → (i ∈ f ↔ i ∈ f')) : fewK g f n = fewK g' f' n := by
  induction n with
  | zero => rfl
  | succ n ih =>
    have e := ih (fun i hi => hg i (by omega)) (fun i hi => hf i (by omega))
    unfold fewK
    rw [e, hg n (by omega)]
    by_cases h : n ∈ f
    · rw [if_pos h, if_pos ((hf n (by omega)).1 h)]
    · rw [if_neg h, if_neg (fun hc => h ((hf n (by omega)).2 hc))]
theorem restI_congr {ts : List Txt} (m : Nat) {f f' : List Nat} (a : Txt) (hf : ∀ i, i < ts.length → (i ∈ f ↔ i ∈ f')) : restI ts m f a = restI ts m f' a := by
  induction m generalizing f f' a with
  | zero => rfl
  | succ m ih =>
    unfold restI
    congr 1
    refine fewK_congr (fun i hi => ?_) hf
    rw [ih (at_ ts i) (f := i :: f) (f' := i :: f') (fun j hj => by simp only [List.mem_cons]; rw [hf j hj])]
theorem cost_le {a t : Txt} (h : t.length ≤ 48) : cost a t ≤ 51 := by
  unfold cost
  have := mid_len a t
  omega
theorem at_len {ts : List Txt} (h : allT ts) (i : Nat) : (at_ ts i).length ≤ 48 := by
  unfold at_
  by_cases hi : i < ts.length
  · have : ts.getD i [] = ts[i] := by simp [List.getD, hi]
    rw [this]
    exact (isText_iff.1 (h _ (List.getElem_mem hi))).2
  · have : ts.getD i [] = [] := by simp [List.getD, Nat.le_of_not_lt hi]
    rw [this]; simp
theorem fewK_le {g : Nat → Nat} {f : List Nat} {k b : Nat} (h : ∀ i, g i ≤ b) : fewK g f k ≤ b ∧ -1 ≤ fewK g f k := by
  rcases fewK_spec g f k with ⟨e, _⟩ | ⟨h0, ⟨i, _, _, e⟩, _⟩
  · rw [e]; omega
  · have := h i
    omega
theorem restI_bd {ts : List Txt} (h : allT ts) (m : Nat) (f : List Nat) (a : Txt) : restI ts m f a ≤ 51 * m := by
  induction m generalizing f a with
  | zero => exact Nat.le_refl _
  | succ m ih =>
    unfold restI
    have := (fewK_le (g := fun i => cost a (at_ ts i) + restI ts m (i :: f) (at_ ts i)) (f := f) (k := ts.length) (b := 51 * (m + 1)) (fun i => by
      have h1 := cost_le (a := a) (at_len h i)
      have h2 := ih (i :: f) (at_ ts i)
      show cost a (at_ ts i) + restI ts m (i :: f) (at_ ts i) ≤ _
      omega)).1
    omega
/-- The text with a number; none below 0. -/
def lastT (ts : List Txt) (l : Int) : Txt := if l < 0 then [] else at_ ts l.toNat
/-- The fewest bytes of the rows of the texts that are not written, as the bits of a number. -/
def specM (ts : List Txt) (mask : Nat) (l : Int) : Nat := restI ts (ts.length - (bitsL ts.length mask).length) (bitsL ts.length mask) (lastT ts l)
/-- What is reckoned with the k-th text next. -/
def viaM (ts : List Txt) (mask : Nat) (l : Int) (i : Nat) : Nat := cost (lastT ts l) (at_ ts i) + restI ts (ts.length - (bitsL ts.length mask).length - 1) (i :: bitsL ts.length mask) (at_ ts i)
theorem via_next {ts : List Txt} {mask i : Nat} {l : Int} (hi : i < ts.length) (hb : mask.testBit i = false) : viaM ts mask l i = cost (lastT ts l) (at_ ts i) + specM ts (mask ||| 1 <<< i) i := by
  unfold viaM specM
  have h1 := bits_or_len hi hb
  rw [h1, show ts.length - ((bitsL ts.length mask).length + 1) = ts.length - (bitsL ts.length mask).length - 1 by omega]
  have h2 : lastT ts (i : Int) = at_ ts i := by
    unfold lastT
    rw [if_neg (by omega), Int.toNat_natCast]
  rw [h2]
  congr 1
  exact restI_congr _ _ (fun j _ => ((bits_or hi hb).mem_iff).symm)
theorem spec_few (ts : List Txt) (mask : Nat) (l : Int) : (fewK (viaM ts mask l) (bitsL ts.length mask) ts.length).toNat = specM ts mask l := by
  unfold specM
  cases h : ts.length - (bitsL ts.length mask).length with
  | zero =>
    have h2 : ∀ i, i < ts.length → i ∈ bitsL ts.length mask := fun i hi => by
      rw [mem_bits]
      refine ⟨hi, ?_⟩
      cases hb : mask.testBit i with
      | true => rfl
      | false => have := bits_lt hi hb; omega
    rcases fewK_spec (viaM ts mask l) (bitsL ts.length mask) ts.length with ⟨e, _⟩ | ⟨_, ⟨i, hi, hn, _⟩, _⟩
    · rw [e]; rfl
    · exact absurd (h2 i hi) hn
  | succ m =>
    have e : viaM ts mask l = fun i => cost (lastT ts l) (at_ ts i) + restI ts m (i :: bitsL ts.length mask) (at_ ts i) := by
      funext i
      unfold viaM
      rw [h]
      rfl
    rw [e]; rfl
theorem via_le {ts : List Txt} (h : allT ts) (mask : Nat) (l : Int) (i : Nat) : viaM ts mask l i ≤ 51 * (ts.length + 1) := by
  unfold viaM
  have h1 := cost_le (a := lastT ts l) (at_len h i)
  have h2 := restI_bd h (ts.length - (bitsL ts.length mask).length - 1) (i :: bitsL ts.length mask) (at_ ts i)
  have h3 : 51 * (ts.length - (bitsL ts.length mask).length - 1) ≤ 51 * ts.length := Nat.mul_le_mul_left _ (by omega)
  omega
theorem spec_le {ts : List Txt} (h : allT ts) (mask : Nat) (l : Int) : specM ts mask l ≤ 51 * ts.length := by
  unfold specM
  have h2 := restI_bd h (ts.length - (bitsL ts.length mask).length) (bitsL ts.length mask) (lastT ts l)
  have h3 : 51 * (ts.length - (bitsL ts.length mask).length) ≤ 51 * ts.length := Nat.mul_le_mul_left _ (by omega)
  omega
theorem spec_least (ts : List Txt) : specM ts 0 (-1) + 3 = leastN ts := by
  rw [← restI_least]
  unfold specM
  rw [bits_zero]
  rfl

end Se
end Go.Proofs.YtjamemjmdlkpcaaDoor
