/- Plain laws of a text's words: what is a word, where an entry ends, what is refused. -/
namespace Go.Proofs.Ytafminohaofjnaa.Print
set_option linter.unusedVariables false
set_option linter.unusedSimpArgs false
def blankB (c : Int) : Bool := c == 32 || c == 9 || c == 13
def specB (c : Int) : Bool := blankB c || c == 10 || c == 59 || c == 40 || c == 41 || c == 34
/-- how many bytes a quoted word has behind its first quote -/
def qEnd : List Int → Option Nat
  | [] => none
  | [c] => if c = 34 then some 1 else none
  | c :: d :: r => if c = 10 then none else if c = 34 then some 1 else if c = 92 ∧ d ≠ 10 then (qEnd r).map (· + 2) else (qEnd (d :: r)).map (· + 1)
/-- how many bytes of a bare word there are -/
def bLen : List Int → Nat
  | [] => 0
  | [c] => if specB c = true then 0 else 1
  | c :: d :: r => if specB c = true then 0 else if c = 92 ∧ d ≠ 10 then bLen r + 2 else bLen (d :: r) + 1
/-- how many bytes there are up to the line's end -/
def rLen : List Int → Nat
  | [] => 0
  | c :: r => if c = 10 then 0 else rLen r + 1
inductive Tok where
  | word (b e : Nat) (q : Bool)
  | stop (p : Nat)
deriving DecidableEq
abbrev Toks := List Tok × Option (Nat × Int)
def Toks.add (t : Tok) (r : Toks) : Toks := (t :: r.1, r.2)
def lexF : Nat → List Int → Nat → List Nat → Toks
  | 0, _, _, _ => ([], none)
  | _ + 1, [], _, op => ([], op.head?.map fun p => (p, 81))
  | k + 1, c :: r, p, op =>
    if blankB c = true then lexF k r (p + 1) op
    else if c = 10 then (if op = [] then (lexF k r (p + 1) []).add (.stop p) else lexF k r (p + 1) op)
    else if c = 59 then lexF k (r.drop (rLen r)) (p + 1 + rLen r) op
    else if c = 40 then lexF k r (p + 1) (op ++ [p])
    else if c = 41 then (if op = [] then ([], some (p, 81)) else lexF k r (p + 1) op.dropLast)
    else if c = 34 then (match qEnd r with
      | none => ([], some (p, 80))
      | some m => (lexF k (r.drop m) (p + 1 + m) op).add (.word p (p + 1 + m) true))
    else (lexF k (r.drop (bLen (c :: r) - 1)) (p + bLen (c :: r)) op).add (.word p (p + bLen (c :: r)) false)
def lex (l : List Int) (p : Nat) (op : List Nat) : Toks := lexF (l.length + 1) l p op
theorem lexF_mono : ∀ (a b : Nat) (l : List Int) (p : Nat) (op : List Nat), l.length < a → l.length < b → lexF a l p op = lexF b l p op
  | 0, _, _, _, _, h, _ => by omega
  | _ + 1, 0, _, _, _, _, h => by omega
  | a + 1, b + 1, [], _, _, _, _ => rfl
  | a + 1, b + 1, c :: r, p, op, h1, h2 => by
    simp only [List.length_cons] at h1 h2
    have key : ∀ (m q : Nat) (o : List Nat), lexF a (r.drop m) q o = lexF b (r.drop m) q o := fun m q o => lexF_mono a b _ _ _ (by simp; omega) (by simp; omega)
    have k0 : ∀ (q : Nat) (o : List Nat), lexF a r q o = lexF b r q o := fun q o => by simpa using key 0 q o
    simp only [lexF, k0, key]
theorem lexF_lex {k : Nat} {l : List Int} (p : Nat) (op : List Nat) (h : l.length < k) : lexF k l p op = lex l p op := lexF_mono _ _ _ _ _ h (by omega)
theorem lex_nil (p : Nat) (op : List Nat) : lex [] p op = ([], op.head?.map fun p => (p, 81)) := rfl
theorem lex_cons (c : Int) (r : List Int) (p : Nat) (op : List Nat) : lex (c :: r) p op =
    if blankB c = true then lex r (p + 1) op
    else if c = 10 then (if op = [] then (lex r (p + 1) []).add (.stop p) else lex r (p + 1) op)
    else if c = 59 then lex (r.drop (rLen r)) (p + 1 + rLen r) op
    else if c = 40 then lex r (p + 1) (op ++ [p])
    else if c = 41 then (if op = [] then ([], some (p, 81)) else lex r (p + 1) op.dropLast)
    else if c = 34 then (match qEnd r with
      | none => ([], some (p, 80))
      | some m => (lex (r.drop m) (p + 1 + m) op).add (.word p (p + 1 + m) true))
    else (lex (r.drop (bLen (c :: r) - 1)) (p + bLen (c :: r)) op).add (.word p (p + bLen (c :: r)) false) := by
  have key : ∀ (m q : Nat) (o : List Nat), lexF (r.length + 1) (r.drop m) q o = lex (r.drop m) q o := fun m q o => lexF_lex _ _ (by simp; omega)
  have k0 : ∀ (q : Nat) (o : List Nat), lexF (r.length + 1) r q o = lex r q o := fun q o => by simpa using key 0 q o
  show lexF (r.length + 1 + 1) (c :: r) p op = _
  simp only [lexF, k0, key]
/-! one byte more -/
theorem qEnd_cons (c : Int) (r : List Int) : qEnd (c :: r) = if c = 10 then none else if c = 34 then some 1 else if c = 92 ∧ r ≠ [] ∧ r.head? ≠ some 10 then (qEnd r.tail).map (· + 2) else (qEnd r).map (· + 1) := by
  cases r with
  | nil =>
    simp only [qEnd, ne_eq, not_true_eq_false, false_and, and_false, if_false, Option.map_none]
    by_cases h : c = 34
    · subst h; simp
    · simp [h]
  | cons d r =>
    simp only [qEnd, ne_eq, reduceCtorEq, not_false_eq_true, true_and, List.head?_cons, Option.some.injEq, List.tail_cons]
theorem bLen_cons (c : Int) (r : List Int) : bLen (c :: r) = if specB c = true then 0 else if c = 92 ∧ r ≠ [] ∧ r.head? ≠ some 10 then bLen r.tail + 2 else bLen r + 1 := by
  cases r with
  | nil => simp [bLen]
  | cons d r => simp only [bLen, ne_eq, reduceCtorEq, not_false_eq_true, true_and, List.head?_cons, Option.some.injEq, List.tail_cons]
theorem qEnd_le : ∀ (l : List Int) (m : Nat), qEnd l = some m → 1 ≤ m ∧ m ≤ l.length
  | [], m, h => by cases h
  | [c], m, h => by
    simp only [qEnd] at h
    split at h
    · cases h; simp
    · cases h
  | c :: d :: r, m, h => by
    simp only [qEnd] at h
    split at h
    · cases h
    · split at h
      · cases h; simp
      · split at h
        · obtain ⟨k, hk, rfl⟩ := Option.map_eq_some_iff.1 h
          have := qEnd_le r k hk
          simp; omega
        · obtain ⟨k, hk, rfl⟩ := Option.map_eq_some_iff.1 h
          have := qEnd_le (d :: r) k hk
          simp at this ⊢; omega
theorem bLen_le : ∀ (l : List Int), bLen l ≤ l.length
  | [] => by simp [bLen]
  | [c] => by simp only [bLen]; split <;> simp
  | c :: d :: r => by
    simp only [bLen]
    split
    · omega
    · split
      · have := bLen_le r; simp; omega
      · have := bLen_le (d :: r); simp at this ⊢; omega
theorem bLen_pos {c : Int} {r : List Int} (h : specB c = false) : 1 ≤ bLen (c :: r) := by
  rw [bLen_cons, if_neg (by simp [h])]; split <;> omega
theorem rLen_le : ∀ (l : List Int), rLen l ≤ l.length
  | [] => by simp [rLen]
  | c :: r => by
    simp only [rLen]
    split
    · omega
    · have := rLen_le r; simp; omega
/-! places -/
def stepP (x : Int × Int) (c : Int) : Int × Int := if c = 10 then (x.1 + 1, 1) else (x.1, x.2 + 1)
def plF (l : List Int) (x : Int × Int) : Int × Int := l.foldl stepP x
/-- the place of byte p -/
def pl (T : List Int) (p : Nat) : Int × Int := plF (T.take p) (1, 1)
theorem pl_zero (T : List Int) : pl T 0 = (1, 1) := rfl
theorem pl_succ {T : List Int} {p : Nat} {c : Int} (h : T[p]? = some c) : pl T (p + 1) = stepP (pl T p) c := by
  unfold pl plF
  rw [List.take_add_one, h]
  simp
theorem pl_bound (T : List Int) (p : Nat) : 1 ≤ (pl T p).1 ∧ (pl T p).1 ≤ p + 1 ∧ 1 ≤ (pl T p).2 ∧ (pl T p).2 ≤ p + 1 := by
  induction p with
  | zero => simp [pl_zero]
  | succ p ih =>
    cases h : T[p]? with
    | none =>
      have : pl T (p + 1) = pl T p := by
        unfold pl
        rw [List.getElem?_eq_none_iff] at h
        rw [List.take_of_length_le h, List.take_of_length_le (by omega)]
      rw [this]; omega
    | some c =>
      rw [pl_succ h]
      unfold stepP
      split <;> simp <;> omega
/-- no line's end among the bytes from p on, n of them -/
theorem pl_line {T : List Int} {p n : Nat} (h : ∀ c ∈ (T.drop p).take n, c ≠ 10) (hn : p + n ≤ T.length) : pl T (p + n) = ((pl T p).1, (pl T p).2 + n) := by
  induction n with
  | zero => simp
  | succ n ih =>
    have hlt : p + n < T.length := by omega
    have ih := ih (fun c hc => h c (by
      rw [List.take_add_one]; exact List.mem_append_left _ hc)) (by omega)
    have hc : T[p + n]? = some T[p + n] := List.getElem?_eq_getElem hlt
    have hne : T[p + n] ≠ 10 := h _ (by
      rw [List.take_add_one, List.getElem?_drop, hc]; simp)
    rw [← Nat.add_assoc, pl_succ hc, ih]
    unfold stepP
    rw [if_neg hne]
    simp; omega
theorem blank_ne {c : Int} (h : blankB c = true) : c ≠ 10 := by
  unfold blankB at h; simp at h; omega
theorem spec_ne {c : Int} (h : specB c = false) : c ≠ 10 := by
  unfold specB at h; simp at h; omega
theorem bLen_line : ∀ (l : List Int), ∀ c ∈ l.take (bLen l), c ≠ 10
  | [], c, h => by simp at h
  | [x], c, h => by
    simp only [bLen] at h
    split at h
    · simp at h
    · rename_i hs
      simp at h; subst h
      exact spec_ne (by simpa using hs)
  | x :: d :: r, c, h => by
    simp only [bLen] at h
    split at h
    · simp at h
    · rename_i hs
      split at h
      · rename_i hd
        rw [List.take_succ_cons, List.take_succ_cons] at h
        rcases List.mem_cons.1 h with rfl | h
        · exact spec_ne (by simpa using hs)
        · rcases List.mem_cons.1 h with rfl | h
          · exact hd.2
          · exact bLen_line r c h
      · rw [List.take_succ_cons] at h
        rcases List.mem_cons.1 h with rfl | h
        · exact spec_ne (by simpa using hs)
        · exact bLen_line (d :: r) c h
theorem qEnd_line : ∀ (l : List Int) (m : Nat), qEnd l = some m → ∀ c ∈ l.take m, c ≠ 10
  | [], m, hm, c, h => by cases hm
  | [x], m, hm, c, h => by
    simp only [qEnd] at hm
    split at hm
    · cases hm; simp at h; omega
    · cases hm
  | x :: d :: r, m, hm, c, h => by
    simp only [qEnd] at hm
    split at hm
    · cases hm
    · rename_i h10
      split at hm
      · cases hm; simp at h; omega
      · split at hm
        · rename_i hd
          obtain ⟨k, hk, rfl⟩ := Option.map_eq_some_iff.1 hm
          rw [List.take_succ_cons, List.take_succ_cons] at h
          rcases List.mem_cons.1 h with rfl | h
          · exact h10
          · rcases List.mem_cons.1 h with rfl | h
            · exact hd.2
            · exact qEnd_line r k hk c h
        · obtain ⟨k, hk, rfl⟩ := Option.map_eq_some_iff.1 hm
          rw [List.take_succ_cons] at h
          rcases List.mem_cons.1 h with rfl | h
          · exact h10
          · exact qEnd_line (d :: r) k hk c h
theorem rLen_line : ∀ (l : List Int), ∀ c ∈ l.take (rLen l), c ≠ 10
  | [], c, h => by simp at h
  | x :: r, c, h => by
    simp only [rLen] at h
    split at h
    · simp at h
    · rename_i hx
      rw [List.take_succ_cons] at h
      rcases List.mem_cons.1 h with rfl | h
      · exact hx
      · exact rLen_line r c h
end Go.Proofs.Ytafminohaofjnaa.Print
