/- One text behind another: what is told of both, in plain words. -/
import Derived.Test.YtafminohaofjnaaXPlace
namespace Go.Proofs.Ytafminohaofjnaa.Print
open Go.RowKit Go.Proofs.YtafminohaofjnaaW.PrintWords Go.Proofs.YtafminohaofjnaaW.PrintLast Go.Proofs.YtafminohaofjnaaW.PrintMore
set_option linter.unusedVariables false
set_option linter.unusedSimpArgs false
/-! a line's end behind a text -/
theorem qEnd_app (m : List Int) : ∀ (n : Nat) (l : List Int), l.length ≤ n → qEnd (l ++ 10 :: m) = qEnd l
  | _, [], _ => by rw [List.nil_append, qEnd_cons, if_pos rfl]; rfl
  | 0, c :: r, h => by simp at h
  | n + 1, c :: r, h => by
    simp only [List.length_cons] at h
    have ih := qEnd_app m n r (by omega)
    rw [List.cons_append, qEnd_cons, qEnd_cons]
    cases r with
    | nil =>
      have e : qEnd (10 :: m) = none := by rw [qEnd_cons, if_pos rfl]
      simp only [List.nil_append, List.head?_cons, ne_eq, not_true_eq_false, and_false, false_and, if_false, reduceCtorEq, not_false_eq_true, e, qEnd, Option.map_none]
    | cons d r =>
      simp only [List.length_cons] at h
      have ih2 := qEnd_app m n r (by omega)
      simp only [List.cons_append, List.head?_cons, ne_eq, reduceCtorEq, not_false_eq_true, true_and, List.tail_cons] at ih ⊢
      rw [ih, ih2]
theorem bLen_app (m : List Int) : ∀ (n : Nat) (l : List Int), l.length ≤ n → bLen (l ++ 10 :: m) = bLen l
  | _, [], _ => by rw [List.nil_append, bLen_cons, if_pos (by rfl)]; rfl
  | 0, c :: r, h => by simp at h
  | n + 1, c :: r, h => by
    simp only [List.length_cons] at h
    have ih := bLen_app m n r (by omega)
    rw [List.cons_append, bLen_cons, bLen_cons]
    cases r with
    | nil =>
      have e : bLen (10 :: m) = 0 := by rw [bLen_cons, if_pos (by rfl)]
      simp only [List.nil_append, List.head?_cons, ne_eq, not_true_eq_false, and_false, false_and, if_false, reduceCtorEq, not_false_eq_true, e, bLen]
    | cons d r =>
      simp only [List.length_cons] at h
      have ih2 := bLen_app m n r (by omega)
      simp only [List.cons_append, List.head?_cons, ne_eq, reduceCtorEq, not_false_eq_true, true_and, List.tail_cons] at ih ⊢
      rw [ih, ih2]
theorem rLen_app (m : List Int) : ∀ (l : List Int), rLen (l ++ 10 :: m) = rLen l
  | [] => by simp [rLen]
  | c :: r => by simp only [List.cons_append, rLen, rLen_app m r]
/-- what is told of a text, and of it with a line's end and more behind it -/
def Tailed (l : List Int) (p : Nat) (op : List Nat) : Prop :=
  (∃ t x, lex l p op = (t, some x) ∧ ∀ m, lex (l ++ 10 :: m) p op = (t, some x)) ∨
  (∃ t o, lex l p op = (t, o.head?.map fun q => (q, 81)) ∧ ∀ m, lex (l ++ 10 :: m) p op = (t ++ (lex (10 :: m) (p + l.length) o).1, (lex (10 :: m) (p + l.length) o).2))
theorem Tailed.step {l l' : List Int} {p p' : Nat} {op op' : List Nat} (h : Tailed l' p' op') (hp : p' + l'.length = p + l.length) (ts : List Tok)
    (e1 : lex l p op = (ts ++ (lex l' p' op').1, (lex l' p' op').2)) (e2 : ∀ m, lex (l ++ 10 :: m) p op = (ts ++ (lex (l' ++ 10 :: m) p' op').1, (lex (l' ++ 10 :: m) p' op').2)) : Tailed l p op := by
  rcases h with ⟨t, x, h1, h2⟩ | ⟨t, o, h1, h2⟩
  · exact Or.inl ⟨ts ++ t, x, by rw [e1, h1], fun m => by rw [e2, h2]⟩
  · exact Or.inr ⟨ts ++ t, o, by rw [e1, h1], fun m => by rw [e2, h2, hp, List.append_assoc]⟩
theorem lex_tail : ∀ (n : Nat) (l : List Int) (p : Nat) (op : List Nat), l.length ≤ n → Tailed l p op
  | _, [], p, op, _ => Or.inr ⟨[], op, lex_nil p op, fun m => by simp⟩
  | 0, c :: r, p, op, h => by simp at h
  | n + 1, c :: r, p, op, h => by
    simp only [List.length_cons] at h
    have hr := rLen_le r
    have hb := bLen_le (c :: r)
    simp only [List.length_cons] at hb
    have k0 : ∀ (o : List Nat), Tailed r (p + 1) o := fun o => lex_tail n r (p + 1) o (by omega)
    have key : ∀ (k q : Nat) (o : List Nat), Tailed (r.drop k) q o := fun k q o => lex_tail n (r.drop k) q o (by simp; omega)
    have hd : ∀ (k : Nat) (m : List Int), k ≤ r.length → (r ++ 10 :: m).drop k = r.drop k ++ 10 :: m := fun k m hk => by
      rw [List.drop_append_of_le_length hk]
    by_cases h1 : blankB c = true
    · exact (k0 op).step (by simp; omega) [] (by rw [lex_cons, if_pos h1]; rfl) (fun m => by rw [List.cons_append, lex_cons, if_pos h1]; rfl)
    by_cases h2 : c = 10
    · by_cases h3 : op = []
      · exact (k0 []).step (by simp; omega) [.stop p] (by rw [lex_cons, if_neg h1, if_pos h2, if_pos h3]; rfl) (fun m => by rw [List.cons_append, lex_cons, if_neg h1, if_pos h2, if_pos h3]; rfl)
      · exact (k0 op).step (by simp; omega) [] (by rw [lex_cons, if_neg h1, if_pos h2, if_neg h3]; rfl) (fun m => by rw [List.cons_append, lex_cons, if_neg h1, if_pos h2, if_neg h3]; rfl)
    by_cases h3 : c = 59
    · refine (key (rLen r) (p + 1 + rLen r) op).step (by simp; omega) [] (by rw [lex_cons, if_neg h1, if_neg h2, if_pos h3]; rfl) (fun m => ?_)
      rw [List.cons_append, lex_cons, if_neg h1, if_neg h2, if_pos h3, rLen_app, hd _ _ hr]; rfl
    by_cases h4 : c = 40
    · exact (k0 _).step (by simp; omega) [] (by rw [lex_cons, if_neg h1, if_neg h2, if_neg h3, if_pos h4]; rfl) (fun m => by rw [List.cons_append, lex_cons, if_neg h1, if_neg h2, if_neg h3, if_pos h4]; rfl)
    by_cases h5 : c = 41
    · by_cases h6 : op = []
      · exact Or.inl ⟨[], (p, 81), by rw [lex_cons, if_neg h1, if_neg h2, if_neg h3, if_neg h4, if_pos h5, if_pos h6], fun m => by rw [List.cons_append, lex_cons, if_neg h1, if_neg h2, if_neg h3, if_neg h4, if_pos h5, if_pos h6]⟩
      · exact (k0 _).step (by simp; omega) [] (by rw [lex_cons, if_neg h1, if_neg h2, if_neg h3, if_neg h4, if_pos h5, if_neg h6]; rfl) (fun m => by rw [List.cons_append, lex_cons, if_neg h1, if_neg h2, if_neg h3, if_neg h4, if_pos h5, if_neg h6]; rfl)
    by_cases h6 : c = 34
    · have hq := fun m => qEnd_app m r.length r (Nat.le_refl _)
      cases hm : qEnd r with
      | none => exact Or.inl ⟨[], (p, 80), by rw [lex_cons, if_neg h1, if_neg h2, if_neg h3, if_neg h4, if_neg h5, if_pos h6, hm], fun m => by rw [List.cons_append, lex_cons, if_neg h1, if_neg h2, if_neg h3, if_neg h4, if_neg h5, if_pos h6, hq, hm]⟩
      | some k =>
        have hk := qEnd_le r k hm
        refine (key k (p + 1 + k) op).step (by simp; omega) [.word p (p + 1 + k) true] (by rw [lex_cons, if_neg h1, if_neg h2, if_neg h3, if_neg h4, if_neg h5, if_pos h6, hm]; rfl) (fun m => ?_)
        rw [List.cons_append, lex_cons, if_neg h1, if_neg h2, if_neg h3, if_neg h4, if_neg h5, if_pos h6, hq, hm]
        simp only
        rw [hd _ _ hk.2]; rfl
    · have hs : specB c = false := by
        unfold specB
        simp only [Bool.or_eq_false_iff, beq_eq_false_iff_ne, ne_eq]
        exact ⟨⟨⟨⟨⟨by simpa using h1, h2⟩, h3⟩, h4⟩, h5⟩, h6⟩
      have hbp := bLen_pos (r := r) hs
      refine (key (bLen (c :: r) - 1) (p + bLen (c :: r)) op).step (by simp; omega) [.word p (p + bLen (c :: r)) false] (by rw [lex_cons, if_neg h1, if_neg h2, if_neg h3, if_neg h4, if_neg h5, if_neg h6]; rfl) (fun m => ?_)
      have hba := bLen_app m (c :: r).length (c :: r) (Nat.le_refl _)
      rw [List.cons_append] at hba
      rw [List.cons_append, lex_cons, if_neg h1, if_neg h2, if_neg h3, if_neg h4, if_neg h5, if_neg h6, hba, hd _ _ (by omega)]; rfl
/-! the same text, further behind -/
def Tok.up (d : Nat) : Tok → Tok
  | .word b e q => .word (b + d) (e + d) q
  | .stop p => .stop (p + d)
def Toks.up (d : Nat) (t : Toks) : Toks := (t.1.map (Tok.up d), t.2.map fun y => (y.1 + d, y.2))
theorem Toks.up_add (d : Nat) (t : Tok) (r : Toks) : Toks.up d (Toks.add t r) = Toks.add (Tok.up d t) (Toks.up d r) := rfl
theorem lex_up (d : Nat) : ∀ (n : Nat) (l : List Int) (p : Nat) (op : List Nat), l.length ≤ n → lex l (p + d) (op.map (· + d)) = Toks.up d (lex l p op)
  | _, [], p, op, _ => by
    rw [lex_nil, lex_nil]
    unfold Toks.up
    cases op <;> rfl
  | 0, c :: r, p, op, h => by simp at h
  | n + 1, c :: r, p, op, h => by
    simp only [List.length_cons] at h
    have k0 : ∀ (o : List Nat), lex r (p + d + 1) (o.map (· + d)) = Toks.up d (lex r (p + 1) o) := fun o => by
      have := lex_up d n r (p + 1) o (by omega)
      rw [show p + 1 + d = p + d + 1 by omega] at this; exact this
    have key : ∀ (k q : Nat) (o : List Nat), lex (r.drop k) (q + d) (o.map (· + d)) = Toks.up d (lex (r.drop k) q o) := fun k q o => lex_up d n (r.drop k) q o (by simp; omega)
    have hnil : (op.map (· + d) = []) ↔ op = [] := by simp
    rw [lex_cons, lex_cons]
    by_cases h1 : blankB c = true
    · rw [if_pos h1, if_pos h1, k0]
    rw [if_neg h1, if_neg h1]
    by_cases h2 : c = 10
    · rw [if_pos h2, if_pos h2]
      by_cases h3 : op = []
      · subst h3
        have := k0 []
        rw [if_pos (by rfl), if_pos rfl, Toks.up_add, ← this]; rfl
      · rw [if_neg (by rw [hnil]; exact h3), if_neg h3, k0]
    rw [if_neg h2, if_neg h2]
    by_cases h3 : c = 59
    · rw [if_pos h3, if_pos h3, ← key, show p + d + 1 + rLen r = p + 1 + rLen r + d by omega]
    rw [if_neg h3, if_neg h3]
    by_cases h4 : c = 40
    · rw [if_pos h4, if_pos h4, ← k0]; simp
    rw [if_neg h4, if_neg h4]
    by_cases h5 : c = 41
    · rw [if_pos h5, if_pos h5]
      by_cases h6 : op = []
      · subst h6; rfl
      · rw [if_neg (by rw [hnil]; exact h6), if_neg h6, ← k0, List.map_dropLast]
    rw [if_neg h5, if_neg h5]
    by_cases h6 : c = 34
    · rw [if_pos h6, if_pos h6]
      cases hm : qEnd r with
      | none => rfl
      | some k =>
        simp only
        rw [Toks.up_add, ← key]
        simp only [Tok.up]
        rw [show p + d + 1 + k = p + 1 + k + d by omega]
    rw [if_neg h6, if_neg h6, Toks.up_add, ← key]
    simp only [Tok.up]
    rw [show p + d + bLen (c :: r) = p + bLen (c :: r) + d by omega]
/-! places -/
theorem plF_up (n : Int) : ∀ (l : List Int) (x : Int × Int), plF l (x.1 + n, x.2) = ((plF l x).1 + n, (plF l x).2)
  | [], x => rfl
  | c :: r, x => by
    have h : stepP (x.1 + n, x.2) c = ((stepP x c).1 + n, (stepP x c).2) := by
      unfold stepP
      split
      · simp only [Prod.mk.injEq, and_true]; omega
      · rfl
    show plF r (stepP (x.1 + n, x.2) c) = _
    rw [h, plF_up n r (stepP x c)]; rfl
theorem plF_append (l m : List Int) (x : Int × Int) : plF (l ++ m) x = plF m (plF l x) := by unfold plF; rw [List.foldl_append]
def linesP (l : List Int) : Int := l.foldl (fun n c => if c = 10 then n + 1 else n) 0
theorem lines_from : ∀ (l : List Int) (x : Int × Int), (plF l x).1 = x.1 + linesP l ∧ ∀ k : Int, l.foldl (fun n c => if c = 10 then n + 1 else n) k = k + linesP l
  | [], x => by simp [plF, linesP]
  | c :: r, x => by
    obtain ⟨h1, h2⟩ := lines_from r (stepP x c)
    refine ⟨?_, fun k => ?_⟩
    · show (plF r (stepP x c)).1 = _
      have e : linesP (c :: r) = (if c = 10 then (0 : Int) + 1 else 0) + linesP r := h2 _
      rw [h1, e]
      unfold stepP
      split <;> simp only <;> omega
    · have e : linesP (c :: r) = (if c = 10 then (0 : Int) + 1 else 0) + linesP r := h2 _
      rw [List.foldl_cons, h2, e]
      split <;> omega
section
variable (A B : List Int)
theorem pl_first {p : Nat} (h : p ≤ A.length) : pl (A ++ 10 :: B) p = pl A p := by
  unfold pl
  rw [List.take_append_of_le_length h]
theorem pl_second (q : Nat) : pl (A ++ 10 :: B) (q + (A.length + 1)) = ((pl B q).1 + (linesP A + 1), (pl B q).2) := by
  unfold pl
  rw [show q + (A.length + 1) = A.length + (q + 1) by omega, List.take_length_add_append, plF_append, List.take_succ_cons]
  show plF (B.take q) (stepP (plF A (1, 1)) 10) = _
  have h1 := (lines_from A (1, 1)).1
  have h2 : stepP (plF A (1, 1)) 10 = (1 + (linesP A + 1), 1) := by
    unfold stepP
    rw [if_pos rfl, h1]
    simp only [Prod.mk.injEq, and_true]; omega
  rw [h2]
  exact plF_up (linesP A + 1) (B.take q) (1, 1)
theorem getD_first {p : Nat} (h : p < A.length) : (A ++ 10 :: B).getD p 0 = A.getD p 0 := by
  simp only [List.getD_eq_getElem?_getD]
  rw [List.getElem?_append_left h]
theorem getD_second (q : Nat) : (A ++ 10 :: B).getD (q + (A.length + 1)) 0 = B.getD q 0 := by
  simp only [List.getD_eq_getElem?_getD]
  rw [List.getElem?_append_right (by omega), show q + (A.length + 1) - A.length = q + 1 by omega, List.getElem?_cons_succ]
end
/-! entries -/
def wUp (n : Int) (w : S23) : S23 := ⟨w.f0, w.f1, w.f2 + n, w.f3⟩
def eUp (n : Int) (e : S45) : S45 := ⟨e.f0, e.f1 + n, e.f2.map (wUp n)⟩
/-- what is laid by words and ends, up to here -/
def run (s : ByteArray) (T : List Int) : List Tok → Nat → List S23 → List S45 → Nat × List S23 × List S45
  | [], p, ws, out => (p, ws, out)
  | .stop q :: r, p, ws, out => run s T r (q + 1) [] (closeE T p ws out)
  | .word b e q :: r, p, ws, out => run s T r p (ws ++ [wordOf s T b e q]) out
theorem finish_run (s : ByteArray) (T : List Int) (x : Option (Nat × Int)) (u : List Tok) : ∀ (t : List Tok) (p : Nat) (ws : List S23) (out : List S45),
    finish s T x (t ++ u) p ws out = finish s T x u (run s T t p ws out).1 (run s T t p ws out).2.1 (run s T t p ws out).2.2
  | [], p, ws, out => rfl
  | .stop q :: r, p, ws, out => finish_run s T x u r (q + 1) [] _
  | .word b e q :: r, p, ws, out => finish_run s T x u r p _ out
theorem finish_none (s : ByteArray) (T : List Int) (t : List Tok) (p : Nat) (ws : List S23) (out : List S45) :
    finish s T none t p ws out = (closeE T (run s T t p ws out).1 (run s T t p ws out).2.1 (run s T t p ws out).2.2, 0, 0, 0) := by
  have h := finish_run s T none [] t p ws out
  rw [List.append_nil] at h
  rw [h]; rfl
theorem bo_append (a b : ByteArray) : bytesOf (a ++ b) = bytesOf a ++ bytesOf b := by
  unfold bytesOf
  rw [ByteArray.data_append, Array.toList_append, List.map_append]
theorem bo_inj {a b : ByteArray} (h : bytesOf a = bytesOf b) : a = b := by
  have h1 : a.data.toList = b.data.toList := by
    unfold bytesOf at h
    exact (List.map_inj_right (fun x y hxy => UInt8.toNat_inj.1 (Int.ofNat_inj.1 hxy))).1 h
  have h2 : a.data = b.data := Array.toList_inj.1 h1
  cases a; cases b
  simpa using h2
theorem bo_extract (s : ByteArray) (i j : Nat) : bytesOf (s.extract i j) = ((bytesOf s).take j).drop i := by
  unfold bytesOf
  rw [ByteArray.data_extract, Array.toList_extract, List.extract_eq_take_drop]
  rw [List.map_take, List.map_drop, List.drop_take]
section
variable (a b : ByteArray)
/-- both texts, a line's end between them -/
def both (a b : ByteArray) : ByteArray := a ++ (⟨#[10]⟩ : ByteArray) ++ b
theorem both_bytes : bytesOf (both a b) = bytesOf a ++ 10 :: bytesOf b := by
  unfold both
  rw [bo_append, bo_append, List.append_assoc]; rfl
theorem ext_first {i j : Nat} (h : j ≤ a.size) : (both a b).extract i j = a.extract i j := by
  refine bo_inj ?_
  rw [bo_extract, bo_extract, both_bytes, List.take_append_of_le_length (by rw [bytesOf_length]; exact h)]
theorem ext_second (i j : Nat) : (both a b).extract (i + (a.size + 1)) (j + (a.size + 1)) = b.extract i j := by
  refine bo_inj ?_
  have hl : (bytesOf a ++ [10]).length = a.size + 1 := by rw [List.length_append, bytesOf_length]; rfl
  rw [bo_extract, bo_extract, both_bytes, show bytesOf a ++ 10 :: bytesOf b = (bytesOf a ++ [10]) ++ bytesOf b by simp, ← hl, Nat.add_comm i, Nat.add_comm j, List.take_length_add_append, List.drop_length_add_append]
theorem word_first {i j : Nat} (q : Bool) (h : j ≤ a.size) (hi : i ≤ a.size) : wordOf (both a b) (bytesOf (both a b)) i j q = wordOf a (bytesOf a) i j q := by
  unfold wordOf
  rw [both_bytes, pl_first _ _ (by rw [bytesOf_length]; exact hi), ext_first a b h, ext_first a b (by omega)]
theorem word_second (i j : Nat) (q : Bool) (hj : q = true → i + 2 ≤ j) : wordOf (both a b) (bytesOf (both a b)) (i + (a.size + 1)) (j + (a.size + 1)) q = wUp (linesP (bytesOf a) + 1) (wordOf b (bytesOf b) i j q) := by
  have hp := pl_second (bytesOf a) (bytesOf b) i
  rw [bytesOf_length] at hp
  unfold wordOf wUp
  simp only
  rw [both_bytes, hp]
  cases q with
  | false =>
    simp only [Bool.false_eq_true, if_false]
    rw [ext_second]
  | true =>
    have := hj rfl
    simp only [if_true]
    rw [show i + (a.size + 1) + 1 = i + 1 + (a.size + 1) by omega, show j + (a.size + 1) - 1 = j - 1 + (a.size + 1) by omega, ext_second]
theorem close_first {p : Nat} {ws : List S23} {out : List S45} (h : ws ≠ [] → p < a.size) : closeE (bytesOf (both a b)) p ws out = closeE (bytesOf a) p ws out := by
  unfold closeE
  cases ws with
  | nil => rfl
  | cons w ws =>
    have hp := h (by simp)
    simp only [List.isEmpty_cons, Bool.false_eq_true, if_false]
    unfold entOf
    rw [both_bytes, pl_first _ _ (by rw [bytesOf_length]; omega), getD_first _ _ (by rw [bytesOf_length]; omega)]
theorem close_second (p : Nat) (ws : List S23) (o1 out : List S45) : closeE (bytesOf (both a b)) (p + (a.size + 1)) (ws.map (wUp (linesP (bytesOf a) + 1))) (o1 ++ out.map (eUp (linesP (bytesOf a) + 1))) = o1 ++ (closeE (bytesOf b) p ws out).map (eUp (linesP (bytesOf a) + 1)) := by
  have hp := pl_second (bytesOf a) (bytesOf b) p
  have hg := getD_second (bytesOf a) (bytesOf b) p
  rw [bytesOf_length] at hp hg
  unfold closeE
  cases ws with
  | nil => rfl
  | cons w ws =>
    simp only [List.map_cons, List.isEmpty_cons, Bool.false_eq_true, if_false, List.map_append, List.map_nil, List.append_assoc]
    unfold entOf eUp
    rw [both_bytes, hp, hg]
    simp
theorem run_first : ∀ (t : List Tok) (lo p : Nat) (ws : List S23) (out : List S45), ToksOK (bytesOf a) lo t → (ws ≠ [] → p < a.size) → p ≤ lo →
    run (both a b) (bytesOf (both a b)) t p ws out = run a (bytesOf a) t p ws out
  | [], lo, p, ws, out, _, _, _ => rfl
  | .stop q :: r, lo, p, ws, out, ht, hw, hp => by
    obtain ⟨h1, h2, h3⟩ := ht
    have hq : q < a.size := by
      have := (List.getElem?_eq_some_iff.1 h2).1
      rwa [bytesOf_length] at this
    unfold run
    rw [close_first a b hw]
    exact run_first r (q + 1) (q + 1) [] _ h3 (fun h => absurd rfl h) (Nat.le_refl _)
  | .word i j q :: r, lo, p, ws, out, ht, hw, hp => by
    obtain ⟨h1, h2, h3, h4, h5⟩ := ht
    rw [bytesOf_length] at h3
    unfold run
    rw [word_first a b q h3 (by omega)]
    exact run_first r j p _ out h5 (fun _ => by omega) (by omega)
theorem run_second : ∀ (t : List Tok) (lo p : Nat) (ws : List S23) (o1 out : List S45), ToksOK (bytesOf b) lo t →
    run (both a b) (bytesOf (both a b)) (t.map (Tok.up (a.size + 1))) (p + (a.size + 1)) (ws.map (wUp (linesP (bytesOf a) + 1))) (o1 ++ out.map (eUp (linesP (bytesOf a) + 1))) =
      ((run b (bytesOf b) t p ws out).1 + (a.size + 1), (run b (bytesOf b) t p ws out).2.1.map (wUp (linesP (bytesOf a) + 1)), o1 ++ (run b (bytesOf b) t p ws out).2.2.map (eUp (linesP (bytesOf a) + 1)))
  | [], lo, p, ws, o1, out, _ => rfl
  | .stop q :: r, lo, p, ws, o1, out, ht => by
    obtain ⟨h1, h2, h3⟩ := ht
    have ih := run_second r (q + 1) (q + 1) [] o1 (closeE (bytesOf b) p ws out) h3
    rw [List.map_cons]
    simp only [Tok.up, run]
    rw [close_second, ← ih, show q + (a.size + 1) + 1 = q + 1 + (a.size + 1) by omega]; rfl
  | .word i j q :: r, lo, p, ws, o1, out, ht => by
    obtain ⟨h1, h2, h3, h4, h5⟩ := ht
    have ih := run_second r j p (ws ++ [wordOf b (bytesOf b) i j q]) o1 out h5
    rw [List.map_cons]
    simp only [Tok.up, run]
    rw [word_second a b i j q (fun h => (h4 h).2.2), ← ih, List.map_append]; rfl
/-- the first text has a word that is not closed, or a ) that closes nothing: so have both -/
theorem tail_err (t : List Tok) (x : Nat × Int) (h : lex (bytesOf a) 0 [] = (t, some x)) (hm : lex (bytesOf a ++ 10 :: bytesOf b) 0 [] = (t, some x)) : fin (both a b) (lex (bytesOf (both a b)) 0 []) 0 [] [] = fin a (lex (bytesOf a) 0 []) 0 [] [] := by
  have hx := lex_err _ (bytesOf a) 0 [] x (Nat.le_refl _) (by simp) (by rw [h])
  rw [bytesOf_length] at hx
  unfold fin
  rw [both_bytes, hm, h]
  simp only
  rw [finish_err, finish_err, pl_first _ _ (by rw [bytesOf_length]; omega)]
theorem tail_ok (t : List Tok) (h : lex (bytesOf a) 0 [] = (t, none)) (hm : ∀ m, lex (bytesOf a ++ 10 :: m) 0 [] = (t ++ (lex (10 :: m) (0 + (bytesOf a).length) []).1, (lex (10 :: m) (0 + (bytesOf a).length) []).2)) :
    fin (both a b) (lex (bytesOf (both a b)) 0 []) 0 [] [] = (match (lex (bytesOf b) 0 []).2 with
      | some y => ([], (fin b (lex (bytesOf b) 0 []) 0 [] []).2.1 + (linesP (bytesOf a) + 1), (fin b (lex (bytesOf b) 0 []) 0 [] []).2.2.1, (fin b (lex (bytesOf b) 0 []) 0 [] []).2.2.2)
      | none => ((fin a (lex (bytesOf a) 0 []) 0 [] []).1 ++ (fin b (lex (bytesOf b) 0 []) 0 [] []).1.map (eUp (linesP (bytesOf a) + 1)), 0, 0, 0)) := by
  have hs : lex (10 :: bytesOf b) (0 + (bytesOf a).length) [] = Toks.add (.stop a.size) (Toks.up (a.size + 1) (lex (bytesOf b) 0 [])) := by
    have hu := lex_up (a.size + 1) _ (bytesOf b) 0 [] (Nat.le_refl _)
    rw [lex_cons, if_neg (by decide), if_pos rfl, if_pos rfl, bytesOf_length, Nat.zero_add, ← hu, Nat.zero_add]; rfl
  have hto := lex_ok (bytesOf a) _ (bytesOf a) 0 [] (Nat.le_refl _) rfl
  have htb := lex_ok (bytesOf b) _ (bytesOf b) 0 [] (Nat.le_refl _) rfl
  rw [h] at hto
  have hmb := hm (bytesOf b)
  rw [hs] at hmb
  unfold fin
  rw [both_bytes, hmb, h]
  rw [← both_bytes]
  generalize lex (bytesOf b) 0 [] = L at htb ⊢
  obtain ⟨u, y⟩ := L
  simp only [Toks.up, Toks.add] at htb ⊢
  rw [finish_run, run_first a b t 0 0 [] [] hto (fun h => absurd rfl h) (Nat.le_refl _)]
  simp only [finish]
  rw [finish_none]
  have hr : ∀ (p : Nat) (ws : List S23), run a (bytesOf a) t 0 [] [] = run a (bytesOf a) t 0 [] [] := fun _ _ => rfl
  have hw : ∀ (t : List Tok) (lo p : Nat) (ws : List S23) (out : List S45), ToksOK (bytesOf a) lo t → (ws ≠ [] → p < a.size) → p ≤ lo → ((run a (bytesOf a) t p ws out).2.1 ≠ [] → (run a (bytesOf a) t p ws out).1 < a.size) := by
    intro t
    induction t with
    | nil => intro lo p ws out _ h _; exact h
    | cons c r ih =>
      intro lo p ws out ht h hp
      cases c with
      | stop q =>
        obtain ⟨h1, h2, h3⟩ := ht
        exact ih (q + 1) (q + 1) [] _ h3 (fun h => absurd rfl h) (Nat.le_refl _)
      | word i j q =>
        obtain ⟨h1, h2, h3, h4, h5⟩ := ht
        rw [bytesOf_length] at h3
        exact ih j p _ out h5 (fun _ => by omega) (by omega)
  rw [close_first a b (hw t 0 0 [] [] hto (fun h => absurd rfl h) (Nat.le_refl _))]
  generalize closeE (bytesOf a) (run a (bytesOf a) t 0 [] []).1 (run a (bytesOf a) t 0 [] []).2.1 (run a (bytesOf a) t 0 [] []).2.2 = o1
  have r2 := run_second a b u 0 0 [] o1 [] htb
  simp only [List.map_nil, List.append_nil, Nat.zero_add] at r2
  cases y with
  | none =>
    simp only [Option.map_none]
    rw [finish_none, finish_none, r2]
    simp only
    rw [close_second]
  | some y =>
    simp only [Option.map_some]
    rw [finish_err, finish_err]
    have hp := pl_second (bytesOf a) (bytesOf b) y.1
    rw [bytesOf_length] at hp
    simp only
    rw [both_bytes, hp]
end
end Go.Proofs.Ytafminohaofjnaa.Print
