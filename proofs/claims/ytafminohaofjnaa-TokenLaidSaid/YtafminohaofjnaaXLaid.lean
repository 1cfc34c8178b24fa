/- What is laid is told: how a laid text is read, in plain words. -/
import Derived.Test.YtafminohaofjnaaXTail
namespace Go.Proofs.Ytafminohaofjnaa.Print
open Go.RowKit Go.Proofs.YtafminohaofjnaaW.PrintWords Go.Proofs.YtafminohaofjnaaW.PrintLast Go.Proofs.YtafminohaofjnaaW.PrintMore
set_option linter.unusedVariables false
set_option linter.unusedSimpArgs false
/-- a byte of a word, as it is laid -/
def escB (q : Bool) (c : Int) : List Int :=
  if c = 10 then [92, 48, 49, 48] else if c = 34 ∨ c = 92 ∨ ((blankB c = true ∨ c = 59 ∨ c = 40 ∨ c = 41) ∧ q = false) then [92, c] else [c]
def standsP (q : Bool) (l : List Int) : List Int := l.flatMap (escB q)
theorem standsP_cons (q : Bool) (c : Int) (l : List Int) : standsP q (c :: l) = escB q c ++ standsP q l := rfl
theorem escB_len (q : Bool) (c : Int) : 1 ≤ (escB q c).length ∧ (escB q c).length ≤ 4 := by
  unfold escB
  split
  · simp
  · split <;> simp
theorem standsP_len (q : Bool) : ∀ l : List Int, l.length ≤ (standsP q l).length ∧ (standsP q l).length ≤ 4 * l.length
  | [] => by simp [standsP]
  | c :: r => by
    have h1 := escB_len q c
    have h2 := standsP_len q r
    rw [standsP_cons, List.length_append, List.length_cons]
    omega
/-- a rest at which a bare word ends -/
def Ends (rest : List Int) : Prop := rest = [] ∨ ∃ c r, rest = c :: r ∧ specB c = true
theorem bLen_ends {rest : List Int} (h : Ends rest) : bLen rest = 0 := by
  rcases h with rfl | ⟨c, r, rfl, hc⟩
  · rfl
  · rw [bLen_cons, if_pos hc]
theorem bLen_esc {c d : Int} (t : List Int) (h : d ≠ 10) : bLen (92 :: d :: t) = bLen t + 2 := by
  rw [bLen_cons, if_neg (by decide), if_pos ⟨rfl, by simp, by simpa using h⟩]; rfl
theorem bLen_one {c : Int} (t : List Int) (hs : specB c = false) (h : c ≠ 92) : bLen (c :: t) = bLen t + 1 := by
  rw [bLen_cons, if_neg (by simp [hs]), if_neg (fun he => h he.1)]
theorem bLen_stands {rest : List Int} (h : Ends rest) : ∀ l : List Int, bLen (standsP false l ++ rest) = (standsP false l).length
  | [] => by rw [show standsP false [] = [] from rfl, List.nil_append, bLen_ends h]; rfl
  | c :: r => by
    have ih := bLen_stands h r
    rw [standsP_cons, List.append_assoc]
    unfold escB
    split
    · simp only [List.cons_append, List.nil_append]
      rw [bLen_esc (c := 0) _ (by decide), bLen_one _ (by decide) (by decide), bLen_one _ (by decide) (by decide), ih]
      simp
    · rename_i h10
      split
      · simp only [List.cons_append, List.nil_append]
        rw [bLen_esc (c := 0) _ h10, ih]
        simp
      · rename_i hn
        simp only [List.cons_append, List.nil_append]
        have hs : specB c = false := by
          unfold specB
          simp only [Bool.or_eq_false_iff, beq_eq_false_iff_ne, ne_eq]
          refine ⟨⟨⟨⟨⟨?_, h10⟩, ?_⟩, ?_⟩, ?_⟩, fun he => hn (Or.inl he)⟩
          · cases hb : blankB c with
            | false => rfl
            | true => exact absurd (Or.inr (Or.inr ⟨Or.inl hb, rfl⟩)) hn
          · exact fun he => hn (Or.inr (Or.inr ⟨Or.inr (Or.inl he), rfl⟩))
          · exact fun he => hn (Or.inr (Or.inr ⟨Or.inr (Or.inr (Or.inl he)), rfl⟩))
          · exact fun he => hn (Or.inr (Or.inr ⟨Or.inr (Or.inr (Or.inr he)), rfl⟩))
        rw [bLen_one _ hs (fun he => hn (Or.inr (Or.inl he))), ih]
        simp
theorem qEnd_esc {d : Int} (t : List Int) (h : d ≠ 10) : qEnd (92 :: d :: t) = (qEnd t).map (· + 2) := by
  rw [qEnd_cons, if_neg (by decide), if_neg (by decide), if_pos ⟨rfl, by simp, by simpa using h⟩]; rfl
theorem qEnd_one {c : Int} (t : List Int) (h1 : c ≠ 10) (h2 : c ≠ 34) (h3 : c ≠ 92) : qEnd (c :: t) = (qEnd t).map (· + 1) := by
  rw [qEnd_cons, if_neg h1, if_neg h2, if_neg (fun he => h3 he.1)]
theorem qEnd_stands (q : Bool) (rest : List Int) : ∀ l : List Int, qEnd (standsP q l ++ 34 :: rest) = some ((standsP q l).length + 1)
  | [] => by rw [show standsP q [] = [] from rfl, List.nil_append, qEnd_cons, if_neg (by decide), if_pos rfl]; rfl
  | c :: r => by
    have ih := qEnd_stands q rest r
    rw [standsP_cons, List.append_assoc]
    unfold escB
    split
    · simp only [List.cons_append, List.nil_append]
      rw [qEnd_esc _ (by decide), qEnd_one _ (by decide) (by decide) (by decide), qEnd_one _ (by decide) (by decide) (by decide), ih]
      simp
    · rename_i h10
      split
      · simp only [List.cons_append, List.nil_append]
        rw [qEnd_esc _ h10, ih]
        simp
      · rename_i hn
        simp only [List.cons_append, List.nil_append]
        rw [qEnd_one _ h10 (fun he => hn (Or.inl he)) (fun he => hn (Or.inr (Or.inl he))), ih]
        simp
/-- the first byte of a bare word is no special one -/
theorem stands_head {l : List Int} (h : standsP false l ≠ []) : ∃ c r, standsP false l = c :: r ∧ specB c = false := by
  cases l with
  | nil => exact absurd rfl h
  | cons c l =>
    rw [standsP_cons]
    unfold escB
    split
    · exact ⟨92, _, rfl, by decide⟩
    · rename_i h10
      split
      · exact ⟨92, _, rfl, by decide⟩
      · rename_i hn
        refine ⟨c, _, rfl, ?_⟩
        unfold specB
        simp only [Bool.or_eq_false_iff, beq_eq_false_iff_ne, ne_eq]
        refine ⟨⟨⟨⟨⟨?_, h10⟩, ?_⟩, ?_⟩, ?_⟩, fun he => hn (Or.inl he)⟩
        · cases hb : blankB c with
          | false => rfl
          | true => exact absurd (Or.inr (Or.inr ⟨Or.inl hb, rfl⟩)) hn
        · exact fun he => hn (Or.inr (Or.inr ⟨Or.inr (Or.inl he), rfl⟩))
        · exact fun he => hn (Or.inr (Or.inr ⟨Or.inr (Or.inr (Or.inl he)), rfl⟩))
        · exact fun he => hn (Or.inr (Or.inr ⟨Or.inr (Or.inr (Or.inr he)), rfl⟩))
theorem spec_parts {c : Int} (h : specB c = false) : blankB c = false ∧ c ≠ 10 ∧ c ≠ 59 ∧ c ≠ 40 ∧ c ≠ 41 ∧ c ≠ 34 := by
  unfold specB at h
  simp only [Bool.or_eq_false_iff, beq_eq_false_iff_ne, ne_eq] at h
  obtain ⟨⟨⟨⟨⟨h1, h2⟩, h3⟩, h4⟩, h5⟩, h6⟩ := h
  exact ⟨h1, h2, h3, h4, h5, h6⟩
/-! what each piece does to the reading -/
theorem lex_bare {l rest : List Int} (p : Nat) (ops : List Nat) (h : Ends rest) (hne : standsP false l ≠ []) :
    lex (standsP false l ++ rest) p ops = Toks.add (.word p (p + (standsP false l).length) false) (lex rest (p + (standsP false l).length) ops) := by
  obtain ⟨c, r, e, hc⟩ := stands_head hne
  have hb := bLen_stands h l
  rw [e] at hb ⊢
  rw [List.cons_append] at hb ⊢
  obtain ⟨k1, k2, k3, k4, k5, k6⟩ := spec_parts hc
  rw [lex_cons, if_neg (by simp [k1]), if_neg k2, if_neg k3, if_neg k4, if_neg k5, if_neg k6, hb]
  simp only [List.length_cons, Nat.add_sub_cancel, List.drop_left']
theorem lex_quoted (q : Bool) (l rest : List Int) (p : Nat) (ops : List Nat) :
    lex (34 :: (standsP q l ++ 34 :: rest)) p ops = Toks.add (.word p (p + ((standsP q l).length + 2)) true) (lex rest (p + ((standsP q l).length + 2)) ops) := by
  rw [lex_cons, if_neg (by decide), if_neg (by decide), if_neg (by decide), if_neg (by decide), if_neg (by decide), if_pos rfl, qEnd_stands]
  simp only
  have e : (standsP q l ++ 34 :: rest).drop ((standsP q l).length + 1) = rest := by
    rw [show standsP q l ++ 34 :: rest = (standsP q l ++ [34]) ++ rest by simp]
    exact List.drop_left' (by simp)
  rw [e, show p + 1 + ((standsP q l).length + 1) = p + ((standsP q l).length + 2) by omega]
theorem lex_open (r : List Int) (p : Nat) (ops : List Nat) : lex (40 :: r) p ops = lex r (p + 1) (ops ++ [p]) := by
  rw [lex_cons, if_neg (by decide), if_neg (by decide), if_neg (by decide), if_pos rfl]
theorem lex_close (r : List Int) (p : Nat) {ops : List Nat} (h : ops ≠ []) : lex (41 :: r) p ops = lex r (p + 1) ops.dropLast := by
  rw [lex_cons, if_neg (by decide), if_neg (by decide), if_neg (by decide), if_neg (by decide), if_pos rfl, if_neg h]
theorem lex_blank {c : Int} (r : List Int) (p : Nat) (ops : List Nat) (h : blankB c = true) : lex (c :: r) p ops = lex r (p + 1) ops := by
  rw [lex_cons, if_pos h]
theorem lex_line (r : List Int) (p : Nat) {ops : List Nat} (h : ops ≠ []) : lex (10 :: r) p ops = lex r (p + 1) ops := by
  rw [lex_cons, if_neg (by decide), if_pos rfl, if_neg h]
theorem lex_stop (r : List Int) (p : Nat) : lex (10 :: r) p [] = Toks.add (.stop p) (lex r (p + 1) []) := by
  rw [lex_cons, if_neg (by decide), if_pos rfl, if_pos rfl]
theorem lex_remark (x r : List Int) (p : Nat) (ops : List Nat) (h : ∀ c ∈ x, c ≠ 10) : lex (59 :: (x ++ 10 :: r)) p ops = lex (10 :: r) (p + 1 + x.length) ops := by
  have hr : rLen (x ++ 10 :: r) = x.length := by
    induction x with
    | nil => rfl
    | cons c x ih => simp only [List.cons_append, rLen, if_neg (h c (by simp)), ih (fun d hd => h d (by simp [hd])), List.length_cons]
  rw [lex_cons, if_neg (by decide), if_neg (by decide), if_pos rfl, hr, List.drop_left' rfl]
/-! what stands between words -/
def gapP (k : Int) (o : Nat) : List Int × Nat :=
  if k % 8 = 1 then ([9, 13, 32], o)
  else if k % 8 = 2 then ([40], o + 1)
  else if k % 8 = 3 then ([32, 40, 32, 59, 32, 40, 32, 34, 32, 120, 10], o + 1)
  else if k % 8 = 4 ∨ k % 8 = 5 then (if 0 < o then ([41], o - 1) else ([40, 41], o))
  else if k % 8 = 6 then (if 0 < o then ([32, 59, 41, 32, 92, 10, 10, 32], o) else ([32], o))
  else ([32], o)
theorem gap_len (k : Int) (o : Nat) : (gapP k o).1.length ≤ 11 ∧ (gapP k o).2 ≤ o + 1 := by
  unfold gapP
  repeat' split
  all_goals simp <;> omega
theorem gap_ends (k : Int) (o : Nat) (rest : List Int) : Ends ((gapP k o).1 ++ rest) := by
  refine Or.inr ?_
  unfold gapP
  repeat' split
  all_goals exact ⟨_, _, rfl, by decide⟩
theorem ne_of_len {ops : List Nat} (h : 0 < ops.length) : ops ≠ [] := fun e => by rw [e] at h; exact absurd h (by simp)
theorem gap_lex (k : Int) (ops : List Nat) (p : Nat) : ∃ ops', ops'.length = (gapP k ops.length).2 ∧ ∀ rest, lex ((gapP k ops.length).1 ++ rest) p ops = lex rest (p + (gapP k ops.length).1.length) ops' := by
  unfold gapP
  split
  · exact ⟨ops, rfl, fun rest => by simp only [List.cons_append, List.nil_append]; rw [lex_blank _ _ _ (by decide), lex_blank _ _ _ (by decide), lex_blank _ _ _ (by decide)]; rfl⟩
  split
  · exact ⟨ops ++ [p], by simp, fun rest => by simp only [List.cons_append, List.nil_append]; rw [lex_open]; rfl⟩
  split
  · refine ⟨ops ++ [p + 1], by simp, fun rest => ?_⟩
    simp only [List.cons_append, List.nil_append]
    have hr := lex_remark [32, 40, 32, 34, 32, 120] rest (p + 1 + 1 + 1) (ops ++ [p + 1]) (by decide)
    simp only [List.cons_append, List.nil_append] at hr
    rw [lex_blank _ _ _ (by decide), lex_open, lex_blank _ _ _ (by decide), hr, lex_line _ _ (by simp)]; rfl
  split
  · split
    · rename_i h0
      exact ⟨ops.dropLast, by simp, fun rest => by simp only [List.cons_append, List.nil_append]; rw [lex_close _ _ (ne_of_len h0)]; rfl⟩
    · exact ⟨ops, rfl, fun rest => by simp only [List.cons_append, List.nil_append]; rw [lex_open, lex_close _ _ (by simp), List.dropLast_concat]; rfl⟩
  split
  · split
    · rename_i h0
      refine ⟨ops, rfl, fun rest => ?_⟩
      simp only [List.cons_append, List.nil_append]
      have hr := lex_remark [41, 32, 92] (10 :: 32 :: rest) (p + 1) ops (by decide)
      simp only [List.cons_append, List.nil_append] at hr
      rw [lex_blank _ _ _ (by decide), hr, lex_line _ _ (ne_of_len h0), lex_line _ _ (ne_of_len h0), lex_blank _ _ _ (by decide)]; rfl
    · exact ⟨ops, rfl, fun rest => by simp only [List.cons_append, List.nil_append]; rw [lex_blank _ _ _ (by decide)]; rfl⟩
  · exact ⟨ops, rfl, fun rest => by simp only [List.cons_append, List.nil_append]; rw [lex_blank _ _ _ (by decide)]; rfl⟩
theorem lex_closes : ∀ (o : Nat) (ops : List Nat) (p : Nat) (rest : List Int), ops.length = o → lex (List.replicate o 41 ++ rest) p ops = lex rest (p + o) []
  | 0, ops, p, rest, h => by rw [List.eq_nil_of_length_eq_zero h]; rfl
  | o + 1, ops, p, rest, h => by
    rw [List.replicate_succ, List.cons_append, lex_close _ _ (ne_of_len (by omega)), lex_closes o ops.dropLast (p + 1) rest (by rw [List.length_dropLast]; omega), show p + 1 + o = p + (o + 1) by omega]
def endB : List Int := [32, 59, 32, 34, 32, 40, 32, 10]
theorem lex_end (rest : List Int) (p : Nat) : lex (endB ++ rest) p [] = Toks.add (.stop (p + 7)) (lex rest (p + 8) []) := by
  have hr := lex_remark [32, 34, 32, 40, 32] rest (p + 1) [] (by decide)
  simp only [List.cons_append, List.nil_append] at hr
  unfold endB
  simp only [List.cons_append, List.nil_append]
  rw [lex_blank _ _ _ (by decide), hr, lex_stop]; rfl
/-! what is told of a text that is being laid -/
def Told (T : List Int) (toks : List Tok) (ops : List Nat) (bare : Bool) (p0 : Nat) (ws : List S23) (out : List S45) : Prop :=
  (∀ rest, (bare = true → Ends rest) → lex (T ++ rest) 0 [] = (toks ++ (lex rest T.length ops).1, (lex rest T.length ops).2)) ∧
  ∀ s rest, bytesOf s = T ++ rest → run s (bytesOf s) toks 0 [] [] = (p0, ws, out)
theorem told_nil : Told [] [] [] false 0 [] [] := ⟨fun rest _ => rfl, fun s rest _ => rfl⟩
theorem run_append (s : ByteArray) (T : List Int) (u : List Tok) : ∀ (t : List Tok) (p : Nat) (ws : List S23) (out : List S45),
    run s T (t ++ u) p ws out = run s T u (run s T t p ws out).1 (run s T t p ws out).2.1 (run s T t p ws out).2.2
  | [], p, ws, out => rfl
  | .stop q :: r, p, ws, out => run_append s T u r (q + 1) [] _
  | .word b e q :: r, p, ws, out => run_append s T u r p _ out
theorem Told.gap {T : List Int} {toks : List Tok} {ops : List Nat} {b : Bool} {p0 : Nat} {ws : List S23} {out : List S45} (h : Told T toks ops b p0 ws out) (k : Int) :
    ∃ ops', ops'.length = (gapP k ops.length).2 ∧ Told (T ++ (gapP k ops.length).1) toks ops' false p0 ws out := by
  obtain ⟨ops', hl, hx⟩ := gap_lex k ops T.length
  refine ⟨ops', hl, fun rest _ => ?_, fun s rest hs => h.2 s ((gapP k ops.length).1 ++ rest) (by rw [hs, List.append_assoc])⟩
  rw [List.append_assoc, h.1 _ (fun _ => gap_ends k _ rest), hx, List.length_append]
theorem Told.close {T : List Int} {toks : List Tok} {ops : List Nat} {p0 : Nat} {ws : List S23} {out : List S45} (h : Told T toks ops false p0 ws out) :
    Told (T ++ List.replicate ops.length 41) toks [] false p0 ws out := by
  refine ⟨fun rest _ => ?_, fun s rest hs => h.2 s (List.replicate ops.length 41 ++ rest) (by rw [hs, List.append_assoc])⟩
  rw [List.append_assoc, h.1 _ (fun e => by cases e), lex_closes _ _ _ _ rfl, List.length_append, List.length_replicate]
theorem pl_pre (T rest : List Int) {p : Nat} (h : p ≤ T.length) : pl (T ++ rest) p = pl T p := by
  unfold pl
  rw [List.take_append_of_le_length h]
theorem Told.bare {T : List Int} {toks : List Tok} {ops : List Nat} {p0 : Nat} {ws : List S23} {out : List S45} (h : Told T toks ops false p0 ws out) {sB : ByteArray} {l : List Int} (hb : bytesOf sB = standsP false l) (hne : standsP false l ≠ []) :
    Told (T ++ bytesOf sB) (toks ++ [.word T.length (T.length + (bytesOf sB).length) false]) ops true p0 (ws ++ [⟨sB, false, (pl T T.length).1, (pl T T.length).2⟩]) out := by
  refine ⟨fun rest hr => ?_, fun s rest hs => ?_⟩
  · rw [List.append_assoc, h.1 _ (fun e => by cases e), hb, lex_bare _ _ (hr rfl) hne, List.length_append]
    simp [Toks.add]
  · rw [run_append, h.2 s (bytesOf sB ++ rest) (by rw [hs, List.append_assoc])]
    simp only [run]
    have e1 : s.extract T.length (T.length + (bytesOf sB).length) = sB := by
      refine bo_inj ?_
      rw [bo_extract, hs, List.take_append_of_le_length (by simp), List.take_of_length_le (by simp), List.drop_left' rfl]
    unfold wordOf
    rw [hs] at *
    simp only [Bool.false_eq_true, if_false, e1]
    rw [List.append_assoc, pl_pre _ _ (Nat.le_refl _)]
theorem Told.quoted {T : List Int} {toks : List Tok} {ops : List Nat} {p0 : Nat} {ws : List S23} {out : List S45} (h : Told T toks ops false p0 ws out) {sB : ByteArray} {l : List Int} (q : Bool) (hb : bytesOf sB = standsP q l) :
    Told (T ++ (34 :: (bytesOf sB ++ [34]))) (toks ++ [.word T.length (T.length + ((bytesOf sB).length + 2)) true]) ops false p0 (ws ++ [⟨sB, true, (pl T T.length).1, (pl T T.length).2⟩]) out := by
  refine ⟨fun rest hr => ?_, fun s rest hs => ?_⟩
  · have e : 34 :: (standsP q l ++ [34]) ++ rest = 34 :: (standsP q l ++ 34 :: rest) := by simp
    rw [List.append_assoc, h.1 _ (fun e => by cases e), hb, e, lex_quoted]
    simp [Toks.add, Nat.add_assoc]
  · rw [run_append, h.2 s (34 :: (bytesOf sB ++ [34]) ++ rest) (by rw [hs, List.append_assoc])]
    simp only [run]
    have e1 : s.extract (T.length + 1) (T.length + ((bytesOf sB).length + 2) - 1) = sB := by
      refine bo_inj ?_
      rw [bo_extract, hs, show T ++ 34 :: (bytesOf sB ++ [34]) ++ rest = (T ++ [34]) ++ bytesOf sB ++ ([34] ++ rest) by simp, show T.length + ((bytesOf sB).length + 2) - 1 = ((T ++ [34]) ++ bytesOf sB).length by simp <;> omega,
        List.take_append_of_le_length (Nat.le_refl _), List.take_length, show T.length + 1 = (T ++ [34]).length by simp, List.drop_left' rfl]
    unfold wordOf
    rw [hs] at *
    simp only [if_true, e1]
    rw [List.append_assoc, pl_pre _ _ (Nat.le_refl _)]
theorem Told.stop {T : List Int} {toks : List Tok} {p0 : Nat} {ws : List S23} {out : List S45} (h : Told T toks [] false p0 ws out) (hp : p0 < T.length) :
    Told (T ++ endB) (toks ++ [.stop (T.length + 7)]) [] false (T ++ endB).length [] (if ws = [] then out else out ++ [⟨blankB (T.getD p0 0), (pl T p0).1, ws⟩]) := by
  refine ⟨fun rest hr => ?_, fun s rest hs => ?_⟩
  · rw [List.append_assoc, h.1 _ (fun e => by cases e), lex_end, List.length_append]
    simp [Toks.add, endB]
  · rw [run_append, h.2 s (endB ++ rest) (by rw [hs, List.append_assoc])]
    simp only [run, List.length_append]
    have hl : endB.length = 8 := rfl
    rw [hl]
    unfold closeE
    cases ws with
    | nil => rfl
    | cons w ws =>
      simp only [List.isEmpty_cons, Bool.false_eq_true, if_false, reduceCtorEq]
      unfold entOf
      rw [hs, List.append_assoc, pl_pre _ _ (by omega), List.getD_eq_getElem?_getD, List.getD_eq_getElem?_getD, List.getElem?_append_left hp]
theorem told_entries {T : List Int} {toks : List Tok} {p0 : Nat} {out : List S45} (h : Told T toks [] false p0 [] out) {s : ByteArray} (hs : bytesOf s = T) (hz : s.size ≤ 262144) : token_Entries.f s = some (out, 0, 0, 0) := by
  have h1 := h.1 [] (fun e => by cases e)
  rw [List.append_nil, lex_nil] at h1
  have h2 := h.2 s [] (by rw [hs, List.append_nil])
  unfold token_Entries.f fin
  rw [if_neg (by omega), hs, h1]
  simp only [List.head?_nil, Option.map_none, List.append_nil]
  rw [finish_none, ← hs, h2]
  rfl
end Go.Proofs.Ytafminohaofjnaa.Print
