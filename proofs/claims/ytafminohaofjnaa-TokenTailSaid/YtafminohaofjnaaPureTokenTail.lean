/- One text behind another: the plain law. -/
import Derived.Test.YtafminohaofjnaaF7D
import Derived.Test.YtafminohaofjnaaXTail
import Derived.Test.YtafminohaofjnaaXReads
namespace Go.Proofs.Ytafminohaofjnaa.Pure
open Go.RowKit Go.Proofs.Ytafminohaofjnaa.Print Go.Proofs.YtafminohaofjnaaW.PrintWords Go.Proofs.YtafminohaofjnaaW.PrintLast
set_option linter.unusedVariables false
set_option linter.unusedSimpArgs false
theorem linesP_append (l m : List Int) : linesP (l ++ m) = linesP l + linesP m := by
  unfold linesP
  rw [List.foldl_append]
  exact (lines_from m (0, 0)).2 _
theorem linesP_bound (l : List Int) : 0 ≤ linesP l ∧ linesP l ≤ l.length := by
  induction l with
  | nil => simp [linesP]
  | cons c r ih =>
    have e : linesP (c :: r) = (if c = 10 then (0 : Int) + 1 else 0) + linesP r := (lines_from r (0, 0)).2 _
    rw [e]
    simp only [List.length_cons]
    split <;> omega
theorem lines_l0 (s : ByteArray) (hs : s.size ≤ 262144) (d : Nat) : ∀ i : Nat, s.size - i ≤ d → i ≤ s.size → Ev (fun k => hearsaylaw08_lines.l0 k s (linesP ((bytesOf s).take i)) (i : Int)) (linesP (bytesOf s)) := by
  induction d with
  | zero =>
    intro i hd hi
    refine Ev.step (f := fun _ => some (linesP (bytesOf s))) (fun k => ?_) (Ev.now _)
    simp only [hearsaylaw08_lines.l0]
    rw [if_neg (by omega), List.take_of_length_le (by rw [bytesOf_length]; omega)]
  | succ d ih =>
    intro i hd hi
    by_cases hlt : i < s.size
    · have ih := ih (i + 1) (by omega) (by omega)
      have hb := linesP_bound ((bytesOf s).take i)
      have hl : ((bytesOf s).take i).length ≤ i := List.length_take_le _ _
      have hg := bt_get hlt
      rw [List.take_add_one, hg, linesP_append] at ih
      have e1 : linesP (some (bt s (i : Int))).toList = if bt s (i : Int) = 10 then 1 else 0 := by
        show linesP [bt s (i : Int)] = _
        simp [linesP]
      rw [e1] at ih
      refine Ev.step (fun k => ?_) ih
      simp only [hearsaylaw08_lines.l0]
      rw [if_pos (by omega), if_pos (by omega), cast1 i (by omega)]
      by_cases hc : bt s (i : Int) = 10
      · rw [if_pos hc, if_pos hc, w64 (by omega) (by omega)]
      · rw [if_neg hc, if_neg hc, Int.add_zero]
    · refine Ev.step (f := fun _ => some (linesP (bytesOf s))) (fun k => ?_) (Ev.now _)
      simp only [hearsaylaw08_lines.l0]
      rw [if_neg (by omega), List.take_of_length_le (by rw [bytesOf_length]; omega)]
theorem lines_f (s : ByteArray) (hs : s.size ≤ 262144) : Ev (fun k => hearsaylaw08_lines.f k s) (linesP (bytesOf s)) := lines_l0 s hs s.size 0 (by omega) (by omega)
/-! lines' numbers are small -/
theorem pl_small (T : List Int) (p : Nat) : 1 ≤ (pl T p).1 ∧ (pl T p).1 ≤ T.length + 1 := by
  have h := (lines_from (T.take p) (1, 1)).1
  have h2 := linesP_bound (T.take p)
  have h3 : (T.take p).length ≤ T.length := by rw [List.length_take]; omega
  unfold pl
  omega
def LinesOK (B : Nat) (out : List S45) : Prop := ∀ e ∈ out, (1 ≤ e.f1 ∧ e.f1 ≤ B) ∧ ∀ w ∈ e.f2, 1 ≤ w.f2 ∧ w.f2 ≤ B
theorem close_lines {T : List Int} {p : Nat} {ws : List S23} {out : List S45} (h : LinesOK (T.length + 1) out) (hw : ∀ w ∈ ws, 1 ≤ w.f2 ∧ w.f2 ≤ ((T.length + 1 : Nat) : Int)) : LinesOK (T.length + 1) (closeE T p ws out) := by
  unfold closeE
  split
  · exact h
  · intro e he
    rcases List.mem_append.1 he with he | he
    · exact h e he
    · obtain rfl := List.mem_singleton.1 he
      have := pl_small T p
      exact ⟨⟨this.1, by show (pl T p).1 ≤ _; omega⟩, hw⟩
theorem run_lines (s : ByteArray) (T : List Int) : ∀ (t : List Tok) (p : Nat) (ws : List S23) (out : List S45), LinesOK (T.length + 1) out → (∀ w ∈ ws, 1 ≤ w.f2 ∧ w.f2 ≤ ((T.length + 1 : Nat) : Int)) →
    LinesOK (T.length + 1) (run s T t p ws out).2.2 ∧ ∀ w ∈ (run s T t p ws out).2.1, 1 ≤ w.f2 ∧ w.f2 ≤ ((T.length + 1 : Nat) : Int)
  | [], p, ws, out, h, hw => ⟨h, hw⟩
  | .stop q :: r, p, ws, out, h, hw => run_lines s T r (q + 1) [] _ (close_lines h hw) (by simp)
  | .word b e q :: r, p, ws, out, h, hw => by
    refine run_lines s T r p _ out h (fun w hm => ?_)
    rcases List.mem_append.1 hm with hm | hm
    · exact hw w hm
    · obtain rfl := List.mem_singleton.1 hm
      have := pl_small T b
      exact ⟨this.1, by show (pl T b).1 ≤ _; omega⟩
theorem entr_fin {s : ByteArray} (hs : s.size ≤ 262144) : entr s = fin s (lex (bytesOf s) 0 []) 0 [] [] := by
  unfold entr token_Entries.f
  rw [if_neg (by omega)]; rfl
theorem entr_lines {s : ByteArray} (hs : s.size ≤ 262144) : LinesOK (s.size + 1) (entr s).1 ∧ 0 ≤ (entr s).2.1 ∧ (entr s).2.1 ≤ s.size + 1 := by
  rw [entr_fin hs]
  unfold fin
  generalize lex (bytesOf s) 0 [] = L
  obtain ⟨t, x⟩ := L
  cases x with
  | none =>
    simp only
    rw [finish_none]
    have h := run_lines s (bytesOf s) t 0 [] [] (by intro e he; cases he) (by simp)
    have h2 := close_lines (p := (run s (bytesOf s) t 0 [] []).1) h.1 h.2
    rw [bytesOf_length] at h2
    exact ⟨h2, by simp, by simp; omega⟩
  | some y =>
    simp only
    rw [finish_err]
    have := pl_small (bytesOf s) y.1
    rw [bytesOf_length] at this
    exact ⟨(fun e he => by cases he), (by simp only; omega), (by simp only; omega)⟩
theorem tail_cases {a b : ByteArray} (ha : a.size ≤ 20000) (hb : b.size ≤ 20000) :
    ((entr a).2.2.2 = 80 ∧ entr (both a b) = entr a ∧ (entr a).1 = []) ∨ (entr a).2.2.2 = 81 ∨
    ((entr a).2.2.2 = 0 ∧ (((entr b).2.2.2 ≠ 0 ∧ (entr (both a b)).2 = ((entr b).2.1 + (linesP (bytesOf a) + 1), (entr b).2.2.1, (entr b).2.2.2)) ∨
      ((entr b).2.2.2 = 0 ∧ entr (both a b) = ((entr a).1 ++ (entr b).1.map (eUp (linesP (bytesOf a) + 1)), 0, 0, 0)))) := by
  have hs : (both a b).size ≤ 262144 := by
    have := congrArg List.length (both_bytes a b)
    rw [bytesOf_length, List.length_append, List.length_cons, bytesOf_length, bytesOf_length] at this
    omega
  rw [entr_fin (s := a) (by omega), entr_fin (s := b) (by omega), entr_fin hs]
  rcases lex_tail _ (bytesOf a) 0 [] (Nat.le_refl _) with ⟨t, x, h1, h2⟩ | ⟨t, o, h1, h2⟩
  · have he := lex_err _ (bytesOf a) 0 [] x (Nat.le_refl _) (by simp) (by rw [h1])
    have hf : fin a (lex (bytesOf a) 0 []) 0 [] [] = ([], (pl (bytesOf a) x.1).1, (pl (bytesOf a) x.1).2, x.2) := by
      unfold fin
      rw [h1]
      exact finish_err ..
    rcases he.2 with h | h
    · exact Or.inl ⟨by rw [hf]; exact h, tail_err a b t x h1 (h2 _), by rw [hf]⟩
    · exact Or.inr (Or.inl (by rw [hf]; exact h))
  · cases o with
    | cons q o =>
      refine Or.inr (Or.inl ?_)
      unfold fin
      rw [h1]
      simp only [List.head?_cons, Option.map_some]
      rw [finish_err]
    | nil =>
      refine Or.inr (Or.inr ⟨?_, ?_⟩)
      · unfold fin
        rw [h1]
        simp only [List.head?_nil, Option.map_none]
        rw [finish_none]
      · have hk := tail_ok a b t h1 h2
        rw [hk]
        cases hy : (lex (bytesOf b) 0 []).2 with
        | some y =>
          have he := lex_err _ (bytesOf b) 0 [] y (Nat.le_refl _) (by simp) hy
          refine Or.inl ⟨?_, rfl⟩
          unfold fin
          rw [hy, finish_err]
          rcases he.2 with h | h <;> rw [h] <;> decide
        | none =>
          refine Or.inr ⟨?_, rfl⟩
          unfold fin
          rw [hy, finish_none]
section
variable {M : List S45} {X : List S45} {n : Int} {o : List S45}
theorem t45 {i : Nat} (h : i < M.length) : rd_T45 M (i : Int) ∈ M ∧ M[i]? = some (rd_T45 M (i : Int)) := by
  unfold rd_T45
  rw [List.getD_eq_getElem?_getD, Int.toNat_natCast, List.getElem?_eq_getElem h, Option.getD_some]
  exact ⟨List.getElem_mem h, rfl⟩
theorem t23 {W : List S23} {i : Nat} (h : i < W.length) : rd_T23 W (i : Int) ∈ W ∧ W[i]? = some (rd_T23 W (i : Int)) := by
  unfold rd_T23
  rw [List.getD_eq_getElem?_getD, Int.toNat_natCast, List.getElem?_eq_getElem h, Option.getD_some]
  exact ⟨List.getElem_mem h, rfl⟩
/-- the second text's entries, further down -/
theorem tail_l0 (hn : 0 ≤ n ∧ n ≤ 30000) (hM : M.length ≤ 262145) (ho : o.length ≤ 262145) (ho2 : ∀ e ∈ o, e.f2.length ≤ 262145) (hl : LinesOK 30000 M) (hw : ∀ e ∈ M, e.f2.length ≤ 262145) (hX : X = o ++ M.map (eUp n)) (d : Nat) :
    ∀ i : Nat, M.length - i ≤ d → i ≤ M.length → Ev (fun k => hearsaylaw08_TokenTail.l0 k M X 0 n (o ++ (M.take i).map (eUp n)) (i : Int)) true := by
  have fin_ : Ev (fun k => hearsaylaw08_TokenTail.l0 k M X 0 n (o ++ M.map (eUp n)) (M.length : Int)) true := by
    have hs : Ev (fun k => hearsayref08_Same.f k X X) true := by
      refine same_ev X (by rw [hX]; simp; omega) (fun e he => ?_)
      rw [hX] at he
      rcases List.mem_append.1 he with he | he
      · have := ho2 e he; omega
      · obtain ⟨e', he', rfl⟩ := List.mem_map.1 he
        have := hw e' he'
        show (e'.f2.map (wUp n)).length ≤ _
        rw [List.length_map]; omega
    refine Ev.step (f := fun k => (hearsayref08_Same.f k X X).bind fun t => if t = true then some true else some false) (fun k => ?_) (Ev.bind hs (Ev.congr (f := fun _ => some true) (fun k => by simp) (Ev.now _)))
    simp only [hearsaylaw08_TokenTail.l0]
    rw [if_neg (by omega), if_pos trivial, ← hX, reads_f]
    rfl
  induction d with
  | zero =>
    intro i hd hi
    obtain rfl : i = M.length := by omega
    rw [List.take_length]; exact fin_
  | succ d ih =>
    intro i hd hi
    by_cases hlt : i < M.length
    · have ih := ih (i + 1) (by omega) (by omega)
      obtain ⟨hm, hg⟩ := t45 hlt
      rw [List.take_add_one, hg, List.map_append, ← List.append_assoc] at ih
      generalize hE : rd_T45 M (i : Int) = E at hm ih
      have hEl := hl E hm
      have hEw := hw E hm
      have ht : (List.take i M).length ≤ i := List.length_take_le _ _
      have inner : ∀ (e j : Nat), E.f2.length - j ≤ e → j ≤ E.f2.length → Ev (fun k => hearsaylaw08_TokenTail.l1 k M X 0 n (o ++ (M.take i).map (eUp n)) (i : Int) (j : Int) E.f0 (E.f1 + n) ((E.f2.take j).map (wUp n))) true := by
        intro e
        induction e with
        | zero =>
          intro j he hj
          obtain rfl : j = E.f2.length := by omega
          refine Ev.step (fun k => ?_) ih
          simp only [hearsaylaw08_TokenTail.l1]
          rw [if_pos (by omega), if_pos (by omega), hE, if_neg (by omega), if_pos (by simp; omega), List.take_length, cast1 i (by omega)]
          rfl
        | succ e ihe =>
          intro j he hj
          by_cases hlj : j < E.f2.length
          · have ihe := ihe (j + 1) (by omega) (by omega)
            obtain ⟨hm2, hg2⟩ := t23 hlj
            rw [List.take_add_one, hg2, List.map_append] at ihe
            have hW := hEl.2 _ hm2
            refine Ev.step (fun k => ?_) ihe
            simp only [hearsaylaw08_TokenTail.l1]
            rw [if_pos (by omega), if_pos (by omega), hE, if_pos (by omega), if_pos (by omega), if_pos (by simp; omega), cast1 j (by omega), w64 (n := _ + n) (by omega) (by omega)]
            rfl
          · obtain rfl : j = E.f2.length := by omega
            refine Ev.step (fun k => ?_) ih
            simp only [hearsaylaw08_TokenTail.l1]
            rw [if_pos (by omega), if_pos (by omega), hE, if_neg (by omega), if_pos (by simp; omega), List.take_length, cast1 i (by omega)]
            rfl
      refine Ev.step (fun k => ?_) (inner _ 0 (by omega) (by omega))
      simp only [hearsaylaw08_TokenTail.l0]
      rw [if_pos (by omega), if_pos (by omega), hE, w64 (n := _ + n) (by omega) (by omega)]
      rfl
    · obtain rfl : i = M.length := by omega
      rw [List.take_length]; exact fin_
end
theorem TokenTail : hearsaylaw08_TokenTail.Pure := by
  intro a b _ _
  refine Ev.rounds (g := fun k => hearsaylaw08_TokenTail.f k a b) ?_
  unfold hearsaylaw08_TokenTail.f
  by_cases h1 : (a.size : Int) > 20000
  · refine Ev.step (f := fun _ => some true) (fun k => ?_) (Ev.now _)
    rw [if_pos h1]
    simp only [hearsaylaw08_TokenTail.j0]
    rw [if_pos trivial]
  by_cases h2 : (b.size : Int) > 20000
  · refine Ev.step (f := fun _ => some true) (fun k => ?_) (Ev.now _)
    rw [if_neg h1]
    simp only [hearsaylaw08_TokenTail.j0]
    rw [if_pos (decide_eq_true h2)]
  have ha : a.size ≤ 20000 := by omega
  have hb : b.size ≤ 20000 := by omega
  have hc := tail_cases ha hb
  have la := entr_lines (s := a) (by omega)
  have lb := entr_lines (s := b) (by omega)
  have na := entr_len a
  have nb := entr_len b
  have hn := linesP_bound (bytesOf a)
  rw [bytesOf_length] at hn
  have hln := lines_f a (by omega)
  have hsz : a.size + 1 ≤ 9223372036854775807 := by omega
  have hsz2 : (a ++ (⟨#[10]⟩ : ByteArray)).size + b.size ≤ 9223372036854775807 := by
    rw [ByteArray.size_append]
    show a.size + 1 + b.size ≤ _
    omega
  have he : token_Entries.f ((a ++ (⟨#[10]⟩ : ByteArray)) ++ b) = some (entr (both a b)) := entr_f (both a b)
  have hea := entr_f a
  have heb := entr_f b
  generalize entr (both a b) = S at hc he
  generalize entr a = EA at hc hea la na
  generalize entr b = EB at hc heb lb nb
  have w1 : wrap64 (linesP (bytesOf a) + 1) = linesP (bytesOf a) + 1 := w64 (by omega) (by omega)
  rcases hc with ⟨c1, rfl, c2⟩ | c1 | ⟨c1, c2⟩
  · refine Ev.step (f := fun _ => some true) (fun k => ?_) (Ev.now _)
    rw [if_neg h1]
    simp only [hearsaylaw08_TokenTail.j0]
    rw [if_neg (by simpa using h2), hea, Option.bind_some, heb, Option.bind_some, if_pos hsz, if_pos hsz2, he, Option.bind_some, if_pos c1, if_pos rfl, if_pos (by simp), if_pos (by rw [c2]; rfl), reads_f]
    rfl
  · refine Ev.step (f := fun _ => some true) (fun k => ?_) (Ev.now _)
    rw [if_neg h1]
    simp only [hearsaylaw08_TokenTail.j0]
    rw [if_neg (by simpa using h2), hea, Option.bind_some, heb, Option.bind_some, if_pos hsz, if_pos hsz2, he, Option.bind_some, if_neg (by rw [c1]; decide), if_neg (by rw [c1]; decide), if_pos c1, reads_f]
    rfl
  · refine Ev.step (f := fun k => (hearsaylaw08_lines.f k a).bind fun t => if EB.2.2.2 = 0 then (if ([] : List (S45)).length + EA.1.length < 3518437208883 then (hearsaylaw08_TokenTail.l0 k EB.1 S.1 S.2.2.2 (wrap64 (t + 1)) (([] : List (S45)) ++ EA.1) 0) else none) else (if S.2.2.2 = EB.2.2.2 then (if (S.2.1 == (wrap64 (EB.2.1 + (wrap64 (t + 1)))) && (S.2.2.1 == EB.2.2.1)) = true then some true else some false) else some false)) (fun k => ?_) (Ev.bind hln ?_)
    · rw [if_neg h1]
      simp only [hearsaylaw08_TokenTail.j0]
      rw [if_neg (by simpa using h2), hea, Option.bind_some, heb, Option.bind_some, if_pos hsz, if_pos hsz2, he, Option.bind_some, if_neg (by rw [c1]; decide), if_pos c1, reads_f]
      rfl
    · rcases c2 with ⟨d1, d2⟩ | ⟨d1, d2⟩
      · refine Ev.congr (f := fun _ => some true) (fun k => ?_) (Ev.now _)
        rw [if_neg d1, d2]
        simp only
        rw [if_pos trivial, w1, w64 (by omega) (by omega), if_pos (by simp)]
      · have key := tail_l0 (M := EB.1) (X := S.1) (n := linesP (bytesOf a) + 1) (o := EA.1) (by omega) (by omega) (by omega) na.2 (fun e he => ?_) (fun e he => by have := nb.2 e he; omega) (by rw [d2]) EB.1.length 0 (by omega) (by omega)
        · refine Ev.congr (fun k => ?_) key
          rw [if_pos d1, if_pos (by simp only [List.length_nil]; omega), w1, d2]
          simp only [List.nil_append, List.take_zero, List.map_nil, List.append_nil]
          rfl
        · have h := lb.1 e he
          exact ⟨by omega, fun w hw => by have := h.2 w hw; omega⟩
end Go.Proofs.Ytafminohaofjnaa.Pure
