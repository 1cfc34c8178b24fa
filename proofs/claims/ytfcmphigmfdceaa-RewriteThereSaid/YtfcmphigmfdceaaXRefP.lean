/- What a rule makes of a question, as the document puts it: plain laws without its functions. -/
import Derived.Test.YtfcmphigmfdceaaXAskP
import Derived.Test.YtfcmphigmfdceaaXOrder
import Derived.Test.YtfcmphigmfdceaaF27
import Derived.Test.YtfcmphigmfdceaaF19
namespace Go.Proofs.Ytfcmphigmfdceaa.Print
open Go.RowKit Go.Proofs.YtfcmphigmfdceaaW.PrintWords Go.Proofs.YtfcmphigmfdceaaW.PrintLast Go.Proofs.YtfcmphigmfdceaaW.PrintMore
set_option linter.unusedVariables false
set_option linter.unusedSimpArgs false
theorem is_f (n : ByteArray) : Ev (fun k => hearsayref01_Is.f k n) (dec n).isSome := by
  obtain ⟨l', hE, hL⟩ := split_f n
  exact Ev.bind (f := fun _ (x : List ByteArray × Bool) => some x.2) hE (Ev.now _)
theorem rlabels_f (n : ByteArray) : Ev (fun k => hearsayref01_Labels.f k n) ((dec n).getD []) := by
  obtain ⟨l', hE, hL⟩ := split_f n
  refine Ev.bind (f := fun _ (x : List ByteArray × Bool) => if x.2 = true then some x.1 else some []) hE ?_
  cases h : dec n with
  | none => exact Ev.now _
  | some L => rw [hL L h]; exact Ev.now _
def rAlike (A B : List ByteArray) : Bool := decide (A.map lowS = B.map lowS)
theorem dec_mem {n : ByteArray} {s : ByteArray} (hs : s ∈ (dec n).getD []) : s.size ≤ 9223372036854775807 := by
  cases h : dec n with
  | none => rw [h] at hs; simp at hs
  | some L => rw [h] at hs; have := label_small h (s := s) (by simpa using hs); omega
/-- what the document makes of a question -/
def makesP (q : S32) (x : S38) : S32 × Bool :=
  if x.f0 = 4 then (if q.f1 = x.f3 then (⟨q.f0, x.f4, q.f2⟩, true) else (z32, false))
  else
    let L := (dec q.f0).getD []
    let F := (dec x.f1).getD []
    let T := (dec x.f2).getD []
    if L.length < F.length ∨ (x.f0 = 1 ∧ F.length < L.length) then (z32, false)
    else if x.f0 = 3 then (if rAlike (L.take F.length) F then ofP (T ++ L.drop F.length) q else (z32, false))
    else (if rAlike (L.drop (L.length - F.length)) F then ofP (L.take (L.length - F.length) ++ T) q else (z32, false))
theorem rAlike_keys {L M : List ByteArray} : rAlike L M = true ↔ L.map keyB = M.map keyB := by
  unfold rAlike; rw [decide_eq_true_iff]; exact keys_low.symm
theorem cmp_alikeL {a b : ByteArray} {L M : List ByteArray} (ha : dec a = some L) (hb : dec b = some M) : cmpP a b = 0 ↔ rAlike L M = true := by
  rw [cmp_key, rAlike_keys]
  unfold keyN
  rw [ha, hb]
  simp only [cK]
  rw [lex_zero (lex_zero cI_zero), List.map_reverse, List.map_reverse, List.reverse_inj]
theorem of_fine {L : List ByteArray} (h : L.any badLab = false) (hl : (glue L).length + 1 ≤ 255) : (name_Of.f L).getD (⟨#[]⟩, 1) = (nameOf L, 0) := by
  rw [of_def, if_neg (by rw [h]; simp), if_neg (by omega)]
theorem ofP_dec {n : ByteArray} {L : List ByteArray} (h : dec n = some L) (q : S32) : ofP L q = (⟨n, q.f1, q.f2⟩, true) := by
  unfold ofP
  have h1 := dec_size h
  have h2 := dec_some h
  rw [of_fine h2.2.2 (by omega)]
  simp only [if_true]
  rw [nameOf_dec h]
theorem take_fine {L : List ByteArray} (h : L.any badLab = false) (j : Nat) : (L.take j).any badLab = false := by
  rw [List.any_eq_false] at h ⊢
  exact fun x hx => h x (List.mem_of_mem_take hx)
theorem makes_do {q : S32} {x : S38} (hx : ruleOk x = true) (hq : (dec q.f0).isSome = true) : makesP q x = doP q x := by
  obtain ⟨L, hL⟩ := Option.isSome_iff_exists.1 hq
  unfold ruleOk at hx
  by_cases kk : x.f0 = 1 ∨ x.f0 = 2 ∨ x.f0 = 3
  · rw [if_pos kk] at hx
    simp only [Bool.and_eq_true, decide_eq_true_eq] at hx
    obtain ⟨F, hF⟩ := Option.isSome_iff_exists.1 hx.1.1.1
    obtain ⟨T, hT⟩ := Option.isSome_iff_exists.1 hx.1.1.2
    unfold makesP doP
    rw [if_neg (show ¬ x.f0 = 4 by omega)]
    simp only [hL, hF, hT, Option.getD_some]
    have sL := dec_some hL
    have zL := dec_size hL
    rcases kk with k1 | k2 | k3
    · rw [if_pos k1, if_neg (show ¬ x.f0 = 3 by omega)]
      by_cases hl : L.length = F.length
      · rw [if_neg (by omega), hl, Nat.sub_self, List.drop_zero, List.take_zero, List.nil_append, ofP_dec hT]
        by_cases ha : rAlike L F = true
        · rw [if_pos ha, if_pos ((cmp_alikeL hL hF).2 ha)]
        · rw [if_neg ha, if_neg (fun h => ha ((cmp_alikeL hL hF).1 h))]
      · have hne : ¬ cmpP q.f0 x.f1 = 0 := fun h => hl (by
          have h1 := (cmp_alikeL hL hF).1 h
          have h2 := congrArg List.length (rAlike_keys.1 h1)
          simpa using h2)
        rw [if_pos (by omega), if_neg hne]
    · rw [if_neg (show ¬ x.f0 = 1 by omega), if_pos k2, if_neg (show ¬ x.f0 = 3 by omega)]
      by_cases hl : L.length < F.length
      · have hu : underP q.f0 x.f1 = false := by unfold underP; rw [hL, hF]; simp only; rw [if_pos hl]
        rw [if_pos (Or.inl hl), hu]
        rfl
      · rw [if_neg (by omega)]
        have hg := glue_drop hL (L.length - F.length)
        have hd : dec (nameOf (L.drop (L.length - F.length))) = some (L.drop (L.length - F.length)) := dec_nameOf (drop_fine sL.2.2 _) hg
        have hu : underP q.f0 x.f1 = rAlike (L.drop (L.length - F.length)) F := by
          unfold underP; rw [hL, hF]; simp only; rw [if_neg hl, Bool.eq_iff_iff, rAlike_keys, ← alike_iff hd hF, beq_iff_eq, toList_eq]
        rw [hu]
    · rw [if_neg (show ¬ x.f0 = 1 by omega), if_neg (show ¬ x.f0 = 2 by omega), if_pos k3, if_pos k3]
      by_cases hl : L.length < F.length
      · rw [if_pos (Or.inl hl), if_pos hl]
      · rw [if_neg (by omega), if_neg hl]
        have hg : (glue (L.take F.length)).length ≤ (glue L).length := glue_mono L F.length
        have hd : dec (nameOf (L.take F.length)) = some (L.take F.length) := dec_nameOf (take_fine sL.2.2 _) (by omega)
        rw [of_fine (take_fine sL.2.2 _) (by omega)]
        simp only [true_and]
        by_cases ha : rAlike (L.take F.length) F = true
        · rw [if_pos ha, if_pos ((cmp_alikeL hd hF).2 ha)]
        · rw [if_neg ha, if_neg (fun h => ha ((cmp_alikeL hd hF).1 h))]
  · rw [if_neg kk] at hx
    by_cases k4 : x.f0 = 4
    · unfold makesP doP
      rw [if_pos k4, if_neg (show ¬ x.f0 = 1 by omega), if_neg (show ¬ x.f0 = 2 by omega), if_neg (show ¬ x.f0 = 3 by omega)]
    · rw [if_neg k4] at hx; exact absurd hx (by simp)
def firstP (D : S38 → S32 × Bool) (l : List S38) : S32 × Bool := match mades D l with | y :: _ => (y, true) | [] => (z32, false)
theorem firstP_yes {D : S38 → S32 × Bool} {x : S38} {l : List S38} (h : (D x).2 = true) : firstP D (x :: l) = ((D x).1, true) := by unfold firstP mades; rw [List.filterMap_cons]; simp [h]
theorem firstP_no {D : S38 → S32 × Bool} {x : S38} {l : List S38} (h : (D x).2 = false) : firstP D (x :: l) = firstP D l := by unfold firstP mades; rw [List.filterMap_cons]; simp [h]
theorem askP_first (l : List S38) (q : S32) : askP l q = if checkP l = 0 then if (dec q.f0).isSome then firstP (doP q) l else (z32, false) else (z32, false) := rfl
theorem check_all {l : List S38} (h : checkP l = 0) : l.length ≤ 32 ∧ ∀ x ∈ l, ruleOk x = true := by
  unfold checkP at h
  split at h
  · omega
  · rename_i h1
    split at h
    · rename_i h2; exact ⟨by omega, List.all_eq_true.1 h2⟩
    · omega
end Go.Proofs.Ytfcmphigmfdceaa.Print
