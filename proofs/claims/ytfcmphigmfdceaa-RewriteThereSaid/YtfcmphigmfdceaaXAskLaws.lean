/- Laws of what Ask tells, and of the statements' small functions. -/
import Derived.Test.YtfcmphigmfdceaaXRefP
import Derived.Test.YtfcmphigmfdceaaF15
import Derived.Test.YtfcmphigmfdceaaF10
import Derived.Test.YtfcmphigmfdceaaF18
namespace Go.Proofs.Ytfcmphigmfdceaa.Print
open Go.RowKit Go.Proofs.YtfcmphigmfdceaaW.PrintWords Go.Proofs.YtfcmphigmfdceaaW.PrintLast Go.Proofs.YtfcmphigmfdceaaW.PrintMore
set_option linter.unusedVariables false
set_option linter.unusedSimpArgs false
theorem asks_f : hearsaylaw25_asks.f = some true := by decide +kernel
theorem long_l0 (l : List S38) (hl : l.length ≤ 200) (d : Nat) : ∀ t : Nat, l.length - t ≤ d → t ≤ l.length →
    Ev (fun k => hearsaylaw25_long.l0 k l (t : Int)) ((l.drop t).any fun x => decide (2000 < x.f1.size) || decide (2000 < x.f2.size)) := by
  have fin : ∀ t : Nat, t ≤ l.length → ¬ t < l.length → Ev (fun k => hearsaylaw25_long.l0 k l (t : Int)) ((l.drop t).any fun x => decide (2000 < x.f1.size) || decide (2000 < x.f2.size)) := by
    intro t h1 h2
    rw [List.drop_of_length_le (by omega)]
    refine Ev.step (f := fun _ => some false) (fun k => ?_) (Ev.now _)
    simp only [hearsaylaw25_long.l0]
    rw [if_neg (by omega)]
  induction d with
  | zero => intro t hd h1; exact fin t h1 (by omega)
  | succ d ih =>
    intro t hd h1
    by_cases ht : t < l.length
    · have hx : l[t]? = some l[t] := List.getElem?_eq_getElem ht
      have hr := rd_T38_at hx
      have hdrop : l.drop t = l[t] :: l.drop (t + 1) := List.drop_eq_getElem_cons ht
      generalize hxe : l[t] = x at hr hdrop
      have hw : wrap64 ((t : Int) + 1) = ((t + 1 : Nat) : Int) := by rw [w64 (by omega) (by omega)]; rfl
      refine Ev.step (f := fun k => if (x.f1.size : Int) > 2000 then some true else if (x.f2.size : Int) > 2000 then some true else hearsaylaw25_long.l0 k l ((t + 1 : Nat) : Int)) (fun k => ?_) ?_
      · simp only [hearsaylaw25_long.l0]; rw [if_pos (by omega), if_pos (by omega), hr, hw]
      · rw [hdrop, List.any_cons]
        by_cases g1 : 2000 < x.f1.size
        · refine Ev.congr (fun k => by rw [if_pos (by omega)]) ?_
          simpa [g1] using Ev.now true
        · by_cases g2 : 2000 < x.f2.size
          · refine Ev.congr (fun k => by rw [if_neg (by omega), if_pos (by omega)]) ?_
            simpa [g2] using Ev.now true
          · refine Ev.congr (fun k => by rw [if_neg (by omega), if_neg (by omega)]) ?_
            simpa [g1, g2] using ih (t + 1) (by omega) (by omega)
    · exact fin t h1 ht
def longP (l : List S38) : Bool := decide (200 < l.length) || l.any fun x => decide (2000 < x.f1.size) || decide (2000 < x.f2.size)
theorem long_f (l : List S38) : Ev (fun k => hearsaylaw25_long.f k l) (longP l) := by
  unfold longP
  by_cases h : 200 < l.length
  · rw [decide_eq_true h, Bool.true_or]
    exact Ev.congr (fun k => by unfold hearsaylaw25_long.f; rw [if_pos (by omega)]) (Ev.now _)
  · rw [decide_eq_false h, Bool.false_or]
    exact Ev.congr (fun k => by unfold hearsaylaw25_long.f; rw [if_neg (by omega)]; rfl) (long_l0 l (by omega) l.length 0 (by omega) (by omega))
theorem firstP_append (D : S38 → S32 × Bool) (l m : List S38) : firstP D (l ++ m) = if (firstP D l).2 then firstP D l else firstP D m := by
  unfold firstP
  have e : mades D (l ++ m) = mades D l ++ mades D m := by unfold mades; exact List.filterMap_append
  rw [e]
  cases mades D l with
  | nil => rfl
  | cons y r => rfl
theorem firstP_fail {D : S38 → S32 × Bool} {l : List S38} (h : (firstP D l).2 = false) : firstP D l = (z32, false) := by
  unfold firstP at h ⊢
  cases hm : mades D l with
  | nil => rfl
  | cons y r => rw [hm] at h; simp at h
theorem askP_fail {l : List S38} {q : S32} (h : (askP l q).2 = false) : askP l q = (z32, false) := by
  rw [askP_first] at h ⊢
  split at h
  · rename_i h1
    split at h
    · rename_i h2; rw [if_pos h1, if_pos h2]; exact firstP_fail h
    · rename_i h2; rw [if_pos h1, if_neg h2]
  · rename_i h1; rw [if_neg h1]
theorem askP_yes {l : List S38} {q : S32} (h : (askP l q).2 = true) : checkP l = 0 ∧ (dec q.f0).isSome = true ∧ askP l q = firstP (doP q) l := by
  rw [askP_first] at h ⊢
  split at h
  · rename_i h1
    split at h
    · rename_i h2; exact ⟨h1, h2, by rw [if_pos h1, if_pos h2]⟩
    · simp at h
  · simp at h
theorem checkP_zero {l : List S38} (hl : l.length ≤ 32) (h : ∀ x ∈ l, ruleOk x = true) : checkP l = 0 := by
  unfold checkP
  rw [if_neg (by omega), if_pos (List.all_eq_true.2 h)]
theorem toList_beq (a : ByteArray) : (a.toList == a.toList) = true := by simp
theorem z32_eq : z32 = (⟨⟨#[]⟩, 0, 0⟩ : S32) := rfl
end Go.Proofs.Ytfcmphigmfdceaa.Print
