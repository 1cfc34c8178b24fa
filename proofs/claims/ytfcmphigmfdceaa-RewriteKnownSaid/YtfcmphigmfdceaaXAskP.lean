/- rewrite.Check and what a rule makes of a question: plain laws. -/
import Derived.Test.YtfcmphigmfdceaaXMade
import Derived.Test.YtfcmphigmfdceaaXUnder
import Derived.Test.YtfcmphigmfdceaaF12
import Derived.Test.YtfcmphigmfdceaaF40
import Derived.Test.YtfcmphigmfdceaaF41
import Derived.Test.YtfcmphigmfdceaaF42
import Derived.Test.YtfcmphigmfdceaaF43
namespace Go.Proofs.Ytfcmphigmfdceaa.Print
open Go.RowKit Go.Proofs.YtfcmphigmfdceaaW.PrintWords Go.Proofs.YtfcmphigmfdceaaW.PrintLast Go.Proofs.YtfcmphigmfdceaaW.PrintMore
set_option linter.unusedVariables false
set_option linter.unusedSimpArgs false
/-- may a rule be? -/
def ruleOk (x : S38) : Bool :=
  if x.f0 = 1 ∨ x.f0 = 2 ∨ x.f0 = 3 then (dec x.f1).isSome && (dec x.f2).isSome && decide (x.f3 = 0) && decide (x.f4 = 0)
  else if x.f0 = 4 then decide (x.f1.size = 0) && decide (x.f2.size = 0) && decide (x.f3 ≠ 0) && decide (x.f4 ≠ 0) else false
def checkP (l : List S38) : Int := if 32 < l.length then 2 else if l.all ruleOk then 0 else 250
def ofP (L : List ByteArray) (q : S32) : S32 × Bool := let t := (name_Of.f L).getD (⟨#[]⟩, 1); if t.2 = 0 then (⟨t.1, q.f1, q.f2⟩, true) else (z32, false)
/-- what a rule makes of a question -/
def doP (q : S32) (x : S38) : S32 × Bool :=
  if x.f0 = 1 then (if cmpP q.f0 x.f1 = 0 then (⟨x.f2, q.f1, q.f2⟩, true) else (z32, false))
  else if x.f0 = 2 then (if underP q.f0 x.f1 then ofP (((dec q.f0).getD []).take (((dec q.f0).getD []).length - ((dec x.f1).getD []).length) ++ (dec x.f2).getD []) q else (z32, false))
  else if x.f0 = 3 then
    (if ((dec q.f0).getD []).length < ((dec x.f1).getD []).length then (z32, false)
     else let t := (name_Of.f (((dec q.f0).getD []).take ((dec x.f1).getD []).length)).getD (⟨#[]⟩, 1)
      if t.2 = 0 ∧ cmpP t.1 x.f1 = 0 then ofP ((dec x.f2).getD [] ++ ((dec q.f0).getD []).drop ((dec x.f1).getD []).length) q else (z32, false))
  else (if q.f1 = x.f3 then (⟨q.f0, x.f4, q.f2⟩, true) else (z32, false))
def askP (l : List S38) (q : S32) : S32 × Bool :=
  if checkP l = 0 then if (dec q.f0).isSome then match mades (doP q) l with | y :: _ => (y, true) | [] => (z32, false) else (z32, false) else (z32, false)
theorem dec_length (n : ByteArray) : ((dec n).getD []).length ≤ 127 := by
  cases h : dec n with
  | none => simp
  | some L => exact labels_length h
theorem size_nil (s : ByteArray) : s.toList = [] ↔ s.size = 0 := ⟨fun h => Decidable.byContradiction fun h2 => empty_ne h2 h, empty_eq⟩
theorem of_some (L : List ByteArray) : name_Of.f L = some ((name_Of.f L).getD (⟨#[]⟩, 1)) := by
  unfold name_Of.f
  split
  · rfl
  · split <;> rfl
theorem of_def (L : List ByteArray) : (name_Of.f L).getD (⟨#[]⟩, 1) = if L.any badLab then (⟨#[]⟩, 10) else if 255 < (glue L).length + 1 then (⟨#[]⟩, 2) else (nameOf L, 0) := by
  unfold name_Of.f nameOf
  split
  · rfl
  · split <;> rfl
/-! ### Check -/
theorem check_l0 (l : List S38) (hl : l.length ≤ 32) (d : Nat) : ∀ t : Nat, l.length - t ≤ d → t ≤ l.length →
    Ev (fun k => rewrite_Check.l0 k l (l.length : Int) (t : Int)) (if (l.drop t).all ruleOk then 0 else 250) := by
  have fin : ∀ t : Nat, t ≤ l.length → ¬ t < l.length → Ev (fun k => rewrite_Check.l0 k l (l.length : Int) (t : Int)) (if (l.drop t).all ruleOk then 0 else 250) := by
    intro t h1 h2
    rw [List.drop_of_length_le (by omega)]
    refine Ev.step (f := fun _ => some 0) (fun k => ?_) (Ev.now _)
    simp only [rewrite_Check.l0]
    rw [if_neg (by omega)]
  induction d with
  | zero => intro t hd h1; exact fin t h1 (by omega)
  | succ d ih =>
    intro t hd h1
    by_cases ht : t < l.length
    · have hx : l[t]? = some l[t] := List.getElem?_eq_getElem ht
      have hr := rd_T38_at hx
      have hdrop : l.drop t = l[t] :: l.drop (t + 1) := List.drop_eq_getElem_cons ht
      generalize hxe : l[t] = x at hr hdrop
      have ih' := ih (t + 1) (by omega) (by omega)
      have no : ∀ b, ruleOk x = false → (if (l.drop t).all ruleOk then (0 : Int) else 250) = b → b = 250 := by
        intro b h hb
        rw [hdrop, List.all_cons, h] at hb
        simpa using hb.symm
      have yes : ruleOk x = true → (if (l.drop t).all ruleOk then (0 : Int) else 250) = (if (l.drop (t + 1)).all ruleOk then 0 else 250) := by
        intro h
        rw [hdrop, List.all_cons, h, Bool.true_and]
      have hw : wrap64 ((t : Int) + 1) = ((t + 1 : Nat) : Int) := by rw [w64 (by omega) (by omega)]; rfl
      -- the way of a rule with names
      have names : x.f0 = 1 ∨ x.f0 = 2 ∨ x.f0 = 3 → Ev (fun k => rewrite_Check.j1 k l (l.length : Int) (t : Int) x.f0 true x.f0 x.f1 x.f2 x.f3 x.f4) (if (l.drop t).all ruleOk then 0 else 250) := by
        intro hk
        have hok : ruleOk x = ((dec x.f1).isSome && (dec x.f2).isSome && decide (x.f3 = 0) && decide (x.f4 = 0)) := by unfold ruleOk; rw [if_pos hk]
        refine Ev.step (f := fun k => (name_Check.f k x.f1).bind fun t121 => (if t121 = 0 then ((name_Check.f k x.f2).bind fun t122 => (if t122 = 0 then (if x.f3 = 0 then (if x.f4 = 0 then (rewrite_Check.l0 k l (l.length : Int) (wrap64 ((t : Int) + 1))) else (some 250)) else (some 250)) else (some 250))) else (some 250))) (fun k => ?_) ?_
        · simp only [rewrite_Check.j1]; rw [if_pos trivial]
        · refine Ev.bind (f := fun k (t121 : Int) => (if t121 = 0 then ((name_Check.f k x.f2).bind fun t122 => (if t122 = 0 then (if x.f3 = 0 then (if x.f4 = 0 then (rewrite_Check.l0 k l (l.length : Int) (wrap64 ((t : Int) + 1))) else (some 250)) else (some 250)) else (some 250))) else (some 250))) (check_f x.f1) ?_
          by_cases g1 : (dec x.f1).isSome = true
          · rw [if_pos g1]
            refine Ev.congr (f := fun k => (name_Check.f k x.f2).bind fun t122 => (if t122 = 0 then (if x.f3 = 0 then (if x.f4 = 0 then (rewrite_Check.l0 k l (l.length : Int) (wrap64 ((t : Int) + 1))) else (some 250)) else (some 250)) else (some 250))) (fun k => by rw [if_pos rfl]) ?_
            refine Ev.bind (f := fun k (t122 : Int) => (if t122 = 0 then (if x.f3 = 0 then (if x.f4 = 0 then (rewrite_Check.l0 k l (l.length : Int) (wrap64 ((t : Int) + 1))) else (some 250)) else (some 250)) else (some 250))) (check_f x.f2) ?_
            by_cases g2 : (dec x.f2).isSome = true
            · rw [if_pos g2]
              by_cases g3 : x.f3 = 0
              · by_cases g4 : x.f4 = 0
                · rw [yes (by rw [hok, g1, g2, g3, g4]; rfl)]
                  exact Ev.congr (fun k => by rw [if_pos rfl, if_pos g3, if_pos g4, hw]) ih'
                · rw [no _ (by rw [hok]; simp [g4]) rfl]
                  exact Ev.congr (fun k => by rw [if_pos rfl, if_pos g3, if_neg g4]) (Ev.now _)
              · rw [no _ (by rw [hok]; simp [g3]) rfl]
                exact Ev.congr (fun k => by rw [if_pos rfl, if_neg g3]) (Ev.now _)
            · rw [if_neg g2, no _ (by rw [hok]; simp [g2]) rfl]
              exact Ev.congr (fun k => by rw [if_neg (by decide)]) (Ev.now _)
          · rw [if_neg g1, no _ (by rw [hok]; simp [g1]) rfl]
            exact Ev.congr (fun k => by rw [if_neg (by decide)]) (Ev.now _)
      refine Ev.step (f := fun k => if x.f0 = 1 then rewrite_Check.j1 k l (l.length : Int) (t : Int) x.f0 (x.f0 == 1) x.f0 x.f1 x.f2 x.f3 x.f4 else if x.f0 = 2 then rewrite_Check.j1 k l (l.length : Int) (t : Int) x.f0 (x.f0 == 2) x.f0 x.f1 x.f2 x.f3 x.f4 else rewrite_Check.j1 k l (l.length : Int) (t : Int) x.f0 (x.f0 == 3) x.f0 x.f1 x.f2 x.f3 x.f4) (fun k => ?_) ?_
      · simp only [rewrite_Check.l0]; rw [if_pos (by omega), if_pos (by omega), if_pos (by omega), hr]
      · by_cases k1 : x.f0 = 1
        · exact Ev.congr (fun k => by rw [if_pos k1, show (x.f0 == 1) = true by simp [k1]]) (names (.inl k1))
        · by_cases k2 : x.f0 = 2
          · exact Ev.congr (fun k => by rw [if_neg k1, if_pos k2, show (x.f0 == 2) = true by simp [k2]]) (names (.inr (.inl k2)))
          · by_cases k3 : x.f0 = 3
            · exact Ev.congr (fun k => by rw [if_neg k1, if_neg k2, show (x.f0 == 3) = true by simp [k3]]) (names (.inr (.inr k3)))
            · refine Ev.congr (f := fun k => rewrite_Check.j1 k l (l.length : Int) (t : Int) x.f0 false x.f0 x.f1 x.f2 x.f3 x.f4) (fun k => by rw [if_neg k1, if_neg k2, show (x.f0 == 3) = false by simp [k3]]) ?_
              refine Ev.step (f := fun k => if x.f0 = 4 then (if x.f1.toList = ([] : List UInt8) then (if x.f2.toList = ([] : List UInt8) then (if x.f3 = 0 then (some 250) else (if x.f4 = 0 then (some 250) else (rewrite_Check.l0 k l (l.length : Int) (wrap64 ((t : Int) + 1))))) else (some 250)) else (some 250)) else (some 250)) (fun k => ?_) ?_
              · simp only [rewrite_Check.j1]; rw [if_neg (by simp)]
              · have hn : ¬ (x.f0 = 1 ∨ x.f0 = 2 ∨ x.f0 = 3) := by omega
                by_cases k4 : x.f0 = 4
                · have hok : ruleOk x = (decide (x.f1.size = 0) && decide (x.f2.size = 0) && decide (x.f3 ≠ 0) && decide (x.f4 ≠ 0)) := by unfold ruleOk; rw [if_neg hn, if_pos k4]
                  have e1 : x.f1.toList = [] ↔ x.f1.size = 0 := size_nil x.f1
                  have e2 : x.f2.toList = [] ↔ x.f2.size = 0 := size_nil x.f2
                  by_cases g1 : x.f1.size = 0
                  · by_cases g2 : x.f2.size = 0
                    · by_cases g3 : x.f3 = 0
                      · rw [no _ (by rw [hok]; simp [g3]) rfl]
                        exact Ev.congr (fun k => by rw [if_pos k4, if_pos (e1.2 g1), if_pos (e2.2 g2), if_pos g3]) (Ev.now _)
                      · by_cases g4 : x.f4 = 0
                        · rw [no _ (by rw [hok]; simp [g4]) rfl]
                          exact Ev.congr (fun k => by rw [if_pos k4, if_pos (e1.2 g1), if_pos (e2.2 g2), if_neg g3, if_pos g4]) (Ev.now _)
                        · rw [yes (by rw [hok]; simp [g1, g2, g3, g4])]
                          exact Ev.congr (fun k => by rw [if_pos k4, if_pos (e1.2 g1), if_pos (e2.2 g2), if_neg g3, if_neg g4, hw]) ih'
                    · rw [no _ (by rw [hok]; simp [g2]) rfl]
                      exact Ev.congr (fun k => by rw [if_pos k4, if_pos (e1.2 g1), if_neg (fun h => g2 (e2.1 h))]) (Ev.now _)
                  · rw [no _ (by rw [hok]; simp [g1]) rfl]
                    exact Ev.congr (fun k => by rw [if_pos k4, if_neg (fun h => g1 (e1.1 h))]) (Ev.now _)
                · have hok : ruleOk x = false := by unfold ruleOk; rw [if_neg hn, if_neg k4]
                  rw [no _ hok rfl]
                  exact Ev.congr (fun k => by rw [if_neg k4]) (Ev.now _)
    · exact fin t h1 ht
theorem rcheck_f (l : List S38) : Ev (fun k => rewrite_Check.f k l) (checkP l) := by
  unfold checkP
  by_cases h : 32 < l.length
  · rw [if_pos h]
    exact Ev.congr (fun k => by unfold rewrite_Check.f; rw [if_pos (by omega)]) (Ev.now _)
  · rw [if_neg h]
    exact Ev.congr (fun k => by unfold rewrite_Check.f; rw [if_neg (by omega)]; rfl) (check_l0 l (by omega) l.length 0 (by omega) (by omega))
/-! ### what a rule makes -/
def flat (t : S32 × Bool) : ByteArray × Int × Int × Bool := (t.1.f0, t.1.f1, t.1.f2, t.2)
theorem of_f (x : S38) (q : S32) (L M : List ByteArray) (h : L.length + M.length < 8796093022208) : rewrite_rule_of.f x.f0 x.f1 x.f2 x.f3 x.f4 q.f0 q.f1 q.f2 L M = some (flat (ofP (L ++ M) q)) := by
  unfold rewrite_rule_of.f ofP
  rw [if_pos h, of_some (L ++ M), Option.bind_some]
  simp only [Option.getD_some]
  split <;> rfl
theorem under_le {n z : ByteArray} (h : underP n z = true) : ((dec z).getD []).length ≤ ((dec n).getD []).length := by
  unfold underP at h
  cases h1 : dec n with
  | none => simp [h1] at h
  | some L =>
    cases h2 : dec z with
    | none => simp [h1, h2] at h
    | some M =>
      simp only [h1, h2] at h
      by_cases hl : L.length < M.length
      · rw [if_pos hl] at h; simp at h
      · simp; omega
theorem exact_f (x : S38) (q : S32) (hx : x.f0 = 1) : rewrite_rule_exact.f x.f0 x.f1 x.f2 x.f3 x.f4 q.f0 q.f1 q.f2 = some (flat (doP q x)) := by
  unfold rewrite_rule_exact.f name_Cmp.f doP
  rw [if_pos hx, Option.bind_some]
  split <;> rfl
theorem suffix_f (x : S38) (q : S32) (hx : x.f0 = 2) : Ev (fun k => rewrite_rule_suffix.f k x.f0 x.f1 x.f2 x.f3 x.f4 q.f0 q.f1 q.f2) (flat (doP q x)) := by
  obtain ⟨K1, h1⟩ := under_f q.f0 x.f1
  obtain ⟨K2, h2⟩ := labels_f q.f0
  obtain ⟨K3, h3⟩ := count_f x.f1
  obtain ⟨K4, h4⟩ := labels_f x.f2
  have l1 := dec_length q.f0
  have l2 := dec_length x.f1
  have l3 := dec_length x.f2
  refine ⟨K1 + K2 + K3 + K4, fun k hk => ?_⟩
  dsimp only at h1 h2 h3 h4 ⊢
  unfold rewrite_rule_suffix.f doP
  rw [if_neg (show ¬ x.f0 = 1 by omega), if_pos hx, h1 k (by omega), Option.bind_some]
  by_cases hu : underP q.f0 x.f1 = true
  · have hle := under_le hu
    rw [if_pos hu, if_pos hu, h2 k (by omega), Option.bind_some, h3 k (by omega), Option.bind_some]
    have hw : wrap64 (((((dec q.f0).getD []).length : Nat) : Int) - ((((dec x.f1).getD []).length : Nat) : Int)) = ((((dec q.f0).getD []).length - ((dec x.f1).getD []).length : Nat) : Int) := by rw [w64 (by omega) (by omega)]; omega
    rw [hw, if_pos (by omega), if_pos (by omega), h4 k (by omega), Option.bind_some, Int.toNat_natCast, of_f x q _ _ (by rw [List.length_take]; omega)]
    rfl
  · rw [if_neg hu, if_neg hu]
    rfl
theorem prefix_f (x : S38) (q : S32) (hx : x.f0 = 3) : Ev (fun k => rewrite_rule_prefix.f k x.f0 x.f1 x.f2 x.f3 x.f4 q.f0 q.f1 q.f2) (flat (doP q x)) := by
  obtain ⟨K2, h2⟩ := labels_f q.f0
  obtain ⟨K3, h3⟩ := labels_f x.f1
  obtain ⟨K4, h4⟩ := labels_f x.f2
  have l1 := dec_length q.f0
  have l2 := dec_length x.f1
  have l3 := dec_length x.f2
  refine ⟨K2 + K3 + K4 + 1, fun k hk => ?_⟩
  dsimp only at h2 h3 h4 ⊢
  obtain ⟨k, rfl⟩ : ∃ m, k = m + 1 := ⟨k - 1, by omega⟩
  unfold rewrite_rule_prefix.f doP
  rw [if_neg (show ¬ x.f0 = 1 by omega), if_neg (show ¬ x.f0 = 2 by omega), if_pos hx, h2 (k + 1) (by omega), Option.bind_some, h3 (k + 1) (by omega), Option.bind_some]
  by_cases hl : ((dec q.f0).getD []).length < ((dec x.f1).getD []).length
  · rw [if_pos (by omega), if_pos hl]
    rfl
  · rw [if_neg (by omega), if_neg hl, if_pos (by omega), if_pos (by omega), Int.toNat_natCast, of_some, Option.bind_some]
    simp only [Option.getD_some]
    generalize hfr : (name_Of.f (((dec q.f0).getD []).take ((dec x.f1).getD []).length)).getD (⟨#[]⟩, 1) = fr
    obtain ⟨fn, fe⟩ := fr
    simp only
    have no : rewrite_rule_prefix.j0 (k + 1) ((dec q.f0).getD []) ((dec x.f1).getD []) true x.f0 x.f1 x.f2 x.f3 x.f4 q.f0 q.f1 q.f2 = some (flat (z32, false)) := by
      simp only [rewrite_rule_prefix.j0]; rw [if_pos trivial]; rfl
    by_cases he : fe = 0
    · rw [if_pos he]
      unfold name_Cmp.f
      rw [Option.bind_some]
      by_cases hc : cmpP fn x.f1 = 0
      · rw [if_pos ⟨he, hc⟩, hc]
        have e0 : ((0 : Int) != 0) = false := rfl
        rw [e0]
        simp only [rewrite_rule_prefix.j0]
        rw [if_neg (by simp), h4 k (by omega), Option.bind_some, if_pos (by omega), if_pos (by omega), Int.toNat_natCast, of_f x q _ _ (by rw [List.length_drop]; omega)]
        rfl
      · rw [if_neg (fun h => hc h.2), show (cmpP fn x.f1 != 0) = true by simp [hc]]
        exact no
    · rw [if_neg he, if_neg (fun h => he h.1)]
      exact no
theorem kind_f (x : S38) (q : S32) (hx : x.f0 = 4) : rewrite_rule_kind.f x.f0 x.f1 x.f2 x.f3 x.f4 q.f0 q.f1 q.f2 = some (flat (doP q x)) := by
  unfold rewrite_rule_kind.f doP
  rw [if_neg (show ¬ x.f0 = 1 by omega), if_neg (show ¬ x.f0 = 2 by omega), if_neg (show ¬ x.f0 = 3 by omega)]
  split <;> rfl
/-- the four calls, by their contracts -/
theorem do_calls (q : S32) (x : S38) (hx : ruleOk x = true) : (x.f0 = 1 ∧ DoCalls 40 x q (doP q x)) ∨ (x.f0 = 2 ∧ DoCalls 41 x q (doP q x)) ∨ (x.f0 = 3 ∧ DoCalls 42 x q (doP q x)) ∨ (x.f0 = 4 ∧ DoCalls 43 x q (doP q x)) := by
  by_cases k1 : x.f0 = 1
  · exact .inl ⟨k1, fun W => rewrite_rule_exact.calls _ _ _ _ _ _ _ _ _ _ _ _ W (exact_f x q k1)⟩
  · by_cases k2 : x.f0 = 2
    · obtain ⟨k, hk⟩ := (suffix_f x q k2).rounds
      exact .inr (.inl ⟨k2, fun W => rewrite_rule_suffix.calls k _ _ _ _ _ _ _ _ _ _ _ _ W hk⟩)
    · by_cases k3 : x.f0 = 3
      · obtain ⟨k, hk⟩ := (prefix_f x q k3).rounds
        exact .inr (.inr (.inl ⟨k3, fun W => rewrite_rule_prefix.calls k _ _ _ _ _ _ _ _ _ _ _ _ W hk⟩))
      · by_cases k4 : x.f0 = 4
        · exact .inr (.inr (.inr ⟨k4, fun W => rewrite_rule_kind.calls _ _ _ _ _ _ _ _ _ _ _ _ W (kind_f x q k4)⟩))
        · unfold ruleOk at hx
          rw [if_neg (by omega), if_neg k4] at hx
          exact absurd hx (by simp)
end Go.Proofs.Ytfcmphigmfdceaa.Print
