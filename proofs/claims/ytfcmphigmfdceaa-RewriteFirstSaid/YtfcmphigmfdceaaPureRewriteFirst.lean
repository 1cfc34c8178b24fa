/- A rule that does not fit plays no part; behind one that fits nothing does: the plain law. -/
import Derived.Test.YtfcmphigmfdceaaXAskLaws
import Derived.Test.YtfcmphigmfdceaaF5
namespace Go.Proofs.Ytfcmphigmfdceaa.Pure
open Go.RowKit Go.Proofs.Ytfcmphigmfdceaa.Print Go.Proofs.YtfcmphigmfdceaaW.PrintWords Go.Proofs.YtfcmphigmfdceaaW.PrintLast
set_option linter.unusedVariables false
set_option linter.unusedSimpArgs false
theorem RewriteFirst (l m : List S38) (a : ByteArray) (b c : Int) : ∃ k, hearsaylaw25_RewriteFirst.f k l m a b c = some true := by
  refine Ev.rounds (g := fun k => hearsaylaw25_RewriteFirst.f k l m a b c) ?_
  have out : Ev (fun k => hearsaylaw25_RewriteFirst.j0 k l m true a b c) true := by
    refine Ev.step (f := fun _ => some true) (fun k => ?_) (Ev.now _)
    simp only [hearsaylaw25_RewriteFirst.j0]; rw [if_pos trivial, asks_f]; rfl
  have inn : checkP l = 0 → checkP m = 0 → l.length ≤ 30 → m.length ≤ 2 → Ev (fun k => hearsaylaw25_RewriteFirst.j0 k l m false a b c) true := by
    intro h1 h2 h3 h4
    refine Ev.step (f := fun _ => some true) (fun k => ?_) (Ev.now _)
    simp only [hearsaylaw25_RewriteFirst.j0]
    have h5 : checkP (l ++ m) = 0 := checkP_zero (by rw [List.length_append]; omega) (fun x hx => (List.mem_append.1 hx).elim (fun hx => (check_all h1).2 x hx) (fun hx => (check_all h2).2 x hx))
    unfold rewrite_Ask.f
    rw [if_neg (by simp), Option.bind_some, if_pos (by simp only [List.length_nil]; omega)]
    simp only [List.nil_append, Option.bind_some]
    rw [if_pos (by omega), asks_f]
    simp only [Option.bind_some]
    have e : askP (l ++ m) ⟨a, b, c⟩ = if (askP l ⟨a, b, c⟩).2 then askP l ⟨a, b, c⟩ else askP m ⟨a, b, c⟩ := by
      rw [askP_first, askP_first, askP_first, if_pos h5, if_pos h1, if_pos h2]
      by_cases hq : (dec a).isSome = true
      · rw [if_pos hq, if_pos hq, if_pos hq]; exact firstP_append _ l m
      · rw [if_neg hq, if_neg hq, if_neg hq]; rfl
    generalize askP (l ++ m) ⟨a, b, c⟩ = r at e ⊢
    generalize askP l ⟨a, b, c⟩ = p at e ⊢
    generalize askP m ⟨a, b, c⟩ = s at e ⊢
    subst e
    obtain ⟨⟨p0, p1, p2⟩, pb⟩ := p
    obtain ⟨⟨s0, s1, s2⟩, sb⟩ := s
    cases pb <;> simp [flat]
  obtain ⟨K1, h1⟩ := long_f l
  obtain ⟨K2, h2⟩ := long_f m
  obtain ⟨K3, h3⟩ := rcheck_f l
  obtain ⟨K4, h4⟩ := rcheck_f m
  obtain ⟨K5, h5⟩ := out
  dsimp only at h1 h2 h3 h4 h5
  by_cases hin : checkP l = 0 ∧ checkP m = 0 ∧ l.length ≤ 30 ∧ m.length ≤ 2
  · obtain ⟨K6, h6⟩ := inn hin.1 hin.2.1 hin.2.2.1 hin.2.2.2
    dsimp only at h6
    refine ⟨K1 + K2 + K3 + K4 + K5 + K6, fun k hk => ?_⟩
    dsimp only
    unfold hearsaylaw25_RewriteFirst.f
    rw [h1 k (by omega), h2 k (by omega), h3 k (by omega), h4 k (by omega), h5 k (by omega)]
    simp only [Option.bind_some]
    rw [if_neg (by omega), if_neg (by omega)]
    split
    · rfl
    · split
      · rfl
      · split
        · rfl
        · rw [hin.1, hin.2.1, if_pos rfl]
          exact h6 k (by omega)
  · refine ⟨K1 + K2 + K3 + K4 + K5, fun k hk => ?_⟩
    dsimp only
    unfold hearsaylaw25_RewriteFirst.f
    rw [h1 k (by omega), h2 k (by omega), h3 k (by omega), h4 k (by omega), h5 k (by omega)]
    simp only [Option.bind_some]
    split
    · rfl
    · split
      · rfl
      · split
        · rfl
        · split
          · rfl
          · split
            · rfl
            · split
              · rename_i g1 g2 _ _ _ g6
                have g7 : checkP m ≠ 0 := fun h => hin ⟨g6, h, by omega, by omega⟩
                rw [show (checkP m != 0) = true by simpa using g7]
                exact h5 k (by omega)
              · rfl
end Go.Proofs.Ytfcmphigmfdceaa.Pure
