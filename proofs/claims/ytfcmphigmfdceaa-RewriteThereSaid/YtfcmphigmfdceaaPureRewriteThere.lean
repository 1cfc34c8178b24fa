/- A suffix is exchanged, and back again; likewise a prefix: the plain law. -/
import Derived.Test.YtfcmphigmfdceaaXAskLaws
import Derived.Test.YtfcmphigmfdceaaF6D
namespace Go.Proofs.Ytfcmphigmfdceaa.Pure
open Go.RowKit Go.Proofs.Ytfcmphigmfdceaa.Print Go.Proofs.YtfcmphigmfdceaaW.PrintWords Go.Proofs.YtfcmphigmfdceaaW.PrintLast
set_option linter.unusedVariables false
set_option linter.unusedSimpArgs false
theorem check_one (x : S38) : checkP [x] = if ruleOk x then 0 else 250 := by
  unfold checkP
  rw [if_neg (by simp)]
  simp
theorem first_one (D : S38 → S32 × Bool) (x : S38) : firstP D [x] = if (D x).2 then ((D x).1, true) else (z32, false) := by
  cases h : (D x).2 with
  | true => rw [firstP_yes h]; rfl
  | false => rw [firstP_no h]; rfl
theorem names_ok {kd : Int} (hk : kd = 2 ∨ kd = 3) {f t : ByteArray} : ruleOk ⟨kd, f, t, 0, 0⟩ = ((dec f).isSome && (dec t).isSome) := by
  unfold ruleOk
  simp only
  rw [if_pos (by omega)]
  simp
/-- what comes of one rule with names -/
theorem ask_one {kd : Int} (hk : kd = 2 ∨ kd = 3) (f t : ByteArray) (q : S32) : askP [⟨kd, f, t, 0, 0⟩] q =
    match dec f, dec t, dec q.f0 with
    | some F, some T, some L => if L.length < F.length then (z32, false)
        else if kd = 3 then (if rAlike (L.take F.length) F then ofP (T ++ L.drop F.length) q else (z32, false))
        else (if rAlike (L.drop (L.length - F.length)) F then ofP (L.take (L.length - F.length) ++ T) q else (z32, false))
    | _, _, _ => (z32, false) := by
  rw [askP_first, check_one, names_ok hk]
  cases hf : dec f with
  | none => simp
  | some F =>
    cases ht : dec t with
    | none => simp
    | some T =>
      cases hq : dec q.f0 with
      | none => simp
      | some L =>
        simp only [Option.isSome_some, Bool.and_self, if_true]
        rw [first_one]
        have hm := makes_do (q := q) (x := ⟨kd, f, t, 0, 0⟩) (by rw [names_ok hk, hf, ht]; rfl) (by rw [hq]; rfl)
        rw [← hm]
        have hofp : ∀ (Z : List ByteArray), (if (ofP Z q).2 then ((ofP Z q).1, true) else (z32, false)) = ofP Z q := by
          intro Z
          unfold ofP
          simp only
          split <;> rfl
        unfold makesP
        simp only [hf, ht, hq, Option.getD_some]
        rw [if_neg (show ¬ kd = 4 by omega)]
        by_cases hl : L.length < F.length
        · rw [if_pos (Or.inl hl), if_pos hl]; rfl
        · rw [if_neg (show ¬ (L.length < F.length ∨ kd = 1 ∧ F.length < L.length) by omega), if_neg hl]
          by_cases k3 : kd = 3
          · rw [if_pos k3]
            cases rAlike _ F
            · rfl
            · exact hofp _
          · rw [if_neg k3]
            cases rAlike _ F
            · rfl
            · exact hofp _
theorem ofP_yes {Z : List ByteArray} {q : S32} (h : (ofP Z q).2 = true) : Z.any badLab = false ∧ (glue Z).length + 1 ≤ 255 ∧ ofP Z q = (⟨nameOf Z, q.f1, q.f2⟩, true) := by
  unfold ofP at h ⊢
  rw [of_def] at h ⊢
  by_cases hb : Z.any badLab = true
  · rw [if_pos hb] at h; simp at h
  · rw [if_neg hb] at h ⊢
    by_cases hg : 255 < (glue Z).length + 1
    · rw [if_pos hg] at h; simp at h
    · rw [if_neg hg]
      exact ⟨by simpa using hb, by omega, rfl⟩
theorem glue_alike {A B : List ByteArray} (h : A.map lowS = B.map lowS) : (glue A).length = (glue B).length := by
  have e : ∀ Z : List ByteArray, (glue (Z.map lowS)).length = (glue Z).length := by
    intro Z
    induction Z with
    | nil => rfl
    | cons s Z ih =>
      have a1 : glue (s :: Z) = lab s ++ glue Z := rfl
      have a2 : glue ((s :: Z).map lowS) = lab (lowS s) ++ glue (Z.map lowS) := rfl
      rw [a1, a2, List.length_append, List.length_append, lab_length, lab_length, lowS_size, ih]
  rw [← e A, ← e B, h]
theorem rAlike_self (A : List ByteArray) : rAlike A A = true := by simp [rAlike]
theorem There (kd : Int) (hk : kd = 2 ∨ kd = 3) (f t : ByteArray) (q : S32) : Ev (fun k => hearsaylaw25_RewriteThere.j1 k f t kd q.f0 q.f1 q.f2) true := by
  obtain ⟨K1, h1⟩ := rlabels_f q.f0
  obtain ⟨K2, h2⟩ := rlabels_f f
  obtain ⟨K3, h3⟩ := rlabels_f t
  obtain ⟨K4, h4⟩ := rlabels_f (askP [⟨kd, f, t, 0, 0⟩] q).1.f0
  dsimp only at h1 h2 h3 h4
  refine ⟨K1 + K2 + K3 + K4 + 1, fun k hk' => ?_⟩
  dsimp only
  obtain ⟨k, rfl⟩ : ∃ m, k = m + 1 := ⟨k - 1, by omega⟩
  simp only [hearsaylaw25_RewriteThere.j1]
  unfold rewrite_Ask.f
  rw [Option.bind_some, asks_f]
  have hq : (⟨q.f0, q.f1, q.f2⟩ : S32) = q := rfl
  rw [hq]
  by_cases hi : (askP [⟨kd, f, t, 0, 0⟩] q).2 = true
  · have hone := ask_one hk f t q
    have hF : ∃ F, dec f = some F := by
      cases h : dec f with
      | some F => exact ⟨F, rfl⟩
      | none => rw [hone, h] at hi; simp at hi
    obtain ⟨F, hF⟩ := hF
    have hT : ∃ T, dec t = some T := by
      cases h : dec t with
      | some T => exact ⟨T, rfl⟩
      | none => rw [hone, hF, h] at hi; simp at hi
    obtain ⟨T, hT⟩ := hT
    have hL : ∃ L, dec q.f0 = some L := by
      cases h : dec q.f0 with
      | some L => exact ⟨L, rfl⟩
      | none => rw [hone, hF, hT, h] at hi; simp at hi
    obtain ⟨L, hL⟩ := hL
    rw [hF, hT, hL] at hone
    simp only at hone
    have sL := dec_some hL
    have zL := dec_size hL
    have lL := labels_length hL
    have lF := labels_length hF
    have lT := labels_length hT
    have hlen : ¬ L.length < F.length := fun h => by rw [hone, if_pos h] at hi; simp at hi
    rw [if_neg hlen] at hone
    -- the name that comes, its labels; the name that comes back, its labels
    have key : ∃ N B, dec (askP [⟨kd, f, t, 0, 0⟩] q).1.f0 = some N ∧ N.length = L.length - F.length + T.length ∧ askP [⟨kd, f, t, 0, 0⟩] q = (⟨nameOf N, q.f1, q.f2⟩, true) ∧
        askP [⟨kd, t, f, 0, 0⟩] (askP [⟨kd, f, t, 0, 0⟩] q).1 = (⟨nameOf B, q.f1, q.f2⟩, true) ∧ dec (nameOf B) = some B ∧ B.map lowS = L.map lowS := by
      rcases hk with k2 | k3
      · rw [if_neg (show ¬ kd = 3 by omega)] at hone
        have ha : rAlike (L.drop (L.length - F.length)) F = true := by
          cases h : rAlike (L.drop (L.length - F.length)) F with
          | true => rfl
          | false => rw [hone, h] at hi; simp at hi
        rw [if_pos ha] at hone
        rw [hone] at hi
        obtain ⟨o1, o2, o3⟩ := ofP_yes hi
        have hd := dec_nameOf o1 o2
        rw [o3] at hone
        have hal : (L.drop (L.length - F.length)).map lowS = F.map lowS := of_decide_eq_true ha
        have hB : (L.take (L.length - F.length) ++ F).map lowS = L.map lowS := by
          rw [List.map_append, ← hal, ← List.map_append, List.take_append_drop]
        have fB : (L.take (L.length - F.length) ++ F).any badLab = false := by
          rw [List.any_append, take_fine sL.2.2 _, (dec_some hF).2.2]; rfl
        have gB : (glue (L.take (L.length - F.length) ++ F)).length + 1 ≤ 255 := by rw [glue_alike hB]; omega
        refine ⟨_, L.take (L.length - F.length) ++ F, by rw [hone]; exact hd, by rw [List.length_append, List.length_take]; omega, hone, ?_, dec_nameOf fB gB, hB⟩
        rw [hone]
        simp only
        rw [ask_one (Or.inl k2), hF, hT, hd]
        simp only
        have e1 : (L.take (L.length - F.length) ++ T).length - T.length = (L.take (L.length - F.length)).length := by rw [List.length_append]; omega
        rw [if_neg (by rw [List.length_append]; omega), if_neg (show ¬ kd = 3 by omega), e1, List.drop_left, List.take_left, if_pos (rAlike_self T)]
        unfold ofP
        rw [of_fine fB gB]
        rfl
      · rw [if_pos k3] at hone
        have ha : rAlike (L.take F.length) F = true := by
          cases h : rAlike (L.take F.length) F with
          | true => rfl
          | false => rw [hone, h] at hi; simp at hi
        rw [if_pos ha] at hone
        rw [hone] at hi
        obtain ⟨o1, o2, o3⟩ := ofP_yes hi
        have hd := dec_nameOf o1 o2
        rw [o3] at hone
        have hal : (L.take F.length).map lowS = F.map lowS := of_decide_eq_true ha
        have hB : (F ++ L.drop F.length).map lowS = L.map lowS := by
          rw [List.map_append, ← hal, ← List.map_append, List.take_append_drop]
        have fB : (F ++ L.drop F.length).any badLab = false := by
          rw [List.any_append, drop_fine sL.2.2 _, (dec_some hF).2.2]; rfl
        have gB : (glue (F ++ L.drop F.length)).length + 1 ≤ 255 := by rw [glue_alike hB]; omega
        refine ⟨_, F ++ L.drop F.length, by rw [hone]; exact hd, by rw [List.length_append, List.length_drop]; omega, hone, ?_, dec_nameOf fB gB, hB⟩
        rw [hone]
        simp only
        rw [ask_one (Or.inr k3), hF, hT, hd]
        simp only
        rw [if_neg (by rw [List.length_append]; omega), if_pos k3, List.drop_left, List.take_left, if_pos (rAlike_self T)]
        unfold ofP
        rw [of_fine fB gB]
        rfl
    obtain ⟨N, B, n1, n2, n3, b1, b2, b3⟩ := key
    have hlow : lowS (nameOf B) = lowS q.f0 := by
      rw [alike_iff b2 hL, keys_low]; exact b3
    have sB := (dec_some b2).1
    have fq : hearsayref01_Alike.f (nameOf B) q.f0 = some true := by
      unfold hearsayref01_Alike.f hearsayref01_Fold.f
      rw [low_f (by omega), low_f (by have := sL.1; omega), hlow]
      simp
    rw [n3] at b1 h4 n1
    simp only at b1 h4 n1
    rw [n3]
    simp only [flat, if_true]
    rw [show (⟨nameOf N, q.f1, q.f2⟩ : S32) = (⟨nameOf N, q.f1, q.f2⟩ : S32) from rfl, b1]
    simp only [Option.bind_some, if_true]
    rw [fq]
    simp only [Option.bind_some, if_true]
    rw [h4 k (by omega), n1]
    simp only [Option.bind_some, Option.getD_some]
    rw [h1 k (by omega), hL]
    simp only [Option.bind_some, Option.getD_some]
    rw [h2 k (by omega), hF]
    simp only [Option.bind_some, Option.getD_some]
    rw [h3 k (by omega), hT]
    simp only [Option.bind_some, Option.getD_some]
    rw [w64 (n := (L.length : Int) - (F.length : Int)) (by omega) (by omega), w64 (by omega) (by omega), if_pos (by omega)]
  · have hno := askP_fail (l := [⟨kd, f, t, 0, 0⟩]) (q := q) (by simpa using hi)
    rw [hno]
    simp [flat, z32]
theorem RewriteThere (a : ByteArray) (b c : Int) (f t : ByteArray) (fr : Bool) : ∃ k, hearsaylaw25_RewriteThere.f k a b c f t fr = some true := by
  refine Ev.rounds (g := fun k => hearsaylaw25_RewriteThere.f k a b c f t fr) ?_
  have out : Ev (fun k => hearsaylaw25_RewriteThere.j0 k f t fr true a b c) true := by
    refine Ev.step (f := fun _ => some true) (fun k => ?_) (Ev.now _)
    simp only [hearsaylaw25_RewriteThere.j0]; rw [if_pos trivial]
  have inn : Ev (fun k => hearsaylaw25_RewriteThere.j0 k f t fr false a b c) true := by
    cases fr with
    | true =>
      refine Ev.step (fun k => ?_) (There 3 (Or.inr rfl) f t ⟨a, b, c⟩)
      simp only [hearsaylaw25_RewriteThere.j0]; rw [if_neg (by simp), if_pos trivial]
    | false =>
      refine Ev.step (fun k => ?_) (There 2 (Or.inl rfl) f t ⟨a, b, c⟩)
      simp only [hearsaylaw25_RewriteThere.j0]; rw [if_neg (by simp), if_neg (by simp)]
  unfold hearsaylaw25_RewriteThere.f
  by_cases g1 : (a.size : Int) > 2000
  · exact Ev.congr (fun k => by rw [if_pos g1]) out
  · by_cases g2 : (f.size : Int) > 2000
    · exact Ev.congr (fun k => by rw [if_neg g1, if_pos g2]) out
    · by_cases g3 : (t.size : Int) > 2000
      · exact Ev.congr (fun k => by rw [if_neg g1, if_neg g2, decide_eq_true g3]) out
      · exact Ev.congr (fun k => by rw [if_neg g1, if_neg g2, decide_eq_false g3]) inn
end Go.Proofs.Ytfcmphigmfdceaa.Pure
