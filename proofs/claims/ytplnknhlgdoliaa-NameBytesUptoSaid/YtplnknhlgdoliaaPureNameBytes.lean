/- Bytes and Escape are what the document says: the plain law, up to a bound. -/
import Derived.Test.YtplnknhlgdoliaaF5
import Derived.Test.YtplnknhlgdoliaaXWakes
namespace Go.Proofs.Ytplnknhlgdoliaa.Pure
open Go.RowKit Go.Proofs.Ytplnknhlgdoliaa.Print Go.Proofs.YtplnknhlgdoliaaW.PrintWords Go.Proofs.YtplnknhlgdoliaaW.PrintLast Go.Proofs.YtplnknhlgdoliaaW.PrintMore
set_option linter.unusedVariables false
set_option linter.unusedSimpArgs false
theorem marked_f (c : Int) (q : Bool) : hearsayref01_marked.f c q = some (decide (c = 34 ∨ c = 92 ∨ (q = false ∧ (c = 46 ∨ c = 59 ∨ c = 40 ∨ c = 41 ∨ c = 64 ∨ c = 36)))) := by
  unfold hearsayref01_marked.f
  by_cases h1 : c = 34
  · rw [if_pos h1]; simp [h1]
  rw [if_neg h1]
  by_cases h2 : c = 92
  · rw [if_pos h2]; simp [h2]
  rw [if_neg h2]
  cases q
  · rw [if_neg (by simp)]
    by_cases h3 : c = 46
    · rw [if_pos h3]; simp [h3]
    rw [if_neg h3]
    by_cases h4 : c = 59
    · rw [if_pos h4]; simp [h4]
    rw [if_neg h4]
    by_cases h5 : c = 40
    · rw [if_pos h5]; simp [h5]
    rw [if_neg h5]
    by_cases h6 : c = 41
    · rw [if_pos h6]; simp [h6]
    rw [if_neg h6]
    by_cases h7 : c = 64
    · rw [if_pos h7]; simp [h7]
    rw [if_neg h7]
    by_cases h8 : c = 36
    · simp [h8]
    · simp [h1, h2, h3, h4, h5, h6, h7, h8]
  · rw [if_pos rfl]; simp [h1, h2]
theorem esc_round (k : Nat) (s : ByteArray) (q : Bool) (X : List Int) (i : Nat) (hi : i < s.size) (hx : X.length ≤ 4 * i) (hs : s.size ≤ 8388608) :
    hearsayref01_Escape.l0 (k + 1) s q X (i : Int) = hearsayref01_Escape.l0 k s q (X ++ escB q (bt s (i : Int))) ((i + 1 : Nat) : Int) := by
  have hc : 0 ≤ bt s (i : Int) ∧ bt s (i : Int) < 256 := by
    have hil : i < (bytesOf s).length := by rw [bytesOf_length]; exact hi
    have he : (bytesOf s)[i] = bt s (i : Int) := by rw [← rd_bytesOf]; simp [rd, List.getD_eq_getElem?_getD, List.getElem?_eq_getElem hil]
    exact bo_range s _ (he ▸ List.getElem_mem hil)
  simp only [hearsayref01_Escape.l0]
  rw [if_pos (by omega), if_pos (by omega), marked_f, Option.bind_some, w64 (n := (i : Int) + 1) (by omega) (by omega), show (i : Int) + 1 = ((i + 1 : Nat) : Int) by omega]
  generalize bt s (i : Int) = c at hc
  have e1 : (48 + ((Int.tdiv c 100) % 256)) % 256 = 48 + c / 100 := by rw [Int.tdiv_eq_ediv_of_nonneg hc.1]; omega
  have e2 : 48 + (((Int.tdiv c 10) % 256) % 10) = 48 + c / 10 % 10 := by rw [Int.tdiv_eq_ediv_of_nonneg hc.1]; omega
  have e3 : (48 + (Int.tmod c 10)) % 256 = 48 + c % 10 := by rw [Int.tmod_eq_emod_of_nonneg hc.1]; omega
  rw [e1, e2, e3]
  by_cases hm : c = 34 ∨ c = 92 ∨ (q = false ∧ (c = 46 ∨ c = 59 ∨ c = 40 ∨ c = 41 ∨ c = 64 ∨ c = 36))
  · have hE : escB q c = [92, c] := by
      unfold escB
      rcases hm with h | h | ⟨h, h'⟩
      · rw [if_neg (by omega), if_pos (Or.inl h)]
      · rw [if_neg (by omega), if_pos (Or.inr h)]
      · rw [if_pos h', if_neg (by simp [h])]
    rw [if_pos (decide_eq_true hm), Option.bind_some, if_pos (by simp only [List.length_cons, List.length_nil]; omega), hE]
  · have hn1 : ¬ (c = 34 ∨ c = 92) := fun h => hm (by rcases h with h | h <;> simp [h])
    have hn2 : (c = 46 ∨ c = 59 ∨ c = 40 ∨ c = 41 ∨ c = 64 ∨ c = 36) → q = true := fun h => by
      cases q
      · exact absurd (Or.inr (Or.inr ⟨rfl, h⟩)) hm
      · rfl
    rw [if_neg (fun h => hm (of_decide_eq_true h))]
    have hone : (32 < c ∧ c < 127) ∨ (c = 32 ∧ q = true) → escB q c = [c] := fun hp => by
      unfold escB
      by_cases hd : c = 46 ∨ c = 59 ∨ c = 40 ∨ c = 41 ∨ c = 64 ∨ c = 36
      · rw [if_pos hd, if_pos (hn2 hd)]
      · rw [if_neg hd, if_neg hn1, if_pos hp]
    have hfour : ¬ ((32 < c ∧ c < 127) ∨ (c = 32 ∧ q = true)) → escB q c = [92, 48 + c / 100, 48 + c / 10 % 10, 48 + c % 10] := fun hp => by
      unfold escB
      rw [if_neg (by omega), if_neg hn1, if_neg hp]
    have l1 : X.length < 140737488355328 := by omega
    have l4 : X.length + ([92, 48 + c / 100, 48 + c / 10 % 10, 48 + c % 10] : List Int).length < 140737488355328 := by simp only [List.length_cons, List.length_nil]; omega
    simp only [Option.bind_some]
    rw [if_pos l1, if_pos l4]
    by_cases h1 : c > 32
    · rw [if_pos h1]
      by_cases h2 : c < 127
      · rw [if_pos h2, hone (Or.inl ⟨h1, h2⟩)]
      · rw [if_neg h2, if_neg (by omega), hfour (by omega)]
    · rw [if_neg h1]
      by_cases h3 : c = 32
      · rw [if_pos h3]
        by_cases h4 : q = true
        · rw [if_pos h4, hone (Or.inr ⟨h3, h4⟩)]
        · rw [if_neg h4, hfour (by rintro (h | h); exact absurd h.1 h1; exact h4 h.2)]
      · rw [if_neg h3, hfour (by omega)]
theorem esc_f (s : ByteArray) (q : Bool) (hs : s.size ≤ 8388608) : Ev (fun k => hearsayref01_Escape.f k s q) (strOfNums (esc q (bytesOf s))) := by
  suffices H : ∀ (d i : Nat), s.size - i ≤ d → i ≤ s.size → Ev (fun k => hearsayref01_Escape.l0 k s q (esc q ((bytesOf s).take i)) (i : Int)) (strOfNums (esc q (bytesOf s))) from Ev.congr (fun k => rfl) (H s.size 0 (by omega) (by omega))
  have hend : ∀ i, s.size ≤ i → Ev (fun k => hearsayref01_Escape.l0 k s q (esc q ((bytesOf s).take i)) (i : Int)) (strOfNums (esc q (bytesOf s))) := by
    intro i hi
    refine Ev.step (f := fun _ => some _) (fun k => ?_) (Ev.now _)
    simp only [hearsayref01_Escape.l0]
    rw [if_neg (by omega), List.take_of_length_le (by rw [bytesOf_length]; omega)]
  intro d
  induction d with
  | zero => intro i hd hi; exact hend i (by omega)
  | succ d ih =>
    intro i hd hi
    by_cases hlt : i < s.size
    · have ih := ih (i + 1) (by omega) (by omega)
      have hil : i < (bytesOf s).length := by rw [bytesOf_length]; exact hlt
      have he : (bytesOf s)[i] = bt s (i : Int) := by rw [← rd_bytesOf]; simp [rd, List.getD_eq_getElem?_getD, List.getElem?_eq_getElem hil]
      have hx : esc q ((bytesOf s).take (i + 1)) = esc q ((bytesOf s).take i) ++ escB q (bt s (i : Int)) := by
        rw [List.take_add_one, List.getElem?_eq_getElem hil, he]; simp [esc]
      have hl : (esc q ((bytesOf s).take i)).length ≤ 4 * i := by
        have key : ∀ l : List Int, (esc q l).length ≤ 4 * l.length := by
          intro l
          induction l with
          | nil => simp [esc]
          | cons c r ihl =>
            have := escB_length q c
            have e : esc q (c :: r) = escB q c ++ esc q r := by simp [esc]
            rw [e, List.length_append, List.length_cons]; omega
        have := key ((bytesOf s).take i)
        rw [List.length_take] at this
        omega
      rw [hx] at ih
      exact Ev.step (fun k => esc_round k s q _ i hlt hl hs) ih
    · exact hend i (by omega)
theorem NameBytes (a0 : ByteArray) (a1 : Bool) (hs : a0.size ≤ 1048576) : ∃ k, hearsaylaw01_NameBytes.f k a0 a1 = some true := by
  refine Ev.rounds (g := fun k => hearsaylaw01_NameBytes.f k a0 a1) ?_
  have W : Ev (fun k => (hearsaylaw01_wakes.f k).bind fun x => some x) true := Ev.bind (f := fun _ x => some x) wakes_ev (Ev.now _)
  obtain ⟨p, hp⟩ : ∃ p, name_Bytes.f a0 = some p := by
    unfold name_Bytes.f
    rw [if_pos (by omega)]
    split <;> exact ⟨_, rfl⟩
  have hq : hearsayref01_Bytes.f a0 = some p := hp
  have he : name_Escape.f a0 a1 = some (strOfNums (esc a1 (bytesOf a0))) := by unfold name_Escape.f; rw [if_pos (by omega)]
  refine Ev.congr (f := fun k => (hearsayref01_Escape.f k a0 a1).bind fun t => if (strOfNums (esc a1 (bytesOf a0))).toList = t.toList then (hearsaylaw01_wakes.f k).bind fun x => some x else some false) (fun k => ?_) ?_
  · unfold hearsaylaw01_NameBytes.f
    rw [hp, hq, he]
    simp only [Option.bind_some]
    rw [if_pos trivial, if_pos trivial]
  · refine Ev.bind (f := fun k (t : ByteArray) => if (strOfNums (esc a1 (bytesOf a0))).toList = t.toList then (hearsaylaw01_wakes.f k).bind fun x => some x else some false) (esc_f a0 a1 (by omega)) ?_
    exact Ev.congr (fun k => if_pos rfl) W
end Go.Proofs.Ytplnknhlgdoliaa.Pure
