/- What the document's Of, Glue, and name's Join, Last, Parent, Under tell. -/
import Derived.Test.YtfcmphigmfdceaaXCmpLaw
import Derived.Test.YtfcmphigmfdceaaXGlue
import Derived.Test.YtfcmphigmfdceaaF46
namespace Go.Proofs.Ytfcmphigmfdceaa.Print
set_option linter.unusedVariables false
set_option linter.unusedSimpArgs false
open Go.RowKit Go.Proofs.YtfcmphigmfdceaaW.PrintWords Go.Proofs.YtfcmphigmfdceaaW.PrintLast Go.Proofs.YtfcmphigmfdceaaW.PrintMore
theorem gluew_glue : ∀ (L : List ByteArray), L.any badLab = false → gluew L = glue L
  | [], _ => rfl
  | s :: L, h => by
    rw [List.any_cons, Bool.or_eq_false_iff] at h
    have hs := bad_false h.1
    have ih := gluew_glue L h.2
    simp only [gluew, glue, List.flatMap_cons] at ih ⊢
    rw [ih]
    congr 1
    unfold labw lab
    congr 1
    have : IntKind.u8.wrap (s.size : Int) = (s.size : Int) % 256 := IntKind.wrap_u8 _
    first | (rw [this]; omega) | omega
theorem glue_f {L : List ByteArray} (h : L.any badLab = false) (hl : (glue L).length + 1 ≤ 9223372036854775807) : hearsayref01_Glue.f L = some (nameOf L) := by
  unfold hearsayref01_Glue.f nameOf
  rw [gluew_glue L h, if_pos hl]
theorem rd_at {L : List ByteArray} {t : Nat} (h : t < L.length) : ∃ s, L[t]? = some s ∧ rdOf ByteArray.empty L (t : Int) = s := ⟨L[t], List.getElem?_eq_getElem h, by simp [rdOf, List.getD_eq_getElem?_getD, h]⟩
theorem any_take {L : List ByteArray} {t : Nat} {s : ByteArray} (hs : L[t]? = some s) (h : (L.take t).any badLab = false) (hb : badLab s = false) : (L.take (t + 1)).any badLab = false := by
  rw [take_succ' hs, List.any_append, h]; simp [hb]
theorem glue_take {L : List ByteArray} {t : Nat} {s : ByteArray} (hs : L[t]? = some s) : (glue (L.take (t + 1))).length = (glue (L.take t)).length + 1 + s.size := by
  rw [take_succ' hs, glue_snoc, List.length_append, lab_length]; omega
theorem glue_mono (L : List ByteArray) (t : Nat) : (glue (L.take t)).length ≤ (glue L).length := by
  conv => rhs; rw [← List.take_append_drop t L]
  rw [show glue (L.take t ++ L.drop t) = glue (L.take t) ++ glue (L.drop t) from by unfold glue; exact List.flatMap_append, List.length_append]; omega
theorem of_l1 (L : List ByteArray) (hb : L.any badLab = false) (hn : L.length ≤ 8796093022208) (d : Nat) : ∀ t : Nat, L.length - t ≤ d → t ≤ L.length → (glue (L.take t)).length + 1 ≤ 255 →
    Ev (fun k => hearsayref01_Of.l1 k L (((glue (L.take t)).length + 1 : Nat) : Int) (t : Int)) (if 255 < (glue L).length + 1 then (⟨#[]⟩, 2) else (nameOf L, 0)) := by
  have fin : ∀ t : Nat, t ≤ L.length → ¬ t < L.length → (glue (L.take t)).length + 1 ≤ 255 → Ev (fun k => hearsayref01_Of.l1 k L (((glue (L.take t)).length + 1 : Nat) : Int) (t : Int)) (if 255 < (glue L).length + 1 then (⟨#[]⟩, 2) else (nameOf L, 0)) := by
    intro t h1 h2 h3
    rw [List.take_of_length_le (by omega)] at h3 ⊢
    rw [if_neg (by omega)]
    refine Ev.step (f := fun _ => some (nameOf L, 0)) (fun k => ?_) (Ev.now _)
    simp only [hearsayref01_Of.l1]
    rw [if_neg (by omega), glue_f hb (by omega)]
    rfl
  induction d with
  | zero => intro t hd h1 h3; exact fin t h1 (by omega) h3
  | succ d ih =>
    intro t hd h1 h3
    by_cases ht : t < L.length
    · obtain ⟨s, hs, hr⟩ := rd_at ht
      have hg := glue_take hs
      have hm := glue_mono L (t + 1)
      have hsz : s.size ≤ 63 := by
        rw [List.any_eq_false] at hb
        exact (bad_false (by simpa using hb s (List.mem_of_getElem? hs))).2
      have e1 : wrap64 ((((glue (L.take t)).length + 1 : Nat) : Int) + 1) = (((glue (L.take t)).length + 2 : Nat) : Int) := by rw [w64 (by omega) (by omega)]; omega
      have e2 : wrap64 ((((glue (L.take t)).length + 2 : Nat) : Int) + (s.size : Int)) = (((glue (L.take (t + 1))).length + 1 : Nat) : Int) := by rw [w64 (by omega) (by omega), hg]; omega
      by_cases hl : 255 < (glue (L.take (t + 1))).length + 1
      · rw [if_pos (by omega)]
        refine Ev.step (f := fun _ => some (⟨#[]⟩, 2)) (fun k => ?_) (Ev.now _)
        simp only [hearsayref01_Of.l1]
        rw [if_pos (by omega), if_pos (by omega), hr, e1, e2, if_pos (by omega)]
      · refine Ev.step (fun k => ?_) (ih (t + 1) (by omega) (by omega) (by omega))
        simp only [hearsayref01_Of.l1]
        rw [if_pos (by omega), if_pos (by omega), hr, e1, e2, if_neg (by omega), w64 (by omega) (by omega)]
        rfl
    · exact fin t h1 ht h3
theorem of_l0 (L : List ByteArray) (hn : L.length ≤ 8796093022208) (d : Nat) : ∀ t : Nat, L.length - t ≤ d → t ≤ L.length → (L.take t).any badLab = false →
    Ev (fun k => hearsayref01_Of.l0 k L 1 (t : Int)) ((name_Of.f L).getD (⟨#[]⟩, 0)) := by
  have fin : ∀ t : Nat, t ≤ L.length → ¬ t < L.length → (L.take t).any badLab = false → Ev (fun k => hearsayref01_Of.l0 k L 1 (t : Int)) ((name_Of.f L).getD (⟨#[]⟩, 0)) := by
    intro t h1 h2 h3
    rw [List.take_of_length_le (by omega)] at h3
    have h := of_l1 L h3 hn L.length 0 (by omega) (by omega) (by simp [glue])
    have e : (name_Of.f L).getD (⟨#[]⟩, 0) = if 255 < (glue L).length + 1 then (⟨#[]⟩, 2) else (nameOf L, 0) := by
      unfold name_Of.f nameOf
      rw [if_neg (by rw [h3]; simp)]
      split <;> rfl
    rw [e]
    refine Ev.step (fun k => ?_) h
    simp only [hearsayref01_Of.l0]
    rw [if_neg (by omega)]
    rfl
  induction d with
  | zero => intro t hd h1 h3; exact fin t h1 (by omega) h3
  | succ d ih =>
    intro t hd h1 h3
    by_cases ht : t < L.length
    · obtain ⟨s, hs, hr⟩ := rd_at ht
      by_cases hb : badLab s = true
      · have e : (name_Of.f L).getD (⟨#[]⟩, 0) = (⟨#[]⟩, 10) := by
          unfold name_Of.f; rw [if_pos (of_bad hs hb)]; rfl
        rw [e]
        refine Ev.step (f := fun _ => some (⟨#[]⟩, 10)) (fun k => ?_) (Ev.now _)
        simp only [hearsayref01_Of.l0]
        rw [if_pos (by omega), if_pos (by omega), hr]
        unfold badLab at hb
        simp only [Bool.or_eq_true, decide_eq_true_eq] at hb
        by_cases h0 : s.size = 0
        · rw [if_pos (by omega)]
        · rw [if_neg (by omega), if_pos (by omega)]
      · have hb' : badLab s = false := by simpa using hb
        have hs2 := bad_false hb'
        refine Ev.step (fun k => ?_) (ih (t + 1) (by omega) (by omega) (any_take hs h3 hb'))
        simp only [hearsayref01_Of.l0]
        rw [if_pos (by omega), if_pos (by omega), hr, if_neg (by omega), if_neg (by omega), w64 (by omega) (by omega)]
        rfl
    · exact fin t h1 ht h3
theorem rof_f (L : List ByteArray) (hn : L.length ≤ 8796093022208) : Ev (fun k => hearsayref01_Of.f k L) ((name_Of.f L).getD (⟨#[]⟩, 0)) := of_l0 L hn L.length 0 (by omega) (by omega) (by simp)
/-! ### Join -/
def joinP (a b : ByteArray) : ByteArray × Int :=
  match dec a, dec b with
  | some L, some M => if 255 < (glue (L ++ M)).length + 1 then (⟨#[]⟩, 2) else (nameOf (L ++ M), 0)
  | _, _ => (⟨#[]⟩, 11)
theorem glue_append (L M : List ByteArray) : glue (L ++ M) = glue L ++ glue M := by simp [glue]
theorem join_front {a b : ByteArray} {L M : List ByteArray} (ha : dec a = some L) (hb : dec b = some M) : a.extract 0 (a.size - 1) ++ b = nameOf (L ++ M) := by
  have h1 := dec_some ha
  have h2 := dec_some hb
  have hs := dec_size ha
  refine bytes_inj ?_
  rw [bytes_nameOf (by rw [List.any_append, h1.2.2, h2.2.2]; rfl), glue_append]
  have e : bytesOf (a.extract 0 (a.size - 1) ++ b) = bytesOf (a.extract 0 (a.size - 1)) ++ bytesOf b := by
    unfold bytesOf; rw [← List.map_append]; congr 1
  rw [e, bytes_extract, h1.2.1, h2.2.1, List.drop_zero, hs, show (glue L).length + 1 - 1 - 0 = (glue L).length by omega, List.take_left, List.append_assoc]
theorem join_size {a b : ByteArray} {L M : List ByteArray} (ha : dec a = some L) (hb : dec b = some M) : a.size - 1 + b.size = (glue (L ++ M)).length + 1 ∧ 0 < a.size ∧ a.size ≤ 255 ∧ b.size ≤ 255 := by
  have h1 := dec_size ha
  have h2 := dec_size hb
  have h3 := (dec_some ha).1
  have h4 := (dec_some hb).1
  rw [glue_append, List.length_append]
  omega
end Go.Proofs.Ytfcmphigmfdceaa.Print
