/- What the document's Of, Glue, and name's Join, Last, Parent, Under tell. -/
import Derived.Test.YtplnknhlgdoliaaXCmpLaw
import Derived.Test.YtplnknhlgdoliaaXGlue
import Derived.Test.YtplnknhlgdoliaaF22
import Derived.Test.YtplnknhlgdoliaaF31
import Derived.Test.YtplnknhlgdoliaaF32
namespace Go.Proofs.Ytplnknhlgdoliaa.Print
set_option linter.unusedVariables false
set_option linter.unusedSimpArgs false
open Go.RowKit Go.Proofs.YtplnknhlgdoliaaW.PrintWords Go.Proofs.YtplnknhlgdoliaaW.PrintLast Go.Proofs.YtplnknhlgdoliaaW.PrintMore
theorem gluew_glue : ∀ (L : List ByteArray), L.any badLab = false → gluew L = glue L
  | [], _ => rfl
  | s :: L, h => by
    rw [List.any_cons, Bool.or_eq_false_iff] at h
    have hs := bad_false h.1
    have ih := gluew_glue L h.2
    simp only [gluew, glue, List.flatMap_cons] at ih ⊢
    rw [ih]
    congr 1
    unfold labw lab
    congr 1
    have : IntKind.u8.wrap (s.size : Int) = (s.size : Int) % 256 := IntKind.wrap_u8 _
    first | (rw [this]; omega) | omega
theorem glue_f {L : List ByteArray} (h : L.any badLab = false) (hl : (glue L).length + 1 ≤ 9223372036854775807) : hearsayref01_Glue.f L = some (nameOf L) := by
  unfold hearsayref01_Glue.f nameOf
  rw [gluew_glue L h, if_pos hl]
theorem rd_at {L : List ByteArray} {t : Nat} (h : t < L.length) : ∃ s, L[t]? = some s ∧ rdOf ByteArray.empty L (t : Int) = s := ⟨L[t], List.getElem?_eq_getElem h, by simp [rdOf, List.getD_eq_getElem?_getD, h]⟩
theorem any_take {L : List ByteArray} {t : Nat} {s : ByteArray} (hs : L[t]? = some s) (h : (L.take t).any badLab = false) (hb : badLab s = false) : (L.take (t + 1)).any badLab = false := by
  rw [take_succ' hs, List.any_append, h]; simp [hb]
theorem glue_take {L : List ByteArray} {t : Nat} {s : ByteArray} (hs : L[t]? = some s) : (glue (L.take (t + 1))).length = (glue (L.take t)).length + 1 + s.size := by
  rw [take_succ' hs, glue_snoc, List.length_append, lab_length]; omega
theorem glue_mono (L : List ByteArray) (t : Nat) : (glue (L.take t)).length ≤ (glue L).length := by
  conv => rhs; rw [← List.take_append_drop t L]
  rw [show glue (L.take t ++ L.drop t) = glue (L.take t) ++ glue (L.drop t) from by unfold glue; exact List.flatMap_append, List.length_append]; omega
theorem of_l1 (L : List ByteArray) (hb : L.any badLab = false) (hn : L.length ≤ 1099511627776) (d : Nat) : ∀ t : Nat, L.length - t ≤ d → t ≤ L.length → (glue (L.take t)).length + 1 ≤ 255 →
    Ev (fun k => hearsayref01_Of.l1 k L (((glue (L.take t)).length + 1 : Nat) : Int) (t : Int)) (if 255 < (glue L).length + 1 then (⟨#[]⟩, 2) else (nameOf L, 0)) := by
  have fin : ∀ t : Nat, t ≤ L.length → ¬ t < L.length → (glue (L.take t)).length + 1 ≤ 255 → Ev (fun k => hearsayref01_Of.l1 k L (((glue (L.take t)).length + 1 : Nat) : Int) (t : Int)) (if 255 < (glue L).length + 1 then (⟨#[]⟩, 2) else (nameOf L, 0)) := by
    intro t h1 h2 h3
    rw [List.take_of_length_le (by omega)] at h3 ⊢
    rw [if_neg (by omega)]
    refine Ev.step (f := fun _ => some (nameOf L, 0)) (fun k => ?_) (Ev.now _)
    simp only [hearsayref01_Of.l1]
    rw [if_neg (by omega), glue_f hb (by omega)]
    rfl
  induction d with
  | zero => intro t hd h1 h3; exact fin t h1 (by omega) h3
  | succ d ih =>
    intro t hd h1 h3
    by_cases ht : t < L.length
    · obtain ⟨s, hs, hr⟩ := rd_at ht
      have hg := glue_take hs
      have hm := glue_mono L (t + 1)
      have hsz : s.size ≤ 63 := by
        rw [List.any_eq_false] at hb
        exact (bad_false (by simpa using hb s (List.mem_of_getElem? hs))).2
      have e1 : wrap64 ((((glue (L.take t)).length + 1 : Nat) : Int) + 1) = (((glue (L.take t)).length + 2 : Nat) : Int) := by rw [w64 (by omega) (by omega)]; omega
      have e2 : wrap64 ((((glue (L.take t)).length + 2 : Nat) : Int) + (s.size : Int)) = (((glue (L.take (t + 1))).length + 1 : Nat) : Int) := by rw [w64 (by omega) (by omega), hg]; omega
      by_cases hl : 255 < (glue (L.take (t + 1))).length + 1
      · rw [if_pos (by omega)]
        refine Ev.step (f := fun _ => some (⟨#[]⟩, 2)) (fun k => ?_) (Ev.now _)
        simp only [hearsayref01_Of.l1]
        rw [if_pos (by omega), if_pos (by omega), hr, e1, e2, if_pos (by omega)]
      · refine Ev.step (fun k => ?_) (ih (t + 1) (by omega) (by omega) (by omega))
        simp only [hearsayref01_Of.l1]
        rw [if_pos (by omega), if_pos (by omega), hr, e1, e2, if_neg (by omega), w64 (by omega) (by omega)]
        rfl
    · exact fin t h1 ht h3
theorem of_l0 (L : List ByteArray) (hn : L.length ≤ 1099511627776) (d : Nat) : ∀ t : Nat, L.length - t ≤ d → t ≤ L.length → (L.take t).any badLab = false →
    Ev (fun k => hearsayref01_Of.l0 k L 1 (t : Int)) ((name_Of.f L).getD (⟨#[]⟩, 0)) := by
  have fin : ∀ t : Nat, t ≤ L.length → ¬ t < L.length → (L.take t).any badLab = false → Ev (fun k => hearsayref01_Of.l0 k L 1 (t : Int)) ((name_Of.f L).getD (⟨#[]⟩, 0)) := by
    intro t h1 h2 h3
    rw [List.take_of_length_le (by omega)] at h3
    have h := of_l1 L h3 hn L.length 0 (by omega) (by omega) (by simp [glue])
    have e : (name_Of.f L).getD (⟨#[]⟩, 0) = if 255 < (glue L).length + 1 then (⟨#[]⟩, 2) else (nameOf L, 0) := by
      unfold name_Of.f nameOf
      rw [if_neg (by rw [h3]; simp)]
      split <;> rfl
    rw [e]
    refine Ev.step (fun k => ?_) h
    simp only [hearsayref01_Of.l0]
    rw [if_neg (by omega)]
    rfl
  induction d with
  | zero => intro t hd h1 h3; exact fin t h1 (by omega) h3
  | succ d ih =>
    intro t hd h1 h3
    by_cases ht : t < L.length
    · obtain ⟨s, hs, hr⟩ := rd_at ht
      by_cases hb : badLab s = true
      · have e : (name_Of.f L).getD (⟨#[]⟩, 0) = (⟨#[]⟩, 10) := by
          unfold name_Of.f; rw [if_pos (of_bad hs hb)]; rfl
        rw [e]
        refine Ev.step (f := fun _ => some (⟨#[]⟩, 10)) (fun k => ?_) (Ev.now _)
        simp only [hearsayref01_Of.l0]
        rw [if_pos (by omega), if_pos (by omega), hr]
        unfold badLab at hb
        simp only [Bool.or_eq_true, decide_eq_true_eq] at hb
        by_cases h0 : s.size = 0
        · rw [if_pos (by omega)]
        · rw [if_neg (by omega), if_pos (by omega)]
      · have hb' : badLab s = false := by simpa using hb
        have hs2 := bad_false hb'
        refine Ev.step (fun k => ?_) (ih (t + 1) (by omega) (by omega) (any_take hs h3 hb'))
        simp only [hearsayref01_Of.l0]
        rw [if_pos (by omega), if_pos (by omega), hr, if_neg (by omega), if_neg (by omega), w64 (by omega) (by omega)]
        rfl
    · exact fin t h1 ht h3
theorem rof_f (L : List ByteArray) (hn : L.length ≤ 1099511627776) : Ev (fun k => hearsayref01_Of.f k L) ((name_Of.f L).getD (⟨#[]⟩, 0)) := of_l0 L hn L.length 0 (by omega) (by omega) (by simp)
/-! ### Join -/
def joinP (a b : ByteArray) : ByteArray × Int :=
  match dec a, dec b with
  | some L, some M => if 255 < (glue (L ++ M)).length + 1 then (⟨#[]⟩, 2) else (nameOf (L ++ M), 0)
  | _, _ => (⟨#[]⟩, 11)
theorem glue_append (L M : List ByteArray) : glue (L ++ M) = glue L ++ glue M := by simp [glue]
theorem join_front {a b : ByteArray} {L M : List ByteArray} (ha : dec a = some L) (hb : dec b = some M) : a.extract 0 (a.size - 1) ++ b = nameOf (L ++ M) := by
  have h1 := dec_some ha
  have h2 := dec_some hb
  have hs := dec_size ha
  refine bytes_inj ?_
  rw [bytes_nameOf (by rw [List.any_append, h1.2.2, h2.2.2]; rfl), glue_append]
  have e : bytesOf (a.extract 0 (a.size - 1) ++ b) = bytesOf (a.extract 0 (a.size - 1)) ++ bytesOf b := by
    unfold bytesOf; rw [← List.map_append]; congr 1
  rw [e, bytes_extract, h1.2.1, h2.2.1, List.drop_zero, hs, show (glue L).length + 1 - 1 - 0 = (glue L).length by omega, List.take_left, List.append_assoc]
theorem join_size {a b : ByteArray} {L M : List ByteArray} (ha : dec a = some L) (hb : dec b = some M) : a.size - 1 + b.size = (glue (L ++ M)).length + 1 ∧ 0 < a.size ∧ a.size ≤ 255 ∧ b.size ≤ 255 := by
  have h1 := dec_size ha
  have h2 := dec_size hb
  have h3 := (dec_some ha).1
  have h4 := (dec_some hb).1
  rw [glue_append, List.length_append]
  omega
theorem join_f (a b : ByteArray) : Ev (fun k => name_Join.f k a b) (joinP a b) := by
  refine Ev.bind (f := fun k (x : Int) => if x = 0 then (name_Check.f k b).bind fun y => name_Join.j0 k a b (y != 0) else name_Join.j0 k a b true) (check_f a) ?_
  have no : Ev (fun k => name_Join.j0 k a b true) (⟨#[]⟩, 11) := by
    refine Ev.step (f := fun _ => some (⟨#[]⟩, 11)) (fun k => ?_) (Ev.now _)
    simp only [name_Join.j0]; rw [if_pos trivial]
  unfold joinP
  cases ha : dec a with
  | none =>
    simp only [Option.isSome_none]
    refine Ev.congr (fun k => ?_) no
    rw [if_neg (by simp)]
  | some L =>
    refine Ev.congr (f := fun k => (name_Check.f k b).bind fun y => name_Join.j0 k a b (y != 0)) (fun k => by simp) ?_
    refine Ev.bind (f := fun k (y : Int) => name_Join.j0 k a b (y != 0)) (check_f b) ?_
    cases hb : dec b with
    | none => exact no
    | some M =>
      simp only [Option.isSome_some, if_true]
      obtain ⟨j1, j2, j3, j4⟩ := join_size ha hb
      have jf := join_front ha hb
      have e0 : wrap64 ((a.size : Int) - 1) = ((a.size - 1 : Nat) : Int) := by rw [w64 (by omega) (by omega)]; omega
      have e1 : wrap64 (((a.size - 1 : Nat) : Int) + (b.size : Int)) = (((glue (L ++ M)).length + 1 : Nat) : Int) := by rw [w64 (by omega) (by omega), ← j1]; omega
      refine Ev.step (f := fun _ => some (if 255 < (glue (L ++ M)).length + 1 then (⟨#[]⟩, 2) else (nameOf (L ++ M), 0))) (fun k => ?_) (Ev.now _)
      have e2 : ((0 : Int) != 0) = false := rfl
      rw [e2]
      simp only [name_Join.j0]
      rw [if_neg (by simp), e0, e1]
      by_cases hl : 255 < (glue (L ++ M)).length + 1
      · rw [if_pos (by omega), if_pos hl]
      · rw [if_neg (by omega), if_neg hl, if_pos (by omega), if_pos (by omega), Int.toNat_natCast, jf, if_pos (by rw [ByteArray.size_extract]; omega)]
theorem rjoin_f (a b : ByteArray) : Ev (fun k => hearsayref01_Join.f k a b) (joinP a b) := by
  obtain ⟨l1, hE1, hL1⟩ := split_f a
  obtain ⟨l2, hE2, hL2⟩ := split_f b
  unfold joinP
  refine Ev.bind (f := fun k (x : List ByteArray × Bool) => (hearsayref01_Split.f k b).bind fun y => if x.2 = true then if y.2 = true then if ([] : List ByteArray).length + x.1.length < 8796093022208 then (some (([] : List ByteArray) ++ x.1 : List ByteArray)).bind fun y288 => (if y288.length + y.1.length < 8796093022208 then ((hearsayref01_Of.f k (y288 ++ y.1)).bind fun bt294 => (some (bt294.1, bt294.2))) else (none)) else none else some (⟨#[]⟩, 11) else some (⟨#[]⟩, 11)) hE1 ?_
  refine Ev.bind (f := fun k (y : List ByteArray × Bool) => if (dec a).isSome = true then if y.2 = true then if ([] : List ByteArray).length + l1.length < 8796093022208 then (some (([] : List ByteArray) ++ l1 : List ByteArray)).bind fun y288 => (if y288.length + y.1.length < 8796093022208 then ((hearsayref01_Of.f k (y288 ++ y.1)).bind fun bt294 => (some (bt294.1, bt294.2))) else (none)) else none else some (⟨#[]⟩, 11) else some (⟨#[]⟩, 11)) hE2 ?_
  cases ha : dec a with
  | none => exact Ev.congr (fun k => by rw [if_neg (by simp)]) (Ev.now _)
  | some L =>
    cases hb : dec b with
    | none => exact Ev.congr (fun k => by simp only [Option.isSome_some, Option.isSome_none]; rw [if_pos trivial, if_neg (by simp)]) (Ev.now _)
    | some M =>
      have e1 := hL1 L ha
      have e2 := hL2 M hb
      subst e1; subst e2
      have q1 := labels_length ha
      have q2 := labels_length hb
      have h := rof_f (l1 ++ l2) (by rw [List.length_append]; omega)
      have e : (name_Of.f (l1 ++ l2)).getD (⟨#[]⟩, 0) = if 255 < (glue (l1 ++ l2)).length + 1 then (⟨#[]⟩, 2) else (nameOf (l1 ++ l2), 0) := by
        unfold name_Of.f nameOf
        rw [if_neg (by rw [List.any_append, (dec_some ha).2.2, (dec_some hb).2.2]; simp)]
        split <;> rfl
      rw [e] at h
      refine Ev.congr (f := fun k => (hearsayref01_Of.f k (l1 ++ l2)).bind fun x => some (x.1, x.2)) (fun k => ?_) (Ev.bind (f := fun _ (x : ByteArray × Int) => some (x.1, x.2)) h (Ev.now _))
      simp only [Option.isSome_some]
      rw [if_pos trivial, if_pos trivial, if_pos (by simp only [List.length_nil]; omega)]
      simp only [Option.bind_some, List.nil_append]
      rw [if_pos (by omega)]
end Go.Proofs.Ytplnknhlgdoliaa.Print
