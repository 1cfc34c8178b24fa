/- What a word is, as it is laid: the function's own answer. -/
import Derived.Test.YtafminohaofjnaaF19
import Derived.Test.YtafminohaofjnaaXLaid
namespace Go.Proofs.Ytafminohaofjnaa.Print
open Go.RowKit Go.Proofs.YtafminohaofjnaaW.PrintWords Go.Proofs.YtafminohaofjnaaW.PrintLast Go.Proofs.YtafminohaofjnaaW.PrintMore
set_option linter.unusedVariables false
set_option linter.unusedSimpArgs false
theorem standsP_append (q : Bool) (a b : List Int) : standsP q (a ++ b) = standsP q a ++ standsP q b := by unfold standsP; rw [List.flatMap_append]
theorem stands_j1 (s : ByteArray) (q : Bool) (i : Nat) (hs : s.size ≤ 262144) (hi : i < s.size) (x3 : List Int) (hx : x3.length ≤ 4 * 262144)
    (h : Ev (fun k => hearsaylaw08_stands.l0 k (x3 ++ escB q (bt s (i : Int))) ((i + 1 : Nat) : Int) s q) (strOfNums (standsP q (bytesOf s)))) (b : Bool)
    (hb : b = (blankB (bt s (i : Int)) || bt s (i : Int) == 59 || bt s (i : Int) == 40 || bt s (i : Int) == 41)) :
    Ev (fun k => hearsaylaw08_stands.j1 k x3 (i : Int) (bt s (i : Int)) b s q) (strOfNums (standsP q (bytesOf s))) := by
  refine Ev.step (fun k => ?_) h
  simp only [hearsaylaw08_stands.j1]
  generalize hc : bt s (i : Int) = c at hb ⊢
  by_cases h10 : c = 10
  · subst h10
    have e : escB q 10 = [92, 48, 49, 48] := by unfold escB; rw [if_pos rfl]
    rw [if_pos rfl, Option.bind_some, if_pos (by simp; omega), cast1 i (by omega), e]
  rw [if_neg h10]
  by_cases h34 : c = 34
  · have e : escB q c = [92, c] := by unfold escB; rw [if_neg h10, if_pos (Or.inl h34)]
    rw [if_pos h34, if_pos (by omega), Option.bind_some, if_pos (by simp; omega), cast1 i (by omega), e]
    simp
  rw [if_neg h34]
  by_cases h92 : c = 92
  · have e : escB q c = [92, c] := by unfold escB; rw [if_neg h10, if_pos (Or.inr (Or.inl h92))]
    rw [if_pos h92, if_pos (by omega), Option.bind_some, if_pos (by simp; omega), cast1 i (by omega), e]
    simp
  rw [if_neg h92]
  cases hbt : b with
  | true =>
    rw [hbt] at hb
    have hor : blankB c = true ∨ c = 59 ∨ c = 40 ∨ c = 41 := by
      have := hb.symm
      simpa [Bool.or_eq_true, beq_iff_eq, or_assoc] using this
    rw [if_pos rfl]
    cases q with
    | true =>
      have e : escB true c = [c] := by unfold escB; rw [if_neg h10, if_neg (by simp [h34, h92])]
      rw [if_pos rfl, if_pos (by omega), cast1 i (by omega), e]
    | false =>
      have e : escB false c = [92, c] := by unfold escB; rw [if_neg h10, if_pos (Or.inr (Or.inr ⟨hor, rfl⟩))]
      rw [if_neg (by simp), if_pos (by omega), Option.bind_some, if_pos (by simp; omega), cast1 i (by omega), e]
      simp
  | false =>
    rw [hbt] at hb
    have hor : ¬ (blankB c = true ∨ c = 59 ∨ c = 40 ∨ c = 41) := by
      have := hb.symm
      simpa [Bool.or_eq_false_iff, and_assoc] using this
    have e : escB q c = [c] := by
      unfold escB
      rw [if_neg h10, if_neg]
      rintro (h | h | h)
      · exact h34 h
      · exact h92 h
      · exact hor h.1
    rw [if_neg (by simp), if_pos (by omega), cast1 i (by omega), e]
theorem stands_l0 (s : ByteArray) (q : Bool) (hs : s.size ≤ 262144) (d : Nat) : ∀ i : Nat, s.size - i ≤ d → i ≤ s.size → Ev (fun k => hearsaylaw08_stands.l0 k (standsP q ((bytesOf s).take i)) (i : Int) s q) (strOfNums (standsP q (bytesOf s))) := by
  induction d with
  | zero =>
    intro i hd hi
    refine Ev.step (f := fun _ => some (strOfNums (standsP q (bytesOf s)))) (fun k => ?_) (Ev.now _)
    simp only [hearsaylaw08_stands.l0]
    rw [if_neg (by omega), List.take_of_length_le (by rw [bytesOf_length]; omega)]
  | succ d ih =>
    intro i hd hi
    by_cases hlt : i < s.size
    · have ih := ih (i + 1) (by omega) (by omega)
      have hg := bt_get hlt
      rw [List.take_add_one, hg, standsP_append] at ih
      have e1 : standsP q (some (bt s (i : Int))).toList = escB q (bt s (i : Int)) := by
        show standsP q [bt s (i : Int)] = _
        simp [standsP]
      rw [e1] at ih
      have hl := standsP_len q ((bytesOf s).take i)
      have hlt2 : ((bytesOf s).take i).length ≤ i := List.length_take_le _ _
      have key := fun b hb => stands_j1 s q i hs hlt (standsP q ((bytesOf s).take i)) (by omega) ih b hb
      cases hbl : blankB (bt s (i : Int)) with
      | true =>
        refine Ev.step (fun k => ?_) (key true (by rw [hbl]; rfl))
        simp only [hearsaylaw08_stands.l0]
        rw [if_pos (by omega), if_pos (by omega), blank_f, Option.bind_some, hbl, if_pos rfl]
      | false =>
        by_cases h59 : bt s (i : Int) = 59
        · refine Ev.step (fun k => ?_) (key true (by rw [h59]; rfl))
          simp only [hearsaylaw08_stands.l0]
          rw [if_pos (by omega), if_pos (by omega), blank_f, Option.bind_some, hbl, if_neg (by simp), if_pos h59]
        by_cases h40 : bt s (i : Int) = 40
        · refine Ev.step (fun k => ?_) (key true (by rw [h40]; rfl))
          simp only [hearsaylaw08_stands.l0]
          rw [if_pos (by omega), if_pos (by omega), blank_f, Option.bind_some, hbl, if_neg (by simp), if_neg h59, if_pos h40]
        refine Ev.step (fun k => ?_) (key (bt s (i : Int) == 41) (by rw [hbl, beq_eq_false_iff_ne.2 h59, beq_eq_false_iff_ne.2 h40]; rfl))
        simp only [hearsaylaw08_stands.l0]
        rw [if_pos (by omega), if_pos (by omega), blank_f, Option.bind_some, hbl, if_neg (by simp), if_neg h59, if_neg h40]
    · refine Ev.step (f := fun _ => some (strOfNums (standsP q (bytesOf s)))) (fun k => ?_) (Ev.now _)
      simp only [hearsaylaw08_stands.l0]
      rw [if_neg (by omega), List.take_of_length_le (by rw [bytesOf_length]; omega)]
theorem stands_f (s : ByteArray) (q : Bool) (hs : s.size ≤ 262144) : Ev (fun k => hearsaylaw08_stands.f k s q) (strOfNums (standsP q (bytesOf s))) := stands_l0 s q hs s.size 0 (by omega) (by omega)
/-- bytes -/
def Bytes (l : List Int) : Prop := ∀ x ∈ l, 0 ≤ x ∧ x < 256
theorem bytes_str {l : List Int} (h : Bytes l) : bytesOf (strOfNums l) = l := by
  unfold bytesOf
  rw [strOfNums_data, List.map_map]
  conv => rhs; rw [← List.map_id l]
  refine List.map_congr_left (fun x hx => ?_)
  obtain ⟨h0, h1⟩ := h x hx
  show ((UInt8.ofNat x.toNat).toNat : Int) = x
  rw [UInt8.toNat_ofNat_of_lt' (by show x.toNat < 256; omega)]
  omega
theorem bytes_of (s : ByteArray) : Bytes (bytesOf s) := by
  intro x hx
  unfold bytesOf at hx
  obtain ⟨b, _, rfl⟩ := List.mem_map.1 hx
  have := b.toNat_lt
  omega
theorem bytes_stands (q : Bool) {l : List Int} (h : Bytes l) : Bytes (standsP q l) := by
  intro x hx
  unfold standsP at hx
  obtain ⟨c, hc, hx⟩ := List.mem_flatMap.1 hx
  have hc := h c hc
  unfold escB at hx
  split at hx
  · simp at hx; omega
  · split at hx
    · simp at hx; omega
    · simp at hx; omega
theorem stands_bytes (s : ByteArray) (q : Bool) : bytesOf (strOfNums (standsP q (bytesOf s))) = standsP q (bytesOf s) := bytes_str (bytes_stands q (bytes_of s))
end Go.Proofs.Ytafminohaofjnaa.Print
