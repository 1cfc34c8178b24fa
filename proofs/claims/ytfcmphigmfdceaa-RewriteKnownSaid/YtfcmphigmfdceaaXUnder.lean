/- What name's Last, Parent, Under tell, and the document's. -/
import Derived.Test.YtfcmphigmfdceaaXRefs
import Derived.Test.YtfcmphigmfdceaaF51
namespace Go.Proofs.Ytfcmphigmfdceaa.Print
set_option linter.unusedVariables false
set_option linter.unusedSimpArgs false
open Go.RowKit Go.Proofs.YtfcmphigmfdceaaW.PrintWords Go.Proofs.YtfcmphigmfdceaaW.PrintLast Go.Proofs.YtfcmphigmfdceaaW.PrintMore
theorem suffix_at {n : ByteArray} {L1 L2 : List ByteArray} (h : dec n = some (L1 ++ L2)) : n.extract (glue L1).length n.size = nameOf L2 ∧ (glue L1).length + 1 ≤ n.size := by
  obtain ⟨h1, h2, h3⟩ := dec_some h
  have hs := dec_size h
  rw [List.any_append, Bool.or_eq_false_iff] at h3
  rw [glue_append, List.length_append] at hs
  refine ⟨bytes_inj ?_, by omega⟩
  rw [bytes_nameOf h3.2, bytes_extract, h2, glue_append, List.append_assoc, List.drop_left]
  exact List.take_of_length_le (by simp; omega)
theorem suffix_off {n : ByteArray} {L : List ByteArray} (h : dec n = some L) (j : Nat) (hj : j ≤ L.length) : n.extract (glue (L.take j)).length n.size = nameOf (L.drop j) ∧ (glue (L.take j)).length + 1 ≤ n.size := suffix_at (by rw [List.take_append_drop]; exact h)
theorem offs_rd (L : List ByteArray) (j : Nat) (hj : j < L.length) : rd (offs 0 L) (j : Int) = ((glue (L.take j)).length : Int) := by
  have ho := offs_at (L.take j) 0 L[j] (L.drop (j + 1))
  rw [List.getElem_cons_drop hj, List.take_append_drop, List.length_take, Nat.min_eq_left (by omega), Nat.zero_add] at ho
  simp [rd, List.getD_eq_getElem?_getD, ho]
theorem drop_fine {L : List ByteArray} (h : L.any badLab = false) (j : Nat) : (L.drop j).any badLab = false := by
  rw [List.any_eq_false] at h ⊢
  exact fun x hx => h x (List.mem_of_mem_drop hx)
theorem glue_drop {n : ByteArray} {L : List ByteArray} (h : dec n = some L) (j : Nat) : (glue (L.drop j)).length + 1 ≤ 255 := by
  have h1 := dec_size h
  have h2 := (dec_some h).1
  have e : (glue L).length = (glue (L.take j)).length + (glue (L.drop j)).length := by rw [← List.length_append, ← glue_append, List.take_append_drop]
  omega
def lastP (n : ByteArray) (a : Int) : ByteArray × Bool :=
  match dec n with
  | none => (⟨#[]⟩, false)
  | some L => if a < 0 ∨ (L.length : Int) < a then (⟨#[]⟩, false) else (nameOf (L.drop (L.length - a.toNat)), true)
def parentP (n : ByteArray) : ByteArray × Bool :=
  match dec n with
  | some (s :: L) => (nameOf L, true)
  | _ => (⟨#[]⟩, false)
def underP (n z : ByteArray) : Bool :=
  match dec n, dec z with
  | some L, some M => if L.length < M.length then false else (lowS (nameOf (L.drop (L.length - M.length)))).toList == (lowS z).toList
  | _, _ => false
theorem nameOf_nil : nameOf [] = ⟨#[0]⟩ := by kernel_rfl
theorem under_f (n z : ByteArray) : Ev (fun k => name_Under.f k n z) (underP n z) := by
  obtain ⟨l1, hE1, hL1⟩ := starts_f n
  obtain ⟨l2, hE2, hL2⟩ := starts_f z
  refine Ev.bind (f := fun k (x : List Int × Bool) => (name_starts.f k z).bind fun y => if x.2 = true then if y.2 = true then name_Under.j0 k n z x.1 y.1 (decide ((x.1.length : Int) < (y.1.length : Int))) else name_Under.j0 k n z x.1 y.1 true else name_Under.j0 k n z x.1 y.1 true) hE1 ?_
  refine Ev.bind (f := fun k (y : List Int × Bool) => if (dec n).isSome = true then if y.2 = true then name_Under.j0 k n z l1 y.1 (decide ((l1.length : Int) < (y.1.length : Int))) else name_Under.j0 k n z l1 y.1 true else name_Under.j0 k n z l1 y.1 true) hE2 ?_
  have no : Ev (fun k => name_Under.j0 k n z l1 l2 true) false := by
    refine Ev.step (f := fun _ => some false) (fun k => ?_) (Ev.now _)
    simp only [name_Under.j0]; rw [if_pos trivial]
  unfold underP
  cases h : dec n with
  | none => exact Ev.congr (fun k => by simp) no
  | some L =>
    cases h2 : dec z with
    | none => exact Ev.congr (fun k => by simp) no
    | some M =>
      simp only [Option.isSome_some]
      have e1 := hL1 L h
      have e2 := hL2 M h2
      have hl := labels_length h
      have hm := labels_length h2
      have ho1 : l1.length = L.length := by rw [e1, offs_length]
      have ho2 : l2.length = M.length := by rw [e2, offs_length]
      have hz := (dec_some h).1
      have hz2 := (dec_some h2).1
      have fz : name_Fold.f z = some (lowS z) := fold_f (by omega)
      have fs : ∀ j : Nat, name_Fold.f (nameOf (L.drop j)) = some (lowS (nameOf (L.drop j))) := fun j => fold_f (by
        have := glue_drop h j
        unfold nameOf; rw [strOfNums_size]; simp; omega)
      by_cases hlt : L.length < M.length
      · rw [if_pos hlt]
        exact Ev.congr (fun k => by rw [if_pos trivial, if_pos trivial, decide_eq_true (by omega)]) no
      · rw [if_neg hlt]
        refine Ev.congr (f := fun k => name_Under.j0 k n z l1 l2 false) (fun k => by rw [if_pos trivial, if_pos trivial, decide_eq_false (by omega)]) ?_
        refine Ev.step (f := fun _ => some ((lowS (nameOf (L.drop (L.length - M.length)))).toList == (lowS z).toList)) (fun k => ?_) (Ev.now _)
        simp only [name_Under.j0]
        rw [if_neg (by simp)]
        have hs := suffix_off h (L.length - M.length) (by omega)
        by_cases hM : 0 < M.length
        · have hw : wrap64 ((l1.length : Int) - (l2.length : Int)) = ((L.length - M.length : Nat) : Int) := by rw [w64 (by omega) (by omega)]; omega
          rw [if_pos (by omega), hw, if_pos (by omega), if_pos (by omega), e1, offs_rd L _ (by omega), if_pos (by omega), if_pos (by omega), Int.toNat_natCast, hs.1, fs]
          simp only [Option.bind_some]
          rw [fz]
          rfl
        · have hM0 : M.length = 0 := by omega
          have hg : (glue (L.take (L.length - M.length))).length = n.size - 1 := by
            rw [List.take_of_length_le (by omega)]; have := dec_size h; omega
          have hw : wrap64 ((n.size : Int) - 1) = ((n.size - 1 : Nat) : Int) := by rw [w64 (by omega) (by omega)]; omega
          rw [if_neg (by omega), hw, if_pos (by omega), if_pos (by omega), Int.toNat_natCast, ← hg, hs.1, fs]
          simp only [Option.bind_some]
          rw [fz]
          rfl
end Go.Proofs.Ytfcmphigmfdceaa.Print
