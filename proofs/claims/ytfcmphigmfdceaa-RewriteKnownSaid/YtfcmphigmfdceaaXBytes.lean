/- name.Bytes, walked: it answers what 'unesc' says of the text. -/
import Derived.Test.YtfcmphigmfdceaaXBuild
import Derived.Test.YtfcmphigmfdceaaXStr
import Derived.Lib.Hide
import Derived.Outline
namespace Go.Proofs.Ytfcmphigmfdceaa.Print
open Go.RowKit Go.Proofs.YtfcmphigmfdceaaW.PrintWords Go.Proofs.YtfcmphigmfdceaaW.PrintLast Go.Proofs.YtfcmphigmfdceaaW.PrintMore
set_option linter.unusedVariables false
set_option linter.unusedSimpArgs false

def isDig (c : Int) : Bool := decide (48 ≤ c) && decide (c ≤ 57)
/-- the closure 'digit' -/
def digAt (s : ByteArray) (i : Int) : Bool := decide (i < (s.size : Int)) && isDig (bt s i)



def unesc : List Int → Option (List Int)
  | [] => some []
  | c :: r => if c ≠ 92 then (unesc r).map (c :: ·) else
    match r with
    | [] => none
    | d :: r1 => if isDig d = false then (unesc r1).map (d :: ·) else
      match r1 with
      | e :: f :: r2 => if isDig e && isDig f then (if (d - 48) * 100 + (e - 48) * 10 + (f - 48) > 255 then none else (unesc r2).map (((d - 48) * 100 + (e - 48) * 10 + (f - 48)) :: ·)) else none
      | _ => none
theorem unesc_plain (c : Int) (r : List Int) (h : c ≠ 92) : unesc (c :: r) = (unesc r).map (c :: ·) := by rw [unesc.eq_def]; simp [h]
theorem unesc_last : unesc [92] = none := by rw [unesc.eq_def]; simp
theorem unesc_one (d : Int) (r : List Int) (h : isDig d = false) : unesc (92 :: d :: r) = (unesc r).map (d :: ·) := by rw [unesc.eq_def]; simp [h]
theorem unesc_three (d e f : Int) (r : List Int) (h : isDig d = true) : unesc (92 :: d :: e :: f :: r) = if isDig e && isDig f then (if (d - 48) * 100 + (e - 48) * 10 + (f - 48) > 255 then none else (unesc r).map (((d - 48) * 100 + (e - 48) * 10 + (f - 48)) :: ·)) else none := by rw [unesc.eq_def]; simp [h]
theorem unesc_two (d : Int) (r : List Int) (h : isDig d = true) (hr : r.length < 2) : unesc (92 :: d :: r) = none := by
  rw [unesc.eq_def]
  match r, hr with
  | [], _ => simp [h]
  | [e], _ => simp [h]
def name_Bytes.f (s : ByteArray) : Option (ByteArray × Int) :=
  if s.size < 140737488355328 then (match unesc (bytesOf s) with | some l => some (strOfNums l, 0) | none => some (⟨#[]⟩, 12)) else none


/-- what stands at the loop's head: 'acc' was told of the first k bytes -/
def Inv (s : ByteArray) (k : Nat) (acc : List Int) : Prop := k ≤ s.size ∧ acc.length ≤ k ∧ (unesc ((bytesOf s).drop k)).map (acc ++ ·) = unesc (bytesOf s)
theorem inv0 (s : ByteArray) : Inv s 0 [] := ⟨Nat.zero_le _, Nat.le_refl _, by simp⟩
theorem inv_end {s : ByteArray} {k : Nat} {acc : List Int} (h : Inv s k acc) (hk : ¬ k < s.size) : unesc (bytesOf s) = some acc := by
  rw [← h.2.2, bo_end s k (by omega)]; simp [unesc]
theorem inv_plain {s : ByteArray} {k : Nat} {acc : List Int} (h : Inv s k acc) (hk : k < s.size) (hc : bt s (k : Int) ≠ 92) : Inv s (k + 1) (acc ++ [bt s (k : Int)]) := by
  refine ⟨hk, by simp; exact h.2.1, ?_⟩
  rw [← h.2.2, bo_drop s k hk, unesc_plain _ _ hc]
  simp [Option.map_map, Function.comp_def]
theorem inv_last {s : ByteArray} {k : Nat} {acc : List Int} (h : Inv s k acc) (hk : k < s.size) (hc : bt s (k : Int) = 92) (he : k + 1 = s.size) : unesc (bytesOf s) = none := by
  rw [← h.2.2, bo_drop s k hk, hc, bo_end s (k + 1) (by omega), unesc_last]; rfl
theorem digAt_eq {s : ByteArray} {k : Nat} (hk : k < s.size) : digAt s (k : Int) = isDig (bt s (k : Int)) := by simp [digAt, hk]
theorem dig_bounds {s : ByteArray} {k : Nat} (hk : k < s.size) (h : digAt s (k : Int) = true) : 48 ≤ bt s (k : Int) ∧ bt s (k : Int) ≤ 57 := by rw [digAt_eq hk] at h; unfold isDig at h; simpa using h
theorem inv_one {s : ByteArray} {k : Nat} {acc : List Int} (h : Inv s k acc) (hk : k < s.size) (hc : bt s (k : Int) = 92) (he : k + 1 < s.size) (hd : digAt s ((k + 1 : Nat) : Int) = false) : Inv s (k + 2) (acc ++ [bt s ((k + 1 : Nat) : Int)]) := by
  refine ⟨by omega, by have := h.2.1; simp; omega, ?_⟩
  rw [digAt_eq he] at hd
  rw [← h.2.2, bo_drop s k hk, hc, bo_drop s (k + 1) he, unesc_one _ _ hd]
  simp [Option.map_map, Function.comp_def]
theorem inv_bad {s : ByteArray} {k : Nat} {acc : List Int} (h : Inv s k acc) (hk : k < s.size) (hc : bt s (k : Int) = 92) (he : k + 1 < s.size) (hd : digAt s ((k + 1 : Nat) : Int) = true)
    (hb : digAt s ((k + 2 : Nat) : Int) = false ∨ digAt s ((k + 3 : Nat) : Int) = false) : unesc (bytesOf s) = none := by
  rw [digAt_eq he] at hd
  rw [← h.2.2, bo_drop s k hk, hc, bo_drop s (k + 1) he]
  by_cases h3 : k + 3 < s.size
  · have h2 : k + 2 < s.size := by omega
    rw [digAt_eq h2, digAt_eq h3] at hb
    rw [bo_drop s (k + 1 + 1) h2, bo_drop s (k + 1 + 1 + 1) h3, unesc_three _ _ _ _ hd]
    simp only [show k + 1 + 1 = k + 2 from rfl, show k + 2 + 1 = k + 3 from rfl]
    rw [if_neg (by rcases hb with hb | hb <;> rw [hb] <;> simp)]; rfl
  · rw [unesc_two _ _ hd (by simp [bytesOf_length]; omega)]; rfl
def three (s : ByteArray) (k : Nat) : Int := (bt s ((k + 1 : Nat) : Int) - 48) * 100 + (bt s ((k + 2 : Nat) : Int) - 48) * 10 + (bt s ((k + 3 : Nat) : Int) - 48)
theorem inv_three {s : ByteArray} {k : Nat} {acc : List Int} (h : Inv s k acc) (hk : k < s.size) (hc : bt s (k : Int) = 92) (hd : digAt s ((k + 1 : Nat) : Int) = true)
    (h2 : digAt s ((k + 2 : Nat) : Int) = true) (h3 : digAt s ((k + 3 : Nat) : Int) = true) : (255 < three s k → unesc (bytesOf s) = none) ∧ (¬ 255 < three s k → Inv s (k + 4) (acc ++ [three s k])) := by
  have b3 : k + 3 < s.size := by unfold digAt at h3; simp at h3; omega
  rw [digAt_eq (by omega)] at hd h2 h3
  have e : unesc ((bytesOf s).drop k) = if three s k > 255 then none else (unesc ((bytesOf s).drop (k + 4))).map (three s k :: ·) := by
    rw [bo_drop s k hk, hc, bo_drop s (k + 1) (by omega), bo_drop s (k + 1 + 1) (by omega), bo_drop s (k + 1 + 1 + 1) (by omega), unesc_three _ _ _ _ hd]
    simp only [show k + 1 + 1 = k + 2 from rfl, show k + 2 + 1 = k + 3 from rfl, h2, h3]
    rfl
  constructor
  · intro hb; rw [← h.2.2, e, if_pos hb]; rfl
  · intro hb
    refine ⟨by omega, by have := h.2.1; simp; omega, ?_⟩
    rw [← h.2.2, e, if_neg hb]; simp [Option.map_map, Function.comp_def]


end Go.Proofs.Ytfcmphigmfdceaa.Print
