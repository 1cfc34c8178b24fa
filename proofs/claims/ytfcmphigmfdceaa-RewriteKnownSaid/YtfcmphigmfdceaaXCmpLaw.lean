/- name.Cmp and hearsayref01.Cmp tell the same. -/
import Derived.Test.YtfcmphigmfdceaaXCmp
namespace Go.Proofs.Ytfcmphigmfdceaa.Print
set_option linter.unusedVariables false
set_option linter.unusedSimpArgs false
open Go.RowKit Go.Proofs.YtfcmphigmfdceaaW.PrintWords Go.Proofs.YtfcmphigmfdceaaW.PrintLast Go.Proofs.YtfcmphigmfdceaaW.PrintMore
/-- two rows of bytes -/
def diffP : List Int → List Int → Int
  | x :: xs, y :: ys => if x = y then diffP xs ys else x - y
  | xs, ys => (xs.length : Int) - (ys.length : Int)
theorem diffB_map : ∀ xs ys : List Int, diffB xs ys = diffP (xs.map low1) (ys.map low1)
  | [], [] => rfl
  | [], y :: ys => by simp [diffB, diffP]
  | x :: xs, [] => by simp [diffB, diffP]
  | x :: xs, y :: ys => by simp only [diffB, diffP, List.map_cons]; rw [diffB_map xs ys]
theorem clamp_zero : clamp 0 = 0 := rfl
theorem clamp_pos {c : Int} (h : 0 < c) : clamp c = 1 := by unfold clamp; omega
theorem clamp_neg {c : Int} (h : c < 0) : clamp c = -1 := by unfold clamp; omega
theorem clamp_eq_zero {c : Int} : clamp c = 0 ↔ c = 0 := by unfold clamp; omega
theorem clamp_diff (a b : Int) : clamp (a - b) = if a = b then 0 else if a < b then -1 else 1 := by
  by_cases h : a = b
  · rw [if_pos h]; subst h; rw [Int.sub_self]; rfl
  · rw [if_neg h]
    by_cases h2 : a < b
    · rw [if_pos h2, clamp_neg (by omega)]
    · rw [if_neg h2, clamp_pos (by omega)]
theorem compare_diff : ∀ a b : List UInt8, Lib.compareBytes a b = clamp (diffP (a.map fun c => (c.toNat : Int)) (b.map fun c => (c.toNat : Int)))
  | [], [] => rfl
  | [], b :: ys => by simp only [Lib.compareBytes, List.map_nil, List.map_cons, diffP]; rw [clamp_neg (by simp only [List.length_nil, List.length_cons]; omega)]
  | a :: xs, [] => by simp only [Lib.compareBytes, List.map_nil, List.map_cons, diffP]; rw [clamp_pos (by simp only [List.length_nil, List.length_cons]; omega)]
  | a :: xs, b :: ys => by
    simp only [Lib.compareBytes, List.map_cons, diffP]
    rw [compare_diff xs ys]
    by_cases h : a = b
    · subst h; simp
    · have hn : a.toNat ≠ b.toNat := fun e => h (UInt8.toNat_inj.1 e)
      rw [if_neg (by omega : ¬ ((a.toNat : Int) = (b.toNat : Int)))]
      by_cases h2 : a < b
      · rw [if_pos h2, clamp_neg (by have := UInt8.lt_iff_toNat_lt.1 h2; omega)]
      · have h3 : b < a := UInt8.lt_iff_toNat_lt.2 (by have : ¬ a.toNat < b.toNat := fun e => h2 (UInt8.lt_iff_toNat_lt.2 e); omega)
        rw [if_neg h2, if_pos h3, clamp_pos (by have := UInt8.lt_iff_toNat_lt.1 h3; omega)]
theorem diffP_end {xs ys : List Int} (h : xs = [] ∨ ys = []) : diffP xs ys = (xs.length : Int) - (ys.length : Int) := by
  rcases h with rfl | rfl
  · rfl
  · cases xs <;> rfl
theorem low_byte {c : Int} (h : 0 ≤ c ∧ c < 256) : 0 ≤ low1 c ∧ low1 c < 256 := low1_range h.1 h.2
theorem bytes_lowS (s : ByteArray) : bytesOf (lowS s) = (bytesOf s).map low1 := by
  unfold lowS
  refine bytes_strOfNums _ (fun x hx => ?_)
  obtain ⟨c, hc, rfl⟩ := List.mem_map.1 hx
  exact low_byte (bo_range s c hc)
theorem lowS_size (s : ByteArray) : (lowS s).size = s.size := by
  have := congrArg List.length (bytes_lowS s)
  rw [bytesOf_length, List.length_map, bytesOf_length] at this
  exact this
theorem low_f {s : ByteArray} (h : s.size ≤ 9223372036854775807) : hearsayref01_Low.f s = some (lowS s) := by
  unfold hearsayref01_Low.f name_Fold.f; rw [if_pos h]
theorem fold_f {s : ByteArray} (h : s.size ≤ 9223372036854775807) : name_Fold.f s = some (lowS s) := by
  unfold name_Fold.f; rw [if_pos h]
theorem label_small {n : ByteArray} {L : List ByteArray} (h : dec n = some L) {s : ByteArray} (hs : s ∈ L) : 0 < s.size ∧ s.size ≤ 63 := by
  have h3 := (dec_some h).2.2
  rw [List.any_eq_false] at h3
  exact bad_false (by simpa using h3 s hs)
theorem rd_rev {L : List ByteArray} {t : Nat} {s : ByteArray} {r : List ByteArray} (h : L.reverse.drop t = s :: r) : t < L.length ∧ rdOf ByteArray.empty L ((L.length : Int) - ((t : Int) + 1)) = s ∧ s ∈ L ∧ L.reverse.drop (t + 1) = r := by
  have ht : t < L.reverse.length := by
    have := congrArg List.length h
    rw [List.length_drop] at this
    simp only [List.length_cons] at this; omega
  have h2 := List.drop_eq_getElem_cons ht
  rw [h] at h2
  injection h2 with h3 h4
  rw [List.length_reverse] at ht
  refine ⟨ht, ?_, by rw [h3]; exact List.mem_reverse.1 (List.getElem_mem _), h4.symm⟩
  rw [h3, List.getElem_reverse]
  have e : ((L.length : Int) - ((t : Int) + 1)).toNat = L.length - 1 - t := by omega
  simp only [rdOf, e]
  rw [List.getD_eq_getElem?_getD, List.getElem?_eq_getElem (by omega)]
  rfl
theorem diffL_end {xs ys : List ByteArray} (h : xs = [] ∨ ys = []) : diffL xs ys = (xs.length : Int) - (ys.length : Int) := by
  rcases h with rfl | rfl
  · rfl
  · cases xs <;> rfl
end Go.Proofs.Ytfcmphigmfdceaa.Print
