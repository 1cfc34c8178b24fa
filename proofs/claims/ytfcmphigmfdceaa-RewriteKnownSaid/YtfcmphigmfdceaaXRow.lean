/- A row of bytes made of a string ([]byte(s)), in memory: it is read, written, and made a string again. -/
import Derived.Test.YtfcmphigmfdceaaXStr
namespace Go.Proofs.Ytfcmphigmfdceaa.Print
set_option linter.unusedVariables false
set_option linter.unusedSimpArgs false
open Go.RowKit Go.Proofs.YtfcmphigmfdceaaW.PrintWords Go.Proofs.YtfcmphigmfdceaaW.PrintLast Go.Proofs.YtfcmphigmfdceaaW.PrintMore
/-- the row at the head of block g, of which the first cells are xs; behind its end a mark -/
def BRow (W : World) (e g : Nat) (xs : List Int) : Prop := ∃ cs : Array Value, W.heap[g]? = some (.cells cs e (cs.size, cs.size + 1)) ∧ xs.length ≤ cs.size ∧ ∀ (j : Nat) (x : Int), xs[j]? = some x → cs[j]? = some (Value.int .u8 x)
theorem brow_new (W : World) (e : Nat) (s : ByteArray) : BRow (Lib.bytesWorld W e s) e W.heap.size (bytesOf s) := by
  refine ⟨_, Lib.bytesWorld_at_new W e s, ?_, ?_⟩
  · simp [Lib.bytesCells, bytesOf_length]
  · intro j x hx
    have hj : j < s.size := by have := (List.getElem?_eq_some_iff.1 hx).1; rwa [bytesOf_length] at this
    have hj' : j < s.data.toList.length := by rw [data_length]; exact hj
    have h := Lib.bytesWorld_cell W e s j hj
    simp only [World.cell?, Lib.bytesWorld_at_new] at h
    simp only [Option.isSome_none] at h
    rw [if_neg (by simp)] at h
    rw [h]
    unfold bytesOf at hx
    rw [List.getElem?_map, List.getElem?_eq_getElem hj'] at hx
    simp only [Option.map_some, Option.some.injEq] at hx
    rw [← hx, List.getD_eq_getElem?_getD, List.getElem?_eq_getElem hj', Option.getD_some]
theorem brow_cell {W : World} {e g : Nat} {xs : List Int} (h : BRow W e g xs) {j : Nat} {x : Int} (hj : xs[j]? = some x) : W.cell? ⟨g, j, none⟩ = some (.int .u8 x) ∧ W.frozen? ⟨g, j, none⟩ = false := by
  obtain ⟨cs, hb, hl, hc⟩ := h
  have hlt : j < xs.length := (List.getElem?_eq_some_iff.1 hj).1
  constructor
  · simp [World.cell?, hb, hc j x hj]
  · simp [World.frozen?, hb]; omega
theorem brow_set {W : World} {e g : Nat} {xs : List Int} (h : BRow W e g xs) (j : Nat) (v : Int) : BRow (W.setCell ⟨g, j, none⟩ (.int .u8 v)) e g (xs.set j v) := by
  obtain ⟨cs, hb, hl, hc⟩ := h
  refine ⟨cs.setIfInBounds j (.int .u8 v), ?_, by simpa using hl, ?_⟩
  · simp only [World.setCell, Array.getElem?_modify, hb]
    simp
  · intro i x hx
    rw [Array.getElem?_setIfInBounds]
    rw [List.getElem?_set] at hx
    split
    · rename_i hij
      subst hij
      rw [if_pos rfl] at hx
      split at hx
      · simp at hx; subst hx
        rw [if_pos (by omega)]
      · simp at hx
    · rename_i hij
      rw [if_neg hij] at hx
      exact hc i x hx
theorem brow_drewN {W : World} {e g : Nat} {xs : List Int} (h : BRow W e g xs) (n : Nat) : BRow (W.drewN n) e g xs := h
theorem brow_drew {W : World} {e g : Nat} {xs : List Int} (h : BRow W e g xs) : BRow W.drew e g xs := h
theorem brow_reads {W : World} {e g : Nat} {xs : List Int} (h : BRow W e g xs) (hm : xs.length ≤ 9223372036854775807) : ReadsInt W .u8 (some ⟨g, 0, none⟩) xs.length xs := by
  refine ⟨rfl, hm, fun _ => ⟨_, rfl, fun j hj => ?_⟩⟩
  rw [add_plain, (brow_cell h (List.getElem?_eq_getElem hj)).1, List.getD_eq_getElem?_getD, List.getElem?_eq_getElem hj]
  rfl
/-- a byte in small letters -/
def low1 (c : Int) : Int := if 65 ≤ c ∧ c ≤ 90 then c + 32 else c
theorem low_or (c : Int) (h0 : 65 ≤ c) (h1 : c ≤ 90) : Go.bits .or .u8 c 32 = c + 32 := by
  have : ∀ n : Fin 91, 65 ≤ n.val → Go.bits .or .u8 (n.val : Int) 32 = (n.val : Int) + 32 := by decide +kernel
  have h := this ⟨c.toNat, by omega⟩ (by simp; omega)
  have e : ((c.toNat : Nat) : Int) = c := by omega
  simp only at h
  rwa [e] at h
theorem low_range (c : Int) (h0 : 0 ≤ c) (h1 : c < 256) : 0 ≤ low1 c ∧ low1 c < 256 := by unfold low1; split <;> omega
/-- the first k bytes in small letters -/
def lowTo (xs : List Int) (k : Nat) : List Int := (xs.take k).map low1 ++ xs.drop k
theorem lowTo_zero (xs : List Int) : lowTo xs 0 = xs := by simp [lowTo]
theorem lowTo_length (xs : List Int) (k : Nat) : (lowTo xs k).length = xs.length := by simp [lowTo]; omega
theorem lowTo_at {xs : List Int} {k : Nat} (h : k < xs.length) : (lowTo xs k)[k]? = some xs[k] := by
  unfold lowTo
  rw [List.getElem?_append_right (by simp; omega)]
  simp [Nat.min_eq_left (Nat.le_of_lt h)]
theorem lowTo_succ {xs : List Int} {k : Nat} (h : k < xs.length) : (lowTo xs k).set k (low1 xs[k]) = lowTo xs (k + 1) := by
  unfold lowTo
  have hl : (List.map low1 (xs.take k)).length = k := by simp; omega
  rw [List.set_append_right _ _ (by omega), hl, Nat.sub_self, List.take_add_one, List.getElem?_eq_getElem h, List.drop_eq_getElem_cons h]
  simp only [List.set_cons_zero, Option.toList_some, List.map_append, List.append_assoc, List.map_cons, List.map_nil, List.singleton_append]
theorem lowTo_end {xs : List Int} {k : Nat} (h : xs.length ≤ k) : lowTo xs k = xs.map low1 := by unfold lowTo; rw [List.take_of_length_le h, List.drop_of_length_le h]; simp
def lowS (s : ByteArray) : ByteArray := strOfNums ((bytesOf s).map low1)
end Go.Proofs.Ytfcmphigmfdceaa.Print
