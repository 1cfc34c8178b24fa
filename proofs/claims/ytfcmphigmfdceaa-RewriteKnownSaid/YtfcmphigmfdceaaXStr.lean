/- small laws on strings and their bytes, used by the walks. -/
import Derived.Test.YtfcmphigmfdceaaKinds
import Derived.Lib.UnsafeStr
namespace Go.Proofs.Ytfcmphigmfdceaa.Print
open Go.RowKit Go.Proofs.YtfcmphigmfdceaaW.PrintWords Go.Proofs.YtfcmphigmfdceaaW.PrintLast Go.Proofs.YtfcmphigmfdceaaW.PrintMore
theorem cell_fresh (W : World) (v : Value) (t : TypeId) : (W.alloc (.cells #[v] t)).cell? ⟨W.heap.size, 0, none⟩ = some v := by simp
theorem bt_nat (s : ByteArray) (k : Nat) (h : k < s.size) : ((s[k]'h).toNat : Int) = bt s (k : Int) := by simp [bt, h]
theorem bo_drop (s : ByteArray) (k : Nat) (h : k < s.size) : (bytesOf s).drop k = bt s (k : Int) :: (bytesOf s).drop (k + 1) := by
  have h' : k < (bytesOf s).length := by rw [bytesOf_length]; exact h
  rw [List.drop_eq_getElem_cons h', ← rd_bytesOf]
  simp [rd, List.getD_eq_getElem?_getD, List.getElem?_eq_getElem h']
theorem bo_end (s : ByteArray) (k : Nat) (h : s.size ≤ k) : (bytesOf s).drop k = [] := List.drop_eq_nil_of_le (by rw [bytesOf_length]; exact h)
theorem empty_true {s : ByteArray} (h : s.size = 0) : s.toList.isEmpty = true := by
  rw [ByteArray.toList_eq, List.isEmpty_iff]
  exact List.length_eq_zero_iff.1 h
theorem empty_false {s : ByteArray} (h : s.size ≠ 0) : s.toList.isEmpty = false := by
  rw [ByteArray.toList_eq, Bool.eq_false_iff]
  intro h1
  exact h (by rw [List.isEmpty_iff] at h1; show s.data.toList.length = 0; rw [h1]; rfl)
theorem empty_ne {s : ByteArray} (h : s.size ≠ 0) : ¬ s.toList = [] := fun h1 => by have := empty_false h; rw [h1] at this; simp at this
theorem empty_eq {s : ByteArray} (h : s.size = 0) : s.toList = [] := by have := empty_true h; simpa using this
theorem bo_range (s : ByteArray) : ∀ x ∈ bytesOf s, 0 ≤ x ∧ x < 256 := by
  intro x hx
  unfold bytesOf at hx
  obtain ⟨b, _, rfl⟩ := List.mem_map.1 hx
  have := b.toNat_lt
  omega
/-- cells of bytes, as the shelf tells them -/
theorem nums_cells (xs : List Int) (h : ∀ x ∈ xs, 0 ≤ x ∧ x < 256) : nums .u8 xs = Lib.byteCells ((strOfNums xs).data.toList) := by
  rw [strOfNums_data]
  unfold nums Lib.byteCells
  rw [List.map_map]
  refine List.map_congr_left fun x hx => ?_
  obtain ⟨h0, h1⟩ := h x hx
  simp only [Function.comp_apply]
  congr 1
  have e : (UInt8.ofNat x.toNat).toNat = x.toNat := by simp only [UInt8.toNat_ofNat']; omega
  rw [e]; omega
theorem str_eta (s : ByteArray) : (⟨s.data.toList.toArray⟩ : ByteArray) = s := by rw [Array.toArray_toList]
theorem infoStr : (Try.prog.info? 9).map (fun i => (i.zero, i.size, i.bytes)) = some (some (.string ⟨#[]⟩), 1, 16) := by kernel_rfl
theorem Kd.R_ne' {α : Type} {d : Kd α} {e : Nat} {w : World} {base : Nat} {ok : Nat → Prop} {v : Value} {xs : List α} (h : d.R e w base ok v xs) {b : Nat} (hb : b < base) : some b ≠ v.ownBlock := fun h1 => by have := Kd.R_base h b h1.symm; omega
theorem below_to {A B : Nat} {w w' : World} (h : Below A w w') (hB : B ≤ A) : Below B w w' := ⟨h.os, h.tape, h.output, h.size, fun i hi => h.block i (Nat.lt_of_lt_of_le hi hB)⟩
end Go.Proofs.Ytfcmphigmfdceaa.Print
