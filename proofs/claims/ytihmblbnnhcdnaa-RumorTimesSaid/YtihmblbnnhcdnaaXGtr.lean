/- One text behind another, as the walk's rule. -/
import Derived.Test.YtihmblbnnhcdnaaKinds
import Derived.Laws.Strings
namespace Go.Proofs.Ytihmblbnnhcdnaa.Print
theorem less_tri : ∀ x y : List UInt8, (!(Op.bytesLess x y || x == y)) = Op.bytesLess y x
  | [], [] => rfl
  | [], _ :: _ => by simp [Op.bytesLess]
  | _ :: _, [] => by simp [Op.bytesLess]
  | a :: x, b :: y => by
    have ih := less_tri x y
    simp only [Op.bytesLess]
    by_cases hab : a = b
    · subst hab
      have h0 : ¬ a < a := by rw [UInt8.lt_iff_toNat_lt]; omega
      have e : (a :: x == a :: y) = (x == y) := by simp
      rw [e, ← ih]
      simp [h0]
    · have hba : ¬ b = a := fun h => hab h.symm
      have e : (a :: x == b :: y) = false := beq_eq_false_iff_ne.2 (fun h => by injection h with h _; exact hab h)
      have hne : a.toNat ≠ b.toNat := fun h => hab (UInt8.toNat_inj.1 h)
      rw [e]
      by_cases h1 : a < b
      · have h2 : ¬ b < a := by rw [UInt8.lt_iff_toNat_lt] at h1 ⊢; omega
        simp [h1, h2, hba]
      · have h2 : b < a := by rw [UInt8.lt_iff_toNat_lt] at h1 ⊢; omega
        simp [h1, h2, hab]
theorem binOp_string_gtr_of (t : TypeId) (a b : ByteArray) : binOp .gtr t (.string a) (.string b) = pure (.bool (Op.bytesLess b.toList a.toList)) := by
  rw [← less_tri]
  simp [binOp, Op.stringOp]
end Go.Proofs.Ytihmblbnnhcdnaa.Print
