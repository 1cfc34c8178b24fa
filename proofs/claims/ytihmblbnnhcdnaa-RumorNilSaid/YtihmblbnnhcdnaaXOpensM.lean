/- How members, and lists of them, read as data are told by their kind, with their bounds. -/
import Derived.Test.YtihmblbnnhcdnaaXOpens
import Derived.Test.YtihmblbnnhcdnaaXMem
namespace Go.Proofs.Ytihmblbnnhcdnaa.Opens
open Go.ChangeShapes Go.WideShapes Go.ChangeAt Go.RowKit Go.Proofs.YtihmblbnnhcdnaaW.PrintWords Go.Proofs.Ytihmblbnnhcdnaa.Print
set_option linter.unusedVariables false
def wfM (x : Mem) : Prop := (0 ≤ x.f0 ∧ x.f0 ≤ 4294967295) ∧ x.f3.size ≤ 9223372036854775807
theorem u32_wf {n : Int} (h : (Lit.int .u32 n).wf = true) : 0 ≤ n ∧ n ≤ 4294967295 := by
  simp [Lit.wf] at h
  have e1 : IntKind.u32.min = 0 := by decide
  have e2 : IntKind.u32.max = 4294967295 := by decide
  omega
theorem opens33 : Opens Try.prog 33 k33 wfM := by
  have h := opens_iso (opens_struct Try.underlying33 (by kernel_rfl) (opensF_cons rfl (by kernel_rfl) (opens_int (k := .u32) (by kernel_rfl)) (opensF_cons rfl (by kernel_rfl) (opens_int (k := .u32) (by kernel_rfl)) (opensF_cons rfl (by kernel_rfl) (opens_int (k := .u8) (by kernel_rfl)) (opensF_one rfl (by kernel_rfl) (opens_string (by kernel_rfl))))))) (fun x : S33 => (x.f0, x.f1, x.f2, x.f3)) (fun y => ⟨y.1, y.2.1, y.2.2.1, y.2.2.2⟩) (fun _ => rfl)
  intro H enc w base spare held fuel cs y hy
  obtain ⟨x, hk, h0, h1, h2, h3⟩ := h H enc w base spare held fuel cs y hy
  exact ⟨x, hk, u32_wf h0, by unfold maxLen at h3; exact h3⟩
end Go.Proofs.Ytihmblbnnhcdnaa.Opens
