/- How an argument of entries to be laid, read as data, is told by its kind; its gaps are bytes. -/
import Derived.Test.YtafminohaofjnaaXOpens
import Derived.Test.YtafminohaofjnaaXLawLaid
namespace Go.Proofs.Ytafminohaofjnaa.tokenLaid
open Go.ChangeShapes Go.WideShapes Go.ChangeAt Go.RowKit Go.Proofs.YtafminohaofjnaaW.PrintWords Go.Proofs.Ytafminohaofjnaa.Print Go.Proofs.Ytafminohaofjnaa.Opens
set_option linter.unusedVariables false
theorem u8_wf {n : Int} (h : (Lit.int .u8 n).wf = true) : 0 ≤ n ∧ n < 256 := by
  simp [Lit.wf] at h
  have e1 : IntKind.u8.min = 0 := by decide
  have e2 : IntKind.u8.max = 255 := by decide
  omega
theorem opens48 : Opens Try.prog 48 k48 (fun _ => True) := by
  have h := opens_iso (opens_struct Try.underlying48 (by kernel_rfl) (opensF_cons rfl (by kernel_rfl) (opens_string (by kernel_rfl)) (opensF_one rfl (by kernel_rfl) (opens_bool (by kernel_rfl))))) (fun x : S48 => (x.f0, x.f1)) (fun y => ⟨y.1, y.2⟩) (fun _ => rfl)
  intro H enc w base spare held fuel cs y hy
  obtain ⟨x, hk, _⟩ := h H enc w base spare held fuel cs y hy
  exact ⟨x, hk, trivial⟩
theorem opens42 : Opens Try.prog 42 k42 (fun x => Bytes x.f2) := by
  have h := opens_iso (opens_struct Try.underlying42 (by kernel_rfl) (opensF_cons rfl (by kernel_rfl) (opens_bool (by kernel_rfl)) (opensF_cons rfl (by kernel_rfl) (opens_slice Try.underlying40 (by kernel_rfl) opens48) (opensF_one rfl (by kernel_rfl) (opens_slice Try.underlying37 (by kernel_rfl) (opens_int (k := .u8) (by kernel_rfl))))))) (fun x : S42 => (x.f0, x.f1, x.f2)) (fun y => ⟨y.1, y.2.1, y.2.2⟩) (fun _ => rfl)
  intro H enc w base spare held fuel cs y hy
  obtain ⟨x, hk, hw⟩ := h H enc w base spare held fuel cs y hy
  exact ⟨x, hk, fun n hn => u8_wf (hw.2.2 n hn)⟩
end Go.Proofs.Ytafminohaofjnaa.tokenLaid
