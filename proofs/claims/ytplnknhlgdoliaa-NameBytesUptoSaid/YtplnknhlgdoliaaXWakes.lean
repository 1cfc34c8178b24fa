/- hearsaylaw01.wakes tells true. -/
import Derived.Test.YtplnknhlgdoliaaF19
import Derived.Test.YtplnknhlgdoliaaXNames
namespace Go.Proofs.Ytplnknhlgdoliaa.Print
set_option linter.unusedVariables false
set_option linter.unusedSimpArgs false
open Go.RowKit Go.Proofs.YtplnknhlgdoliaaW.PrintWords Go.Proofs.YtplnknhlgdoliaaW.PrintLast Go.Proofs.YtplnknhlgdoliaaW.PrintMore
theorem wakes_ev : Ev (fun k => hearsaylaw01_wakes.f k) true := by
  have h1 : name_Parse.f ⟨#[65, 98, 46, 99]⟩ ⟨#[0]⟩ = some (⟨#[2, 65, 98, 1, 99, 0]⟩, 0) := by kernel_rfl
  have h2 : name_Fold.f ⟨#[2, 65, 98, 1, 99, 0]⟩ = some ⟨#[2, 97, 98, 1, 99, 0]⟩ := by kernel_rfl
  have h3 : name_Text.f ⟨#[2, 97, 98, 1, 99, 0]⟩ = some ⟨#[97, 98, 46, 99, 46]⟩ := by kernel_rfl
  have h4 := count_f ⟨#[2, 65, 98, 1, 99, 0]⟩
  have h5 := check_f ⟨#[2, 65, 98, 1, 99, 0]⟩
  have e4 : (((dec ⟨#[2, 65, 98, 1, 99, 0]⟩).getD []).length : Int) = 2 := by kernel_rfl
  have e5 : (if (dec ⟨#[2, 65, 98, 1, 99, 0]⟩).isSome then (0 : Int) else 11) = 0 := by kernel_rfl
  have e6 : (⟨#[2, 65, 98, 1, 99, 0]⟩ : ByteArray).toList = [2, 65, 98, 1, 99, 0] := by kernel_rfl
  have e7 : (⟨#[97, 98, 46, 99, 46]⟩ : ByteArray).toList = [97, 98, 46, 99, 46] := by kernel_rfl
  rw [e4] at h4
  rw [e5] at h5
  refine Ev.congr (f := fun k => (name_Count.f k ⟨#[2, 65, 98, 1, 99, 0]⟩).bind fun c => if c = 2 then (name_Check.f k ⟨#[2, 65, 98, 1, 99, 0]⟩).bind fun d => some (d == 0) else some false) (fun k => ?_) ?_
  · unfold hearsaylaw01_wakes.f
    rw [h1]
    simp only [Option.bind_some]
    rw [if_pos trivial, if_pos e6, h2]
    simp only [Option.bind_some]
    rw [h3]
    simp only [Option.bind_some]
    rw [if_pos e7]
  · refine Ev.bind (f := fun k c => if c = 2 then (name_Check.f k ⟨#[2, 65, 98, 1, 99, 0]⟩).bind fun d => some (d == 0) else some false) h4 ?_
    exact Ev.bind (f := fun k (d : Int) => some (d == 0)) h5 (Ev.now _)
end Go.Proofs.Ytplnknhlgdoliaa.Print
