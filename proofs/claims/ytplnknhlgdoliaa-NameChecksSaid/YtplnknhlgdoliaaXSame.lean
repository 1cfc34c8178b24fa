/- hearsaylaw01.same: two lists of labels that are one. -/
import Derived.Test.YtplnknhlgdoliaaF20
import Derived.Test.YtplnknhlgdoliaaXNames
namespace Go.Proofs.Ytplnknhlgdoliaa.Print
set_option linter.unusedVariables false
set_option linter.unusedSimpArgs false
open Go.RowKit Go.Proofs.YtplnknhlgdoliaaW.PrintWords Go.Proofs.YtplnknhlgdoliaaW.PrintLast Go.Proofs.YtplnknhlgdoliaaW.PrintMore
theorem same_l0 (L : List ByteArray) (hn : L.length ≤ 140737488355328) (d : Nat) : ∀ t : Nat, L.length - t ≤ d → t ≤ L.length → Ev (fun k => hearsaylaw01_same.l0 k L L (t : Int)) true := by
  induction d with
  | zero =>
    intro t hd h1
    refine Ev.step (f := fun _ => some true) (fun k => ?_) (Ev.now _)
    simp only [hearsaylaw01_same.l0]
    rw [if_neg (by omega)]
  | succ d ih =>
    intro t hd h1
    by_cases ht : t < L.length
    · refine Ev.step (fun k => ?_) (ih (t + 1) (by omega) (by omega))
      simp only [hearsaylaw01_same.l0]
      rw [if_pos (by omega), if_pos (by omega), if_pos (by omega), if_pos trivial, w64 (by omega) (by omega)]
      rfl
    · refine Ev.step (f := fun _ => some true) (fun k => ?_) (Ev.now _)
      simp only [hearsaylaw01_same.l0]
      rw [if_neg (by omega)]
theorem same_f (L : List ByteArray) (hn : L.length ≤ 140737488355328) : Ev (fun k => hearsaylaw01_same.f k L L) true := by
  refine Ev.congr (fun k => ?_) (same_l0 L hn L.length 0 (by omega) (by omega))
  unfold hearsaylaw01_same.f
  rw [if_pos rfl]
  rfl
end Go.Proofs.Ytplnknhlgdoliaa.Print
