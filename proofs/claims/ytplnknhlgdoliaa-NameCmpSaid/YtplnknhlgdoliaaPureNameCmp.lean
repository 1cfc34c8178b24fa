/- Cmp tells of any two names, or what is none, what the document says. No condition beyond what the statement says. -/
import Derived.Test.YtplnknhlgdoliaaF10
import Derived.Test.YtplnknhlgdoliaaXCmpLaw
import Derived.Test.YtplnknhlgdoliaaXWakes
namespace Go.Proofs.Ytplnknhlgdoliaa.Pure
open Go.RowKit Go.Proofs.Ytplnknhlgdoliaa.Print Go.Proofs.YtplnknhlgdoliaaW.PrintWords Go.Proofs.YtplnknhlgdoliaaW.PrintLast
theorem NameCmp : hearsaylaw01_NameCmp.Pure := by
  intro a b ha hb
  refine Ev.rounds (g := fun k => hearsaylaw01_NameCmp.f k a b) ?_
  unfold hearsaylaw01_NameCmp.f
  refine Ev.congr (f := fun k => (hearsayref01_Cmp.f k a b).bind fun c => if cmpP a b = c then (hearsaylaw01_wakes.f k).bind fun x => some x else some false) (fun k => rfl) ?_
  refine Ev.bind (f := fun k c => if cmpP a b = c then (hearsaylaw01_wakes.f k).bind fun x => some x else some false) (rcmp_f a b ha hb) ?_
  refine Ev.congr (f := fun k => (hearsaylaw01_wakes.f k).bind fun x => some x) (fun k => if_pos rfl) ?_
  exact Ev.bind (f := fun _ x => some x) wakes_ev (Ev.now _)
end Go.Proofs.Ytplnknhlgdoliaa.Pure
