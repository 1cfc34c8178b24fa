/- Two names one behind the other, and the label * ahead of one, are what the document says. No condition beyond the statement's own. -/
import Derived.Test.YtplnknhlgdoliaaF8
import Derived.Test.YtplnknhlgdoliaaXRefs
import Derived.Test.YtplnknhlgdoliaaXWakes
namespace Go.Proofs.Ytplnknhlgdoliaa.Pure
open Go.RowKit Go.Proofs.Ytplnknhlgdoliaa.Print Go.Proofs.YtplnknhlgdoliaaW.PrintWords Go.Proofs.YtplnknhlgdoliaaW.PrintLast
theorem pair_ev {α β : Type} {g : Nat → Option (α × β)} {r : α × β} (h : Ev g r) : Ev (fun k => (g k).bind fun x => some (x.1, x.2)) r := Ev.bind (f := fun _ (x : α × β) => some (x.1, x.2)) h (Ev.now _)
theorem NameJoins : hearsaylaw01_NameJoins.Pure := by
  intro a b _ _
  refine Ev.rounds (g := fun k => hearsaylaw01_NameJoins.f k a b) ?_
  unfold hearsaylaw01_NameJoins.f
  refine Ev.bind (f := fun k (x : ByteArray × Int) => (hearsayref01_Join.f k a b).bind fun y => (name_Wild.f k b).bind fun z => (hearsayref01_Wild.f k b).bind fun u => if x.1.toList = y.1.toList then if x.2 = y.2 then if z.1.toList = u.1.toList then if z.2 = u.2 then (hearsaylaw01_wakes.f k).bind fun t => some t else some false else some false else some false else some false) (join_f a b) ?_
  refine Ev.bind (f := fun k (y : ByteArray × Int) => (name_Wild.f k b).bind fun z => (hearsayref01_Wild.f k b).bind fun u => if (joinP a b).1.toList = y.1.toList then if (joinP a b).2 = y.2 then if z.1.toList = u.1.toList then if z.2 = u.2 then (hearsaylaw01_wakes.f k).bind fun t => some t else some false else some false else some false else some false) (rjoin_f a b) ?_
  refine Ev.bind (f := fun k (z : ByteArray × Int) => (hearsayref01_Wild.f k b).bind fun u => if (joinP a b).1.toList = (joinP a b).1.toList then if (joinP a b).2 = (joinP a b).2 then if z.1.toList = u.1.toList then if z.2 = u.2 then (hearsaylaw01_wakes.f k).bind fun t => some t else some false else some false else some false else some false) (pair_ev (join_f ⟨#[1, 42, 0]⟩ b)) ?_
  refine Ev.bind (f := fun k (u : ByteArray × Int) => if (joinP a b).1.toList = (joinP a b).1.toList then if (joinP a b).2 = (joinP a b).2 then if (joinP ⟨#[1, 42, 0]⟩ b).1.toList = u.1.toList then if (joinP ⟨#[1, 42, 0]⟩ b).2 = u.2 then (hearsaylaw01_wakes.f k).bind fun t => some t else some false else some false else some false else some false) (pair_ev (rjoin_f ⟨#[1, 42, 0]⟩ b)) ?_
  refine Ev.congr (f := fun k => (hearsaylaw01_wakes.f k).bind fun x => some x) (fun k => ?_) (Ev.bind (f := fun _ x => some x) wakes_ev (Ev.now _))
  rw [if_pos rfl, if_pos rfl, if_pos rfl, if_pos rfl]
end Go.Proofs.Ytplnknhlgdoliaa.Pure
