/- Every Entries: the plain law. -/
import Derived.Test.YtafminohaofjnaaF4D
import Derived.Test.YtafminohaofjnaaXSame
import Derived.Test.YtafminohaofjnaaXReads
namespace Go.Proofs.Ytafminohaofjnaa.Pure
open Go.RowKit Go.Proofs.Ytafminohaofjnaa.Print Go.Proofs.YtafminohaofjnaaW.PrintWords Go.Proofs.YtafminohaofjnaaW.PrintLast
set_option linter.unusedVariables false
theorem TokenEntries : hearsaylaw08_TokenEntries.Pure := by
  intro s hs
  refine Ev.rounds (g := fun k => hearsaylaw08_TokenEntries.f k s) ?_
  have key : Ev (fun k => hearsaylaw08_TokenEntries.j0 k s false) true := by
    have hr := rentries_f s
    have he := entr_f s
    have hsame := entr_same s
    change Ev (fun k => hearsayref08_Entries.f k s) (entr s) at hr
    generalize entr s = E at hr he hsame
    refine Ev.step (f := fun k => (hearsayref08_Entries.f k s).bind fun y => (hearsayref08_Same.f k E.1 y.1).bind fun t => if t = true then (if (E.2.1 == y.2.1 && (E.2.2.1 == y.2.2.1)) = true then (if E.2.2.2 = y.2.2.2 then some true else some false) else some false) else some false) (fun k => ?_) ?_
    · simp only [hearsaylaw08_TokenEntries.j0]
      rw [if_neg (by simp), he, Option.bind_some, reads_f, Option.bind_some]
    · refine Ev.bind (f := fun k (y : List S45 × Int × Int × Int) => (hearsayref08_Same.f k E.1 y.1).bind fun t => if t = true then (if (E.2.1 == y.2.1 && (E.2.2.1 == y.2.2.1)) = true then (if E.2.2.2 = y.2.2.2 then some true else some false) else some false) else some false) hr ?_
      refine Ev.bind (f := fun k t => if t = true then (if (E.2.1 == E.2.1 && (E.2.2.1 == E.2.2.1)) = true then (if E.2.2.2 = E.2.2.2 then some true else some false) else some false) else some false) hsame ?_
      exact Ev.congr (f := fun _ => some true) (fun k => by simp) (Ev.now _)
  unfold hearsaylaw08_TokenEntries.f
  by_cases h : (s.size : Int) > 20000
  · by_cases h2 : (s.size : Int) ≤ 262144
    · refine Ev.step (f := fun _ => some true) (fun k => ?_) (Ev.now _)
      rw [if_pos h]
      simp only [hearsaylaw08_TokenEntries.j0]
      rw [if_pos (by simpa using h2)]
    · refine Ev.congr (fun k => ?_) key
      rw [if_pos h]
      congr 1
      simpa using h2
  · refine Ev.congr (fun k => ?_) key
    rw [if_neg h]
end Go.Proofs.Ytafminohaofjnaa.Pure
