-- Written by a program of this session, built on the kit's print (it is not the print's own text).
import Derived.Test.YtafminohaofjnaaKinds
import Derived.Test.YtafminohaofjnaaEq30
import Derived.Test.YtafminohaofjnaaF13D
import Derived.Test.YtafminohaofjnaaF14
import Derived.Test.YtafminohaofjnaaF15
import Derived.Test.YtafminohaofjnaaXEntries
namespace Go.Proofs.Ytafminohaofjnaa.Print
open Go.RowKit Go.Proofs.YtafminohaofjnaaW.PrintWords Go.Proofs.YtafminohaofjnaaW.PrintLast Go.Proofs.YtafminohaofjnaaW.PrintMore
set_option linter.unusedVariables false
set_option linter.unusedSimpArgs false

attribute [local go_sem high] eqA30
/-! ### hearsaylaw08_TokenEntries: function 4 -/
def hearsaylaw08_TokenEntries.j0 : Nat → ByteArray → Bool → Option (Bool)
  | 0, _, _ => none
  | k + 1, x0, x16 => if x16 = true then (some true) else ((token_Entries.f x0).bind fun bt177 => ((hearsayref08_Entries.f k x0).bind fun bt184 => ((hearsayref08_Same.f k bt177.1 bt184.1).bind fun t191 => (if t191 = true then (if (bt177.2.1 == bt184.2.1 && (bt177.2.2.1 == bt184.2.2.1)) = true then (if bt177.2.2.2 = bt184.2.2.2 then ((hearsaylaw08_reads.f).bind fun t192 => (some t192)) else (some false)) else (some false)) else (some false)))))
def hearsaylaw08_TokenEntries.f (k : Nat) (a0 : ByteArray) : Option (Bool) := if (a0.size : Int) > 20000 then (hearsaylaw08_TokenEntries.j0 k a0 (decide ((a0.size : Int) ≤ 262144))) else (hearsaylaw08_TokenEntries.j0 k a0 false)
theorem hearsaylaw08_TokenEntries.mono_l : ∀ k, (∀ y0 y1, LeO (hearsaylaw08_TokenEntries.j0 k y0 y1) (hearsaylaw08_TokenEntries.j0 (k + 1) y0 y1))
  | 0 => fun _ _ r h => by simp [hearsaylaw08_TokenEntries.j0] at h
  | k + 1 => by
    have ih0 := hearsaylaw08_TokenEntries.mono_l k
    · intro y0 y1
      unfold hearsaylaw08_TokenEntries.j0
      repeat' first
      | (with_reducible exact ih0 _ _)
      | (with_reducible exact hearsayref08_Entries.mono _ _)
      | (with_reducible exact hearsayref08_Same.mono _ _ _)
      | (with_reducible exact LeO.refl _)
      | (with_reducible exact LeO.none _)
      | (with_reducible refine LeO.ite ?_ ?_)
      | (with_reducible refine LeO.bind ?_ (fun _ => ?_))
      | exact ih0 _ _
      | exact hearsayref08_Entries.mono _ _
      | exact hearsayref08_Same.mono _ _ _
      | exact LeO.none _
      | refine LeO.ite ?_ ?_
      | refine LeO.bind ?_ (fun _ => ?_)
theorem hearsaylaw08_TokenEntries.mono : ∀ a0 k, LeO (hearsaylaw08_TokenEntries.f k a0) (hearsaylaw08_TokenEntries.f (k + 1) a0) := by
  intro a0 k
  have ih0 := hearsaylaw08_TokenEntries.mono_l k
  unfold hearsaylaw08_TokenEntries.f
  repeat' first
      | (with_reducible exact ih0 _ _)
      | (with_reducible exact hearsayref08_Entries.mono _ _)
      | (with_reducible exact hearsayref08_Same.mono _ _ _)
      | (with_reducible exact LeO.refl _)
      | (with_reducible exact LeO.none _)
      | (with_reducible refine LeO.ite ?_ ?_)
      | (with_reducible refine LeO.bind ?_ (fun _ => ?_))
      | exact ih0 _ _
      | exact hearsayref08_Entries.mono _ _
      | exact hearsayref08_Same.mono _ _ _
      | exact LeO.none _
      | refine LeO.ite ?_ ?_
      | refine LeO.bind ?_ (fun _ => ?_)
def hearsaylaw08_TokenEntries.Pure : Prop := ∀ (a0 : ByteArray), a0.size ≤ 140737488351232 → ∃ k, hearsaylaw08_TokenEntries.f k a0 = some true
end Go.Proofs.Ytafminohaofjnaa.Print
