-- Written by a program of this session, built on the kit's print (it is not the print's own text).
import Derived.Test.YtafminohaofjnaaKinds
import Derived.Test.YtafminohaofjnaaEq30
import Derived.Test.YtafminohaofjnaaF14
import Derived.Test.YtafminohaofjnaaF15
import Derived.Test.YtafminohaofjnaaF22
import Derived.Test.YtafminohaofjnaaXEntries
namespace Go.Proofs.Ytafminohaofjnaa.Print
open Go.RowKit Go.Proofs.YtafminohaofjnaaW.PrintWords Go.Proofs.YtafminohaofjnaaW.PrintLast Go.Proofs.YtafminohaofjnaaW.PrintMore
set_option linter.unusedVariables false
set_option linter.unusedSimpArgs false

attribute [local go_sem high] eqA30
theorem am_ {p : Prop} (h : p) : Aside0 p := ⟨h⟩
/-! ### hearsaylaw08_TokenTail: function 7 -/
mutual
def hearsaylaw08_TokenTail.j0 : Nat → ByteArray → ByteArray → Bool → Option (Bool)
  | 0, _, _, _ => none
  | k + 1, x0, x1, x27 => if x27 = true then (some true) else ((token_Entries.f x0).bind fun bt273 => ((token_Entries.f x1).bind fun bt280 => (if x0.size + 1 ≤ 9223372036854775807 then (if (x0 ++ (⟨#[10]⟩ : ByteArray)).size + x1.size ≤ 9223372036854775807 then ((token_Entries.f ((x0 ++ (⟨#[10]⟩ : ByteArray)) ++ x1)).bind fun bt287 => (if bt273.2.2.2 = 80 then (if bt287.2.2.2 = bt273.2.2.2 then (if (bt287.2.1 == bt273.2.1 && (bt287.2.2.1 == bt273.2.2.1)) = true then (if (bt287.1.length : Int) = 0 then ((hearsaylaw08_reads.f).bind fun t294 => (some t294)) else (some false)) else (some false)) else (some false)) else (if bt273.2.2.2 = 0 then ((hearsaylaw08_lines.f k x0).bind fun t296 => (if bt280.2.2.2 = 0 then (if ([] : List (S45)).length + bt273.1.length < 3518437208883 then (hearsaylaw08_TokenTail.l0 k bt280.1 bt287.1 bt287.2.2.2 (wrap64 (t296 + 1)) (([] : List (S45)) ++ bt273.1) 0) else (none)) else (if bt287.2.2.2 = bt280.2.2.2 then (if (bt287.2.1 == (wrap64 (bt280.2.1 + (wrap64 (t296 + 1)))) && (bt287.2.2.1 == bt280.2.2.1)) = true then ((hearsaylaw08_reads.f).bind fun t297 => (some t297)) else (some false)) else (some false)))) else (if bt273.2.2.2 = 81 then ((hearsaylaw08_reads.f).bind fun t295 => (some t295)) else (some false))))) else (none)) else (none))))
def hearsaylaw08_TokenTail.l0 : Nat → List (S45) → List (S45) → Int → Int → List (S45) → Int → Option (Bool)
  | 0, _, _, _, _, _, _ => none
  | k + 1, x8, x11, x13, x14, x15, x16 => if x16 < (x8.length : Int) then (if 0 ≤ x16 then (hearsaylaw08_TokenTail.l1 k x8 x11 x13 x14 x15 x16 0 ((rd_T45 x8 x16).f0) (wrap64 (((rd_T45 x8 x16).f1) + x14)) ([] : List (S23))) else (none)) else (if x13 = 0 then ((hearsayref08_Same.f k x11 x15).bind fun t301 => (if t301 = true then ((hearsaylaw08_reads.f).bind fun t302 => (some t302)) else (some false))) else (some false))
def hearsaylaw08_TokenTail.l1 : Nat → List (S45) → List (S45) → Int → Int → List (S45) → Int → Int → Bool → Int → List (S23) → Option (Bool)
  | 0, _, _, _, _, _, _, _, _, _, _ => none
  | k + 1, x8, x11, x13, x14, x15, x16, x18, x305000, x305001, x305002 => if 0 ≤ x16 then (if x16 < (x8.length : Int) then (if x18 < (((rd_T45 x8 x16).f2).length : Int) then (if 0 ≤ x18 then (if x305002.length < 3518437208883 then (hearsaylaw08_TokenTail.l1 k x8 x11 x13 x14 x15 x16 (wrap64 (x18 + 1)) x305000 x305001 (x305002 ++ [(⟨(rd_T23 ((rd_T45 x8 x16).f2) x18).f0, (rd_T23 ((rd_T45 x8 x16).f2) x18).f1, wrap64 (((rd_T23 ((rd_T45 x8 x16).f2) x18).f2) + x14), (rd_T23 ((rd_T45 x8 x16).f2) x18).f3⟩ : S23)])) else (none)) else (none)) else (if x15.length < 3518437208883 then (hearsaylaw08_TokenTail.l0 k x8 x11 x13 x14 (x15 ++ [(⟨x305000, x305001, x305002⟩ : S45)]) (wrap64 (x16 + 1))) else (none))) else (none)) else (none)
end
def hearsaylaw08_TokenTail.f (k : Nat) (a0 : ByteArray) (a1 : ByteArray) : Option (Bool) := if (a0.size : Int) > 20000 then (hearsaylaw08_TokenTail.j0 k a0 a1 true) else (hearsaylaw08_TokenTail.j0 k a0 a1 (decide ((a1.size : Int) > 20000)))
theorem hearsaylaw08_TokenTail.mono_l : ∀ k, (∀ y0 y1 y2, LeO (hearsaylaw08_TokenTail.j0 k y0 y1 y2) (hearsaylaw08_TokenTail.j0 (k + 1) y0 y1 y2)) ∧ (∀ y0 y1 y2 y3 y4 y5, LeO (hearsaylaw08_TokenTail.l0 k y0 y1 y2 y3 y4 y5) (hearsaylaw08_TokenTail.l0 (k + 1) y0 y1 y2 y3 y4 y5)) ∧ (∀ y0 y1 y2 y3 y4 y5 y6 y7 y8 y9, LeO (hearsaylaw08_TokenTail.l1 k y0 y1 y2 y3 y4 y5 y6 y7 y8 y9) (hearsaylaw08_TokenTail.l1 (k + 1) y0 y1 y2 y3 y4 y5 y6 y7 y8 y9))
  | 0 => ⟨fun _ _ _ r h => by simp [hearsaylaw08_TokenTail.j0] at h, fun _ _ _ _ _ _ r h => by simp [hearsaylaw08_TokenTail.l0] at h, fun _ _ _ _ _ _ _ _ _ _ r h => by simp [hearsaylaw08_TokenTail.l1] at h⟩
  | k + 1 => by
    obtain ⟨ih0, ih1, ih2⟩ := hearsaylaw08_TokenTail.mono_l k
    refine ⟨?_, ?_, ?_⟩
    · intro y0 y1 y2
      unfold hearsaylaw08_TokenTail.j0
      repeat' first
      | (with_reducible exact ih0 _ _ _)
      | (with_reducible exact ih1 _ _ _ _ _ _)
      | (with_reducible exact ih2 _ _ _ _ _ _ _ _ _ _)
      | (with_reducible exact hearsaylaw08_lines.mono _ _)
      | (with_reducible exact hearsayref08_Same.mono _ _ _)
      | (with_reducible exact LeO.refl _)
      | (with_reducible exact LeO.none _)
      | (with_reducible refine LeO.ite ?_ ?_)
      | (with_reducible refine LeO.bind ?_ (fun _ => ?_))
      | exact ih0 _ _ _
      | exact ih1 _ _ _ _ _ _
      | exact ih2 _ _ _ _ _ _ _ _ _ _
      | exact hearsaylaw08_lines.mono _ _
      | exact hearsayref08_Same.mono _ _ _
      | exact LeO.none _
      | refine LeO.ite ?_ ?_
      | refine LeO.bind ?_ (fun _ => ?_)
    · intro y0 y1 y2 y3 y4 y5
      unfold hearsaylaw08_TokenTail.l0
      repeat' first
      | (with_reducible exact ih0 _ _ _)
      | (with_reducible exact ih1 _ _ _ _ _ _)
      | (with_reducible exact ih2 _ _ _ _ _ _ _ _ _ _)
      | (with_reducible exact hearsaylaw08_lines.mono _ _)
      | (with_reducible exact hearsayref08_Same.mono _ _ _)
      | (with_reducible exact LeO.refl _)
      | (with_reducible exact LeO.none _)
      | (with_reducible refine LeO.ite ?_ ?_)
      | (with_reducible refine LeO.bind ?_ (fun _ => ?_))
      | exact ih0 _ _ _
      | exact ih1 _ _ _ _ _ _
      | exact ih2 _ _ _ _ _ _ _ _ _ _
      | exact hearsaylaw08_lines.mono _ _
      | exact hearsayref08_Same.mono _ _ _
      | exact LeO.none _
      | refine LeO.ite ?_ ?_
      | refine LeO.bind ?_ (fun _ => ?_)
    · intro y0 y1 y2 y3 y4 y5 y6 y7 y8 y9
      unfold hearsaylaw08_TokenTail.l1
      repeat' first
      | (with_reducible exact ih0 _ _ _)
      | (with_reducible exact ih1 _ _ _ _ _ _)
      | (with_reducible exact ih2 _ _ _ _ _ _ _ _ _ _)
      | (with_reducible exact hearsaylaw08_lines.mono _ _)
      | (with_reducible exact hearsayref08_Same.mono _ _ _)
      | (with_reducible exact LeO.refl _)
      | (with_reducible exact LeO.none _)
      | (with_reducible refine LeO.ite ?_ ?_)
      | (with_reducible refine LeO.bind ?_ (fun _ => ?_))
      | exact ih0 _ _ _
      | exact ih1 _ _ _ _ _ _
      | exact ih2 _ _ _ _ _ _ _ _ _ _
      | exact hearsaylaw08_lines.mono _ _
      | exact hearsayref08_Same.mono _ _ _
      | exact LeO.none _
      | refine LeO.ite ?_ ?_
      | refine LeO.bind ?_ (fun _ => ?_)
theorem hearsaylaw08_TokenTail.mono : ∀ a0 a1 k, LeO (hearsaylaw08_TokenTail.f k a0 a1) (hearsaylaw08_TokenTail.f (k + 1) a0 a1) := by
  intro a0 a1 k
  obtain ⟨ih0, ih1, ih2⟩ := hearsaylaw08_TokenTail.mono_l k
  unfold hearsaylaw08_TokenTail.f
  repeat' first
      | (with_reducible exact ih0 _ _ _)
      | (with_reducible exact ih1 _ _ _ _ _ _)
      | (with_reducible exact ih2 _ _ _ _ _ _ _ _ _ _)
      | (with_reducible exact hearsaylaw08_lines.mono _ _)
      | (with_reducible exact hearsayref08_Same.mono _ _ _)
      | (with_reducible exact LeO.refl _)
      | (with_reducible exact LeO.none _)
      | (with_reducible refine LeO.ite ?_ ?_)
      | (with_reducible refine LeO.bind ?_ (fun _ => ?_))
      | exact ih0 _ _ _
      | exact ih1 _ _ _ _ _ _
      | exact ih2 _ _ _ _ _ _ _ _ _ _
      | exact hearsaylaw08_lines.mono _ _
      | exact hearsayref08_Same.mono _ _ _
      | exact LeO.none _
      | refine LeO.ite ?_ ?_
      | refine LeO.bind ?_ (fun _ => ?_)
def hearsaylaw08_TokenTail.Pure : Prop := ∀ (a0 : ByteArray) (a1 : ByteArray), a0.size ≤ 140737488351232 → a1.size ≤ 140737488351232 → ∃ k, hearsaylaw08_TokenTail.f k a0 a1 = some true
end Go.Proofs.Ytafminohaofjnaa.Print
