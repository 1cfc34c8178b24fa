-- Written by a program of this session, built on the kit's print (it is not the print's own text).
import Derived.Test.YtafminohaofjnaaKinds
import Derived.Test.YtafminohaofjnaaF21
import Derived.Test.YtafminohaofjnaaF15
import Derived.Test.YtafminohaofjnaaF20
import Derived.Test.YtafminohaofjnaaXEntries
namespace Go.Proofs.Ytafminohaofjnaa.Print
open Go.RowKit Go.Proofs.YtafminohaofjnaaW.PrintWords Go.Proofs.YtafminohaofjnaaW.PrintLast Go.Proofs.YtafminohaofjnaaW.PrintMore
attribute [local go_sem] max2_int min2_int max_two min_two max_three min_three max_four min_four   -- for this text's walks alone
set_option linter.unusedVariables false
set_option linter.unusedSimpArgs false

/-! ### hearsaylaw08_TokenPlaces: function 6 -/
mutual
def hearsaylaw08_TokenPlaces.l0 : Nat → ByteArray → List (S45) → List Int → Int → Int → Option (Bool)
  | 0, _, _, _, _, _ => none
  | k + 1, x0, x3, x6, x7, x8 => if x8 < (x3.length : Int) then (if 0 ≤ x8 then (if ((rd_T45 x3 x8).f1) < 1 then (hearsaylaw08_TokenPlaces.j1 k x0 x3 x6 x7 x8 true) else (if ((rd_T45 x3 x8).f1) > (x6.length : Int) then (hearsaylaw08_TokenPlaces.j1 k x0 x3 x6 x7 x8 true) else (if (((rd_T45 x3 x8).f2).length : Int) = 0 then (hearsaylaw08_TokenPlaces.j1 k x0 x3 x6 x7 x8 true) else (if 0 ≤ (wrap64 (((rd_T45 x3 x8).f1) - 1)) then (if (wrap64 (((rd_T45 x3 x8).f1) - 1)) < (x6.length : Int) then (if (rd x6 (wrap64 (((rd_T45 x3 x8).f1) - 1))) ≥ (x0.size : Int) then (hearsaylaw08_TokenPlaces.j1 k x0 x3 x6 x7 x8 true) else (if 0 ≤ (rd x6 (wrap64 (((rd_T45 x3 x8).f1) - 1))) then (if (rd x6 (wrap64 (((rd_T45 x3 x8).f1) - 1))) < (x0.size : Int) then ((hearsayref08_Blank.f (bt x0 (rd x6 (wrap64 (((rd_T45 x3 x8).f1) - 1))))).bind fun t266 => (hearsaylaw08_TokenPlaces.j1 k x0 x3 x6 x7 x8 (((rd_T45 x3 x8).f0) != t266))) else (none)) else (none))) else (none)) else (none))))) else (none)) else ((hearsaylaw08_reads.f).bind fun t257 => (some t257))
def hearsaylaw08_TokenPlaces.j1 : Nat → ByteArray → List (S45) → List Int → Int → Int → Bool → Option (Bool)
  | 0, _, _, _, _, _, _ => none
  | k + 1, x0, x3, x6, x7, x8, x96 => if x96 = true then (some false) else (hearsaylaw08_TokenPlaces.l1 k x0 x3 x6 x7 x8 0)
def hearsaylaw08_TokenPlaces.l1 : Nat → ByteArray → List (S45) → List Int → Int → Int → Int → Option (Bool)
  | 0, _, _, _, _, _, _ => none
  | k + 1, x0, x3, x6, x7, x8, x9 => if 0 ≤ x8 then (if x8 < (x3.length : Int) then (if x9 < (((rd_T45 x3 x8).f2).length : Int) then (if 0 ≤ x9 then (if (rd_T23 ((rd_T45 x3 x8).f2) x9).f1 = true then (if 1 + ((rd_T23 ((rd_T45 x3 x8).f2) x9).f0).size ≤ 9223372036854775807 then (if ((⟨#[34]⟩ : ByteArray) ++ ((rd_T23 ((rd_T45 x3 x8).f2) x9).f0)).size + 1 ≤ 9223372036854775807 then (hearsaylaw08_TokenPlaces.j3 k x0 x3 x6 x7 x8 x9 (((⟨#[34]⟩ : ByteArray) ++ ((rd_T23 ((rd_T45 x3 x8).f2) x9).f0)) ++ (⟨#[34]⟩ : ByteArray)) ((rd_T23 ((rd_T45 x3 x8).f2) x9).f0) ((rd_T23 ((rd_T45 x3 x8).f2) x9).f1) ((rd_T23 ((rd_T45 x3 x8).f2) x9).f2) ((rd_T23 ((rd_T45 x3 x8).f2) x9).f3)) else (none)) else (none)) else (hearsaylaw08_TokenPlaces.j3 k x0 x3 x6 x7 x8 x9 ((rd_T23 ((rd_T45 x3 x8).f2) x9).f0) ((rd_T23 ((rd_T45 x3 x8).f2) x9).f0) ((rd_T23 ((rd_T45 x3 x8).f2) x9).f1) ((rd_T23 ((rd_T45 x3 x8).f2) x9).f2) ((rd_T23 ((rd_T45 x3 x8).f2) x9).f3))) else (none)) else (hearsaylaw08_TokenPlaces.l0 k x0 x3 x6 x7 (wrap64 (x8 + 1)))) else (none)) else (none)
def hearsaylaw08_TokenPlaces.j3 : Nat → ByteArray → List (S45) → List Int → Int → Int → Int → ByteArray → ByteArray → Bool → Int → Int → Option (Bool)
  | 0, _, _, _, _, _, _, _, _, _, _, _ => none
  | k + 1, x0, x3, x6, x7, x8, x9, x11, x271000, x271001, x271002, x271003 => if 0 ≤ x8 then (if x8 < (x3.length : Int) then (if x271002 < ((rd_T45 x3 x8).f1) then (hearsaylaw08_TokenPlaces.j4 k x0 x3 x6 x7 x8 x9 x11 true x271000 x271001 x271002 x271003) else (if x271002 > (x6.length : Int) then (hearsaylaw08_TokenPlaces.j4 k x0 x3 x6 x7 x8 x9 x11 true x271000 x271001 x271002 x271003) else (if x271003 < 1 then (hearsaylaw08_TokenPlaces.j4 k x0 x3 x6 x7 x8 x9 x11 true x271000 x271001 x271002 x271003) else (hearsaylaw08_TokenPlaces.j4 k x0 x3 x6 x7 x8 x9 x11 ((x11.size : Int) == 0) x271000 x271001 x271002 x271003)))) else (none)) else (none)
def hearsaylaw08_TokenPlaces.j4 : Nat → ByteArray → List (S45) → List Int → Int → Int → Int → ByteArray → Bool → ByteArray → Bool → Int → Int → Option (Bool)
  | 0, _, _, _, _, _, _, _, _, _, _, _, _ => none
  | k + 1, x0, x3, x6, x7, x8, x9, x11, x146, x271000, x271001, x271002, x271003 => if x146 = true then (some false) else (if 0 ≤ (wrap64 (x271002 - 1)) then (if (wrap64 (x271002 - 1)) < (x6.length : Int) then (if (wrap64 ((wrap64 ((rd x6 (wrap64 (x271002 - 1))) + x271003)) - 1)) < x7 then (some false) else (if (wrap64 ((wrap64 ((wrap64 ((rd x6 (wrap64 (x271002 - 1))) + x271003)) - 1)) + (x11.size : Int))) > (x0.size : Int) then (some false) else (if 0 ≤ (wrap64 ((wrap64 ((rd x6 (wrap64 (x271002 - 1))) + x271003)) - 1)) then (if (wrap64 ((wrap64 ((rd x6 (wrap64 (x271002 - 1))) + x271003)) - 1)) ≤ (wrap64 ((wrap64 ((wrap64 ((rd x6 (wrap64 (x271002 - 1))) + x271003)) - 1)) + (x11.size : Int))) then (if (wrap64 ((wrap64 ((wrap64 ((rd x6 (wrap64 (x271002 - 1))) + x271003)) - 1)) + (x11.size : Int))) ≤ (x0.size : Int) then (if (x0.extract ((wrap64 ((wrap64 ((rd x6 (wrap64 (x271002 - 1))) + x271003)) - 1)) : Int).toNat ((wrap64 ((wrap64 ((wrap64 ((rd x6 (wrap64 (x271002 - 1))) + x271003)) - 1)) + (x11.size : Int))) : Int).toNat).toList = x11.toList then (hearsaylaw08_TokenPlaces.l1 k x0 x3 x6 (wrap64 ((wrap64 ((wrap64 ((rd x6 (wrap64 (x271002 - 1))) + x271003)) - 1)) + (x11.size : Int))) x8 (wrap64 (x9 + 1))) else (some false)) else (none)) else (none)) else (none)))) else (none)) else (none))
end
def hearsaylaw08_TokenPlaces.f (k : Nat) (a0 : ByteArray) : Option (Bool) := if (a0.size : Int) > 20000 then (some true) else ((token_Entries.f a0).bind fun bt246 => (if bt246.2.2.2 = 0 then ((hearsaylaw08_places.f k a0).bind fun t254 => (hearsaylaw08_TokenPlaces.l0 k a0 bt246.1 t254 0 0)) else (if (bt246.1.length : Int) = 0 then ((hearsaylaw08_reads.f).bind fun t253 => (some t253)) else (some false))))
theorem hearsaylaw08_TokenPlaces.mono_l : ∀ k, (∀ y0 y1 y2 y3 y4, LeO (hearsaylaw08_TokenPlaces.l0 k y0 y1 y2 y3 y4) (hearsaylaw08_TokenPlaces.l0 (k + 1) y0 y1 y2 y3 y4)) ∧ (∀ y0 y1 y2 y3 y4 y5, LeO (hearsaylaw08_TokenPlaces.j1 k y0 y1 y2 y3 y4 y5) (hearsaylaw08_TokenPlaces.j1 (k + 1) y0 y1 y2 y3 y4 y5)) ∧ (∀ y0 y1 y2 y3 y4 y5, LeO (hearsaylaw08_TokenPlaces.l1 k y0 y1 y2 y3 y4 y5) (hearsaylaw08_TokenPlaces.l1 (k + 1) y0 y1 y2 y3 y4 y5)) ∧ (∀ y0 y1 y2 y3 y4 y5 y6 y7 y8 y9 y10, LeO (hearsaylaw08_TokenPlaces.j3 k y0 y1 y2 y3 y4 y5 y6 y7 y8 y9 y10) (hearsaylaw08_TokenPlaces.j3 (k + 1) y0 y1 y2 y3 y4 y5 y6 y7 y8 y9 y10)) ∧ (∀ y0 y1 y2 y3 y4 y5 y6 y7 y8 y9 y10 y11, LeO (hearsaylaw08_TokenPlaces.j4 k y0 y1 y2 y3 y4 y5 y6 y7 y8 y9 y10 y11) (hearsaylaw08_TokenPlaces.j4 (k + 1) y0 y1 y2 y3 y4 y5 y6 y7 y8 y9 y10 y11))
  | 0 => ⟨fun _ _ _ _ _ r h => by simp [hearsaylaw08_TokenPlaces.l0] at h, fun _ _ _ _ _ _ r h => by simp [hearsaylaw08_TokenPlaces.j1] at h, fun _ _ _ _ _ _ r h => by simp [hearsaylaw08_TokenPlaces.l1] at h, fun _ _ _ _ _ _ _ _ _ _ _ r h => by simp [hearsaylaw08_TokenPlaces.j3] at h, fun _ _ _ _ _ _ _ _ _ _ _ _ r h => by simp [hearsaylaw08_TokenPlaces.j4] at h⟩
  | k + 1 => by
    obtain ⟨ih0, ih1, ih2, ih3, ih4⟩ := hearsaylaw08_TokenPlaces.mono_l k
    refine ⟨?_, ?_, ?_, ?_, ?_⟩
    · intro y0 y1 y2 y3 y4
      unfold hearsaylaw08_TokenPlaces.l0
      repeat' first
      | (with_reducible exact ih0 _ _ _ _ _)
      | (with_reducible exact ih1 _ _ _ _ _ _)
      | (with_reducible exact ih2 _ _ _ _ _ _)
      | (with_reducible exact ih3 _ _ _ _ _ _ _ _ _ _ _)
      | (with_reducible exact ih4 _ _ _ _ _ _ _ _ _ _ _ _)
      | (with_reducible exact hearsaylaw08_places.mono _ _)
      | (with_reducible exact LeO.refl _)
      | (with_reducible exact LeO.none _)
      | (with_reducible refine LeO.ite ?_ ?_)
      | (with_reducible refine LeO.bind ?_ (fun _ => ?_))
      | exact ih0 _ _ _ _ _
      | exact ih1 _ _ _ _ _ _
      | exact ih2 _ _ _ _ _ _
      | exact ih3 _ _ _ _ _ _ _ _ _ _ _
      | exact ih4 _ _ _ _ _ _ _ _ _ _ _ _
      | exact hearsaylaw08_places.mono _ _
      | exact LeO.none _
      | refine LeO.ite ?_ ?_
      | refine LeO.bind ?_ (fun _ => ?_)
    · intro y0 y1 y2 y3 y4 y5
      unfold hearsaylaw08_TokenPlaces.j1
      repeat' first
      | (with_reducible exact ih0 _ _ _ _ _)
      | (with_reducible exact ih1 _ _ _ _ _ _)
      | (with_reducible exact ih2 _ _ _ _ _ _)
      | (with_reducible exact ih3 _ _ _ _ _ _ _ _ _ _ _)
      | (with_reducible exact ih4 _ _ _ _ _ _ _ _ _ _ _ _)
      | (with_reducible exact hearsaylaw08_places.mono _ _)
      | (with_reducible exact LeO.refl _)
      | (with_reducible exact LeO.none _)
      | (with_reducible refine LeO.ite ?_ ?_)
      | (with_reducible refine LeO.bind ?_ (fun _ => ?_))
      | exact ih0 _ _ _ _ _
      | exact ih1 _ _ _ _ _ _
      | exact ih2 _ _ _ _ _ _
      | exact ih3 _ _ _ _ _ _ _ _ _ _ _
      | exact ih4 _ _ _ _ _ _ _ _ _ _ _ _
      | exact hearsaylaw08_places.mono _ _
      | exact LeO.none _
      | refine LeO.ite ?_ ?_
      | refine LeO.bind ?_ (fun _ => ?_)
    · intro y0 y1 y2 y3 y4 y5
      unfold hearsaylaw08_TokenPlaces.l1
      repeat' first
      | (with_reducible exact ih0 _ _ _ _ _)
      | (with_reducible exact ih1 _ _ _ _ _ _)
      | (with_reducible exact ih2 _ _ _ _ _ _)
      | (with_reducible exact ih3 _ _ _ _ _ _ _ _ _ _ _)
      | (with_reducible exact ih4 _ _ _ _ _ _ _ _ _ _ _ _)
      | (with_reducible exact hearsaylaw08_places.mono _ _)
      | (with_reducible exact LeO.refl _)
      | (with_reducible exact LeO.none _)
      | (with_reducible refine LeO.ite ?_ ?_)
      | (with_reducible refine LeO.bind ?_ (fun _ => ?_))
      | exact ih0 _ _ _ _ _
      | exact ih1 _ _ _ _ _ _
      | exact ih2 _ _ _ _ _ _
      | exact ih3 _ _ _ _ _ _ _ _ _ _ _
      | exact ih4 _ _ _ _ _ _ _ _ _ _ _ _
      | exact hearsaylaw08_places.mono _ _
      | exact LeO.none _
      | refine LeO.ite ?_ ?_
      | refine LeO.bind ?_ (fun _ => ?_)
    · intro y0 y1 y2 y3 y4 y5 y6 y7 y8 y9 y10
      unfold hearsaylaw08_TokenPlaces.j3
      repeat' first
      | (with_reducible exact ih0 _ _ _ _ _)
      | (with_reducible exact ih1 _ _ _ _ _ _)
      | (with_reducible exact ih2 _ _ _ _ _ _)
      | (with_reducible exact ih3 _ _ _ _ _ _ _ _ _ _ _)
      | (with_reducible exact ih4 _ _ _ _ _ _ _ _ _ _ _ _)
      | (with_reducible exact hearsaylaw08_places.mono _ _)
      | (with_reducible exact LeO.refl _)
      | (with_reducible exact LeO.none _)
      | (with_reducible refine LeO.ite ?_ ?_)
      | (with_reducible refine LeO.bind ?_ (fun _ => ?_))
      | exact ih0 _ _ _ _ _
      | exact ih1 _ _ _ _ _ _
      | exact ih2 _ _ _ _ _ _
      | exact ih3 _ _ _ _ _ _ _ _ _ _ _
      | exact ih4 _ _ _ _ _ _ _ _ _ _ _ _
      | exact hearsaylaw08_places.mono _ _
      | exact LeO.none _
      | refine LeO.ite ?_ ?_
      | refine LeO.bind ?_ (fun _ => ?_)
    · intro y0 y1 y2 y3 y4 y5 y6 y7 y8 y9 y10 y11
      unfold hearsaylaw08_TokenPlaces.j4
      repeat' first
      | (with_reducible exact ih0 _ _ _ _ _)
      | (with_reducible exact ih1 _ _ _ _ _ _)
      | (with_reducible exact ih2 _ _ _ _ _ _)
      | (with_reducible exact ih3 _ _ _ _ _ _ _ _ _ _ _)
      | (with_reducible exact ih4 _ _ _ _ _ _ _ _ _ _ _ _)
      | (with_reducible exact hearsaylaw08_places.mono _ _)
      | (with_reducible exact LeO.refl _)
      | (with_reducible exact LeO.none _)
      | (with_reducible refine LeO.ite ?_ ?_)
      | (with_reducible refine LeO.bind ?_ (fun _ => ?_))
      | exact ih0 _ _ _ _ _
      | exact ih1 _ _ _ _ _ _
      | exact ih2 _ _ _ _ _ _
      | exact ih3 _ _ _ _ _ _ _ _ _ _ _
      | exact ih4 _ _ _ _ _ _ _ _ _ _ _ _
      | exact hearsaylaw08_places.mono _ _
      | exact LeO.none _
      | refine LeO.ite ?_ ?_
      | refine LeO.bind ?_ (fun _ => ?_)
theorem hearsaylaw08_TokenPlaces.mono : ∀ a0 k, LeO (hearsaylaw08_TokenPlaces.f k a0) (hearsaylaw08_TokenPlaces.f (k + 1) a0) := by
  intro a0 k
  obtain ⟨ih0, ih1, ih2, ih3, ih4⟩ := hearsaylaw08_TokenPlaces.mono_l k
  unfold hearsaylaw08_TokenPlaces.f
  repeat' first
      | (with_reducible exact ih0 _ _ _ _ _)
      | (with_reducible exact ih1 _ _ _ _ _ _)
      | (with_reducible exact ih2 _ _ _ _ _ _)
      | (with_reducible exact ih3 _ _ _ _ _ _ _ _ _ _ _)
      | (with_reducible exact ih4 _ _ _ _ _ _ _ _ _ _ _ _)
      | (with_reducible exact hearsaylaw08_places.mono _ _)
      | (with_reducible exact LeO.refl _)
      | (with_reducible exact LeO.none _)
      | (with_reducible refine LeO.ite ?_ ?_)
      | (with_reducible refine LeO.bind ?_ (fun _ => ?_))
      | exact ih0 _ _ _ _ _
      | exact ih1 _ _ _ _ _ _
      | exact ih2 _ _ _ _ _ _
      | exact ih3 _ _ _ _ _ _ _ _ _ _ _
      | exact ih4 _ _ _ _ _ _ _ _ _ _ _ _
      | exact hearsaylaw08_places.mono _ _
      | exact LeO.none _
      | refine LeO.ite ?_ ?_
      | refine LeO.bind ?_ (fun _ => ?_)
def hearsaylaw08_TokenPlaces.Pure : Prop := ∀ (a0 : ByteArray), a0.size ≤ 140737488351232 → ∃ k, hearsaylaw08_TokenPlaces.f k a0 = some true
end Go.Proofs.Ytafminohaofjnaa.Print
