-- Written by a program of this session, built on the kit's print (it is not the print's own text).
import Derived.Test.YtafminohaofjnaaKinds
import Derived.Test.YtafminohaofjnaaF21
import Derived.Test.YtafminohaofjnaaF27
import Derived.Test.YtafminohaofjnaaXEnt
namespace Go.Proofs.Ytafminohaofjnaa.Print
open Go.RowKit Go.Proofs.YtafminohaofjnaaW.PrintWords Go.Proofs.YtafminohaofjnaaW.PrintLast Go.Proofs.YtafminohaofjnaaW.PrintMore
set_option linter.unusedVariables false
set_option linter.unusedSimpArgs false

/-! ### hearsayref08_Entries: function 13 -/
mutual
def hearsayref08_Entries.l0 : Nat → ByteArray → List Int → List (S45) → Bool → Int → Int → Int → Bool → Int → List (S23) → Option ((List (S45)) × Int × Int × Int)
  | 0, _, _, _, _, _, _, _, _, _, _ => none
  | k + 1, x0, x5, x8, x11, x12, x128000, x128001, x129000, x129001, x129002 => if x12 < (x0.size : Int) then (if x11 = true then (if 0 ≤ x12 then ((hearsayref08_Blank.f (bt x0 x12)).bind fun t132 => (hearsayref08_Entries.j1 k x0 x5 x8 false x12 x128000 x128001 t132 x128000 ([] : List (S23)))) else (none)) else (hearsayref08_Entries.j1 k x0 x5 x8 x11 x12 x128000 x128001 x129000 x129001 x129002)) else (if (x129002.length : Int) > 0 then (if x8.length < 3518437208883 then (some ((x8 ++ [(⟨x129000, x129001, x129002⟩ : S45)]), 0, 0, 0)) else (none)) else (some (x8, 0, 0, 0)))
def hearsayref08_Entries.j1 : Nat → ByteArray → List Int → List (S45) → Bool → Int → Int → Int → Bool → Int → List (S23) → Option ((List (S45)) × Int × Int × Int)
  | 0, _, _, _, _, _, _, _, _, _, _ => none
  | k + 1, x0, x5, x8, x11, x12, x128000, x128001, x129000, x129001, x129002 => if 0 ≤ x12 then (if x12 < (x5.length : Int) then (if (rd x5 x12) = 3 then (hearsayref08_Entries.j2 k x0 x5 x8 x11 x12 true x128000 x128001 x129000 x129001 x129002) else (hearsayref08_Entries.j2 k x0 x5 x8 x11 x12 ((rd x5 x12) == 5) x128000 x128001 x129000 x129001 x129002)) else (none)) else (none)
def hearsayref08_Entries.j2 : Nat → ByteArray → List Int → List (S45) → Bool → Int → Bool → Int → Int → Bool → Int → List (S23) → Option ((List (S45)) × Int × Int × Int)
  | 0, _, _, _, _, _, _, _, _, _, _, _ => none
  | k + 1, x0, x5, x8, x11, x12, x57, x128000, x128001, x129000, x129001, x129002 => if x57 = true then (hearsayref08_Entries.l1 k x0 x5 x8 x11 x12 (wrap64 (x12 + 1)) x128000 x128001 x129000 x129001 x129002) else (hearsayref08_Entries.j4 k x0 x5 x8 x11 x12 x128000 x128001 x129000 x129001 x129002)
def hearsayref08_Entries.j4 : Nat → ByteArray → List Int → List (S45) → Bool → Int → Int → Int → Bool → Int → List (S23) → Option ((List (S45)) × Int × Int × Int)
  | 0, _, _, _, _, _, _, _, _, _, _ => none
  | k + 1, x0, x5, x8, x11, x12, x128000, x128001, x129000, x129001, x129002 => if 0 ≤ x12 then (if x12 < (x5.length : Int) then (if (rd x5 x12) = 2 then (if (x129002.length : Int) > 0 then (if x8.length < 3518437208883 then ((some (x8 ++ [(⟨x129000, x129001, x129002⟩ : S45)] : List (S45))).bind fun y153 => (if x12 < (x0.size : Int) then (if (bt x0 x12) = 10 then (hearsayref08_Entries.l0 k x0 x5 y153 true (wrap64 (x12 + 1)) (wrap64 (x128000 + 1)) 1 false 0 ([] : List (S23))) else (hearsayref08_Entries.l0 k x0 x5 y153 true (wrap64 (x12 + 1)) x128000 (wrap64 (x128001 + 1)) false 0 ([] : List (S23)))) else (none))) else (none)) else (if x12 < (x0.size : Int) then (if (bt x0 x12) = 10 then (hearsayref08_Entries.l0 k x0 x5 x8 true (wrap64 (x12 + 1)) (wrap64 (x128000 + 1)) 1 false 0 ([] : List (S23))) else (hearsayref08_Entries.l0 k x0 x5 x8 true (wrap64 (x12 + 1)) x128000 (wrap64 (x128001 + 1)) false 0 ([] : List (S23)))) else (none))) else (if x12 < (x0.size : Int) then (if (bt x0 x12) = 10 then (hearsayref08_Entries.l0 k x0 x5 x8 x11 (wrap64 (x12 + 1)) (wrap64 (x128000 + 1)) 1 x129000 x129001 x129002) else (hearsayref08_Entries.l0 k x0 x5 x8 x11 (wrap64 (x12 + 1)) x128000 (wrap64 (x128001 + 1)) x129000 x129001 x129002)) else (none))) else (none)) else (none)
def hearsayref08_Entries.l1 : Nat → ByteArray → List Int → List (S45) → Bool → Int → Int → Int → Int → Bool → Int → List (S23) → Option ((List (S45)) × Int × Int × Int)
  | 0, _, _, _, _, _, _, _, _, _, _, _ => none
  | k + 1, x0, x5, x8, x11, x12, x13, x128000, x128001, x129000, x129001, x129002 => if x13 < (x0.size : Int) then (if 0 ≤ x13 then (if x13 < (x5.length : Int) then (if (rd x5 x13) = 4 then (hearsayref08_Entries.l1 k x0 x5 x8 x11 x12 (wrap64 (x13 + 1)) x128000 x128001 x129000 x129001 x129002) else (if 0 ≤ x12 then (if x12 ≤ x13 then (if x13 ≤ (x0.size : Int) then (if x12 < (x5.length : Int) then (if (rd x5 x12) = 5 then (if 0 ≤ (wrap64 (x12 + 1)) then (if (wrap64 (x12 + 1)) ≤ (wrap64 (x13 - 1)) then (if (wrap64 (x13 - 1)) ≤ (x0.size : Int) then (if x129002.length < 3518437208883 then (hearsayref08_Entries.j4 k x0 x5 x8 x11 x12 x128000 x128001 x129000 x129001 (x129002 ++ [(⟨x0.extract ((wrap64 (x12 + 1)) : Int).toNat ((wrap64 (x13 - 1)) : Int).toNat, true, x128000, x128001⟩ : S23)])) else (none)) else (none)) else (none)) else (none)) else (if x129002.length < 3518437208883 then (hearsayref08_Entries.j4 k x0 x5 x8 x11 x12 x128000 x128001 x129000 x129001 (x129002 ++ [(⟨x0.extract (x12 : Int).toNat (x13 : Int).toNat, false, x128000, x128001⟩ : S23)])) else (none))) else (none)) else (none)) else (none)) else (none))) else (none)) else (none)) else (if 0 ≤ x12 then (if x12 ≤ x13 then (if x13 ≤ (x0.size : Int) then (if x12 < (x5.length : Int) then (if (rd x5 x12) = 5 then (if 0 ≤ (wrap64 (x12 + 1)) then (if (wrap64 (x12 + 1)) ≤ (wrap64 (x13 - 1)) then (if (wrap64 (x13 - 1)) ≤ (x0.size : Int) then (if x129002.length < 3518437208883 then (hearsayref08_Entries.j4 k x0 x5 x8 x11 x12 x128000 x128001 x129000 x129001 (x129002 ++ [(⟨x0.extract ((wrap64 (x12 + 1)) : Int).toNat ((wrap64 (x13 - 1)) : Int).toNat, true, x128000, x128001⟩ : S23)])) else (none)) else (none)) else (none)) else (none)) else (if x129002.length < 3518437208883 then (hearsayref08_Entries.j4 k x0 x5 x8 x11 x12 x128000 x128001 x129000 x129001 (x129002 ++ [(⟨x0.extract (x12 : Int).toNat (x13 : Int).toNat, false, x128000, x128001⟩ : S23)])) else (none))) else (none)) else (none)) else (none)) else (none))
end
def hearsayref08_Entries.f (k : Nat) (a0 : ByteArray) : Option ((List (S45)) × Int × Int × Int) := if (a0.size : Int) > 262144 then (some (([] : List (S45)), 0, 0, 2)) else ((hearsayref08_kinds.f a0).bind fun bt120 => (if bt120.2.2 = 0 then (hearsayref08_Entries.l0 k a0 bt120.1 ([] : List (S45)) true 0 1 1 false 0 ([] : List (S23))) else ((hearsayref08_SpotOf.f k a0 bt120.2.1).bind fun bt125 => (some (([] : List (S45)), bt125.1, bt125.2, bt120.2.2)))))
theorem hearsayref08_Entries.mono_l : ∀ k, (∀ y0 y1 y2 y3 y4 y5 y6 y7 y8 y9, LeO (hearsayref08_Entries.l0 k y0 y1 y2 y3 y4 y5 y6 y7 y8 y9) (hearsayref08_Entries.l0 (k + 1) y0 y1 y2 y3 y4 y5 y6 y7 y8 y9)) ∧ (∀ y0 y1 y2 y3 y4 y5 y6 y7 y8 y9, LeO (hearsayref08_Entries.j1 k y0 y1 y2 y3 y4 y5 y6 y7 y8 y9) (hearsayref08_Entries.j1 (k + 1) y0 y1 y2 y3 y4 y5 y6 y7 y8 y9)) ∧ (∀ y0 y1 y2 y3 y4 y5 y6 y7 y8 y9 y10, LeO (hearsayref08_Entries.j2 k y0 y1 y2 y3 y4 y5 y6 y7 y8 y9 y10) (hearsayref08_Entries.j2 (k + 1) y0 y1 y2 y3 y4 y5 y6 y7 y8 y9 y10)) ∧ (∀ y0 y1 y2 y3 y4 y5 y6 y7 y8 y9, LeO (hearsayref08_Entries.j4 k y0 y1 y2 y3 y4 y5 y6 y7 y8 y9) (hearsayref08_Entries.j4 (k + 1) y0 y1 y2 y3 y4 y5 y6 y7 y8 y9)) ∧ (∀ y0 y1 y2 y3 y4 y5 y6 y7 y8 y9 y10, LeO (hearsayref08_Entries.l1 k y0 y1 y2 y3 y4 y5 y6 y7 y8 y9 y10) (hearsayref08_Entries.l1 (k + 1) y0 y1 y2 y3 y4 y5 y6 y7 y8 y9 y10))
  | 0 => ⟨fun _ _ _ _ _ _ _ _ _ _ r h => by simp [hearsayref08_Entries.l0] at h, fun _ _ _ _ _ _ _ _ _ _ r h => by simp [hearsayref08_Entries.j1] at h, fun _ _ _ _ _ _ _ _ _ _ _ r h => by simp [hearsayref08_Entries.j2] at h, fun _ _ _ _ _ _ _ _ _ _ r h => by simp [hearsayref08_Entries.j4] at h, fun _ _ _ _ _ _ _ _ _ _ _ r h => by simp [hearsayref08_Entries.l1] at h⟩
  | k + 1 => by
    obtain ⟨ih0, ih1, ih2, ih3, ih4⟩ := hearsayref08_Entries.mono_l k
    refine ⟨?_, ?_, ?_, ?_, ?_⟩
    · intro y0 y1 y2 y3 y4 y5 y6 y7 y8 y9
      unfold hearsayref08_Entries.l0
      repeat' first
      | (with_reducible exact ih0 _ _ _ _ _ _ _ _ _ _)
      | (with_reducible exact ih1 _ _ _ _ _ _ _ _ _ _)
      | (with_reducible exact ih2 _ _ _ _ _ _ _ _ _ _ _)
      | (with_reducible exact ih3 _ _ _ _ _ _ _ _ _ _)
      | (with_reducible exact ih4 _ _ _ _ _ _ _ _ _ _ _)
      | (with_reducible exact hearsayref08_SpotOf.mono _ _ _)
      | (with_reducible exact LeO.refl _)
      | (with_reducible exact LeO.none _)
      | (with_reducible refine LeO.ite ?_ ?_)
      | (with_reducible refine LeO.bind ?_ (fun _ => ?_))
      | exact ih0 _ _ _ _ _ _ _ _ _ _
      | exact ih1 _ _ _ _ _ _ _ _ _ _
      | exact ih2 _ _ _ _ _ _ _ _ _ _ _
      | exact ih3 _ _ _ _ _ _ _ _ _ _
      | exact ih4 _ _ _ _ _ _ _ _ _ _ _
      | exact hearsayref08_SpotOf.mono _ _ _
      | exact LeO.none _
      | refine LeO.ite ?_ ?_
      | refine LeO.bind ?_ (fun _ => ?_)
    · intro y0 y1 y2 y3 y4 y5 y6 y7 y8 y9
      unfold hearsayref08_Entries.j1
      repeat' first
      | (with_reducible exact ih0 _ _ _ _ _ _ _ _ _ _)
      | (with_reducible exact ih1 _ _ _ _ _ _ _ _ _ _)
      | (with_reducible exact ih2 _ _ _ _ _ _ _ _ _ _ _)
      | (with_reducible exact ih3 _ _ _ _ _ _ _ _ _ _)
      | (with_reducible exact ih4 _ _ _ _ _ _ _ _ _ _ _)
      | (with_reducible exact hearsayref08_SpotOf.mono _ _ _)
      | (with_reducible exact LeO.refl _)
      | (with_reducible exact LeO.none _)
      | (with_reducible refine LeO.ite ?_ ?_)
      | (with_reducible refine LeO.bind ?_ (fun _ => ?_))
      | exact ih0 _ _ _ _ _ _ _ _ _ _
      | exact ih1 _ _ _ _ _ _ _ _ _ _
      | exact ih2 _ _ _ _ _ _ _ _ _ _ _
      | exact ih3 _ _ _ _ _ _ _ _ _ _
      | exact ih4 _ _ _ _ _ _ _ _ _ _ _
      | exact hearsayref08_SpotOf.mono _ _ _
      | exact LeO.none _
      | refine LeO.ite ?_ ?_
      | refine LeO.bind ?_ (fun _ => ?_)
    · intro y0 y1 y2 y3 y4 y5 y6 y7 y8 y9 y10
      unfold hearsayref08_Entries.j2
      repeat' first
      | (with_reducible exact ih0 _ _ _ _ _ _ _ _ _ _)
      | (with_reducible exact ih1 _ _ _ _ _ _ _ _ _ _)
      | (with_reducible exact ih2 _ _ _ _ _ _ _ _ _ _ _)
      | (with_reducible exact ih3 _ _ _ _ _ _ _ _ _ _)
      | (with_reducible exact ih4 _ _ _ _ _ _ _ _ _ _ _)
      | (with_reducible exact hearsayref08_SpotOf.mono _ _ _)
      | (with_reducible exact LeO.refl _)
      | (with_reducible exact LeO.none _)
      | (with_reducible refine LeO.ite ?_ ?_)
      | (with_reducible refine LeO.bind ?_ (fun _ => ?_))
      | exact ih0 _ _ _ _ _ _ _ _ _ _
      | exact ih1 _ _ _ _ _ _ _ _ _ _
      | exact ih2 _ _ _ _ _ _ _ _ _ _ _
      | exact ih3 _ _ _ _ _ _ _ _ _ _
      | exact ih4 _ _ _ _ _ _ _ _ _ _ _
      | exact hearsayref08_SpotOf.mono _ _ _
      | exact LeO.none _
      | refine LeO.ite ?_ ?_
      | refine LeO.bind ?_ (fun _ => ?_)
    · intro y0 y1 y2 y3 y4 y5 y6 y7 y8 y9
      unfold hearsayref08_Entries.j4
      repeat' first
      | (with_reducible exact ih0 _ _ _ _ _ _ _ _ _ _)
      | (with_reducible exact ih1 _ _ _ _ _ _ _ _ _ _)
      | (with_reducible exact ih2 _ _ _ _ _ _ _ _ _ _ _)
      | (with_reducible exact ih3 _ _ _ _ _ _ _ _ _ _)
      | (with_reducible exact ih4 _ _ _ _ _ _ _ _ _ _ _)
      | (with_reducible exact hearsayref08_SpotOf.mono _ _ _)
      | (with_reducible exact LeO.refl _)
      | (with_reducible exact LeO.none _)
      | (with_reducible refine LeO.ite ?_ ?_)
      | (with_reducible refine LeO.bind ?_ (fun _ => ?_))
      | exact ih0 _ _ _ _ _ _ _ _ _ _
      | exact ih1 _ _ _ _ _ _ _ _ _ _
      | exact ih2 _ _ _ _ _ _ _ _ _ _ _
      | exact ih3 _ _ _ _ _ _ _ _ _ _
      | exact ih4 _ _ _ _ _ _ _ _ _ _ _
      | exact hearsayref08_SpotOf.mono _ _ _
      | exact LeO.none _
      | refine LeO.ite ?_ ?_
      | refine LeO.bind ?_ (fun _ => ?_)
    · intro y0 y1 y2 y3 y4 y5 y6 y7 y8 y9 y10
      unfold hearsayref08_Entries.l1
      repeat' first
      | (with_reducible exact ih0 _ _ _ _ _ _ _ _ _ _)
      | (with_reducible exact ih1 _ _ _ _ _ _ _ _ _ _)
      | (with_reducible exact ih2 _ _ _ _ _ _ _ _ _ _ _)
      | (with_reducible exact ih3 _ _ _ _ _ _ _ _ _ _)
      | (with_reducible exact ih4 _ _ _ _ _ _ _ _ _ _ _)
      | (with_reducible exact hearsayref08_SpotOf.mono _ _ _)
      | (with_reducible exact LeO.refl _)
      | (with_reducible exact LeO.none _)
      | (with_reducible refine LeO.ite ?_ ?_)
      | (with_reducible refine LeO.bind ?_ (fun _ => ?_))
      | exact ih0 _ _ _ _ _ _ _ _ _ _
      | exact ih1 _ _ _ _ _ _ _ _ _ _
      | exact ih2 _ _ _ _ _ _ _ _ _ _ _
      | exact ih3 _ _ _ _ _ _ _ _ _ _
      | exact ih4 _ _ _ _ _ _ _ _ _ _ _
      | exact hearsayref08_SpotOf.mono _ _ _
      | exact LeO.none _
      | refine LeO.ite ?_ ?_
      | refine LeO.bind ?_ (fun _ => ?_)
theorem hearsayref08_Entries.mono : ∀ a0 k, LeO (hearsayref08_Entries.f k a0) (hearsayref08_Entries.f (k + 1) a0) := by
  intro a0 k
  obtain ⟨ih0, ih1, ih2, ih3, ih4⟩ := hearsayref08_Entries.mono_l k
  unfold hearsayref08_Entries.f
  repeat' first
      | (with_reducible exact ih0 _ _ _ _ _ _ _ _ _ _)
      | (with_reducible exact ih1 _ _ _ _ _ _ _ _ _ _)
      | (with_reducible exact ih2 _ _ _ _ _ _ _ _ _ _ _)
      | (with_reducible exact ih3 _ _ _ _ _ _ _ _ _ _)
      | (with_reducible exact ih4 _ _ _ _ _ _ _ _ _ _ _)
      | (with_reducible exact hearsayref08_SpotOf.mono _ _ _)
      | (with_reducible exact LeO.refl _)
      | (with_reducible exact LeO.none _)
      | (with_reducible refine LeO.ite ?_ ?_)
      | (with_reducible refine LeO.bind ?_ (fun _ => ?_))
      | exact ih0 _ _ _ _ _ _ _ _ _ _
      | exact ih1 _ _ _ _ _ _ _ _ _ _
      | exact ih2 _ _ _ _ _ _ _ _ _ _ _
      | exact ih3 _ _ _ _ _ _ _ _ _ _
      | exact ih4 _ _ _ _ _ _ _ _ _ _ _
      | exact hearsayref08_SpotOf.mono _ _ _
      | exact LeO.none _
      | refine LeO.ite ?_ ?_
      | refine LeO.bind ?_ (fun _ => ?_)
end Go.Proofs.Ytafminohaofjnaa.Print
