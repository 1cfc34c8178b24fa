-- Written by a program of this session, built on the kit's print (it is not the print's own text).
import Derived.Test.YtafminohaofjnaaKinds
import Derived.Test.YtafminohaofjnaaF35
import Derived.Test.YtafminohaofjnaaF36
namespace Go.Proofs.Ytafminohaofjnaa.Print
open Go.RowKit Go.Proofs.YtafminohaofjnaaW.PrintWords Go.Proofs.YtafminohaofjnaaW.PrintLast Go.Proofs.YtafminohaofjnaaW.PrintMore
set_option linter.unusedVariables false
set_option linter.unusedSimpArgs false

theorem drewN_self (w : World) (n : Nat) : w.drewN n = w.drewN n := rfl
/-! ### hearsayref08_kindsP: function 26 -/
mutual
def hearsayref08_kindsP.l0 : Nat → ByteArray → List Int → List Int → Int → Option (List Int × Int × Int)
  | 0, _, _, _, _ => none
  | k + 1, x0, x5, x6, x7 => if x7 < (x0.size : Int) then (if 0 ≤ x7 then (if x7 < (x5.length : Int) then ((some (x5.set (x7 : Int).toNat 1 : List Int)).bind fun y108 => (if (bt x0 x7) = 10 then (hearsayref08_kindsP.j1 k x0 y108 x6 x7 (bt x0 x7) ((x6.length : Int) == 0)) else (hearsayref08_kindsP.j1 k x0 y108 x6 x7 (bt x0 x7) false))) else (none)) else (none)) else (if (x6.length : Int) > 0 then (if 0 < (x6.length : Int) then (some (([] : List Int), rd x6 0, 81)) else (none)) else (some (x5, 0, 0)))
def hearsayref08_kindsP.j1 : Nat → ByteArray → List Int → List Int → Int → Int → Bool → Option (List Int × Int × Int)
  | 0, _, _, _, _, _, _ => none
  | k + 1, x0, x5, x6, x7, x8, x23 => if x23 = true then (if 0 ≤ x7 then (if x7 < (x5.length : Int) then (hearsayref08_kindsP.l0 k x0 (x5.set (x7 : Int).toNat 2) x6 (wrap64 (x7 + 1))) else (none)) else (none)) else (if x8 = 59 then (hearsayref08_kindsP.l1 k x0 x5 x6 x7) else (if x8 = 40 then (if x6.length < 17592186044416 then (hearsayref08_kindsP.l0 k x0 x5 (x6 ++ [x7]) (wrap64 (x7 + 1))) else (none)) else (if x8 = 41 then (if (x6.length : Int) = 0 then (some (([] : List Int), x7, 81)) else (if 0 ≤ (wrap64 ((x6.length : Int) - 1)) then (if (wrap64 ((x6.length : Int) - 1)) ≤ (x6.length : Int) then (hearsayref08_kindsP.l0 k x0 x5 (x6.take ((wrap64 ((x6.length : Int) - 1)) : Int).toNat) (wrap64 (x7 + 1))) else (none)) else (none))) else (if x8 = 34 then (if 0 ≤ x7 then (if x7 < (x5.length : Int) then (hearsayref08_kindsP.l2 k x0 (x5.set (x7 : Int).toNat 5) x6 (wrap64 (x7 + 1)) x7) else (none)) else (none)) else ((hearsayref08_special.f x8).bind fun t122 => (if t122 = true then (hearsayref08_kindsP.l0 k x0 x5 x6 (wrap64 (x7 + 1))) else (if 0 ≤ x7 then (if x7 < (x5.length : Int) then ((some (x5.set (x7 : Int).toNat 3 : List Int)).bind fun y123 => ((hearsayref08_takes.f x0 x7).bind fun t124 => (if t124 = true then (if 0 ≤ (wrap64 (x7 + 1)) then (if (wrap64 (x7 + 1)) < (x5.length : Int) then (hearsayref08_kindsP.j5 k x0 (y123.set ((wrap64 (x7 + 1)) : Int).toNat 4) x6 (wrap64 (x7 + 1))) else (none)) else (none)) else (hearsayref08_kindsP.j5 k x0 y123 x6 x7)))) else (none)) else (none))))))))
def hearsayref08_kindsP.l1 : Nat → ByteArray → List Int → List Int → Int → Option (List Int × Int × Int)
  | 0, _, _, _, _ => none
  | k + 1, x0, x5, x6, x7 => if (wrap64 (x7 + 1)) < (x0.size : Int) then (if 0 ≤ (wrap64 (x7 + 1)) then (if (bt x0 (wrap64 (x7 + 1))) = 10 then (hearsayref08_kindsP.l0 k x0 x5 x6 (wrap64 (x7 + 1))) else (if (wrap64 (x7 + 1)) < (x5.length : Int) then (hearsayref08_kindsP.l1 k x0 (x5.set ((wrap64 (x7 + 1)) : Int).toNat 1) x6 (wrap64 (x7 + 1))) else (none))) else (none)) else (hearsayref08_kindsP.l0 k x0 x5 x6 (wrap64 (x7 + 1)))
def hearsayref08_kindsP.l2 : Nat → ByteArray → List Int → List Int → Int → Int → Option (List Int × Int × Int)
  | 0, _, _, _, _, _ => none
  | k + 1, x0, x5, x6, x7, x9 => if x7 < (x0.size : Int) then (if 0 ≤ x7 then (if (bt x0 x7) = 10 then (hearsayref08_kindsP.j4 k x0 x5 x6 x7 x9 false) else (hearsayref08_kindsP.j4 k x0 x5 x6 x7 x9 ((bt x0 x7) != 34))) else (none)) else (hearsayref08_kindsP.j4 k x0 x5 x6 x7 x9 false)
def hearsayref08_kindsP.j4 : Nat → ByteArray → List Int → List Int → Int → Int → Bool → Option (List Int × Int × Int)
  | 0, _, _, _, _, _, _ => none
  | k + 1, x0, x5, x6, x7, x9, x97 => if x97 = true then (if 0 ≤ x7 then (if x7 < (x5.length : Int) then ((some (x5.set (x7 : Int).toNat 4 : List Int)).bind fun y118 => ((hearsayref08_takes.f x0 x7).bind fun t119 => (if t119 = true then (if 0 ≤ (wrap64 (x7 + 1)) then (if (wrap64 (x7 + 1)) < (x5.length : Int) then (hearsayref08_kindsP.l2 k x0 (y118.set ((wrap64 (x7 + 1)) : Int).toNat 4) x6 (wrap64 ((wrap64 (x7 + 1)) + 1)) x9) else (none)) else (none)) else (hearsayref08_kindsP.l2 k x0 y118 x6 (wrap64 (x7 + 1)) x9)))) else (none)) else (none)) else (if x7 ≥ (x0.size : Int) then (some (([] : List Int), x9, 80)) else (if 0 ≤ x7 then (if x7 < (x0.size : Int) then (if (bt x0 x7) = 10 then (some (([] : List Int), x9, 80)) else (if x7 < (x5.length : Int) then (hearsayref08_kindsP.l0 k x0 (x5.set (x7 : Int).toNat 4) x6 (wrap64 (x7 + 1))) else (none))) else (none)) else (none)))
def hearsayref08_kindsP.j5 : Nat → ByteArray → List Int → List Int → Int → Option (List Int × Int × Int)
  | 0, _, _, _, _ => none
  | k + 1, x0, x5, x6, x7 => hearsayref08_kindsP.l3 k x0 x5 x6 x7
def hearsayref08_kindsP.l3 : Nat → ByteArray → List Int → List Int → Int → Option (List Int × Int × Int)
  | 0, _, _, _, _ => none
  | k + 1, x0, x5, x6, x7 => if (wrap64 (x7 + 1)) < (x0.size : Int) then (if 0 ≤ (wrap64 (x7 + 1)) then ((hearsayref08_special.f (bt x0 (wrap64 (x7 + 1)))).bind fun t126 => (hearsayref08_kindsP.j7 k x0 x5 x6 x7 (!t126))) else (none)) else (hearsayref08_kindsP.j7 k x0 x5 x6 x7 false)
def hearsayref08_kindsP.j7 : Nat → ByteArray → List Int → List Int → Int → Bool → Option (List Int × Int × Int)
  | 0, _, _, _, _, _ => none
  | k + 1, x0, x5, x6, x7, x152 => if x152 = true then (if 0 ≤ (wrap64 (x7 + 1)) then (if (wrap64 (x7 + 1)) < (x5.length : Int) then ((some (x5.set ((wrap64 (x7 + 1)) : Int).toNat 4 : List Int)).bind fun y127 => ((hearsayref08_takes.f x0 (wrap64 (x7 + 1))).bind fun t128 => (if t128 = true then (if 0 ≤ (wrap64 ((wrap64 (x7 + 1)) + 1)) then (if (wrap64 ((wrap64 (x7 + 1)) + 1)) < (x5.length : Int) then (hearsayref08_kindsP.l3 k x0 (y127.set ((wrap64 ((wrap64 (x7 + 1)) + 1)) : Int).toNat 4) x6 (wrap64 ((wrap64 (x7 + 1)) + 1))) else (none)) else (none)) else (hearsayref08_kindsP.l3 k x0 y127 x6 (wrap64 (x7 + 1)))))) else (none)) else (none)) else (hearsayref08_kindsP.l0 k x0 x5 x6 (wrap64 (x7 + 1)))
end
def hearsayref08_kindsP.f (k : Nat) (a0 : ByteArray) : Option (List Int × Int × Int) := if 0 ≤ (a0.size : Int) then (if ((a0.size : Int) : Int).toNat ≤ 35184372088832 then (hearsayref08_kindsP.l0 k a0 (List.replicate ((a0.size : Int) : Int).toNat 0) ([] : List Int) 0) else (none)) else (none)
theorem hearsayref08_kindsP.mono_l : ∀ k, (∀ y0 y1 y2 y3, LeO (hearsayref08_kindsP.l0 k y0 y1 y2 y3) (hearsayref08_kindsP.l0 (k + 1) y0 y1 y2 y3)) ∧ (∀ y0 y1 y2 y3 y4 y5, LeO (hearsayref08_kindsP.j1 k y0 y1 y2 y3 y4 y5) (hearsayref08_kindsP.j1 (k + 1) y0 y1 y2 y3 y4 y5)) ∧ (∀ y0 y1 y2 y3, LeO (hearsayref08_kindsP.l1 k y0 y1 y2 y3) (hearsayref08_kindsP.l1 (k + 1) y0 y1 y2 y3)) ∧ (∀ y0 y1 y2 y3 y4, LeO (hearsayref08_kindsP.l2 k y0 y1 y2 y3 y4) (hearsayref08_kindsP.l2 (k + 1) y0 y1 y2 y3 y4)) ∧ (∀ y0 y1 y2 y3 y4 y5, LeO (hearsayref08_kindsP.j4 k y0 y1 y2 y3 y4 y5) (hearsayref08_kindsP.j4 (k + 1) y0 y1 y2 y3 y4 y5)) ∧ (∀ y0 y1 y2 y3, LeO (hearsayref08_kindsP.j5 k y0 y1 y2 y3) (hearsayref08_kindsP.j5 (k + 1) y0 y1 y2 y3)) ∧ (∀ y0 y1 y2 y3, LeO (hearsayref08_kindsP.l3 k y0 y1 y2 y3) (hearsayref08_kindsP.l3 (k + 1) y0 y1 y2 y3)) ∧ (∀ y0 y1 y2 y3 y4, LeO (hearsayref08_kindsP.j7 k y0 y1 y2 y3 y4) (hearsayref08_kindsP.j7 (k + 1) y0 y1 y2 y3 y4))
  | 0 => ⟨fun _ _ _ _ r h => by simp [hearsayref08_kindsP.l0] at h, fun _ _ _ _ _ _ r h => by simp [hearsayref08_kindsP.j1] at h, fun _ _ _ _ r h => by simp [hearsayref08_kindsP.l1] at h, fun _ _ _ _ _ r h => by simp [hearsayref08_kindsP.l2] at h, fun _ _ _ _ _ _ r h => by simp [hearsayref08_kindsP.j4] at h, fun _ _ _ _ r h => by simp [hearsayref08_kindsP.j5] at h, fun _ _ _ _ r h => by simp [hearsayref08_kindsP.l3] at h, fun _ _ _ _ _ r h => by simp [hearsayref08_kindsP.j7] at h⟩
  | k + 1 => by
    obtain ⟨ih0, ih1, ih2, ih3, ih4, ih5, ih6, ih7⟩ := hearsayref08_kindsP.mono_l k
    refine ⟨?_, ?_, ?_, ?_, ?_, ?_, ?_, ?_⟩
    · intro y0 y1 y2 y3
      unfold hearsayref08_kindsP.l0
      repeat' first
      | (with_reducible exact ih0 _ _ _ _)
      | (with_reducible exact ih1 _ _ _ _ _ _)
      | (with_reducible exact ih2 _ _ _ _)
      | (with_reducible exact ih3 _ _ _ _ _)
      | (with_reducible exact ih4 _ _ _ _ _ _)
      | (with_reducible exact ih5 _ _ _ _)
      | (with_reducible exact ih6 _ _ _ _)
      | (with_reducible exact ih7 _ _ _ _ _)
      | (with_reducible exact LeO.refl _)
      | (with_reducible exact LeO.none _)
      | (with_reducible refine LeO.ite ?_ ?_)
      | (with_reducible refine LeO.bind ?_ (fun _ => ?_))
      | exact ih0 _ _ _ _
      | exact ih1 _ _ _ _ _ _
      | exact ih2 _ _ _ _
      | exact ih3 _ _ _ _ _
      | exact ih4 _ _ _ _ _ _
      | exact ih5 _ _ _ _
      | exact ih6 _ _ _ _
      | exact ih7 _ _ _ _ _
      | exact LeO.none _
      | refine LeO.ite ?_ ?_
      | refine LeO.bind ?_ (fun _ => ?_)
    · intro y0 y1 y2 y3 y4 y5
      unfold hearsayref08_kindsP.j1
      repeat' first
      | (with_reducible exact ih0 _ _ _ _)
      | (with_reducible exact ih1 _ _ _ _ _ _)
      | (with_reducible exact ih2 _ _ _ _)
      | (with_reducible exact ih3 _ _ _ _ _)
      | (with_reducible exact ih4 _ _ _ _ _ _)
      | (with_reducible exact ih5 _ _ _ _)
      | (with_reducible exact ih6 _ _ _ _)
      | (with_reducible exact ih7 _ _ _ _ _)
      | (with_reducible exact LeO.refl _)
      | (with_reducible exact LeO.none _)
      | (with_reducible refine LeO.ite ?_ ?_)
      | (with_reducible refine LeO.bind ?_ (fun _ => ?_))
      | exact ih0 _ _ _ _
      | exact ih1 _ _ _ _ _ _
      | exact ih2 _ _ _ _
      | exact ih3 _ _ _ _ _
      | exact ih4 _ _ _ _ _ _
      | exact ih5 _ _ _ _
      | exact ih6 _ _ _ _
      | exact ih7 _ _ _ _ _
      | exact LeO.none _
      | refine LeO.ite ?_ ?_
      | refine LeO.bind ?_ (fun _ => ?_)
    · intro y0 y1 y2 y3
      unfold hearsayref08_kindsP.l1
      repeat' first
      | (with_reducible exact ih0 _ _ _ _)
      | (with_reducible exact ih1 _ _ _ _ _ _)
      | (with_reducible exact ih2 _ _ _ _)
      | (with_reducible exact ih3 _ _ _ _ _)
      | (with_reducible exact ih4 _ _ _ _ _ _)
      | (with_reducible exact ih5 _ _ _ _)
      | (with_reducible exact ih6 _ _ _ _)
      | (with_reducible exact ih7 _ _ _ _ _)
      | (with_reducible exact LeO.refl _)
      | (with_reducible exact LeO.none _)
      | (with_reducible refine LeO.ite ?_ ?_)
      | (with_reducible refine LeO.bind ?_ (fun _ => ?_))
      | exact ih0 _ _ _ _
      | exact ih1 _ _ _ _ _ _
      | exact ih2 _ _ _ _
      | exact ih3 _ _ _ _ _
      | exact ih4 _ _ _ _ _ _
      | exact ih5 _ _ _ _
      | exact ih6 _ _ _ _
      | exact ih7 _ _ _ _ _
      | exact LeO.none _
      | refine LeO.ite ?_ ?_
      | refine LeO.bind ?_ (fun _ => ?_)
    · intro y0 y1 y2 y3 y4
      unfold hearsayref08_kindsP.l2
      repeat' first
      | (with_reducible exact ih0 _ _ _ _)
      | (with_reducible exact ih1 _ _ _ _ _ _)
      | (with_reducible exact ih2 _ _ _ _)
      | (with_reducible exact ih3 _ _ _ _ _)
      | (with_reducible exact ih4 _ _ _ _ _ _)
      | (with_reducible exact ih5 _ _ _ _)
      | (with_reducible exact ih6 _ _ _ _)
      | (with_reducible exact ih7 _ _ _ _ _)
      | (with_reducible exact LeO.refl _)
      | (with_reducible exact LeO.none _)
      | (with_reducible refine LeO.ite ?_ ?_)
      | (with_reducible refine LeO.bind ?_ (fun _ => ?_))
      | exact ih0 _ _ _ _
      | exact ih1 _ _ _ _ _ _
      | exact ih2 _ _ _ _
      | exact ih3 _ _ _ _ _
      | exact ih4 _ _ _ _ _ _
      | exact ih5 _ _ _ _
      | exact ih6 _ _ _ _
      | exact ih7 _ _ _ _ _
      | exact LeO.none _
      | refine LeO.ite ?_ ?_
      | refine LeO.bind ?_ (fun _ => ?_)
    · intro y0 y1 y2 y3 y4 y5
      unfold hearsayref08_kindsP.j4
      repeat' first
      | (with_reducible exact ih0 _ _ _ _)
      | (with_reducible exact ih1 _ _ _ _ _ _)
      | (with_reducible exact ih2 _ _ _ _)
      | (with_reducible exact ih3 _ _ _ _ _)
      | (with_reducible exact ih4 _ _ _ _ _ _)
      | (with_reducible exact ih5 _ _ _ _)
      | (with_reducible exact ih6 _ _ _ _)
      | (with_reducible exact ih7 _ _ _ _ _)
      | (with_reducible exact LeO.refl _)
      | (with_reducible exact LeO.none _)
      | (with_reducible refine LeO.ite ?_ ?_)
      | (with_reducible refine LeO.bind ?_ (fun _ => ?_))
      | exact ih0 _ _ _ _
      | exact ih1 _ _ _ _ _ _
      | exact ih2 _ _ _ _
      | exact ih3 _ _ _ _ _
      | exact ih4 _ _ _ _ _ _
      | exact ih5 _ _ _ _
      | exact ih6 _ _ _ _
      | exact ih7 _ _ _ _ _
      | exact LeO.none _
      | refine LeO.ite ?_ ?_
      | refine LeO.bind ?_ (fun _ => ?_)
    · intro y0 y1 y2 y3
      unfold hearsayref08_kindsP.j5
      repeat' first
      | (with_reducible exact ih0 _ _ _ _)
      | (with_reducible exact ih1 _ _ _ _ _ _)
      | (with_reducible exact ih2 _ _ _ _)
      | (with_reducible exact ih3 _ _ _ _ _)
      | (with_reducible exact ih4 _ _ _ _ _ _)
      | (with_reducible exact ih5 _ _ _ _)
      | (with_reducible exact ih6 _ _ _ _)
      | (with_reducible exact ih7 _ _ _ _ _)
      | (with_reducible exact LeO.refl _)
      | (with_reducible exact LeO.none _)
      | (with_reducible refine LeO.ite ?_ ?_)
      | (with_reducible refine LeO.bind ?_ (fun _ => ?_))
      | exact ih0 _ _ _ _
      | exact ih1 _ _ _ _ _ _
      | exact ih2 _ _ _ _
      | exact ih3 _ _ _ _ _
      | exact ih4 _ _ _ _ _ _
      | exact ih5 _ _ _ _
      | exact ih6 _ _ _ _
      | exact ih7 _ _ _ _ _
      | exact LeO.none _
      | refine LeO.ite ?_ ?_
      | refine LeO.bind ?_ (fun _ => ?_)
    · intro y0 y1 y2 y3
      unfold hearsayref08_kindsP.l3
      repeat' first
      | (with_reducible exact ih0 _ _ _ _)
      | (with_reducible exact ih1 _ _ _ _ _ _)
      | (with_reducible exact ih2 _ _ _ _)
      | (with_reducible exact ih3 _ _ _ _ _)
      | (with_reducible exact ih4 _ _ _ _ _ _)
      | (with_reducible exact ih5 _ _ _ _)
      | (with_reducible exact ih6 _ _ _ _)
      | (with_reducible exact ih7 _ _ _ _ _)
      | (with_reducible exact LeO.refl _)
      | (with_reducible exact LeO.none _)
      | (with_reducible refine LeO.ite ?_ ?_)
      | (with_reducible refine LeO.bind ?_ (fun _ => ?_))
      | exact ih0 _ _ _ _
      | exact ih1 _ _ _ _ _ _
      | exact ih2 _ _ _ _
      | exact ih3 _ _ _ _ _
      | exact ih4 _ _ _ _ _ _
      | exact ih5 _ _ _ _
      | exact ih6 _ _ _ _
      | exact ih7 _ _ _ _ _
      | exact LeO.none _
      | refine LeO.ite ?_ ?_
      | refine LeO.bind ?_ (fun _ => ?_)
    · intro y0 y1 y2 y3 y4
      unfold hearsayref08_kindsP.j7
      repeat' first
      | (with_reducible exact ih0 _ _ _ _)
      | (with_reducible exact ih1 _ _ _ _ _ _)
      | (with_reducible exact ih2 _ _ _ _)
      | (with_reducible exact ih3 _ _ _ _ _)
      | (with_reducible exact ih4 _ _ _ _ _ _)
      | (with_reducible exact ih5 _ _ _ _)
      | (with_reducible exact ih6 _ _ _ _)
      | (with_reducible exact ih7 _ _ _ _ _)
      | (with_reducible exact LeO.refl _)
      | (with_reducible exact LeO.none _)
      | (with_reducible refine LeO.ite ?_ ?_)
      | (with_reducible refine LeO.bind ?_ (fun _ => ?_))
      | exact ih0 _ _ _ _
      | exact ih1 _ _ _ _ _ _
      | exact ih2 _ _ _ _
      | exact ih3 _ _ _ _ _
      | exact ih4 _ _ _ _ _ _
      | exact ih5 _ _ _ _
      | exact ih6 _ _ _ _
      | exact ih7 _ _ _ _ _
      | exact LeO.none _
      | refine LeO.ite ?_ ?_
      | refine LeO.bind ?_ (fun _ => ?_)
theorem hearsayref08_kindsP.mono : ∀ a0 k, LeO (hearsayref08_kindsP.f k a0) (hearsayref08_kindsP.f (k + 1) a0) := by
  intro a0 k
  obtain ⟨ih0, ih1, ih2, ih3, ih4, ih5, ih6, ih7⟩ := hearsayref08_kindsP.mono_l k
  unfold hearsayref08_kindsP.f
  repeat' first
      | (with_reducible exact ih0 _ _ _ _)
      | (with_reducible exact ih1 _ _ _ _ _ _)
      | (with_reducible exact ih2 _ _ _ _)
      | (with_reducible exact ih3 _ _ _ _ _)
      | (with_reducible exact ih4 _ _ _ _ _ _)
      | (with_reducible exact ih5 _ _ _ _)
      | (with_reducible exact ih6 _ _ _ _)
      | (with_reducible exact ih7 _ _ _ _ _)
      | (with_reducible exact LeO.refl _)
      | (with_reducible exact LeO.none _)
      | (with_reducible refine LeO.ite ?_ ?_)
      | (with_reducible refine LeO.bind ?_ (fun _ => ?_))
      | exact ih0 _ _ _ _
      | exact ih1 _ _ _ _ _ _
      | exact ih2 _ _ _ _
      | exact ih3 _ _ _ _ _
      | exact ih4 _ _ _ _ _ _
      | exact ih5 _ _ _ _
      | exact ih6 _ _ _ _
      | exact ih7 _ _ _ _ _
      | exact LeO.none _
      | refine LeO.ite ?_ ?_
      | refine LeO.bind ?_ (fun _ => ?_)
end Go.Proofs.Ytafminohaofjnaa.Print
