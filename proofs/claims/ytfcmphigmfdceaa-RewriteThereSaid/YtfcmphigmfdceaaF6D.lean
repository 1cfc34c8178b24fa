-- Written by a program of this session, built on the kit's print (it is not the print's own text).
import Derived.Test.YtfcmphigmfdceaaKinds
import Derived.Test.YtfcmphigmfdceaaEq32
import Derived.Test.YtfcmphigmfdceaaF15
import Derived.Test.YtfcmphigmfdceaaF19
import Derived.Test.YtfcmphigmfdceaaF18
import Derived.Test.YtfcmphigmfdceaaXAsk
namespace Go.Proofs.Ytfcmphigmfdceaa.Print
open Go.RowKit Go.Proofs.YtfcmphigmfdceaaW.PrintWords Go.Proofs.YtfcmphigmfdceaaW.PrintLast Go.Proofs.YtfcmphigmfdceaaW.PrintMore
set_option linter.unusedVariables false
set_option linter.unusedSimpArgs false

attribute [local go_sem high] eqA32
theorem am_ {p : Prop} (h : p) : Aside0 p := ⟨h⟩
/-! ### hearsaylaw25_RewriteThere: function 6 -/
mutual
def hearsaylaw25_RewriteThere.j0 : Nat → ByteArray → ByteArray → Bool → Bool → ByteArray → Int → Int → Option (Bool)
  | 0, _, _, _, _, _, _, _ => none
  | k + 1, x1, x2, x3, x27, x276000, x276001, x276002 => if x27 = true then (some true) else (if x3 = true then (hearsaylaw25_RewriteThere.j1 k x1 x2 3 x276000 x276001 x276002) else (hearsaylaw25_RewriteThere.j1 k x1 x2 2 x276000 x276001 x276002))
def hearsaylaw25_RewriteThere.j1 : Nat → ByteArray → ByteArray → Int → ByteArray → Int → Int → Option (Bool)
  | 0, _, _, _, _, _, _ => none
  | k + 1, x1, x2, x9, x276000, x276001, x276002 => (rewrite_Ask.f (([(⟨x9, x1, x2, 0, 0⟩ : S38)] : List (S38))) x276000 x276001 x276002).bind fun bt279 => (if bt279.2.2.2 = true then ((rewrite_Ask.f (([(⟨x9, x2, x1, 0, 0⟩ : S38)] : List (S38))) bt279.1 bt279.2.1 bt279.2.2.1).bind fun bt288 => (if bt288.2.2.2 = true then ((hearsayref01_Alike.f bt288.1 x276000).bind fun t293 => (if t293 = true then (if bt288.2.1 = x276001 then (if bt288.2.2.1 = x276002 then ((hearsayref01_Labels.f k bt279.1).bind fun t294 => ((hearsayref01_Labels.f k x276000).bind fun t297 => ((hearsayref01_Labels.f k x1).bind fun t300 => ((hearsayref01_Labels.f k x2).bind fun t303 => (if (t294.length : Int) = (wrap64 ((wrap64 ((t297.length : Int) - (t300.length : Int))) + (t303.length : Int))) then ((hearsaylaw25_asks.f).bind fun t306 => (some t306)) else (some false)))))) else (some false)) else (some false)) else (some false))) else (some false))) else (if (bt279.1.toList == ([] : List UInt8) && (bt279.2.1 == 0 && (bt279.2.2.1 == 0))) = true then ((hearsaylaw25_asks.f).bind fun t284 => (some t284)) else (some false)))
end
def hearsaylaw25_RewriteThere.f (k : Nat) (a0_0 : ByteArray) (a0_1 : Int) (a0_2 : Int) (a1 : ByteArray) (a2 : ByteArray) (a3 : Bool) : Option (Bool) := if (a0_0.size : Int) > 2000 then (hearsaylaw25_RewriteThere.j0 k a1 a2 a3 true a0_0 a0_1 a0_2) else (if (a1.size : Int) > 2000 then (hearsaylaw25_RewriteThere.j0 k a1 a2 a3 true a0_0 a0_1 a0_2) else (hearsaylaw25_RewriteThere.j0 k a1 a2 a3 (decide ((a2.size : Int) > 2000)) a0_0 a0_1 a0_2))
theorem hearsaylaw25_RewriteThere.mono_l : ∀ k, (∀ y0 y1 y2 y3 y4 y5 y6, LeO (hearsaylaw25_RewriteThere.j0 k y0 y1 y2 y3 y4 y5 y6) (hearsaylaw25_RewriteThere.j0 (k + 1) y0 y1 y2 y3 y4 y5 y6)) ∧ (∀ y0 y1 y2 y3 y4 y5, LeO (hearsaylaw25_RewriteThere.j1 k y0 y1 y2 y3 y4 y5) (hearsaylaw25_RewriteThere.j1 (k + 1) y0 y1 y2 y3 y4 y5))
  | 0 => ⟨fun _ _ _ _ _ _ _ r h => by simp [hearsaylaw25_RewriteThere.j0] at h, fun _ _ _ _ _ _ r h => by simp [hearsaylaw25_RewriteThere.j1] at h⟩
  | k + 1 => by
    obtain ⟨ih0, ih1⟩ := hearsaylaw25_RewriteThere.mono_l k
    refine ⟨?_, ?_⟩
    · intro y0 y1 y2 y3 y4 y5 y6
      unfold hearsaylaw25_RewriteThere.j0
      repeat' first
      | (with_reducible exact ih0 _ _ _ _ _ _ _)
      | (with_reducible exact ih1 _ _ _ _ _ _)
      | (with_reducible exact hearsayref01_Labels.mono _ _)
      | (with_reducible exact LeO.refl _)
      | (with_reducible exact LeO.none _)
      | (with_reducible refine LeO.ite ?_ ?_)
      | (with_reducible refine LeO.bind ?_ (fun _ => ?_))
      | exact ih0 _ _ _ _ _ _ _
      | exact ih1 _ _ _ _ _ _
      | exact hearsayref01_Labels.mono _ _
      | exact LeO.none _
      | refine LeO.ite ?_ ?_
      | refine LeO.bind ?_ (fun _ => ?_)
    · intro y0 y1 y2 y3 y4 y5
      unfold hearsaylaw25_RewriteThere.j1
      repeat' first
      | (with_reducible exact ih0 _ _ _ _ _ _ _)
      | (with_reducible exact ih1 _ _ _ _ _ _)
      | (with_reducible exact hearsayref01_Labels.mono _ _)
      | (with_reducible exact LeO.refl _)
      | (with_reducible exact LeO.none _)
      | (with_reducible refine LeO.ite ?_ ?_)
      | (with_reducible refine LeO.bind ?_ (fun _ => ?_))
      | exact ih0 _ _ _ _ _ _ _
      | exact ih1 _ _ _ _ _ _
      | exact hearsayref01_Labels.mono _ _
      | exact LeO.none _
      | refine LeO.ite ?_ ?_
      | refine LeO.bind ?_ (fun _ => ?_)
theorem hearsaylaw25_RewriteThere.mono : ∀ a0 a1 a2 a3 a4 a5 k, LeO (hearsaylaw25_RewriteThere.f k a0 a1 a2 a3 a4 a5) (hearsaylaw25_RewriteThere.f (k + 1) a0 a1 a2 a3 a4 a5) := by
  intro a0 a1 a2 a3 a4 a5 k
  obtain ⟨ih0, ih1⟩ := hearsaylaw25_RewriteThere.mono_l k
  unfold hearsaylaw25_RewriteThere.f
  repeat' first
      | (with_reducible exact ih0 _ _ _ _ _ _ _)
      | (with_reducible exact ih1 _ _ _ _ _ _)
      | (with_reducible exact hearsayref01_Labels.mono _ _)
      | (with_reducible exact LeO.refl _)
      | (with_reducible exact LeO.none _)
      | (with_reducible refine LeO.ite ?_ ?_)
      | (with_reducible refine LeO.bind ?_ (fun _ => ?_))
      | exact ih0 _ _ _ _ _ _ _
      | exact ih1 _ _ _ _ _ _
      | exact hearsayref01_Labels.mono _ _
      | exact LeO.none _
      | refine LeO.ite ?_ ?_
      | refine LeO.bind ?_ (fun _ => ?_)
end Go.Proofs.Ytfcmphigmfdceaa.Print
