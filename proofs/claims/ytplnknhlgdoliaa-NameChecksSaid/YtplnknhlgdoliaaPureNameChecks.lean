/- Whatever bytes are handed in, it is told whether they are a name, and which labels that has. No condition beyond the statement's own. -/
import Derived.Test.YtplnknhlgdoliaaF3
import Derived.Test.YtplnknhlgdoliaaXCmpLaw
import Derived.Test.YtplnknhlgdoliaaXWakes
import Derived.Test.YtplnknhlgdoliaaXSame
namespace Go.Proofs.Ytplnknhlgdoliaa.Pure
open Go.RowKit Go.Proofs.Ytplnknhlgdoliaa.Print Go.Proofs.YtplnknhlgdoliaaW.PrintWords Go.Proofs.YtplnknhlgdoliaaW.PrintLast
set_option linter.unusedVariables false
set_option linter.unusedSimpArgs false
theorem wakes_some : Ev (fun k => (hearsaylaw01_wakes.f k).bind fun x => some x) true := Ev.bind (f := fun _ x => some x) wakes_ev (Ev.now _)
theorem checks_l0 {n : ByteArray} {L : List ByteArray} (h : dec n = some L) (d : Nat) : ∀ (X : List ByteArray) (t : Nat), X.length ≤ 127 → X.length - t ≤ d → t ≤ X.length → Ev (fun k => hearsaylaw01_NameChecks.l0 k n L X (t : Int)) true := by
  have hl := labels_length h
  have hlab : Ev (fun k => name_Labels.f k n) L := by have := labels_f n; rw [h] at this; exact this
  have fin : ∀ (X : List ByteArray) (t : Nat), ¬ t < X.length → t ≤ X.length → Ev (fun k => hearsaylaw01_NameChecks.l0 k n L X (t : Int)) true := by
    intro X t h1 h2
    refine Ev.step (f := fun k => (name_Labels.f k n).bind fun y => (hearsaylaw01_same.f k y L).bind fun z => if z = true then (hearsaylaw01_wakes.f k).bind fun x => some x else some false) (fun k => ?_) ?_
    · simp only [hearsaylaw01_NameChecks.l0]
      rw [if_neg (by omega)]
    · refine Ev.bind (f := fun k y => (hearsaylaw01_same.f k y L).bind fun z => if z = true then (hearsaylaw01_wakes.f k).bind fun x => some x else some false) hlab ?_
      refine Ev.bind (f := fun k z => if z = true then (hearsaylaw01_wakes.f k).bind fun x => some x else some false) (same_f L (by omega)) ?_
      exact Ev.congr (fun k => if_pos rfl) wakes_some
  induction d with
  | zero => intro X t hX hd h1; exact fin X t (by omega) h1
  | succ d ih =>
    intro X t hX hd h1
    by_cases ht : t < X.length
    · refine Ev.step (fun k => ?_) (ih (X.set t ⟨#[115, 112, 111, 105, 108, 116]⟩) (t + 1) (by rw [List.length_set]; exact hX) (by rw [List.length_set]; omega) (by rw [List.length_set]; omega))
      simp only [hearsaylaw01_NameChecks.l0]
      rw [if_pos (by omega), if_pos (by omega), Int.toNat_natCast, w64 (by omega) (by omega)]
      rfl
    · exact fin X t ht h1
theorem NameChecks : hearsaylaw01_NameChecks.Pure := by
  intro n hn
  refine Ev.rounds (g := fun k => hearsaylaw01_NameChecks.f k n) ?_
  obtain ⟨l1, hE, hL⟩ := split_f n
  have hf : name_Fold.f n = some (lowS n) := fold_f (by omega)
  have hg : hearsayref01_Fold.f n = some (lowS n) := by unfold hearsayref01_Fold.f; rw [low_f (by omega)]; rfl
  unfold hearsaylaw01_NameChecks.f
  rw [hf, hg]
  simp only [Option.bind_some, bne_self_eq_false]
  refine Ev.bind (f := fun k (x : List ByteArray × Bool) => (name_Check.f k n).bind fun t => if (x.2 != (t == 0)) = true then hearsaylaw01_NameChecks.j0 k n x.1 x.2 true else if x.2 = true then hearsaylaw01_NameChecks.j0 k n x.1 x.2 false else if t = 11 then hearsaylaw01_NameChecks.j0 k n x.1 x.2 false else hearsaylaw01_NameChecks.j0 k n x.1 x.2 true) hE ?_
  refine Ev.bind (f := fun k (t : Int) => if ((dec n).isSome != (t == 0)) = true then hearsaylaw01_NameChecks.j0 k n l1 (dec n).isSome true else if (dec n).isSome = true then hearsaylaw01_NameChecks.j0 k n l1 (dec n).isSome false else if t = 11 then hearsaylaw01_NameChecks.j0 k n l1 (dec n).isSome false else hearsaylaw01_NameChecks.j0 k n l1 (dec n).isSome true) (check_f n) ?_
  have hlab := labels_f n
  have hcnt := count_f n
  cases h : dec n with
  | none =>
    rw [h] at hlab hcnt
    refine Ev.congr (f := fun k => hearsaylaw01_NameChecks.j0 k n l1 false false) (fun k => by simp) ?_
    refine Ev.step (f := fun k => (name_Labels.f k n).bind fun y => if (y.length : Int) = 0 then (name_Count.f k n).bind fun z => if z = 0 then (hearsaylaw01_wakes.f k).bind fun x => some x else some false else some false) (fun k => ?_) ?_
    · simp only [hearsaylaw01_NameChecks.j0]
      rw [if_neg (by simp), if_neg (by simp)]
    · refine Ev.bind (f := fun k (y : List ByteArray) => if (y.length : Int) = 0 then (name_Count.f k n).bind fun z => if z = 0 then (hearsaylaw01_wakes.f k).bind fun x => some x else some false else some false) hlab ?_
      refine Ev.congr (f := fun k => (name_Count.f k n).bind fun z => if z = 0 then (hearsaylaw01_wakes.f k).bind fun x => some x else some false) (fun k => if_pos rfl) ?_
      refine Ev.bind (f := fun k z => if z = 0 then (hearsaylaw01_wakes.f k).bind fun x => some x else some false) hcnt ?_
      exact Ev.congr (fun k => if_pos rfl) wakes_some
  | some L =>
    rw [h] at hlab hcnt
    have e := hL L h
    subst e
    have hl := labels_length h
    refine Ev.congr (f := fun k => hearsaylaw01_NameChecks.j0 k n l1 true false) (fun k => by simp) ?_
    refine Ev.step (f := fun k => (name_Labels.f k n).bind fun y => (hearsaylaw01_same.f k y l1).bind fun z => if z = true then (name_Count.f k n).bind fun c => hearsaylaw01_NameChecks.j1 k n l1 y (c != (l1.length : Int)) else hearsaylaw01_NameChecks.j1 k n l1 y true) (fun k => ?_) ?_
    · simp only [hearsaylaw01_NameChecks.j0]
      rw [if_neg (by simp), if_pos trivial]
    · refine Ev.bind (f := fun k y => (hearsaylaw01_same.f k y l1).bind fun z => if z = true then (name_Count.f k n).bind fun c => hearsaylaw01_NameChecks.j1 k n l1 y (c != (l1.length : Int)) else hearsaylaw01_NameChecks.j1 k n l1 y true) hlab ?_
      refine Ev.bind (f := fun k z => if z = true then (name_Count.f k n).bind fun c => hearsaylaw01_NameChecks.j1 k n l1 l1 (c != (l1.length : Int)) else hearsaylaw01_NameChecks.j1 k n l1 l1 true) (same_f l1 (by omega)) ?_
      refine Ev.congr (f := fun k => (name_Count.f k n).bind fun c => hearsaylaw01_NameChecks.j1 k n l1 l1 (c != (l1.length : Int))) (fun k => if_pos rfl) ?_
      refine Ev.bind (f := fun k c => hearsaylaw01_NameChecks.j1 k n l1 l1 (c != (l1.length : Int))) hcnt ?_
      refine Ev.step (fun k => ?_) (checks_l0 h l1.length l1 0 (by omega) (by omega) (by omega))
      simp only [hearsaylaw01_NameChecks.j1, Option.getD_some, bne_self_eq_false]
      rw [if_neg (by simp)]
      rfl
end Go.Proofs.Ytplnknhlgdoliaa.Pure
