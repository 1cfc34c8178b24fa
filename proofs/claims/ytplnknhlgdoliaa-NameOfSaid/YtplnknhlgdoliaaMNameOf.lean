/- Proved: what the statement NameOfSaid says, of the program as the translation has it. No condition beyond the statement's own. -/
import Derived.Test.YtplnknhlgdoliaaMNameOf1
import Derived.Test.YtplnknhlgdoliaaRows
import Derived.WalkKit
import Derived.ProofKit
import Derived.OpenShut
import Derived.ShutString
import Derived.ChangeOld
import Derived.Below
import Derived.SizedLaws
namespace Go.Proofs.Ytplnknhlgdoliaa.nameOf
open Go.ChangeShapes Go.WideShapes Go.ChangeAt Go.RowKit Go.Proofs.YtplnknhlgdoliaaW.PrintWords Go.Proofs.Ytplnknhlgdoliaa.Print Go.Proofs.Ytplnknhlgdoliaa.Opens
open Go.ChangeMaps (open_string shut_string)
set_option linter.unusedVariables false
theorem own : ownKnob Try.prog.godebug = none := by kernel_rfl
theorem laidOut : laidOutB Try.prog = true := by kernel_rfl
theorem opensL : Opens Try.prog 23 (Kd.slice 9 Kd.string) (fun xs => ∀ x ∈ xs, x.size ≤ maxLen) := opens_slice Try.underlying23 (by kernel_rfl) (opens_string (by kernel_rfl))
set_option maxRecDepth 100000 in
theorem lifted (os : Os) (started : os.Started) (H : Type) (enc : TypeId × Value → H) :
    ReturnsInHanded {} Try.checked os 4 .any (Rows.nameOfSpec.pre6 enc Try.prog Try.f4 Rows.nameOfRow.domain false) (Rows.nameOfSpec.post enc Try.prog Try.f4 false true false false) := by
  refine returnsInHanded_of_change_sized (C := Try.checked) own started (by kernel_rfl) Try.func4
    (ChangeSpec.witness6 (enc := enc) (C := Try.checked) false ⟨#[], #[.slice none 0 0], []⟩ 8 (by kernel_rfl) (by kernel_rfl) (by kernel_rfl) (by kernel_rfl)) ?_
  intro W base args ds gs before hval0 hW hcnd hsz0 _
  have hsz : (DataW.weightsEach Try.prog (Try.f4.params.toList ++ Rows.nameOfSpec.plain.varTypes Try.prog) (ds ++ gs)).all (· ≤ reachBytes) = true := hsz0
  have hval : ∀ (j : Nat) t v, Try.f4.params[j]? = some t → args[j]? = some v → Value.okWide Try.prog W .any base t v := hval0
  have hW' := hW
  obtain ⟨p, q, hA0, hV, rfl, hfz, hnd⟩ := hW
  have hA : DataW.TrodAll enc Try.prog W 0 (fun _ => true) true Try.f4.params.toList args.toList ds p := hA0
  rw [Try.params4] at hA hval hsz
  obtain ⟨v0, vs0, d0, ds0, p0, q0, hargs, rfl, rfl, h0, r0⟩ := trodAll_cons hA
  obtain ⟨rfl, rfl, rfl⟩ := trodAll_nil r0
  obtain rfl : args = #[v0] := by cases args; simp_all
  obtain ⟨rfl, rfl⟩ := trodVars_none hV
  obtain ⟨x0, k0, _⟩ := opens_arg opensL h0
  obtain ⟨A0, n0, c0, rfl⟩ := okWide_slice Try.underlying23 (hval 0 23 v0 rfl rfl)
  obtain ⟨A1, c1, hcs, hle, hC⟩ := k0
  obtain ⟨rfl, rfl, rfl⟩ : A0 = A1 ∧ n0 = x0.length ∧ c0 = c1 := by simpa [Value.cells] using hcs
  have hlen : x0.length < 8796093022208 := by
    rcases trod_len Try.underlying23 h0 with ⟨_, h⟩ | ⟨elems, rest, rfl, h⟩
    · omega
    · have z := sized_slice hsz (j := 0) (t := 23) (e := 9) rfl rfl Try.underlying23
      have e16 : Try.prog.bytesOf 9 = 16 := by kernel_rfl
      rw [e16] at z
      unfold reachBytes at z
      omega
  have hlt : ∀ x ∈ p0, x.block < W.heap.size := fun x hx => by simpa using hW'.lt x (by simpa using hx)
  clear hA0 hval0 hsz0
  obtain ⟨k, hk⟩ := Pure.NameOf x0 hlen
  refine (hearsaylaw01_NameOf.calls k A0 c0 x0 true W hC hle hk).mono fun e W' ⟨he, bel⟩ => ?_
  subst he
  exact ⟨_, rfl, _, _, _, [], _, [], hW', trodAll_mk1 (shut_bool Try.underlying4 _), trodAll_cons_mk (Below.trod laidOut (by kernel_rfl) (of_decide_eq_true (by kernel_rfl)) h0 bel hlt) trodAll_mk0, rfl, bel.frame _, fun h => by cases h⟩
theorem over : Rows.nameOfRow.holds Try.pinned (OpenSpec.ofChange Rows.nameOfSpec) :=
  OpenClaim.holds_of_wide 4 Try.f4 rfl rfl rfl rfl rfl rfl rfl ⟨rfl, rfl, rfl, rfl, rfl⟩ rfl rfl rfl rfl rfl (by kernel_rfl) Try.func4 (by kernel_rfl)
    (of_decide_eq_true (by kernel_rfl)) (by unfold Func.isWrapper; first | (rw [if_pos (by decide +kernel)]; kernel_rfl) | (rw [if_neg (by decide +kernel)]; exact ⟨rfl, rfl⟩))
    (fun os started H enc _ => lifted os started H enc)
theorem proved : Rows.NameOfSaid := over
end Go.Proofs.Ytplnknhlgdoliaa.nameOf
namespace Go.Proofs.Ytplnknhlgdoliaa
/-- The row, under a short name, for the claim. -/
theorem nameOf_holds : Rows.NameOfSaid := nameOf.proved
#print axioms nameOf_holds
end Go.Proofs.Ytplnknhlgdoliaa
