/- Proved: what the statement RewriteBacksSaid says, of the program as the translation has it. No condition beyond the statement's own. -/
import Derived.Test.YtfcmphigmfdceaaRows
import Derived.Test.YtfcmphigmfdceaaMRB
import Derived.WalkKit
import Derived.ProofKit
import Derived.OpenShut
import Derived.ShutString
import Derived.ChangeOld
import Derived.Below
import Derived.SizedLaws
namespace Go.Proofs.Ytfcmphigmfdceaa.rewriteBacks
open Go.ChangeShapes Go.WideShapes Go.ChangeAt Go.RowKit Go.Proofs.YtfcmphigmfdceaaW.PrintWords Go.Proofs.Ytfcmphigmfdceaa.Print Go.Proofs.Ytfcmphigmfdceaa.Opens
open Go.ChangeMaps (open_string shut_string)
set_option linter.unusedVariables false
theorem own : ownKnob Try.prog.godebug = none := by kernel_rfl
theorem laidOut : laidOutB Try.prog = true := by kernel_rfl
theorem opens32 : Opens Try.prog 32 k32 (fun _ => True) := by
  have h := opens_iso (opens_struct Try.underlying32 (by kernel_rfl) (opensF_cons rfl (by kernel_rfl) (opens_string (by kernel_rfl)) (opensF_cons rfl (by kernel_rfl) (opens_int (k := .u16) (by kernel_rfl)) (opensF_one rfl (by kernel_rfl) (opens_int (k := .u16) (by kernel_rfl)))))) (fun x : S32 => (x.f0, x.f1, x.f2)) (fun y => ⟨y.1, y.2.1, y.2.2⟩) (fun _ => rfl)
  intro H enc w base spare held fuel cs y hy
  obtain ⟨x, hk, _⟩ := h H enc w base spare held fuel cs y hy
  exact ⟨x, hk, trivial⟩
set_option maxRecDepth 100000 in
theorem lifted (os : Os) (started : os.Started) (H : Type) (enc : TypeId × Value → H) :
    ReturnsInHanded {} Try.checked os 7 .any (Rows.rewriteBacksSpec.pre6 enc Try.prog Try.f7 Rows.rewriteBacksRow.domain false) (Rows.rewriteBacksSpec.post enc Try.prog Try.f7 false true false false) := by
  refine returnsInHanded_of_change_sized (C := Try.checked) own started (by kernel_rfl) Try.func7
    (ChangeSpec.witness6 (enc := enc) (C := Try.checked) false ⟨#[], #[.agg #[.string ByteArray.empty, .int .u16 0, .int .u16 0], .agg #[.string ByteArray.empty, .int .u16 0, .int .u16 0], .agg #[.int .u16 0, .bool false, .slice none 0 0, .slice none 0 0, .slice none 0 0]], []⟩ 8 (by kernel_rfl) (by kernel_rfl) (by kernel_rfl) (by kernel_rfl)) ?_
  intro W base args ds gs before hval0 hW hcnd hsz0 _
  have hsz : (DataW.weightsEach Try.prog (Try.f7.params.toList ++ Rows.rewriteBacksSpec.plain.varTypes Try.prog) (ds ++ gs)).all (· ≤ reachBytes) = true := hsz0
  have hval : ∀ (j : Nat) t v, Try.f7.params[j]? = some t → args[j]? = some v → Value.okWide Try.prog W .any base t v := hval0
  have hW' := hW
  obtain ⟨p, q, hA0, hV, rfl, hfz, hnd⟩ := hW
  have hA : DataW.TrodAll enc Try.prog W 0 (fun _ => true) true Try.f7.params.toList args.toList ds p := hA0
  rw [Try.params7] at hA hval hsz
  obtain ⟨v0, vs0, d0, ds0, p0, q0, hargs, rfl, rfl, h0, r0⟩ := trodAll_cons hA
  obtain ⟨v1, vs1, d1, ds1, p1, q1, rfl, rfl, rfl, h1, r1⟩ := trodAll_cons r0
  obtain ⟨v2, vs2, d2, ds2, p2, q2, rfl, rfl, rfl, h2, r2⟩ := trodAll_cons r1
  obtain ⟨rfl, rfl, rfl⟩ := trodAll_nil r2
  obtain rfl : args = #[v0, v1, v2] := by cases args; simp_all
  obtain ⟨rfl, rfl⟩ := trodVars_none hV
  obtain ⟨x0, k0, wf0⟩ := opens_arg opens32 h0
  obtain ⟨cs0, rfl, _⟩ := okWide_struct Try.underlying32 (hval 0 32 v0 rfl rfl)
  have hcs0 : cs0 = #[.string x0.f0, .int .u16 x0.f1, .int .u16 x0.f2] := by
    have := k32_open k0
    simpa [Value.cells] using congrArg List.toArray this
  subst hcs0
  obtain ⟨x1, k1, wf1⟩ := opens_arg opens32 h1
  obtain ⟨cs1, rfl, _⟩ := okWide_struct Try.underlying32 (hval 1 32 v1 rfl rfl)
  have hcs1 : cs1 = #[.string x1.f0, .int .u16 x1.f1, .int .u16 x1.f2] := by
    have := k32_open k1
    simpa [Value.cells] using congrArg List.toArray this
  subst hcs1
  obtain ⟨x2, k2, wf2⟩ := opens_arg opens45 h2
  obtain ⟨cs2, rfl, _⟩ := okWide_struct Try.underlying45 (hval 2 45 v2 rfl rfl)
  obtain ⟨A2_2, c2_2, A2_3, c2_3, A2_4, c2_4, hcs2, ⟨le2_2, C2_2⟩, ⟨le2_3, C2_3⟩, ⟨le2_4, C2_4⟩⟩ := k45_open k2
  obtain rfl : cs2 = #[.int .u16 x2.1, .bool x2.2.1, .slice A2_2 x2.2.2.1.length c2_2, .slice A2_3 x2.2.2.2.1.length c2_3, .slice A2_4 x2.2.2.2.2.length c2_4] := by simpa [Value.cells] using congrArg List.toArray hcs2
  have hlt0 : ∀ x ∈ p0, x.block < W.heap.size := fun x hx => by simpa using hW'.lt x (by simp [hx])
  have hlt1 : ∀ x ∈ p1, x.block < W.heap.size := fun x hx => by simpa using hW'.lt x (by simp [hx])
  have hlt2 : ∀ x ∈ p2, x.block < W.heap.size := fun x hx => by simpa using hW'.lt x (by simp [hx])
  clear hA0 hval0 hsz0
  refine (rewriteBacks_calls x0 x1 x2.1 x2.2.1 A2_2 c2_2 x2.2.2.1 A2_3 c2_3 x2.2.2.2.1 A2_4 c2_4 x2.2.2.2.2 W C2_2 le2_2 C2_3 le2_3 C2_4 le2_4 wf2).mono fun e W' ⟨he, bel⟩ => ?_
  subst he
  exact ⟨_, rfl, _, _, _, [], _, [], hW', trodAll_mk1 (shut_bool Try.underlying4 _), (trodAll_cons_mk (Below.trod laidOut (by kernel_rfl) (of_decide_eq_true (by kernel_rfl)) h0 bel hlt0) (trodAll_cons_mk (Below.trod laidOut (by kernel_rfl) (of_decide_eq_true (by kernel_rfl)) h1 bel hlt1) (trodAll_cons_mk (Below.trod laidOut (by kernel_rfl) (of_decide_eq_true (by kernel_rfl)) h2 bel hlt2) trodAll_mk0))), rfl, bel.frame _, fun h => by cases h⟩
theorem over : Rows.rewriteBacksRow.holds Try.pinned (OpenSpec.ofChange Rows.rewriteBacksSpec) :=
  OpenClaim.holds_of_wide 7 Try.f7 rfl rfl rfl rfl rfl rfl rfl ⟨rfl, rfl, rfl, rfl, rfl⟩ rfl rfl rfl rfl rfl (by kernel_rfl) Try.func7 (by kernel_rfl)
    (of_decide_eq_true (by kernel_rfl)) (by unfold Func.isWrapper; first | (rw [if_pos (by decide +kernel)]; kernel_rfl) | (rw [if_neg (by decide +kernel)]; exact ⟨rfl, rfl⟩))
    (fun os started H enc _ => lifted os started H enc)
theorem proved : Rows.RewriteBacksSaid := over
end Go.Proofs.Ytfcmphigmfdceaa.rewriteBacks
namespace Go.Proofs.Ytfcmphigmfdceaa
/-- The row, under a short name, for the claim. -/
theorem rewriteBacks_holds : Rows.RewriteBacksSaid := rewriteBacks.proved
#print axioms rewriteBacks_holds
end Go.Proofs.Ytfcmphigmfdceaa
