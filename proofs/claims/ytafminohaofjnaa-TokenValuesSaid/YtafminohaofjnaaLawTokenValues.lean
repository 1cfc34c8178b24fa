/- TokenValues: every Value of a word is what the document says (of a text of at most 20,000 bytes; no further condition). -/
import Derived.Test.YtafminohaofjnaaRows
import Derived.Test.YtafminohaofjnaaF3
import Derived.Test.YtafminohaofjnaaXOpens
import Derived.WalkKit
import Derived.ProofKit
import Derived.OpenShut
import Derived.ShutString
import Derived.ChangeOld
import Derived.Below
import Derived.SizedLaws
namespace Go.Proofs.Ytafminohaofjnaa.tokenValues
open Go.ChangeShapes Go.WideShapes Go.ChangeAt Go.RowKit Go.Proofs.YtafminohaofjnaaW.PrintWords Go.Proofs.Ytafminohaofjnaa.Print Go.Proofs.Ytafminohaofjnaa.Opens
open Go.ChangeMaps (open_string shut_string)
set_option linter.unusedVariables false
theorem pure_law (s : ByteArray) (q : Bool) (l c : Int) : hearsaylaw08_TokenValues.f s q l c = some true := by
  have e : name_Bytes.f ⟨#[92, 48, 54, 53]⟩ = some (⟨#[65]⟩, 0) := by decide +kernel
  unfold hearsaylaw08_TokenValues.f token_Value.f hearsayref08_Value.f hearsayref01_Bytes.f
  rw [e]
  by_cases h : (s.size : Int) > 20000
  · rw [if_pos h]
  · rw [if_neg h]
    unfold name_Bytes.f
    rw [if_pos (by omega)]
    cases hu : unesc (bytesOf s) <;> simp
theorem own : ownKnob Try.prog.godebug = none := by kernel_rfl
theorem laidOut : laidOutB Try.prog = true := by kernel_rfl
theorem opens23 : Opens Try.prog 23 k23 (fun _ => True) := by
  have h := opens_iso (opens_struct Try.underlying23 (by kernel_rfl) (opensF_cons rfl (by kernel_rfl) (opens_string (by kernel_rfl)) (opensF_cons rfl (by kernel_rfl) (opens_bool (by kernel_rfl)) (opensF_cons rfl (by kernel_rfl) (opens_int (k := .i64) (by kernel_rfl)) (opensF_one rfl (by kernel_rfl) (opens_int (k := .i64) (by kernel_rfl))))))) (fun x : S23 => (x.f0, x.f1, x.f2, x.f3)) (fun y => ⟨y.1, y.2.1, y.2.2.1, y.2.2.2⟩) (fun _ => rfl)
  intro H enc w base spare held fuel cs y hy
  obtain ⟨x, hk, _⟩ := h H enc w base spare held fuel cs y hy
  exact ⟨x, hk, trivial⟩
set_option maxRecDepth 100000 in
theorem lifted (os : Os) (started : os.Started) (H : Type) (enc : TypeId × Value → H) :
    ReturnsInHanded {} Try.checked os 3 .any (Rows.tokenValuesSpec.pre6 enc Try.prog Try.f3 Rows.tokenValuesRow.domain false) (Rows.tokenValuesSpec.post enc Try.prog Try.f3 false true false false) := by
  refine returnsInHanded_of_change_sized (C := Try.checked) own started (by kernel_rfl) Try.func3
    (ChangeSpec.witness6 (enc := enc) (C := Try.checked) false ⟨#[], #[.agg #[.string ByteArray.empty, .bool false, .int .i64 0, .int .i64 0]], []⟩ 8 (by kernel_rfl) (by kernel_rfl) (by kernel_rfl) (by kernel_rfl)) ?_
  intro W base args ds gs before hval0 hW hcnd hsz0 _
  have hval : ∀ (j : Nat) t v, Try.f3.params[j]? = some t → args[j]? = some v → Value.okWide Try.prog W .any base t v := hval0
  have hW' := hW
  obtain ⟨p, q, hA0, hV, rfl, hfz, hnd⟩ := hW
  have hA : DataW.TrodAll enc Try.prog W 0 (fun _ => true) true Try.f3.params.toList args.toList ds p := hA0
  rw [Try.params3] at hA hval
  obtain ⟨v0, vs0, d0, ds0, p0, q0, hargs, rfl, rfl, h0, r0⟩ := trodAll_cons hA
  obtain ⟨rfl, rfl, rfl⟩ := trodAll_nil r0
  obtain rfl : args = #[v0] := by cases args; simp_all
  obtain ⟨rfl, rfl⟩ := trodVars_none hV
  obtain ⟨x0, k0, _⟩ := opens_arg opens23 h0
  obtain ⟨cs0, rfl, _⟩ := okWide_struct Try.underlying23 (hval 0 23 v0 rfl rfl)
  have hcs0 : cs0 = #[.string x0.f0, .bool x0.f1, .int .i64 x0.f2, .int .i64 x0.f3] := by
    have := k23_open k0
    simpa [Value.cells] using congrArg List.toArray this
  have hlt : ∀ x ∈ p0, x.block < W.heap.size := fun x hx => by simpa using hW'.lt x (by simpa using hx)
  subst hcs0
  clear hA0 hval0 hsz0
  refine (hearsaylaw08_TokenValues.calls x0.f0 x0.f1 x0.f2 x0.f3 true W (pure_law _ _ _ _)).mono fun e W' ⟨he, bel⟩ => ?_
  subst he
  exact ⟨_, rfl, _, _, _, [], _, [], hW', trodAll_mk1 (shut_bool Try.underlying4 _), trodAll_cons_mk (Below.trod laidOut (by kernel_rfl) (of_decide_eq_true (by kernel_rfl)) h0 bel hlt) trodAll_mk0, rfl, bel.frame _, fun h => by cases h⟩
theorem over : Rows.tokenValuesRow.holds Try.pinned (OpenSpec.ofChange Rows.tokenValuesSpec) :=
  OpenClaim.holds_of_wide 3 Try.f3 rfl rfl rfl rfl rfl rfl rfl ⟨rfl, rfl, rfl, rfl, rfl⟩ rfl rfl rfl rfl rfl (by kernel_rfl) Try.func3 (by kernel_rfl)
    (of_decide_eq_true (by kernel_rfl)) (by unfold Func.isWrapper; first | (rw [if_pos (by decide +kernel)]; kernel_rfl) | (rw [if_neg (by decide +kernel)]; exact ⟨rfl, rfl⟩))
    (fun os started H enc _ => lifted os started H enc)
theorem proved : Rows.TokenValuesSaid := over
end Go.Proofs.Ytafminohaofjnaa.tokenValues
namespace Go.Proofs.Ytafminohaofjnaa
/-- The row, under a short name, for the claim. -/
theorem tokenValues_holds : Rows.TokenValuesSaid := tokenValues.proved
#print axioms tokenValues_holds
end Go.Proofs.Ytafminohaofjnaa
