/- Proved: what the statement RumorTimesSaid says, of the program as the translation has it. No condition beyond the statement's own. -/
import Derived.Test.YtihmblbnnhcdnaaRows
import Derived.Test.YtihmblbnnhcdnaaXOpens
import Derived.Test.YtihmblbnnhcdnaaXTimes
import Derived.WalkKit
import Derived.ProofKit
import Derived.OpenShut
import Derived.ShutString
import Derived.ChangeOld
import Derived.Below
import Derived.SizedLaws
namespace Go.Proofs.Ytihmblbnnhcdnaa.rumorTimes
open Go.ChangeShapes Go.WideShapes Go.ChangeAt Go.RowKit Go.Proofs.YtihmblbnnhcdnaaW.PrintWords Go.Proofs.Ytihmblbnnhcdnaa.Print Go.Proofs.Ytihmblbnnhcdnaa.Opens
open Go.ChangeMaps (open_string shut_string)
set_option linter.unusedVariables false
theorem own : ownKnob Try.prog.godebug = none := by kernel_rfl
theorem laidOut : laidOutB Try.prog = true := by kernel_rfl
set_option maxRecDepth 100000 in
theorem lifted (os : Os) (started : os.Started) (H : Type) (enc : TypeId × Value → H) :
    ReturnsInHanded {} Try.checked os 5 .any (Rows.rumorTimesSpec.pre6 enc Try.prog Try.f5 Rows.rumorTimesRow.domain false) (Rows.rumorTimesSpec.post enc Try.prog Try.f5 false true false false) := by
  refine returnsInHanded_of_change_sized (C := Try.checked) own started (by kernel_rfl) Try.func5
    (ChangeSpec.witness6 (enc := enc) (C := Try.checked) false ⟨#[], #[.int .u8 0, .slice none 0 0, .slice none 0 0], []⟩ 8 (by kernel_rfl) (by kernel_rfl) (by kernel_rfl) (by kernel_rfl)) ?_
  intro W base args ds gs before hval0 hW hcnd hsz0 _
  have hsz : (DataW.weightsEach Try.prog (Try.f5.params.toList ++ Rows.rumorTimesSpec.plain.varTypes Try.prog) (ds ++ gs)).all (· ≤ reachBytes) = true := hsz0
  have hval : ∀ (j : Nat) t v, Try.f5.params[j]? = some t → args[j]? = some v → Value.okWide Try.prog W .any base t v := hval0
  have hW' := hW
  obtain ⟨p, q, hA0, hV, rfl, hfz, hnd⟩ := hW
  have hA : DataW.TrodAll enc Try.prog W 0 (fun _ => true) true Try.f5.params.toList args.toList ds p := hA0
  rw [Try.params5] at hA hval hsz
  obtain ⟨v0, vs0, d0, ds0, p0, q0, hargs, rfl, rfl, h0, r0⟩ := trodAll_cons hA
  obtain ⟨v1, vs1, d1, ds1, p1, q1, rfl, rfl, rfl, h1, r1⟩ := trodAll_cons r0
  obtain ⟨v2, vs2, d2, ds2, p2, q2, rfl, rfl, rfl, h2, r2⟩ := trodAll_cons r1
  obtain ⟨rfl, rfl, rfl⟩ := trodAll_nil r2
  obtain rfl : args = #[v0, v1, v2] := by cases args; simp_all
  obtain ⟨rfl, rfl⟩ := trodVars_none hV
  obtain ⟨a0, rfl, rfl, rfl, y0⟩ := open_int Try.underlying5 (hval 0 5 v0 rfl rfl) h0
  obtain ⟨L1, k1, W1_⟩ := opens_arg (opens_slice Try.underlying39 (by kernel_rfl) opens33) h1
  obtain ⟨A1, n1, c1, rfl⟩ := okWide_slice Try.underlying39 (hval 1 39 v1 rfl rfl)
  obtain ⟨A1_, c1_, hcs1, H1, C1⟩ := k1
  obtain ⟨rfl, rfl, rfl⟩ : A1 = A1_ ∧ n1 = L1.length ∧ c1 = c1_ := by simpa [Value.cells] using hcs1
  obtain ⟨L2, k2, W2_⟩ := opens_arg (opens_slice Try.underlying46 (by kernel_rfl) opens5) h2
  obtain ⟨A2, n2, c2, rfl⟩ := okWide_slice Try.underlying46 (hval 2 46 v2 rfl rfl)
  obtain ⟨A2_, c2_, hcs2, H2, C2⟩ := k2
  obtain ⟨rfl, rfl, rfl⟩ : A2 = A2_ ∧ n2 = L2.length ∧ c2 = c2_ := by simpa [Value.cells] using hcs2
  have len2 : L2.length * 1 ≤ 140737488351232 := by
    rcases trod_len Try.underlying46 h2 with ⟨_, h⟩ | ⟨elems, rest, rfl, h⟩
    · omega
    · have z := sized_slice hsz (j := 2) (t := 46) (e := 5) rfl rfl Try.underlying46
      have eb : Try.prog.bytesOf 5 = 1 := by kernel_rfl
      rw [eb] at z
      unfold reachBytes at z
      omega
  have hlt1 : ∀ x ∈ p1, x.block < W.heap.size := fun x hx => by simpa using hW'.lt x (by simp [hx])
  have hlt2 : ∀ x ∈ p2, x.block < W.heap.size := fun x hx => by simpa using hW'.lt x (by simp [hx])
  clear hA0 hval0 hsz0
  refine (times_law W a0 A1 c1 L1 A2 c2 L2 (u8_in y0) C1 H1 W1_ C2 H2 (fun b hb => u8_in (W2_ b hb)) (by omega)).mono fun e W' ⟨he, bel⟩ => ?_
  subst he
  exact ⟨_, rfl, _, _, _, [], _, [], hW', trodAll_mk1 (shut_bool Try.underlying4 _), (trodAll_cons_mk (shut_int Try.underlying5 y0) (trodAll_cons_mk (Below.trod laidOut (by kernel_rfl) (of_decide_eq_true (by kernel_rfl)) h1 bel hlt1) (trodAll_cons_mk (Below.trod laidOut (by kernel_rfl) (of_decide_eq_true (by kernel_rfl)) h2 bel hlt2) trodAll_mk0))), rfl, bel.frame _, fun h => by cases h⟩
theorem over : Rows.rumorTimesRow.holds Try.pinned (OpenSpec.ofChange Rows.rumorTimesSpec) :=
  OpenClaim.holds_of_wide 5 Try.f5 rfl rfl rfl rfl rfl rfl rfl ⟨rfl, rfl, rfl, rfl, rfl⟩ rfl rfl rfl rfl rfl (by kernel_rfl) Try.func5 (by kernel_rfl)
    (of_decide_eq_true (by kernel_rfl)) (by unfold Func.isWrapper; first | (rw [if_pos (by decide +kernel)]; kernel_rfl) | (rw [if_neg (by decide +kernel)]; exact ⟨rfl, rfl⟩))
    (fun os started H enc _ => lifted os started H enc)
theorem proved : Rows.RumorTimesSaid := over
end Go.Proofs.Ytihmblbnnhcdnaa.rumorTimes
namespace Go.Proofs.Ytihmblbnnhcdnaa
/-- The row, under a short name, for the claim. -/
theorem rumorTimes_holds : Rows.RumorTimesSaid := rumorTimes.proved
#print axioms rumorTimes_holds
end Go.Proofs.Ytihmblbnnhcdnaa
