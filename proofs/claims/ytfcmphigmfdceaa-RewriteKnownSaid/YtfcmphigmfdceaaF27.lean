-- Written by a program of this session, built on the kit's print (it is not the print's own text).
import Derived.Test.YtfcmphigmfdceaaKinds
import Derived.Test.YtfcmphigmfdceaaF33
namespace Go.Proofs.Ytfcmphigmfdceaa.Print
open Go.RowKit Go.Proofs.YtfcmphigmfdceaaW.PrintWords Go.Proofs.YtfcmphigmfdceaaW.PrintLast Go.Proofs.YtfcmphigmfdceaaW.PrintMore
set_option linter.unusedVariables false
set_option linter.unusedSimpArgs false

/-! ### hearsayref01_Is: function 27 -/
def hearsayref01_Is.f (k : Nat) (a0 : ByteArray) : Option (Bool) := (hearsayref01_Split.f k a0).bind fun bt126 => (some bt126.2)
theorem hearsayref01_Is.mono : ∀ a0 k, LeO (hearsayref01_Is.f k a0) (hearsayref01_Is.f (k + 1) a0) := by
  intro a0 k
  unfold hearsayref01_Is.f
  repeat' first
      | (with_reducible exact hearsayref01_Split.mono _ _)
      | (with_reducible exact LeO.refl _)
      | (with_reducible exact LeO.none _)
      | (with_reducible refine LeO.ite ?_ ?_)
      | (with_reducible refine LeO.bind ?_ (fun _ => ?_))
      | exact hearsayref01_Split.mono _ _
      | exact LeO.none _
      | refine LeO.ite ?_ ?_
      | refine LeO.bind ?_ (fun _ => ?_)
set_option maxHeartbeats 8000000 in
set_option maxRecDepth 100000 in
theorem hearsayref01_Is.calls (k : Nat) (a0 : ByteArray) (r : Bool) (w : World) (h : hearsayref01_Is.f k a0 = some r) :
    Calls Try.prog 27 #[.string a0] w fun e w' => e = .returned (.bool r) ∧ Below w.heap.size w w' := by
  have HB := Aside0.mk (Below.refl w.heap.size w)
  have H : ((hearsayref01_Split.f k a0).bind fun bt126 => (some bt126.2)) = some r := h
  clear h
  replace H := Option.bind_eq_some_iff.mp H
  obtain ⟨⟨t126, t127⟩, A20, H⟩ := H
  replace H : (some t127) = some r := H
  have A2 := Aside0.mk A20
  clear A20
  obtain rfl := Option.some.inj H
  go_enter Try.func27, Try.ntmps27
  go_wp2_with (first | ((with_reducible refine gate_callee (f := 33) rfl ?_); refine goesL_ (some 7) rfl rfl Try.func33 (by kernel_rfl) rfl #[.string a0] rfl (by (try simp only [List.map_toArray, List.map_cons, List.map_nil]); first | done | rfl | (simp only [List.length_drop, List.length_take]; rfl)) ?_; (with_reducible refine (hearsayref01_Split.calls k a0 t126 t127 _ A2.out).mono ?_); rintro e w3 ⟨v128, rfl, ho0, hb⟩; refine ⟨_, rfl, ?_⟩; have n0_ := Aside0.mk (Kd.R_lower ho0 (below_size (by repeat (first | (with_reducible first | exact HB.out | apply below_alloc | apply pw_below_drewN | apply below_drew1) | exact HB.out)))); have n1_ := Aside0.mk (below_step (by repeat (first | (with_reducible first | exact HB.out | apply below_alloc | apply pw_below_drewN | apply below_drew1) | exact HB.out)) hb); clear HB; have HO129 := n0_; have HB := n1_; clear n0_ n1_; (try clear hb); (try clear hb2); (try clear hk); (try clear hi); (try clear ho0)))
  go_ret
  exact ⟨by first | rfl | (simp [errW_none, errW_some] <;> rfl) | (simp [*, errW_none, errW_some] <;> rfl), by repeat (first | (with_reducible first | exact HB.out | apply below_alloc | apply pw_below_drewN | apply below_drew1) | exact HB.out)⟩

end Go.Proofs.Ytfcmphigmfdceaa.Print
