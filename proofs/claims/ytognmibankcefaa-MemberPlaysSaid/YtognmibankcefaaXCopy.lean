/- A view's copy, walked. -/
import Derived.Test.YtognmibankcefaaXMem
import Derived.Test.YtognmibankcefaaXLays
namespace Go.Proofs.Ytognmibankcefaa.Print
open Go.RowKit Go.Shelf Go.Maps Go.ChangeMaps Go.Proofs.YtognmibankcefaaW.PrintWords Go.Proofs.YtognmibankcefaaW.PrintLast Go.Proofs.YtognmibankcefaaW.PrintMore
set_option linter.unusedVariables false
set_option linter.unusedSimpArgs false
set_option maxHeartbeats 4000000 in
set_option maxRecDepth 100000 in
theorem copy_calls (w : World) (g b : Nat) (l : List Mem) (hV : Vw w g b l) : Calls Try.prog 24 #[.pointer (some ⟨g, 0, none⟩)] w fun e w' =>
    ∃ g' b', e = .returned (.pointer (some ⟨g', 0, none⟩)) ∧ Vw w' g' b' l ∧ w.heap.size ≤ g' ∧ w.heap.size ≤ b' ∧ Below w.heap.size w w' := by
  have hc := hV.cell
  have hcon := fun W (hW : W.ownsMap Try.prog 23 memR b l.length (ent l)) => AnyW.maps_Clone_owns Try.cloneM 23 memR b l.length (ent l) W hW
  change ∀ W, _ → Calls Try.prog 37 _ _ _ at hcon
  have HV := Aside0.mk hV
  have HC := Aside0.mk hcon
  clear hV hcon
  go_enter Try.func24, Try.ntmps24
  go_wp2_with (first | (go_at_call 37; (with_reducible refine (HC.out _ HV.out.map).mono ?_); rintro e w1 ⟨rfl, h1_, h2_, h3_⟩; have HO := Aside0.mk h1_; have HB := Aside0.mk h3_; clear h1_ h2_ h3_))
  go_ret
  exact ⟨w1.heap.size, w.heap.size, rfl, ⟨blk_new w1 _, HO.out.alloc _, HV.out.ord, HV.out.wf⟩, HB.out.size, Nat.le_refl _, below_alloc HB.out _⟩
theorem copy_nil_calls (w : World) : Calls Try.prog 24 #[.pointer none] w fun e w' => e = .returned (.pointer none) ∧ w' = w := by
  go_enter Try.func24, Try.ntmps24
  go_wp2
  go_ret
  exact ⟨rfl, rfl⟩
end Go.Proofs.Ytognmibankcefaa.Print
