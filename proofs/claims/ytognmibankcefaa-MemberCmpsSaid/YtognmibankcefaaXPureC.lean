/- What MemberCmps computes: true. -/
import Derived.Test.YtognmibankcefaaXRefM
import Derived.Test.YtognmibankcefaaF3
namespace Go.Proofs.Ytognmibankcefaa.Print
open Go.RowKit Go.Proofs.YtognmibankcefaaW.PrintWords Go.Proofs.YtognmibankcefaaW.PrintLast Go.Proofs.YtognmibankcefaaW.PrintMore
theorem cmps_law (x y : Mem) (hx : x.f3.size ≤ 9223372036854775807) : ∃ k, hearsaylaw17_MemberCmps.f k x.f0 x.f1 x.f2 x.f3 y.f0 y.f1 y.f2 y.f3 = some true := by
  obtain ⟨k, hk⟩ := rcmp_f x y hx
  have hk1 : hearsayref17_Cmp.f k x.f0 x.f1 x.f2 x.f3 y.f0 y.f1 y.f2 y.f3 = some (cmpM x y) := hk k (Nat.le_refl k)
  refine ⟨k, ?_⟩
  unfold hearsaylaw17_MemberCmps.f hearsaylaw17_wakes.f
  rw [check_f, may_f, cmp_f, hk1]
  cases mayM x <;> simp
end Go.Proofs.Ytognmibankcefaa.Print
