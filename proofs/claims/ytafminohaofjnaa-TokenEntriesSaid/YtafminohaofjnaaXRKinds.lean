/- The contract of the reference's kinds of bytes, in plain words. -/
import Derived.Test.YtafminohaofjnaaF26P
import Derived.Test.YtafminohaofjnaaXKinds
namespace Go.Proofs.Ytafminohaofjnaa.Print
open Go.RowKit Go.Proofs.YtafminohaofjnaaW.PrintWords Go.Proofs.YtafminohaofjnaaW.PrintLast Go.Proofs.YtafminohaofjnaaW.PrintMore
theorem hearsayref08_kinds.calls (a0 : ByteArray) (r1 : List Int) (r2 : Int) (r3 : Int) (w : World) (h : hearsayref08_kinds.f a0 = some (r1, r2, r3)) :
    Calls Try.prog 26 #[.string a0] w fun e w' => ∃ v0_ : Value, e = .returned (.tuple #[v0_, .int .i64 r2, .int .i64 r3]) ∧ Kd.R (Kd.int .i64) 3 w' w.heap.size (fun _ => True) v0_ r1 ∧ Below w.heap.size w w' := by
  have hs : a0.size ≤ 262144 := by
    refine Nat.le_of_not_lt fun hn => ?_
    unfold hearsayref08_kinds.f at h
    rw [if_pos hn] at h
    cases h
  obtain ⟨y, hy, hev⟩ := kindsP_f hs
  rw [hy] at h
  cases h
  obtain ⟨k, hk⟩ := hev.rounds
  exact hearsayref08_kindsP.calls k a0 r1 r2 r3 w hk
end Go.Proofs.Ytafminohaofjnaa.Print
