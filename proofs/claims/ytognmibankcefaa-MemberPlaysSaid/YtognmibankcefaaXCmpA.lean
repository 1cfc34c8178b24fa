/- The order of members by their addresses, as List sorts them, walked. -/
import Derived.Test.YtognmibankcefaaXSorted
namespace Go.Proofs.Ytognmibankcefaa.Print
open Go.RowKit Go.Shelf Go.Sort Go.Maps Go.ChangeMaps Go.Proofs.YtognmibankcefaaW.PrintWords Go.Proofs.YtognmibankcefaaW.PrintLast Go.Proofs.YtognmibankcefaaW.PrintMore
set_option linter.unusedVariables false
set_option linter.unusedSimpArgs false
set_option maxHeartbeats 4000000 in
set_option maxRecDepth 100000 in
theorem cmpAddr_calls (a b : Int) (w : World) : Calls Try.prog 35 #[.int .u32 a, .int .u32 b] w fun e w' => e = .returned (.int .i64 (if a < b then -1 else if b < a then 1 else 0)) ∧ w' = w := by
  by_cases h1 : a < b
  · have e : (if a < b then (-1 : Int) else if b < a then 1 else 0) = -1 := if_pos h1
    have h1' : decide (a < b) = true := decide_eq_true h1
    rw [e]
    clear e
    go_enter Try.func35, Try.ntmps35
    go_wp2
    go_ret
    exact ⟨rfl, rfl⟩
  · have h1' : decide (a < b) = false := decide_eq_false h1
    by_cases h2 : b < a
    · have e : (if a < b then (-1 : Int) else if b < a then 1 else 0) = 1 := by rw [if_neg h1, if_pos h2]
      have h2' : decide (b < a) = true := decide_eq_true h2
      rw [e]
      clear e
      go_enter Try.func35, Try.ntmps35
      go_wp2
      go_ret
      exact ⟨rfl, rfl⟩
    · have e : (if a < b then (-1 : Int) else if b < a then 1 else 0) = 0 := by rw [if_neg h1, if_neg h2]
      have h2' : decide (b < a) = false := decide_eq_false h2
      rw [e]
      clear e
      go_enter Try.func35, Try.ntmps35
      go_wp2
      go_ret
      exact ⟨rfl, rfl⟩
set_option maxHeartbeats 4000000 in
set_option maxRecDepth 100000 in
theorem less_calls (x y : Mem) (W : World) : Calls Try.prog 34 #[.agg #[.int .u32 x.f0, .int .u32 x.f1, .int .u8 x.f2, .string x.f3], .agg #[.int .u32 y.f0, .int .u32 y.f1, .int .u8 y.f2, .string y.f3]] W fun e w' => e = .returned (.int .i64 (cfM x y)) ∧ ∃ q os', w' = grow (W.drewN q) os' := by
  have hu := Try.underlying25
  have hc := fun w => cmpAddr_calls x.f0 y.f0 w
  have hcf : cfM x y = if x.f0 < y.f0 then -1 else if y.f0 < x.f0 then 1 else 0 := rfl
  rw [hcf]
  generalize (if x.f0 < y.f0 then (-1 : Int) else if y.f0 < x.f0 then 1 else 0) = r at hc ⊢
  have HC := Aside0.mk hc
  clear hc hcf
  go_enter Try.func34, Try.ntmps34
  go_wp2_with (first | (go_at_call 35; (with_reducible refine (HC.out _).mono ?_); rintro e w' ⟨rfl, rfl⟩))
  go_ret
  exact ⟨rfl, 0, _, by rw [alloc_eq_grow, alloc_eq_grow, grow_grow]; rfl⟩
theorem less_lays (blk off size : Nat) (w : World) : CmpLays Try.prog 34 #[] memC 4 cfM blk off size w := fun _ _ _ _ x y => less_calls x y _
end Go.Proofs.Ytognmibankcefaa.Print
