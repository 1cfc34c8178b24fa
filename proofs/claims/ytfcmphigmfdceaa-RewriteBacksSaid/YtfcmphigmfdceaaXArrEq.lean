/- Arrays of five whole numbers, compared. -/
import Derived.ChangeKeysEq
import Derived.WalkKit
import Derived.Tactics
namespace Go.Proofs.YtfcmphigmfdceaaW.PrintWords
open Go.RowKit
set_option linter.unusedSimpArgs false in
theorem arr_eq5 {P : Program} {T E : TypeId} {k : IntKind} {w : World} {d : Nat} {i0 : TypeInfo} (hu : P.underlying T = some (.array 5 E)) (he : P.underlying E = some (.int k)) (hi : P.info? E = some i0) (hc : P.cellsOf E = 1) (x0 y0 x1 y1 x2 y2 x3 y3 x4 y4 : Int) :
    (Op.equalIn (d + 2) T (.agg #[.int k x0, .int k x1, .int k x2, .int k x3, .int k x4]) (.agg #[.int k y0, .int k y1, .int k y2, .int k y3, .int k y4])).run P w = .ok (x0 == y0 && (x1 == y1 && (x2 == y2 && (x3 == y3 && (x4 == y4))))) w := by
  rw [run_equalIn_array (w := w) (d + 1) _ _ hu hi, hc]
  have hr : List.range 5 = [0, 1, 2, 3, 4] := by decide
  rw [hr]
  have hp : ∀ (xs : Array Value) (j : Nat) (v : Value), xs[j]? = some v → (part E xs j).run P w = .ok v w := by
    intro xs j v h
    simp [part, isAgg, run_underlying he, h]
  have hq : ∀ a b : Int, (Op.equalIn (d + 1) E (.int k a) (.int k b)).run P w = .ok (a == b) w := by
    intro a b
    simp [Op.equalIn, run_underlying he]
  have p0 : ∀ a b c d e : Value, (part E #[a, b, c, d, e] 0).run P w = .ok a w := fun _ _ _ _ _ => hp _ _ _ rfl
  have p1 : ∀ a b c d e : Value, (part E #[a, b, c, d, e] 1).run P w = .ok b w := fun _ _ _ _ _ => hp _ _ _ rfl
  have p2 : ∀ a b c d e : Value, (part E #[a, b, c, d, e] 2).run P w = .ok c w := fun _ _ _ _ _ => hp _ _ _ rfl
  have p3 : ∀ a b c d e : Value, (part E #[a, b, c, d, e] 3).run P w = .ok d w := fun _ _ _ _ _ => hp _ _ _ rfl
  have p4 : ∀ a b c d e : Value, (part E #[a, b, c, d, e] 4).run P w = .ok e w := fun _ _ _ _ _ => hp _ _ _ rfl
  simp only [Op.eqItems, Sem.run_bind, Nat.mul_one, p0, p1, p2, p3, p4, Result.andThen_ok, hq]
  cases h0 : (x0 == y0) <;> cases h1 : (x1 == y1) <;> cases h2 : (x2 == y2) <;> cases h3 : (x3 == y3) <;> cases h4 : (x4 == y4) <;> simp [p1, p2, p3, p4, hq, h0, h1, h2, h3, h4]
end Go.Proofs.YtfcmphigmfdceaaW.PrintWords
