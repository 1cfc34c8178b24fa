/- Plain laws of a merge: what it tells, and that nothing becomes weaker. -/
import Derived.Test.YtognmibankcefaaXView
import Derived.Test.YtognmibankcefaaXLive
namespace Go.Proofs.Ytognmibankcefaa.Print
open Go.RowKit Go.Proofs.YtognmibankcefaaW.PrintWords Go.Proofs.YtognmibankcefaaW.PrintLast
set_option linter.unusedVariables false
set_option linter.unusedSimpArgs false
theorem bl_irr : ∀ a : List UInt8, Op.bytesLess a a = false
  | [] => rfl
  | x :: a => by
    have h0 : ¬ x < x := by rw [UInt8.lt_iff_toNat_lt]; omega
    simp only [Op.bytesLess]
    simp [h0, bl_irr a]
theorem cmp_self (x : Mem) : cmpM x x = 0 := by
  unfold cmpM
  simp [bl_irr]
structure Told (L : List Mem) (x : Mem) (a : Bool) (er : Int) (r : Bool) (L' : List Mem) : Prop where
  eq : mergeM L x = (a, er, L')
  len : L'.length ≤ 32
  same : r = true ↔ L' = L
  up : ∀ y ∈ L, ∃ z, getL L' y.f0 = some z ∧ 0 ≤ cmpM z y
theorem told (L : List Mem) (x : Mem) (hR : Rises L) (hl : L.length ≤ 32) :
    (∃ L', Told L x true 0 false L') ∨ Told L x false 0 true L ∨ Told L x false 170 true L ∨ Told L x false 3 true L := by
  have hs : ∀ y ∈ L, ∃ z, getL L y.f0 = some z ∧ 0 ≤ cmpM z y := fun y hy => ⟨y, get_of hR hy, by rw [cmp_self]; omega⟩
  have hlen := merge_length L x hR hl
  cases hm : mayM x with
  | false => exact .inr (.inr (.inl ⟨by unfold mergeM; rw [if_pos hm], hl, by simp, hs⟩))
  | true =>
    cases hg : getL L x.f0 with
    | some o =>
      by_cases hc : cmpM x o ≤ 0
      · exact .inr (.inl ⟨by unfold mergeM; rw [if_neg (by simp [hm]), hg]; simp only; rw [if_pos hc], hl, by simp, hs⟩)
      · have e : mergeM L x = (true, 0, putL x L) := by unfold mergeM; rw [if_neg (by simp [hm]), hg]; simp only; rw [if_neg hc]
        rw [e] at hlen
        refine .inl ⟨_, e, hlen, ⟨fun h => absurd h (by simp), fun h => ?_⟩, fun y hy => ?_⟩
        · have h1 := get_put hR x x.f0
          rw [if_pos rfl, h, hg] at h1
          injection h1 with h1
          subst h1
          rw [cmp_self] at hc
          omega
        · rw [get_put hR]
          by_cases hxy : x.f0 = y.f0
          · have h1 := get_of hR hy
            rw [← hxy, hg] at h1
            injection h1 with h1
            subst h1
            exact ⟨x, if_pos hxy, by omega⟩
          · exact ⟨y, by rw [if_neg hxy]; exact get_of hR hy, by rw [cmp_self]; omega⟩
    | none =>
      by_cases hc : 32 ≤ L.length
      · exact .inr (.inr (.inr ⟨by unfold mergeM; rw [if_neg (by simp [hm]), hg]; simp only; rw [if_pos hc], hl, by simp, hs⟩))
      · have e : mergeM L x = (true, 0, putL x L) := by unfold mergeM; rw [if_neg (by simp [hm]), hg]; simp only; rw [if_neg hc]
        rw [e] at hlen
        refine .inl ⟨_, e, hlen, ⟨fun h => absurd h (by simp), fun h => ?_⟩, fun y hy => ?_⟩
        · have h1 := get_put hR x x.f0
          rw [if_pos rfl, h, hg] at h1
          cases h1
        · rw [get_put hR]
          by_cases hxy : x.f0 = y.f0
          · have h1 := get_of hR hy
            rw [← hxy, hg] at h1
            cases h1
          · exact ⟨y, by rw [if_neg hxy]; exact get_of hR hy, by rw [cmp_self]; omega⟩
theorem told' (L : List Mem) (x : Mem) (hR : Rises L) (hl : L.length ≤ 32) :
    ∃ L' a er r, Told L x a er r L' ∧ ((a = true ∧ er = 0 ∧ r = false) ∨ (a = false ∧ er = 0 ∧ r = true) ∨ (a = false ∧ er = 170 ∧ r = true) ∨ (a = false ∧ er = 3 ∧ r = true)) := by
  rcases told L x hR hl with ⟨L', h⟩ | h | h | h
  · exact ⟨_, _, _, _, h, .inl ⟨rfl, rfl, rfl⟩⟩
  · exact ⟨_, _, _, _, h, .inr (.inl ⟨rfl, rfl, rfl⟩)⟩
  · exact ⟨_, _, _, _, h, .inr (.inr (.inl ⟨rfl, rfl, rfl⟩))⟩
  · exact ⟨_, _, _, _, h, .inr (.inr (.inr ⟨rfl, rfl, rfl⟩))⟩
theorem Told.calls {L L' : List Mem} {x : Mem} {a r : Bool} {er : Int} (h : Told L x a er r L') (hl : L.length ≤ 32) (h0 : 0 ≤ x.f0) (h1 : x.f0 ≤ 4294967295) (w : World) (g b : Nat) (hV : Vw w g b L) :
    Calls Try.prog 17 #[.pointer (some ⟨g, 0, none⟩), .agg #[.int .u32 x.f0, .int .u32 x.f1, .int .u8 x.f2, .string x.f3]] w fun e w' => e = .returned (.tuple #[.bool a, .int .i64 er]) ∧ Vw w' g b L' ∧ VF w w' b := by
  have k := merge_calls w g b L x h0 h1 hV (by omega)
  rw [h.eq] at k
  exact k
/-- what List answers, as cells -/
theorem rowP {w : World} {base n : Nat} {v : Value} {L : List Mem} (h : w.ownsRow base 25 4 v n (flatM L)) (hn : L.length = n) : ∃ p cap, v = .slice p n cap ∧ n ≤ cap ∧ cap ≤ maxLen ∧ (0 < n → ∃ g, p = some ⟨g, 0, none⟩ ∧ RowAt w g cap n L ∧ base ≤ g) := by
  rcases h.2 with ⟨h3, h4⟩ | ⟨g, cap, cur, he, hb, hh, hnc, hc, hs, ht⟩
  · have : n = 0 := by simpa using h4
    subst this
    exact ⟨none, 0, h3, Nat.le_refl _, Nat.zero_le _, fun h => absurd h (by omega)⟩
  · exact ⟨_, cap, he, hnc, hc, fun _ => ⟨g, rfl, ⟨cur, hh, hs, hnc, hc, ht, hn⟩, hb⟩⟩
end Go.Proofs.Ytognmibankcefaa.Print
