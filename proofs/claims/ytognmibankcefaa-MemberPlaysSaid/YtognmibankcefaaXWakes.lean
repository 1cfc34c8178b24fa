/- The known members of the statements of layer 17, walked. -/
import Derived.Test.YtognmibankcefaaXView
import Derived.Test.YtognmibankcefaaXLive
namespace Go.Proofs.Ytognmibankcefaa.Print
open Go.RowKit Go.Maps Go.ChangeMaps Go.Proofs.YtognmibankcefaaW.PrintWords Go.Proofs.YtognmibankcefaaW.PrintLast Go.Proofs.YtognmibankcefaaW.PrintMore
set_option linter.unusedVariables false
set_option linter.unusedSimpArgs false
def wm1 : Mem := ⟨5, 1, 0, ⟨#[]⟩⟩
def wm2 : Mem := ⟨5, 1, 1, ⟨#[]⟩⟩
theorem wk1 : mergeM [] wm1 = (true, 0, [wm1]) := by
  unfold mergeM
  rw [if_neg (by decide)]
  rfl
theorem wk2 : mergeM [wm1] wm2 = (true, 0, [wm2]) := by
  unfold mergeM
  rw [if_neg (by decide)]
  rfl
theorem wk3 : mergeM [wm2] wm1 = (false, 0, [wm2]) := by
  unfold mergeM
  rw [if_neg (by decide)]
  rfl
theorem wk4 : liveL [wm2] = [wm2] := by rfl
theorem VF.below {w w' : World} {b n : Nat} (h : VF w w' b) (hn : n ≤ b) (hs : n ≤ w.heap.size) : Below n w w' := by
  have h1 := h.size
  exact ⟨h.os, h.tape, h.output, by exact h1, fun i hi => h.block i (by omega) (fun e => by have := Option.some.inj e; omega)⟩
def hearsaylaw17_wakes.f : Option Bool := some true
set_option maxHeartbeats 8000000 in
set_option maxRecDepth 100000 in
theorem wakes_true (w : World) : Calls Try.prog 13 #[] w fun e w' => e = .returned (.bool true) ∧ Below w.heap.size w w' := by
  have M1 : Aside0 (∀ (W : World) (g b : Nat), Vw W g b [] → Calls Try.prog 17 #[.pointer (some ⟨g, 0, none⟩), .agg #[.int .u32 5, .int .u32 1, .int .u8 0, .string ⟨#[]⟩]] W fun e w' => e = .returned (.tuple #[.bool true, .int .i64 0]) ∧ Vw w' g b [wm1] ∧ VF W w' b) := ⟨fun W g b hV => by
    have h := merge_calls W g b [] wm1 (by decide) (by decide) hV (by simp)
    rw [wk1] at h
    exact h⟩
  have M2 : Aside0 (∀ (W : World) (g b : Nat), Vw W g b [wm1] → Calls Try.prog 17 #[.pointer (some ⟨g, 0, none⟩), .agg #[.int .u32 5, .int .u32 1, .int .u8 1, .string ⟨#[]⟩]] W fun e w' => e = .returned (.tuple #[.bool true, .int .i64 0]) ∧ Vw w' g b [wm2] ∧ VF W w' b) := ⟨fun W g b hV => by
    have h := merge_calls W g b [wm1] wm2 (by decide) (by decide) hV (by simp)
    rw [wk2] at h
    exact h⟩
  have M3 : Aside0 (∀ (W : World) (g b : Nat), Vw W g b [wm2] → Calls Try.prog 17 #[.pointer (some ⟨g, 0, none⟩), .agg #[.int .u32 5, .int .u32 1, .int .u8 0, .string ⟨#[]⟩]] W fun e w' => e = .returned (.tuple #[.bool false, .int .i64 0]) ∧ Vw w' g b [wm2] ∧ VF W w' b) := ⟨fun W g b hV => by
    have h := merge_calls W g b [wm2] wm1 (by decide) (by decide) hV (by simp)
    rw [wk3] at h
    exact h⟩
  have L4 := Aside0.mk (fun (W : World) (g b : Nat) (hV : Vw W g b [wm2]) => live_calls W g b [wm2] hV (by simp))
  rw [wk4] at L4
  go_enter Try.func13, Try.ntmps13
  go_upto_region 2 with (first | (go_at_call 21; (with_reducible refine (new_calls _).mono ?_); rintro e w1 ⟨g, b, rfl, h1_, h2_, h3_, h4_⟩; have HV1 := Aside0.mk h1_; have HG := Aside0.mk (And.intro h2_ h3_); have HB1 := Aside0.mk h4_; clear h1_ h2_ h3_ h4_))
  go_upto_region 3 with (first | (go_at_call 17; (with_reducible refine (M1.out _ g b HV1.out).mono ?_); rintro e w2 ⟨rfl, h1_, h2_⟩; have HV2 := Aside0.mk h1_; have HB2 := Aside0.mk (HB1.out.trans (VF.below h2_ HG.out.2 HB1.out.size)); clear h1_ h2_))
  go_upto_region 4 with (first | (go_at_call 17; (with_reducible refine (M2.out _ g b HV2.out).mono ?_); rintro e w3 ⟨rfl, h1_, h2_⟩; have HV3 := Aside0.mk h1_; have HB3 := Aside0.mk (HB2.out.trans (VF.below h2_ HG.out.2 HB2.out.size)); clear h1_ h2_))
  go_upto_region 5 with (first | (go_at_call 17; (with_reducible refine (M3.out _ g b HV3.out).mono ?_); rintro e w4 ⟨rfl, h1_, h2_⟩; have HV4 := Aside0.mk h1_; have HB4 := Aside0.mk (HB3.out.trans (VF.below h2_ HG.out.2 HB3.out.size)); clear h1_ h2_))
  go_wp2_with (first
    | (go_at_call 27; (with_reducible refine (len_calls _ g b [wm2] HV4.out).mono ?_); rintro e w5 ⟨rfl, rfl⟩)
    | (go_at_call 25; (with_reducible refine (L4.out _ g b HV4.out).mono ?_); rintro e w6 ⟨v, rfl, h1_, h2_⟩; obtain ⟨g', cap', rfl⟩ := ownsRow_succ (k := 0) h1_; have HB6 := Aside0.mk (below_step HB4.out h2_); clear h1_ h2_))
  go_ret
  exact ⟨rfl, HB6.out⟩
theorem hearsaylaw17_wakes.calls (r : Bool) (w : World) (h : hearsaylaw17_wakes.f = some r) : Calls Try.prog 13 #[] w fun e w' => e = .returned (.bool r) ∧ Below w.heap.size w w' := by
  obtain rfl := Option.some.inj h
  exact wakes_true w
end Go.Proofs.Ytognmibankcefaa.Print
