/- A queue's Left, walked; no queue's answers. -/
import Derived.Test.YtihmblbnnhcdnaaXPm
namespace Go.Proofs.Ytihmblbnnhcdnaa.Print
open Go.RowKit Go.Maps Go.ChangeMaps Go.Proofs.YtihmblbnnhcdnaaW.PrintWords Go.Proofs.YtihmblbnnhcdnaaW.PrintLast Go.Proofs.YtihmblbnnhcdnaaW.PrintMore
set_option linter.unusedVariables false
set_option linter.unusedSimpArgs false
set_option maxHeartbeats 8000000 in
set_option maxRecDepth 100000 in
theorem left_none (w : World) (g mb n : Nat) (t last : Int) (v : Value) (hs : Hs) (a : Int) (h : Qw w g mb n t last v hs) (h0 : 0 ≤ a) (h1 : a ≤ 4294967295) (hno : ∀ p ∈ hs, p.2.m.f0 ≠ a) :
    Calls Try.prog 18 #[.pointer (some ⟨g, 0, none⟩), .int .u32 a] w fun e w' => e = .returned (.int .i64 0) ∧ Below w.heap.size w w' := by
  obtain ⟨f, hpm, hf⟩ := h.map
  have hfn : f a = none := by
    cases e : f a with
    | none => rfl
    | some b =>
      obtain ⟨o, ho, he⟩ := (hf a h0 h1 b).1 e
      exact absurd he (hno _ ho)
  have hlk := hpm.look1 h0 h1
  rw [hfn] at hlk
  unfold pv at hlk
  have q3_ : w.cell? ⟨g, 3, none⟩ = some (.map (some mb)) := (blk_cell h.rq.box 3).trans rfl
  clear h hpm hf hno hfn
  go_enter Try.func18, Try.ntmps18
  go_wp2
  go_ret
  exact ⟨rfl, Below.refl _ _⟩
set_option maxHeartbeats 8000000 in
set_option maxRecDepth 100000 in
theorem left_some (w : World) (g mb n : Nat) (t last : Int) (v : Value) (hs : Hs) (a : Int) (b : Nat) (x : One) (h : Qw w g mb n t last v hs) (h0 : 0 ≤ a) (h1 : a ≤ 4294967295) (hin : (b, x) ∈ hs) (hx : x.m.f0 = a) (hw : wrap64 (t - x.sent) = t - x.sent) :
    Calls Try.prog 18 #[.pointer (some ⟨g, 0, none⟩), .int .u32 a] w fun e w' => e = .returned (.int .i64 (t - x.sent)) ∧ Below w.heap.size w w' := by
  obtain ⟨f, hpm, hf⟩ := h.map
  have hfn : f a = some b := (hf a h0 h1 b).2 ⟨x, hin, hx⟩
  have hlk := hpm.look1 h0 h1
  have hlk2 := fun k => (hpm.below (pw_below_drewN (Below.refl w.heap.size w) k)).look1 h0 h1
  have hlk3 := (hpm.below (below_drew1 (Below.refl w.heap.size w))).look1 h0 h1
  rw [hfn] at hlk hlk2 hlk3
  unfold pv at hlk hlk2 hlk3
  obtain ⟨i, hil, hi⟩ := List.getElem_of_mem hin
  have hb := h.rq.ho.one i b x (by rw [List.getElem?_eq_getElem hil, hi])
  have q0_ : w.cell? ⟨g, 0, none⟩ = some (.int .i64 t) := (blk_cell h.rq.box 0).trans rfl
  have q3_ : w.cell? ⟨g, 3, none⟩ = some (.map (some mb)) := (blk_cell h.rq.box 3).trans rfl
  have b4_ : w.cell? ⟨b, 4, none⟩ = some (.int .i64 x.sent) := (blk_cell hb 4).trans rfl
  clear h hpm hf hfn hin hx hi hb
  go_enter Try.func18, Try.ntmps18
  go_wp2
  repeat (go_quiet (fail); try go_wp2)
  go_ret
  exact ⟨by show Ending.returned (.int .i64 (wrap64 (t - x.sent))) = _; rw [hw], by repeat (first | exact Below.refl _ _ | apply pw_below_drewN)⟩
theorem left_nil (w : World) (a : Int) : Calls Try.prog 18 #[.pointer none, .int .u32 a] w fun e w' => e = .returned (.int .i64 0) ∧ w' = w := by
  go_enter Try.func18, Try.ntmps18
  go_wp2
  go_ret
  exact ⟨rfl, rfl⟩
theorem copyq_nil (w : World) : Calls Try.prog 15 #[.pointer none] w fun e w' => e = .returned (.pointer none) ∧ w' = w := by
  go_enter Try.func15, Try.ntmps15
  go_wp2
  go_ret
  exact ⟨rfl, rfl⟩
theorem takeq_nil (w : World) (n : Int) : Calls Try.prog 13 #[.pointer none, .int .i64 n] w fun e w' => e = .returned (.slice none 0 0) ∧ w' = w := by
  go_enter Try.func13, Try.ntmps13
  go_wp2
  go_ret
  exact ⟨rfl, rfl⟩
theorem listq_nil (w : World) : Calls Try.prog 16 #[.pointer none] w fun e w' => e = .returned (.slice none 0 0) ∧ w' = w := by
  go_enter Try.func16, Try.ntmps16
  go_wp2_with (first | (go_at_call 15; (with_reducible refine (copyq_nil _).mono ?_); rintro e w1 ⟨rfl, rfl⟩))
  go_ret
  exact ⟨rfl, rfl⟩
theorem addq_nil (w : World) (m : Mem) : Calls Try.prog 10 #[.pointer none, .agg #[.int .u32 m.f0, .int .u32 m.f1, .int .u8 m.f2, .string m.f3]] w fun e w' => e = .returned (.tuple #[.bool false, .int .i64 8]) ∧ Below w.heap.size w w' := by
  go_enter Try.func10, Try.ntmps10
  go_wp2
  refine bodyPost_ret (results_tmp2 rfl _ _ _) rfl ?_
  exact ⟨rfl, below_alloc (Below.refl _ _) _⟩
end Go.Proofs.Ytihmblbnnhcdnaa.Print
