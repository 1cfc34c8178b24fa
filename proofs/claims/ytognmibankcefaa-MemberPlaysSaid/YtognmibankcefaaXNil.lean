/- MemberNil, walked. -/
import Derived.Test.YtognmibankcefaaXWakes
import Derived.Test.YtognmibankcefaaXSame
import Derived.Test.YtognmibankcefaaXCopy
namespace Go.Proofs.Ytognmibankcefaa.Print
open Go.RowKit Go.Maps Go.ChangeMaps Go.Proofs.YtognmibankcefaaW.PrintWords Go.Proofs.YtognmibankcefaaW.PrintLast Go.Proofs.YtognmibankcefaaW.PrintMore
set_option linter.unusedVariables false
set_option linter.unusedSimpArgs false
theorem eql_zero (w : World) : (binOp .eql 25 (.agg #[.int .u32 0, .int .u32 0, .int .u8 0, .string ⟨#[]⟩]) (.agg #[.int .u32 0, .int .u32 0, .int .u8 0, .string ⟨#[]⟩])).run Try.prog w = .ok (.bool true) w := by
  kernel_rfl
set_option maxHeartbeats 8000000 in
set_option maxRecDepth 100000 in
theorem nil_law (w : World) (m : Mem) : Calls Try.prog 7 #[.agg #[.int .u32 m.f0, .int .u32 m.f1, .int .u8 m.f2, .string m.f3]] w fun e w' => e = .returned (.bool true) ∧ Below w.heap.size w w' := by
  have hz := eql_zero
  have HB0 := Aside0.mk (Below.refl w.heap.size w)
  have MN := Aside0.mk (fun W => merge_nil_calls W m)
  have GN : Aside0 (∀ (W : World) (a : Int), Calls Try.prog 20 #[.pointer none, .int .u32 a] W fun e w' => e = .returned (.tuple #[.agg #[.int .u32 0, .int .u32 0, .int .u8 0, .string ⟨#[]⟩], .int .i64 8]) ∧ Below W.heap.size W w') := ⟨get_nil_calls⟩
  unfold memV at MN
  go_enter Try.func7, Try.ntmps7
  go_upto_region 3 with (first
    | (go_at_call 17; (with_reducible refine (MN.out _).mono ?_); rintro e w1 ⟨rfl, h1_⟩; have HB1 := Aside0.mk (below_step (below_alloc HB0.out _) h1_); have HM1 := Aside0.mk (blk_below (blk_new w _) h1_); clear h1_))
  have c0w1 : w1.cell? ⟨w.heap.size, 0, none⟩ = some (.int .u32 m.f0) := (blk_cell HM1.out 0).trans rfl
  go_upto_region 4 with (first
    | (go_at_call 20; (with_reducible refine (GN.out _ m.f0).mono ?_); rintro e w2 ⟨rfl, h1_⟩; have HB2 := Aside0.mk (below_step HB1.out h1_); clear h1_))

  have HC := Aside0.mk (blk_new w2 (.cells #[.int .u32 0, .int .u32 0, .int .u8 0, .string ⟨#[]⟩] 25))
  go_wp2_with (first
    | (go_at_call 16; (with_reducible refine (list_nil_calls _).mono ?_); rintro e w3 ⟨rfl, rfl⟩)
    | (go_at_call 25; (with_reducible refine (live_nil_calls _).mono ?_); rintro e w4 ⟨rfl, rfl⟩)
    | (go_at_call 27; (with_reducible refine (len_nil_calls _).mono ?_); rintro e w5 ⟨rfl, rfl⟩)
    | (go_at_call 24; (with_reducible refine (copy_nil_calls _).mono ?_); rintro e w6 ⟨rfl, rfl⟩)
    | (go_at_call 18; (with_reducible refine (same_nil_calls _).mono ?_); rintro e w7 ⟨rfl, rfl⟩)
    | (go_at_call 18; (with_reducible refine (same_left_calls _ _).mono ?_); rintro e w8 ⟨rfl, rfl⟩)
    | (go_at_call 21; (with_reducible refine (new_calls _).mono ?_); rintro e w9 ⟨g, b, rfl, h1_, h2_, h3_, h4_⟩; have HB3 := Aside0.mk (below_step (below_alloc HB2.out _) h4_); clear h1_ h2_ h3_ h4_)
    | (go_at_call 13; (with_reducible refine (wakes_true _).mono ?_); rintro e w10 ⟨rfl, h1_⟩; have HB4 := Aside0.mk (below_step HB3.out h1_); clear h1_))

  go_ret
  exact ⟨rfl, HB4.out⟩
end Go.Proofs.Ytognmibankcefaa.Print
