/- A view's List, walked: its members, rising by their addresses, in a row of its own. -/
import Derived.Test.YtognmibankcefaaXCmpA
import Derived.Test.YtognmibankcefaaXLays
import Derived.Test.YtognmibankcefaaXShelf
import Derived.Shelf.SlSortCmp.WholeK
namespace Go.Proofs.Ytognmibankcefaa.Print
open Go.RowKit Go.Shelf Go.Sort Go.Maps Go.ChangeMaps Go.Proofs.YtognmibankcefaaW.PrintWords Go.Proofs.YtognmibankcefaaW.PrintLast Go.Proofs.YtognmibankcefaaW.PrintMore
set_option linter.unusedVariables false
set_option linter.unusedSimpArgs false
theorem ins_none (p : Option Addr) (cap : Nat) (fv : Value) (w : World) : Calls Try.prog 52 #[.slice p 0 cap, .int .i64 0, .int .i64 0, fv] w fun e w' => e = .returned (.tuple #[]) ∧ w' = w := by
  go_enter Try.func52, Try.ntmps52
  go_wp2
  refine wp_loop_rounds 1 ?_
  rw [rounds_succ]
  go_wp2
  go_end0
  exact ⟨rfl, rfl⟩
set_option maxHeartbeats 2000000 in
theorem pdq_none (p : Option Addr) (cap : Nat) (lim : Int) (fv : Value) (w : World) : Calls Try.prog 50 #[.slice p 0 cap, .int .i64 0, .int .i64 0, .int .i64 lim, fv] w fun e w' => e = .returned (.tuple #[]) ∧ w' = w := by
  have hi := fun W => ins_none p cap fv W
  go_enter Try.func50, Try.ntmps50
  go_wp2
  refine wp_loop_rounds 1 ?_
  rw [rounds_succ]
  go_wp2_with (go_at_call 52; refine (hi _).mono ?_; rintro e w' ⟨rfl, rfl⟩)
  (try simp only [Exit.inBlock, Exit.then]); refine bodyPost_ret (results_none rfl _ _ _) rfl ?_
  exact ⟨rfl, rfl⟩
set_option maxHeartbeats 2000000 in
theorem sort_none (p : Option Addr) (cap : Nat) (fv : Value) (w : World) : Calls Try.prog 44 #[.slice p 0 cap, fv] w fun e w' => e = .returned (.tuple #[]) ∧ w' = w := by
  have hp := fun lim W => pdq_none p cap lim fv W
  have hl := fun W => Try.bits_Len 0 W (by omega) (by omega)
  change ∀ W, Calls Try.prog 51 _ _ _ at hl
  go_enter Try.func44, Try.ntmps44
  go_wp2_with (first | (go_at_call 51; refine (hl _).mono ?_; rintro e w' ⟨rfl, rfl⟩) | (go_at_call 50; refine (hp _ _).mono ?_; rintro e w' ⟨rfl, rfl⟩))
  go_end0
  exact ⟨rfl, rfl⟩
theorem perm_of_in {ss : List Mem} {d' : Array Mem} (hp : PermIn 0 ss.toArray.size ss.toArray d') : d'.toList.length = ss.length := by
  have := hp.1
  simpa using this
set_option maxHeartbeats 2000000 in
theorem sort_calls (w : World) (base : Nat) (v : Value) (ss l : List Mem) (h : w.ownsRow base 25 4 v ss.length (flatM ss)) (hp : ss.Perm l) (hR : Rises l) (hl : l.length ≤ 100000) :
    Calls Try.prog 44 #[v, .func (.func 34) #[] #[]] w fun e w' => e = .returned (.tuple #[]) ∧ w'.ownsRow base 25 4 v l.length (flatM l) ∧ w.grownBy w' v.ownBlock := by
  have hlen := hp.length_eq
  rcases h.2 with ⟨rfl, h0⟩ | ⟨g, cap, cur, rfl, hb, hh, hn, hc, hs, ht⟩
  · have e1 : ss = [] := List.eq_nil_of_length_eq_zero h0
    subst e1
    have e2 : l = [] := List.eq_nil_of_length_eq_zero hlen.symm
    subst e2
    refine (sort_none none 0 _ w).mono ?_
    rintro e w' ⟨rfl, rfl⟩
    exact ⟨rfl, h, World.grownBy.refl _ _⟩
  · have hH := holds_of_row (l := ss) hh rfl ht
    have eg : ∀ args w, (callFunc 34 args).run Try.prog w = .ok (.enter 34 args) w := enters_of Try.func34 (by kernel_rfl) rfl
    have hcon := AnyQ.slices_SortFunc Try.sortM 4 Try.isAgg25 Try.sizeOf25 memC (fun _ => rfl) memC_one cfM swoM 34 #[] g 0 cap ss.toArray w eg (less_lays g 0 ss.toArray.size w) hH (blk_lt hh) (by simp; omega)
    have hsz : ss.toArray.size = ss.length := by simp
    rw [hsz] at hcon
    change Calls Try.prog 44 _ _ _ at hcon
    refine hcon.mono ?_
    rintro e w' ⟨rfl, d', n, os, h1, h2, rfl⟩
    have e3 : d'.toList = l := sorted_rises hR (by simpa using hp) (by rw [hsz]; exact h1) (by rw [hsz]; exact h2)
    have e4 : d' = l.toArray := by rw [← e3]
    subst e4
    have := ownsRow_sortedK (n := n) (os := os) (ts := l) hlen.symm h
    rw [hlen] at this ⊢
    exact ⟨rfl, this, by simpa [Value.ownBlock] using grown_sortedK l.toArray⟩
set_option maxHeartbeats 2000000 in
set_option maxRecDepth 100000 in
theorem sortedFunc_calls (Bm b : Nat) (l : List Mem) (w : World) (hm : w.cell? ⟨Bm, 0, none⟩ = some (.map (some b))) (hown : w.ownsMap Try.prog 23 memR b l.length (ent l)) (hR : Rises l) (hll : l.length ≤ 100000) :
    Calls Try.prog 32 #[.func (.func 45) #[] #[.pointer (some ⟨Bm, 0, none⟩)], .func (.func 34) #[] #[]] w
      fun e w' => ∃ v, e = .returned v ∧ w'.ownsRow w.heap.size 25 4 v l.length (flatM l) ∧ Below w.heap.size w w' := by
  have HA := Aside0.mk (appendSeq_calls Bm b l w hm hown hR hll)
  have HS := Aside0.mk (fun W v ss h hp => sort_calls W w.heap.size v ss l h hp hR hll)
  clear hm hown
  go_enter Try.func32, Try.ntmps32
  go_wp2_with (first
    | (go_at_call 49; (with_reducible refine HA.out.mono ?_); rintro e w1 ⟨v, ss, rfl, h1_, h2_, h3_⟩; have H2 := Aside0.mk h2_; have HP := Aside0.mk h1_; have HB := Aside0.mk h3_; clear h1_ h2_ h3_)
    | (go_at_call 44; (with_reducible refine (HS.out _ v ss H2.out HP.out).mono ?_); rintro e w2 ⟨rfl, h1_, h2_⟩; have H3 := Aside0.mk h1_; have HG := Aside0.mk h2_; clear h1_ h2_)
    | go_in)
  go_ret
  refine ⟨v, rfl, H3.out, HB.out.grown HG.out HB.out.size (fun k hk => ?_)⟩
  rcases H2.out.2 with ⟨rfl, _⟩ | ⟨g, cap, cur, rfl, hb, _⟩
  · simp [Value.ownBlock] at hk
  · simp [Value.ownBlock] at hk
    omega
set_option maxHeartbeats 2000000 in
set_option maxRecDepth 100000 in
theorem list_calls (w : World) (g b : Nat) (l : List Mem) (hV : Vw w g b l) (hll : l.length ≤ 100000) : Calls Try.prog 16 #[.pointer (some ⟨g, 0, none⟩)] w
      fun e w' => ∃ v, e = .returned v ∧ w'.ownsRow w.heap.size 25 4 v l.length (flatM l) ∧ Below w.heap.size w w' := by
  have hc := hV.cell
  have HV := Aside0.mk hV
  clear hV
  go_enter Try.func16, Try.ntmps16
  go_wp2_with (first
    | (go_at_call 33; (with_reducible refine (values_calls b _).mono ?_); rintro e w1 ⟨rfl, rfl⟩; have HV1 := Aside0.mk (HV.out.below (below_alloc (Below.refl w.heap.size w) (.cells #[.map (some b)] 61))); have HM1 := Aside0.mk ((blk_cell (blk_new w (.cells #[.map (some b)] 61)) 0).trans (show _ = some (Value.map (some b)) from rfl)))
    | (go_at_call 32; (with_reducible refine (sortedFunc_calls w.heap.size b l _ HM1.out HV1.out.map HV1.out.ord hll).mono ?_); rintro e w2 ⟨v, rfl, h1_, h2_⟩; have H2 := Aside0.mk h1_; have HB := Aside0.mk h2_; clear h1_ h2_))
  go_ret
  refine ⟨v, rfl, ?_, (below_alloc (Below.refl w.heap.size w) _).trans (by have h3 := HB.out; refine ⟨h3.os, h3.tape, h3.output, h3.size, fun i hi => h3.block i (by simp; omega)⟩)⟩
  have h4 := H2.out
  obtain ⟨h5, h6⟩ := h4
  refine ⟨h5, ?_⟩
  rcases h6 with h6 | ⟨g', cap, cur, h7, hb, h8⟩
  · exact .inl h6
  · exact .inr ⟨g', cap, cur, h7, by simp at hb; omega, h8⟩
theorem list_nil_calls (w : World) : Calls Try.prog 16 #[.pointer none] w fun e w' => e = .returned (.slice none 0 0) ∧ w' = w := by
  go_enter Try.func16, Try.ntmps16
  go_wp2
  go_ret
  exact ⟨rfl, rfl⟩
end Go.Proofs.Ytognmibankcefaa.Print
