-- Written by a program of this session, built on the kit's print (it is not the print's own text).
import Derived.Test.YtfcmphigmfdceaaKinds
import Derived.Test.YtfcmphigmfdceaaF51
import Derived.Test.YtfcmphigmfdceaaF52
import Derived.Test.YtfcmphigmfdceaaF54
import Derived.Test.YtfcmphigmfdceaaXRuleOf
namespace Go.Proofs.Ytfcmphigmfdceaa.Print
open Go.RowKit Go.Proofs.YtfcmphigmfdceaaW.PrintWords Go.Proofs.YtfcmphigmfdceaaW.PrintLast Go.Proofs.YtfcmphigmfdceaaW.PrintMore
set_option linter.unusedVariables false
set_option linter.unusedSimpArgs false

/-! ### rewrite_rule_suffix: function 41 -/
def rewrite_rule_suffix.f (k : Nat) (a0_0 : Int) (a0_1 : ByteArray) (a0_2 : ByteArray) (a0_3 : Int) (a0_4 : Int) (a1_0 : ByteArray) (a1_1 : Int) (a1_2 : Int) : Option (ByteArray × Int × Int × Bool) := (name_Under.f k a1_0 a0_1).bind fun t664 => (if t664 = true then ((name_Labels.f k a1_0).bind fun t665 => ((name_Count.f k a0_1).bind fun t668 => (if 0 ≤ (wrap64 ((t665.length : Int) - t668)) then (if (wrap64 ((t665.length : Int) - t668)) ≤ (t665.length : Int) then ((name_Labels.f k a0_2).bind fun t673 => ((rewrite_rule_of.f a0_0 a0_1 a0_2 a0_3 a0_4 a1_0 a1_1 a1_2 (t665.take ((wrap64 ((t665.length : Int) - t668)) : Int).toNat) t673).bind fun bt676 => (some (bt676.1, bt676.2.1, bt676.2.2.1, bt676.2.2.2)))) else (none)) else (none)))) else (some ((⟨#[]⟩ : ByteArray), 0, 0, false)))
theorem rewrite_rule_suffix.mono : ∀ a0 a1 a2 a3 a4 a5 a6 a7 k, LeO (rewrite_rule_suffix.f k a0 a1 a2 a3 a4 a5 a6 a7) (rewrite_rule_suffix.f (k + 1) a0 a1 a2 a3 a4 a5 a6 a7) := by
  intro a0 a1 a2 a3 a4 a5 a6 a7 k
  unfold rewrite_rule_suffix.f
  repeat' first
      | (with_reducible exact name_Count.mono _ _)
      | (with_reducible exact name_Labels.mono _ _)
      | (with_reducible exact name_Under.mono _ _ _)
      | (with_reducible exact LeO.refl _)
      | (with_reducible exact LeO.none _)
      | (with_reducible refine LeO.ite ?_ ?_)
      | (with_reducible refine LeO.bind ?_ (fun _ => ?_))
      | exact name_Count.mono _ _
      | exact name_Labels.mono _ _
      | exact name_Under.mono _ _ _
      | exact LeO.none _
      | refine LeO.ite ?_ ?_
      | refine LeO.bind ?_ (fun _ => ?_)
def rewrite_rule_suffix.T4 : Bool × List (List Nat × List Nat) := (true, [([], []), ([], []), ([], []), ([], []), ([3], [3]), ([], []), ([5], [5]), ([6], [6]), ([7], [7]), ([4, 8], [4, 8]), ([2, 9], [2, 9]), ([], []), ([11], [11]), ([12], [12]), ([13, 8], [13]), ([0, 1, 10, 14, 14], [0, 1, 10, 14]), ([15], [15]), ([15], [15]), ([16, 15, 0, 1, 2, 3, 4, 5, 6, 7, 8, 9, 10, 11, 12, 13, 14, 15, 16, 17], [16]), ([17, 18, 0, 1, 2, 3, 4, 5, 6, 7, 8, 9, 10, 11, 12, 13, 14, 15, 16, 17, 18], [17])])
def rewrite_rule_suffix.B4 : List Nat := [0, 0, 0, 0, 8, 0, 32, 96, 224, 504, 1020, 0, 2048, 6144, 14816, 32767, 65535, 65535, 262143, 524287]
theorem rewrite_rule_suffix.tab4 : rtab .any (opsOf Try.f41 4) = rewrite_rule_suffix.T4 := by kernel_rfl
theorem rewrite_rule_suffix.bits4 : waitsOk rewrite_rule_suffix.T4.2 rewrite_rule_suffix.B4 = true := by kernel_rfl
set_option maxHeartbeats 8000000 in
set_option maxRecDepth 100000 in
theorem rewrite_rule_suffix.calls (k : Nat) (a0_0 : Int) (a0_1 : ByteArray) (a0_2 : ByteArray) (a0_3 : Int) (a0_4 : Int) (a1_0 : ByteArray) (a1_1 : Int) (a1_2 : Int) (r1 : ByteArray) (r2 : Int) (r3 : Int) (r4 : Bool) (w : World) (h : rewrite_rule_suffix.f k a0_0 a0_1 a0_2 a0_3 a0_4 a1_0 a1_1 a1_2 = some (r1, r2, r3, r4)) :
    Calls Try.prog 41 #[.agg #[.int .u8 a0_0, .string a0_1, .string a0_2, .int .u16 a0_3, .int .u16 a0_4], .agg #[.string a1_0, .int .u16 a1_1, .int .u16 a1_2]] w fun e w' => e = .returned (.tuple #[.agg #[.string r1, .int .u16 r2, .int .u16 r3], .bool r4]) ∧ Below w.heap.size w w' := by
  have hu82 := Try.underlying82
  have hu32 := Try.underlying32
  have HB := Aside0.mk (Below.refl w.heap.size w)
  have H : ((name_Under.f k a1_0 a0_1).bind fun t664 => (if t664 = true then ((name_Labels.f k a1_0).bind fun t665 => ((name_Count.f k a0_1).bind fun t668 => (if 0 ≤ (wrap64 ((t665.length : Int) - t668)) then (if (wrap64 ((t665.length : Int) - t668)) ≤ (t665.length : Int) then ((name_Labels.f k a0_2).bind fun t673 => ((rewrite_rule_of.f a0_0 a0_1 a0_2 a0_3 a0_4 a1_0 a1_1 a1_2 (t665.take ((wrap64 ((t665.length : Int) - t668)) : Int).toNat) t673).bind fun bt676 => (some (bt676.1, bt676.2.1, bt676.2.2.1, bt676.2.2.2)))) else (none)) else (none)))) else (some ((⟨#[]⟩ : ByteArray), 0, 0, false)))) = some (r1, r2, r3, r4) := h
  clear h
  replace H := Option.bind_eq_some_iff.mp H
  obtain ⟨t664, A30, H⟩ := H
  replace H : (if t664 = true then ((name_Labels.f k a1_0).bind fun t665 => ((name_Count.f k a0_1).bind fun t668 => (if 0 ≤ (wrap64 ((t665.length : Int) - t668)) then (if (wrap64 ((t665.length : Int) - t668)) ≤ (t665.length : Int) then ((name_Labels.f k a0_2).bind fun t673 => ((rewrite_rule_of.f a0_0 a0_1 a0_2 a0_3 a0_4 a1_0 a1_1 a1_2 (t665.take ((wrap64 ((t665.length : Int) - t668)) : Int).toNat) t673).bind fun bt676 => (some (bt676.1, bt676.2.1, bt676.2.2.1, bt676.2.2.2)))) else (none)) else (none)))) else (some ((⟨#[]⟩ : ByteArray), 0, 0, false))) = some (r1, r2, r3, r4) := H
  have A3 := Aside0.mk A30
  clear A30
  by_cases c4 : t664 = true
  · subst c4
    have H1 : ((name_Labels.f k a1_0).bind fun t665 => ((name_Count.f k a0_1).bind fun t668 => (if 0 ≤ (wrap64 ((t665.length : Int) - t668)) then (if (wrap64 ((t665.length : Int) - t668)) ≤ (t665.length : Int) then ((name_Labels.f k a0_2).bind fun t673 => ((rewrite_rule_of.f a0_0 a0_1 a0_2 a0_3 a0_4 a1_0 a1_1 a1_2 (t665.take ((wrap64 ((t665.length : Int) - t668)) : Int).toNat) t673).bind fun bt676 => (some (bt676.1, bt676.2.1, bt676.2.2.1, bt676.2.2.2)))) else (none)) else (none)))) = some (r1, r2, r3, r4) := by rw [if_pos rfl] at H; exact H
    clear H
    have H := H1
    clear H1
    replace H := Option.bind_eq_some_iff.mp H
    obtain ⟨t665, A50, H⟩ := H
    replace H : ((name_Count.f k a0_1).bind fun t668 => (if 0 ≤ (wrap64 ((t665.length : Int) - t668)) then (if (wrap64 ((t665.length : Int) - t668)) ≤ (t665.length : Int) then ((name_Labels.f k a0_2).bind fun t673 => ((rewrite_rule_of.f a0_0 a0_1 a0_2 a0_3 a0_4 a1_0 a1_1 a1_2 (t665.take ((wrap64 ((t665.length : Int) - t668)) : Int).toNat) t673).bind fun bt676 => (some (bt676.1, bt676.2.1, bt676.2.2.1, bt676.2.2.2)))) else (none)) else (none))) = some (r1, r2, r3, r4) := H
    have A5 := Aside0.mk A50
    clear A50
    replace H := Option.bind_eq_some_iff.mp H
    obtain ⟨t668, A60, H⟩ := H
    replace H : (if 0 ≤ (wrap64 ((t665.length : Int) - t668)) then (if (wrap64 ((t665.length : Int) - t668)) ≤ (t665.length : Int) then ((name_Labels.f k a0_2).bind fun t673 => ((rewrite_rule_of.f a0_0 a0_1 a0_2 a0_3 a0_4 a1_0 a1_1 a1_2 (t665.take ((wrap64 ((t665.length : Int) - t668)) : Int).toNat) t673).bind fun bt676 => (some (bt676.1, bt676.2.1, bt676.2.2.1, bt676.2.2.2)))) else (none)) else (none)) = some (r1, r2, r3, r4) := H
    have A6 := Aside0.mk A60
    clear A60
    obtain ⟨ji7, hji7⟩ : ∃ j_ : Int, (wrap64 ((t665.length : Int) - t668)) = j_ := ⟨_, rfl⟩
    replace H : (if 0 ≤ (ji7) then (if (ji7) ≤ (t665.length : Int) then ((name_Labels.f k a0_2).bind fun t673 => ((rewrite_rule_of.f a0_0 a0_1 a0_2 a0_3 a0_4 a1_0 a1_1 a1_2 (t665.take ((ji7) : Int).toNat) t673).bind fun bt676 => (some (bt676.1, bt676.2.1, bt676.2.2.1, bt676.2.2.2)))) else (none)) else (none)) = some (r1, r2, r3, r4) := by first | (rw [hji7] at H; exact H) | (simp only [hji7] at H ⊢; exact H)
    (try rw [hji7] at A3)
    (try rw [hji7] at A5)
    (try rw [hji7] at A6)
    have hji7w : (IntKind.i64.wrap ((t665.length : Int) - t668)) = ji7 := (i64_w _).trans hji7
    by_cases c8 : 0 ≤ (ji7)
    · rw [if_pos c8] at H
      have c8b0 := eq_true c8
      have c8b1 : decide (0 ≤ (ji7)) = true := decide_eq_true c8
      clear c8
      by_cases c9 : (ji7) ≤ (t665.length : Int)
      · rw [if_pos c9] at H
        have c9b0 := eq_true c9
        have c9b1 : decide ((ji7) ≤ (t665.length : Int)) = true := decide_eq_true c9
        clear c9
        obtain ⟨y669, hy669⟩ : ∃ y_ : List ByteArray, y_ = (t665.take ((ji7) : Int).toNat) := ⟨_, rfl⟩
        replace H : ((name_Labels.f k a0_2).bind fun t673 => ((rewrite_rule_of.f a0_0 a0_1 a0_2 a0_3 a0_4 a1_0 a1_1 a1_2 y669 t673).bind fun bt676 => (some (bt676.1, bt676.2.1, bt676.2.2.1, bt676.2.2.2)))) = some (r1, r2, r3, r4) := by first | (rw [hy669]; with_reducible exact H) | (have H2_ := (Option.bind_some _ _).symm.trans H; rw [hy669]; with_reducible exact H2_) | (have H2_ := (Option.bind_some _ _).symm.trans H; with_reducible exact H2_) | with_reducible exact H | (rw [hy669]; exact H) | exact H
        have Ny669 := Aside0.mk hy669
        clear hy669
        replace H := Option.bind_eq_some_iff.mp H
        obtain ⟨t673, A100, H⟩ := H
        replace H : ((rewrite_rule_of.f a0_0 a0_1 a0_2 a0_3 a0_4 a1_0 a1_1 a1_2 y669 t673).bind fun bt676 => (some (bt676.1, bt676.2.1, bt676.2.2.1, bt676.2.2.2))) = some (r1, r2, r3, r4) := H
        have A10 := Aside0.mk A100
        clear A100
        replace H := Option.bind_eq_some_iff.mp H
        obtain ⟨⟨t676, t677, t678, t679⟩, A110, H⟩ := H
        replace H : (some (t676, t677, t678, t679)) = some (r1, r2, r3, r4) := H
        have A11 := Aside0.mk A110
        clear A110
        simp only [Option.some.injEq, Prod.mk.injEq] at H
        obtain ⟨rfl, rfl, rfl, rfl⟩ := H
        go_enter Try.func41, Try.ntmps41
        try go_wp2_with (first | ((with_reducible refine gate_dst (N := 2) rfl ?_); refine box_event ?hg (N := 2) ?hd (cs := #[.int .u8 a0_0, .string a0_1, .string a0_2, .int .u16 a0_3, .int .u16 a0_4]) (t := 82) ?hr ?_; (case hd => rfl); (case hg => rfl); (case hr => first | (go_simp; done) | (go_simp; rfl)); intro gb661 hg w12 hbox hb; have n0_ := Aside0.mk (below_step (by repeat (first | (with_reducible first | exact HB.out | apply below_alloc | apply pw_below_drewN | apply below_drew1) | exact HB.out)) hb); have n1_ := Aside0.mk (hbox); have n2_ := Aside0.mk ((by rw [hg]; exact (below_size (by repeat (first | (with_reducible first | exact HB.out | apply below_alloc | apply pw_below_drewN | apply below_drew1) | exact HB.out))) : w.heap.size ≤ gb661)); have n3_ := Aside0.mk ((by rw [hg]; exact (below_size (by repeat (first | (with_reducible first | exact HB.out | apply below_alloc | apply pw_below_drewN | apply below_drew1) | exact HB.out))) : w.heap.size ≤ gb661)); clear HB; have HB := n0_; have BK661 := n1_; have GW661 := n2_; have GE661 := n3_; clear n0_ n1_ n2_ n3_; clear hb hbox hg) | ((with_reducible refine gate_dst (N := 3) rfl ?_); refine box_event ?hg (N := 3) ?hd (cs := #[.string a1_0, .int .u16 a1_1, .int .u16 a1_2]) (t := 32) ?hr ?_; (case hd => rfl); (case hg => rfl); (case hr => first | (go_simp; done) | (go_simp; rfl)); intro gb662 hg w13 hbox hb; have n0_ := Aside0.mk (blk_below (g := gb661) (o := .cells #[.int .u8 a0_0, .string a0_1, .string a0_2, .int .u16 a0_3, .int .u16 a0_4] 82 (0, 0)) (by (with_reducible repeat (first | refine blk_drewN ?_ _ | refine blk_drew ?_ | refine blk_alloc ?_ _)); exact BK661.out) hb); have n1_ := Aside0.mk (below_step (by repeat (first | (with_reducible first | exact HB.out | apply below_alloc | apply pw_below_drewN | apply below_drew1 | refine below_set ?_ GE661.out) | exact HB.out)) hb); have n2_ := Aside0.mk (hbox); have n3_ := Aside0.mk ((by rw [hg]; exact (below_size (by repeat (first | (with_reducible first | exact HB.out | apply below_alloc | apply pw_below_drewN | apply below_drew1 | refine below_set ?_ GE661.out) | exact HB.out))) : w.heap.size ≤ gb662)); have n4_ := Aside0.mk ((by rw [hg]; exact (below_size (by repeat (first | (with_reducible first | exact HB.out | apply below_alloc | apply pw_below_drewN | apply below_drew1 | refine below_set ?_ GE661.out) | exact HB.out))) : w.heap.size ≤ gb662)); have n5_ := Aside0.mk ((by rw [hg]; exact Nat.ne_of_lt (blk_lt (g := gb661) (o := .cells #[.int .u8 a0_0, .string a0_1, .string a0_2, .int .u16 a0_3, .int .u16 a0_4] 82 (0, 0)) (by (with_reducible repeat (first | refine blk_drewN ?_ _ | refine blk_drew ?_ | refine blk_alloc ?_ _)); exact BK661.out)) : gb661 ≠ gb662)); have n6_ := Aside0.mk ((by rw [hg]; exact Nat.ne_of_gt (blk_lt (g := gb661) (o := .cells #[.int .u8 a0_0, .string a0_1, .string a0_2, .int .u16 a0_3, .int .u16 a0_4] 82 (0, 0)) (by (with_reducible repeat (first | refine blk_drewN ?_ _ | refine blk_drew ?_ | refine blk_alloc ?_ _)); exact BK661.out)) : gb662 ≠ gb661)); clear BK661; clear HB; have BK661 := n0_; have HB := n1_; have BK662 := n2_; have GW662 := n3_; have GE662 := n4_; have NB661_662 := n5_; have NB662_661 := n6_; clear n0_ n1_ n2_ n3_ n4_ n5_ n6_; clear hb hbox hg) | ((with_reducible refine gate_dst (N := 4) rfl ?_); refine box_event ?hg (N := 4) ?hd (cs := #[.string (⟨#[]⟩ : ByteArray), .int .u16 0, .int .u16 0]) (t := 32) ?hr ?_; (case hd => rfl); (case hg => rfl); (case hr => first | (go_simp; done) | (go_simp; rfl)); intro gb663 hg w14 hbox hb; have n0_ := Aside0.mk (blk_below (g := gb661) (o := .cells #[.int .u8 a0_0, .string a0_1, .string a0_2, .int .u16 a0_3, .int .u16 a0_4] 82 (0, 0)) (by (with_reducible repeat (first | refine blk_drewN ?_ _ | refine blk_drew ?_ | refine blk_alloc ?_ _)); exact BK661.out) hb); have n1_ := Aside0.mk (blk_below (g := gb662) (o := .cells #[.string a1_0, .int .u16 a1_1, .int .u16 a1_2] 32 (0, 0)) (by (with_reducible repeat (first | refine blk_drewN ?_ _ | refine blk_drew ?_ | refine blk_alloc ?_ _)); exact BK662.out) hb); have n2_ := Aside0.mk (below_step (by repeat (first | (with_reducible first | exact HB.out | apply below_alloc | apply pw_below_drewN | apply below_drew1 | refine below_set ?_ GE661.out | refine below_set ?_ GE662.out) | exact HB.out)) hb); have n3_ := Aside0.mk (hbox); have n4_ := Aside0.mk ((by rw [hg]; exact (below_size (by repeat (first | (with_reducible first | exact HB.out | apply below_alloc | apply pw_below_drewN | apply below_drew1 | refine below_set ?_ GE661.out | refine below_set ?_ GE662.out) | exact HB.out))) : w.heap.size ≤ gb663)); have n5_ := Aside0.mk ((by rw [hg]; exact (below_size (by repeat (first | (with_reducible first | exact HB.out | apply below_alloc | apply pw_below_drewN | apply below_drew1 | refine below_set ?_ GE661.out | refine below_set ?_ GE662.out) | exact HB.out))) : w.heap.size ≤ gb663)); have n6_ := Aside0.mk ((by rw [hg]; exact Nat.ne_of_lt (blk_lt (g := gb661) (o := .cells #[.int .u8 a0_0, .string a0_1, .string a0_2, .int .u16 a0_3, .int .u16 a0_4] 82 (0, 0)) (by (with_reducible repeat (first | refine blk_drewN ?_ _ | refine blk_drew ?_ | refine blk_alloc ?_ _)); exact BK661.out)) : gb661 ≠ gb663)); have n7_ := Aside0.mk ((by rw [hg]; exact Nat.ne_of_gt (blk_lt (g := gb661) (o := .cells #[.int .u8 a0_0, .string a0_1, .string a0_2, .int .u16 a0_3, .int .u16 a0_4] 82 (0, 0)) (by (with_reducible repeat (first | refine blk_drewN ?_ _ | refine blk_drew ?_ | refine blk_alloc ?_ _)); exact BK661.out)) : gb663 ≠ gb661)); have n8_ := Aside0.mk ((by rw [hg]; exact Nat.ne_of_lt (blk_lt (g := gb662) (o := .cells #[.string a1_0, .int .u16 a1_1, .int .u16 a1_2] 32 (0, 0)) (by (with_reducible repeat (first | refine blk_drewN ?_ _ | refine blk_drew ?_ | refine blk_alloc ?_ _)); exact BK662.out)) : gb662 ≠ gb663)); have n9_ := Aside0.mk ((by rw [hg]; exact Nat.ne_of_gt (blk_lt (g := gb662) (o := .cells #[.string a1_0, .int .u16 a1_1, .int .u16 a1_2] 32 (0, 0)) (by (with_reducible repeat (first | refine blk_drewN ?_ _ | refine blk_drew ?_ | refine blk_alloc ?_ _)); exact BK662.out)) : gb663 ≠ gb662)); clear BK661; clear BK662; clear HB; have BK661 := n0_; have BK662 := n1_; have HB := n2_; have BK663 := n3_; have GW663 := n4_; have GE663 := n5_; have NB661_663 := n6_; have NB663_661 := n7_; have NB662_663 := n8_; have NB663_662 := n9_; clear n0_ n1_ n2_ n3_ n4_ n5_ n6_ n7_ n8_ n9_; clear hb hbox hg; have hnb15 := NB662_661.out; have hnc15 := NB661_662.out; have hnb16 := NB662_663.out; have hnc16 := NB663_662.out; have hcz17_0 : w14.cell? ⟨gb662, 0, none⟩ = some (.string a1_0) := (blk_cell BK662.out 0).trans rfl; have hcz17_1 : w14.cell? ⟨gb662, 1, none⟩ = some (.int .u16 a1_1) := (blk_cell BK662.out 1).trans rfl; have hcz17_2 : w14.cell? ⟨gb662, 2, none⟩ = some (.int .u16 a1_2) := (blk_cell BK662.out 2).trans rfl; have hfz17_0 := blk_frozen BK662.out 0; have hfz17_1 := blk_frozen BK662.out 1; have hfz17_2 := blk_frozen BK662.out 2; have hnb18 := NB661_663.out; have hnc18 := NB663_661.out; have hcz19_0 : w14.cell? ⟨gb661, 0, none⟩ = some (.int .u8 a0_0) := (blk_cell BK661.out 0).trans rfl; have hcz19_1 : w14.cell? ⟨gb661, 1, none⟩ = some (.string a0_1) := (blk_cell BK661.out 1).trans rfl; have hcz19_2 : w14.cell? ⟨gb661, 2, none⟩ = some (.string a0_2) := (blk_cell BK661.out 2).trans rfl; have hcz19_3 : w14.cell? ⟨gb661, 3, none⟩ = some (.int .u16 a0_3) := (blk_cell BK661.out 3).trans rfl; have hcz19_4 : w14.cell? ⟨gb661, 4, none⟩ = some (.int .u16 a0_4) := (blk_cell BK661.out 4).trans rfl; have hfz19_0 := blk_frozen BK661.out 0; have hfz19_1 := blk_frozen BK661.out 1; have hfz19_2 := blk_frozen BK661.out 2; have hfz19_3 := blk_frozen BK661.out 3; have hfz19_4 := blk_frozen BK661.out 4) | ((with_reducible refine gate_callee (f := 51) rfl ?_); refine goesL_ (some 12) rfl rfl Try.func51 (by kernel_rfl) rfl #[.string a1_0, .string a0_1] rfl (by (try simp only [List.map_toArray, List.map_cons, List.map_nil]); first | done | rfl | (simp only [List.length_drop, List.length_take]; rfl)) ?_; (with_reducible refine (name_Under.calls k a1_0 a0_1 true _ A3.out).mono ?_); rintro e w20 ⟨rfl, hb⟩; refine ⟨_, rfl, ?_⟩; have n0_ := Aside0.mk (blk_below (g := gb661) (o := .cells #[.int .u8 a0_0, .string a0_1, .string a0_2, .int .u16 a0_3, .int .u16 a0_4] 82 (0, 0)) (by (with_reducible repeat (first | refine blk_drewN ?_ _ | refine blk_drew ?_ | refine blk_alloc ?_ _)); exact BK661.out) hb); have n1_ := Aside0.mk (blk_below (g := gb662) (o := .cells #[.string a1_0, .int .u16 a1_1, .int .u16 a1_2] 32 (0, 0)) (by (with_reducible repeat (first | refine blk_drewN ?_ _ | refine blk_drew ?_ | refine blk_alloc ?_ _)); exact BK662.out) hb); have n2_ := Aside0.mk (blk_below (g := gb663) (o := .cells #[.string (⟨#[]⟩ : ByteArray), .int .u16 0, .int .u16 0] 32 (0, 0)) (by (with_reducible repeat (first | refine blk_drewN ?_ _ | refine blk_drew ?_ | refine blk_alloc ?_ _)); exact BK663.out) hb); have n3_ := Aside0.mk (below_step (by repeat (first | (with_reducible first | exact HB.out | apply below_alloc | apply pw_below_drewN | apply below_drew1 | refine below_set ?_ GE661.out | refine below_set ?_ GE662.out | refine below_set ?_ GE663.out) | exact HB.out)) hb); clear BK661; clear BK662; clear BK663; clear HB; have BK661 := n0_; have BK662 := n1_; have BK663 := n2_; have HB := n3_; clear n0_ n1_ n2_ n3_; (try clear hb); (try clear hb2); (try clear hk); (try clear hi); have hcz21_0 : w20.cell? ⟨gb662, 0, none⟩ = some (.string a1_0) := (blk_cell BK662.out 0).trans rfl; have hcz21_1 : w20.cell? ⟨gb662, 1, none⟩ = some (.int .u16 a1_1) := (blk_cell BK662.out 1).trans rfl; have hcz21_2 : w20.cell? ⟨gb662, 2, none⟩ = some (.int .u16 a1_2) := (blk_cell BK662.out 2).trans rfl; have hfz21_0 := blk_frozen BK662.out 0; have hfz21_1 := blk_frozen BK662.out 1; have hfz21_2 := blk_frozen BK662.out 2) | ((with_reducible refine gate_callee (f := 52) rfl ?_); refine goesL_ (some 17) rfl rfl Try.func52 (by kernel_rfl) rfl #[.string a1_0] rfl (by (try simp only [List.map_toArray, List.map_cons, List.map_nil]); first | done | rfl | (simp only [List.length_drop, List.length_take]; rfl)) ?_; (with_reducible refine (name_Labels.calls k a1_0 t665 _ A5.out).mono ?_); rintro e w22 ⟨v666, rfl, ho0, hb⟩; refine ⟨_, rfl, ?_⟩; have n0_ := Aside0.mk (Kd.R_lower ho0 (below_size (by repeat (first | (with_reducible first | exact HB.out | apply below_alloc | apply pw_below_drewN | apply below_drew1 | refine below_set ?_ GE661.out | refine below_set ?_ GE662.out | refine below_set ?_ GE663.out) | exact HB.out)))); have n1_ := Aside0.mk (blk_below (g := gb661) (o := .cells #[.int .u8 a0_0, .string a0_1, .string a0_2, .int .u16 a0_3, .int .u16 a0_4] 82 (0, 0)) (by (with_reducible repeat (first | refine blk_drewN ?_ _ | refine blk_drew ?_ | refine blk_alloc ?_ _)); exact BK661.out) hb); have n2_ := Aside0.mk (blk_below (g := gb662) (o := .cells #[.string a1_0, .int .u16 a1_1, .int .u16 a1_2] 32 (0, 0)) (by (with_reducible repeat (first | refine blk_drewN ?_ _ | refine blk_drew ?_ | refine blk_alloc ?_ _)); exact BK662.out) hb); have n3_ := Aside0.mk (blk_below (g := gb663) (o := .cells #[.string (⟨#[]⟩ : ByteArray), .int .u16 0, .int .u16 0] 32 (0, 0)) (by (with_reducible repeat (first | refine blk_drewN ?_ _ | refine blk_drew ?_ | refine blk_alloc ?_ _)); exact BK663.out) hb); have n4_ := Aside0.mk (below_step (by repeat (first | (with_reducible first | exact HB.out | apply below_alloc | apply pw_below_drewN | apply below_drew1 | refine below_set ?_ GE661.out | refine below_set ?_ GE662.out | refine below_set ?_ GE663.out) | exact HB.out)) hb); clear BK661; clear BK662; clear BK663; clear HB; have HO667 := n0_; have BK661 := n1_; have BK662 := n2_; have BK663 := n3_; have HB := n4_; clear n0_ n1_ n2_ n3_ n4_; (try clear hb); (try clear hb2); (try clear hk); (try clear hi); (try clear ho0)))
        have n0_ := Aside0.mk (Kd.R_drew HO667.out)
        have n1_ := Aside0.mk (blk_drew BK661.out)
        have n2_ := Aside0.mk (blk_drew BK662.out)
        have n3_ := Aside0.mk (blk_drew BK663.out)
        have n4_ := Aside0.mk (below_drew1 HB.out)
        clear HO667
        clear BK661
        clear BK662
        clear BK663
        clear HB
        have HO667 := n0_
        have BK661 := n1_
        have BK662 := n2_
        have BK663 := n3_
        have HB := n4_
        clear n0_ n1_ n2_ n3_ n4_
        obtain ⟨Ao24, co24, eo24⟩ := Kd.R_slice HO667.out
        (first | subst eo24 | (injection eo24 with f1_ f2_ f3_; have f4_ := f1_.symm; have f5_ := f3_.symm; clear f1_ f2_ f3_; subst f4_; subst f5_))
        refine start_ (n := 20) (S := fun w' => w'.cell? ⟨gb661, 0, none⟩ = some (.int .u8 a0_0) ∧ w'.cell? ⟨gb661, 1, none⟩ = some (.string a0_1) ∧ w'.cell? ⟨gb661, 2, none⟩ = some (.string a0_2) ∧ w'.cell? ⟨gb661, 3, none⟩ = some (.int .u16 a0_3) ∧ w'.cell? ⟨gb661, 4, none⟩ = some (.int .u16 a0_4) ∧ w'.cell? ⟨gb662, 0, none⟩ = some (.string a1_0) ∧ w'.cell? ⟨gb662, 1, none⟩ = some (.int .u16 a1_1) ∧ w'.cell? ⟨gb662, 2, none⟩ = some (.int .u16 a1_2)) (ds := []) #[false, false, false, false, false, false, false, false, false, false, false, false, false, false, false, false, false, false, false, false] (by kernel_rfl) rfl rfl ⟨(blk_cell BK661.out 0).trans rfl, (blk_cell BK661.out 1).trans rfl, (blk_cell BK661.out 2).trans rfl, (blk_cell BK661.out 3).trans rfl, (blk_cell BK661.out 4).trans rfl, (blk_cell BK662.out 0).trans rfl, (blk_cell BK662.out 1).trans rfl, (blk_cell BK662.out 2).trans rfl⟩ (fun hHeld => ?_); refine with_tabW rewrite_rule_suffix.tab4 rewrite_rule_suffix.bits4 (fun HT_ HW_ => ?_)
        generalize w22.drew = w23 at HO667 BK661 BK662 BK663 HB hHeld ⊢
        refine pure_ (i := 2) (N := some 20) (v := ?_) (a' := ?_) #[false, false, true, false, false, false, false, false, false, false, false, false, false, false, false, false, false, false, false, false] rfl rfl (any_of HT_.out (by kernel_rfl)) (fun _ _ _ h => h) (Or.inl ⟨by rfl, ?_⟩) ?_ ?_
        rotate_left
        · intro w'
          go_simp
          with_reducible rfl
        rotate_left
        · simp only [Act.put, List.setIfInBounds_toArray, List.set_cons_zero, List.set_cons_succ, i64_w, i32_w]
          rfl
        refine pure_ (i := 3) (N := some 21) (v := ?_) (a' := ?_) #[false, false, true, true, false, false, false, false, false, false, false, false, false, false, false, false, false, false, false, false] rfl rfl (any_of HT_.out (by kernel_rfl)) (fun _ _ _ h => h) (Or.inl ⟨by rfl, ?_⟩) ?_ ?_
        rotate_left
        · intro w'
          go_simp
          with_reducible rfl
        rotate_left
        · simp only [Act.put, List.setIfInBounds_toArray, List.set_cons_zero, List.set_cons_succ, i64_w, i32_w]
          rfl
        refine pure_ (i := 4) (N := some 22) (v := ?_) (a' := ?_) #[false, false, true, true, true, false, false, false, false, false, false, false, false, false, false, false, false, false, false, false] rfl rfl (any_of HT_.out (by kernel_rfl)) (fun _ _ _ h => h) (Or.inl ⟨by rfl, ?_⟩) ?_ ?_
        rotate_left
        · intro w'
          go_simp
          with_reducible rfl
        rotate_left
        · simp only [Act.put, List.setIfInBounds_toArray, List.set_cons_zero, List.set_cons_succ, i64_w, i32_w]
          rfl
        refine pure_ (i := 5) (N := some 23) (v := ?_) (a' := ?_) #[false, false, true, true, true, true, false, false, false, false, false, false, false, false, false, false, false, false, false, false] rfl rfl (any_of HT_.out (by kernel_rfl)) (fun _ _ _ h => h) (Or.inl ⟨by rfl, ?_⟩) ?_ ?_
        rotate_left
        · intro w'
          go_simp
          with_reducible rfl
        rotate_left
        · simp only [Act.put, List.setIfInBounds_toArray, List.set_cons_zero, List.set_cons_succ, i64_w, i32_w]
          rfl
        refine pure_ (i := 6) (N := some 24) (v := ?_) (a' := ?_) #[false, false, true, true, true, true, true, false, false, false, false, false, false, false, false, false, false, false, false, false] rfl rfl (any_of HT_.out (by kernel_rfl)) (fun _ _ _ h => h) (Or.inl ⟨by rfl, ?_⟩) ?_ ?_
        rotate_left
        · intro w'
          go_simp
          with_reducible rfl
        rotate_left
        · simp only [Act.put, List.setIfInBounds_toArray, List.set_cons_zero, List.set_cons_succ, i64_w, i32_w]
          rfl
        refine pure_ (i := 11) (N := some 29) (v := ?_) (a' := ?_) #[false, false, true, true, true, true, true, false, false, false, false, true, false, false, false, false, false, false, false, false] rfl rfl (any_of HT_.out (by kernel_rfl)) (fun _ _ _ h => h) (Or.inl ⟨by rfl, ?_⟩) ?_ ?_
        rotate_left
        · intro w'
          go_simp
          with_reducible rfl
        rotate_left
        · simp only [Act.put, List.setIfInBounds_toArray, List.set_cons_zero, List.set_cons_succ, i64_w, i32_w]
          rfl
        refine pure_ (i := 12) (N := some 30) (v := ?_) (a' := ?_) #[false, false, true, true, true, true, true, false, false, false, false, true, true, false, false, false, false, false, false, false] rfl rfl (any_of HT_.out (by kernel_rfl)) (fun _ _ _ h => h) (Or.inl ⟨by rfl, ?_⟩) ?_ ?_
        rotate_left
        · intro w'
          go_simp
          with_reducible rfl
        rotate_left
        · simp only [Act.put, List.setIfInBounds_toArray, List.set_cons_zero, List.set_cons_succ, i64_w, i32_w]
          rfl
        refine take_ (i := 0) (N := some 18) (v := ?_) (a' := ?_) #[true, false, true, true, true, true, true, false, false, false, false, true, true, false, false, false, false, false, false, false] rfl rfl (take_ofW HT_.out HW_.out (by kernel_rfl)) (fun _ _ _ h => h) (Or.inl ⟨by rfl, ?_⟩) hHeld ?_ ?_
        rotate_left
        · rintro w' ⟨s0, s1, s2, s3, s4, s5, s6, s7⟩
          go_simp
          with_reducible rfl
        rotate_left
        · simp only [Act.put, List.setIfInBounds_toArray, List.set_cons_zero, List.set_cons_succ, i64_w, i32_w]
          rfl
        refine take_ (i := 1) (N := some 19) (v := ?_) (a' := ?_) #[true, true, true, true, true, true, true, false, false, false, false, true, true, false, false, false, false, false, false, false] rfl rfl (take_ofW HT_.out HW_.out (by kernel_rfl)) (fun _ _ _ h => h) (Or.inl ⟨by rfl, ?_⟩) hHeld ?_ ?_
        rotate_left
        · rintro w' ⟨s0, s1, s2, s3, s4, s5, s6, s7⟩
          go_simp
          with_reducible rfl
        rotate_left
        · simp only [Act.put, List.setIfInBounds_toArray, List.set_cons_zero, List.set_cons_succ, i64_w, i32_w]
          rfl
        refine take_ (i := 7) (N := some 25) (v := ?_) (a' := ?_) #[true, true, true, true, true, true, true, true, false, false, false, true, true, false, false, false, false, false, false, false] rfl rfl (take_ofW HT_.out HW_.out (by kernel_rfl)) (fun _ _ _ h => h) (Or.inl ⟨by rfl, ?_⟩) hHeld ?_ ?_
        rotate_left
        · rintro w' ⟨s0, s1, s2, s3, s4, s5, s6, s7⟩
          go_simp
          with_reducible rfl
        rotate_left
        · simp only [Act.put, List.setIfInBounds_toArray, List.set_cons_zero, List.set_cons_succ, i64_w, i32_w]
          rfl
        refine take_ (i := 13) (N := some 31) (v := ?_) (a' := ?_) #[true, true, true, true, true, true, true, true, false, false, false, true, true, true, false, false, false, false, false, false] rfl rfl (take_ofW HT_.out HW_.out (by kernel_rfl)) (fun _ _ _ h => h) (Or.inl ⟨by rfl, ?_⟩) hHeld ?_ ?_
        rotate_left
        · rintro w' ⟨s0, s1, s2, s3, s4, s5, s6, s7⟩
          go_simp
          with_reducible rfl
        rotate_left
        · simp only [Act.put, List.setIfInBounds_toArray, List.set_cons_zero, List.set_cons_succ, i64_w, i32_w]
          rfl
        refine one_ (i := 8) (N := some 26) #[true, true, true, true, true, true, true, true, true, false, false, true, true, true, false, false, false, false, false, false] rfl rfl (one_of HT_.out (by kernel_rfl)) (by decide) (fun K hK => ?_)
        refine goes_ Try.func54 (by kernel_rfl) rfl #[.string a0_1] (by rfl) rfl rfl (by (try simp only [List.map_toArray, List.map_cons, List.map_nil]); first | done | rfl | (simp only [List.length_drop, List.length_take]; rfl)) ?_
        with_reducible refine (name_Count.calls k a0_1 t668 _ A6.out).mono ?_
        rintro e w25 ⟨rfl, hb⟩
        refine ⟨_, rfl, ?_⟩
        have n0_ := Aside0.mk (Kd.R_below (by (with_reducible repeat (first | apply Kd.R_alloc | apply Kd.R_drewN | apply Kd.R_drew)); exact HO667.out) hb)
        have n1_ := Aside0.mk (blk_below (g := gb661) (o := .cells #[.int .u8 a0_0, .string a0_1, .string a0_2, .int .u16 a0_3, .int .u16 a0_4] 82 (0, 0)) (by (with_reducible repeat (first | refine blk_drewN ?_ _ | refine blk_drew ?_ | refine blk_alloc ?_ _)); exact BK661.out) hb)
        have n2_ := Aside0.mk (blk_below (g := gb662) (o := .cells #[.string a1_0, .int .u16 a1_1, .int .u16 a1_2] 32 (0, 0)) (by (with_reducible repeat (first | refine blk_drewN ?_ _ | refine blk_drew ?_ | refine blk_alloc ?_ _)); exact BK662.out) hb)
        have n3_ := Aside0.mk (blk_below (g := gb663) (o := .cells #[.string (⟨#[]⟩ : ByteArray), .int .u16 0, .int .u16 0] 32 (0, 0)) (by (with_reducible repeat (first | refine blk_drewN ?_ _ | refine blk_drew ?_ | refine blk_alloc ?_ _)); exact BK663.out) hb)
        have n4_ := Aside0.mk (below_step (by repeat (first | (with_reducible first | exact HB.out | apply below_alloc | apply pw_below_drewN | apply below_drew1 | refine below_set ?_ GE661.out | refine below_set ?_ GE662.out | refine below_set ?_ GE663.out) | exact HB.out)) hb)
        clear HO667
        clear BK661
        clear BK662
        clear BK663
        clear HB
        have HO667 := n0_
        have BK661 := n1_
        have BK662 := n2_
        have BK663 := n3_
        have HB := n4_
        clear n0_ n1_ n2_ n3_ n4_
        (try clear hb)
        (try clear hb2)
        (try clear hk)
        (try clear hi)
        have q26 : ((ji7) : Int) ≤ ((t665.length : Int) : Int) := of_decide_eq_true (by first | (with_reducible assumption) | assumption)
        obtain ⟨i026, hi026, _, hsz26, _⟩ := info_parts info9
        have hroom26 : t665.length ≤ co24 := (Kd.R_reads' HO667.out).2.1
        have hC26 : Kd.C Kd.string _ Ao24 t665.length t665 := (Kd.R_reads' HO667.out).2.2
        have hcut26 := cut_to (P := Try.prog) 40 9 .i64 Try.underlying40 hi026 Ao24 t665.length co24 (ji7) (of_decide_eq_true (by first | (with_reducible assumption) | assumption)) q26 hroom26
        have hr26 := Kd.C_take (m := ((ji7) : Int).toNat) hC26 (by omega)
        have hy26 : y669.length = ((ji7) : Int).toNat := (by rw [Ny669.out, List.length_take]; omega)
        rw [← Ny669.out] at hr26
        rw [← hy26] at hcut26
        have HR672 := Aside0.mk hr26
        have HC672 := Aside0.mk (show y669.length ≤ co24 from by omega)
        clear hr26 hC26 hroom26 hi026 hsz26
        have KY26 := Aside0.mk hy26
        clear hy26
        have KL26 := Aside0.mk (show ((ji7) : Int).toNat ≤ t665.length from by omega)
        replace q26 := eq_true q26
        refine hK.out _ _ ⟨(blk_cell BK661.out 0).trans rfl, (blk_cell BK661.out 1).trans rfl, (blk_cell BK661.out 2).trans rfl, (blk_cell BK661.out 3).trans rfl, (blk_cell BK661.out 4).trans rfl, (blk_cell BK662.out 0).trans rfl, (blk_cell BK662.out 1).trans rfl, (blk_cell BK662.out 2).trans rfl⟩ (fun hHeld => ?_)
        clear hK K
        refine norm_ (a' := ?_) ?_ ?_
        rotate_left
        · show Act.put _ (some 26) _ = _
          simp only [Act.put, List.setIfInBounds_toArray, List.set_cons_zero, List.set_cons_succ, i64_w, i32_w]
          rfl
        refine pure_ (i := 9) (N := some 27) (v := ?_) (a' := ?_) #[true, true, true, true, true, true, true, true, true, true, false, true, true, true, false, false, false, false, false, false] rfl rfl (any_of HT_.out (by kernel_rfl)) (fun _ _ _ h => h) (Or.inl ⟨by rfl, ?_⟩) ?_ ?_
        rotate_left
        · intro w'
          go_simp
          with_reducible rfl
        rotate_left
        · simp only [Act.put, List.setIfInBounds_toArray, List.set_cons_zero, List.set_cons_succ, i64_w, i32_w]
          rfl
        refine pure_ (i := 10) (N := some 28) (v := ?_) (a' := ?_) #[true, true, true, true, true, true, true, true, true, true, true, true, true, true, false, false, false, false, false, false] rfl rfl (any_of HT_.out (by kernel_rfl)) (fun _ _ _ h => h) (Or.inl ⟨by rfl, ?_⟩) ?_ ?_
        rotate_left
        · intro w'
          go_simp
          with_reducible rfl
        rotate_left
        · simp only [Act.put, List.setIfInBounds_toArray, List.set_cons_zero, List.set_cons_succ, i64_w, i32_w]
          rfl
        refine one_ (i := 14) (N := some 32) #[true, true, true, true, true, true, true, true, true, true, true, true, true, true, true, false, false, false, false, false] rfl rfl (one_of HT_.out (by kernel_rfl)) (by decide) (fun K hK => ?_)
        refine goes_ Try.func52 (by kernel_rfl) rfl #[.string a0_2] (by rfl) rfl rfl (by (try simp only [List.map_toArray, List.map_cons, List.map_nil]); first | done | rfl | (simp only [List.length_drop, List.length_take]; rfl)) ?_
        with_reducible refine (name_Labels.calls k a0_2 t673 _ A10.out).mono ?_
        rintro e w27 ⟨v674, rfl, ho0, hb⟩
        refine ⟨_, rfl, ?_⟩
        have n0_ := Aside0.mk (Kd.R_elder' (by (with_reducible repeat (first | apply Kd.R_alloc | apply Kd.R_drewN | apply Kd.R_drew)); exact HO667.out) (Kd.R_base ho0) hb)
        have n1_ := Aside0.mk (Kd.R_lower (Kd.R_new' ho0 (Kd.R_lt (by (with_reducible repeat (first | apply Kd.R_alloc | apply Kd.R_drewN | apply Kd.R_drew)); exact HO667.out))) (below_size (by repeat (first | (with_reducible first | exact HB.out | apply below_alloc | apply pw_below_drewN | apply below_drew1 | refine below_set ?_ GE661.out | refine below_set ?_ GE662.out | refine below_set ?_ GE663.out) | exact HB.out))))
        have n2_ := Aside0.mk (blk_below (g := gb661) (o := .cells #[.int .u8 a0_0, .string a0_1, .string a0_2, .int .u16 a0_3, .int .u16 a0_4] 82 (0, 0)) (by (with_reducible repeat (first | refine blk_drewN ?_ _ | refine blk_drew ?_ | refine blk_alloc ?_ _)); exact BK661.out) hb)
        have n3_ := Aside0.mk (blk_below (g := gb662) (o := .cells #[.string a1_0, .int .u16 a1_1, .int .u16 a1_2] 32 (0, 0)) (by (with_reducible repeat (first | refine blk_drewN ?_ _ | refine blk_drew ?_ | refine blk_alloc ?_ _)); exact BK662.out) hb)
        have n4_ := Aside0.mk (blk_below (g := gb663) (o := .cells #[.string (⟨#[]⟩ : ByteArray), .int .u16 0, .int .u16 0] 32 (0, 0)) (by (with_reducible repeat (first | refine blk_drewN ?_ _ | refine blk_drew ?_ | refine blk_alloc ?_ _)); exact BK663.out) hb)
        have n5_ := Aside0.mk (Kd.C_below (by repeat (first | (with_reducible exact HR672.out) | (with_reducible refine Kd.C_alloc ?_ _) | (with_reducible refine Kd.C_drewN ?_ _) | (with_reducible refine Kd.C_drew ?_) | exact HR672.out)) hb)
        have n6_ := Aside0.mk (below_step (by repeat (first | (with_reducible first | exact HB.out | apply below_alloc | apply pw_below_drewN | apply below_drew1 | refine below_set ?_ GE661.out | refine below_set ?_ GE662.out | refine below_set ?_ GE663.out) | exact HB.out)) hb)
        clear HO667
        clear BK661
        clear BK662
        clear BK663
        clear HR672
        clear HB
        have HO667 := n0_
        have HO675 := n1_
        have BK661 := n2_
        have BK662 := n3_
        have BK663 := n4_
        have HR672 := n5_
        have HB := n6_
        clear n0_ n1_ n2_ n3_ n4_ n5_ n6_
        (try clear hb)
        (try clear hb2)
        (try clear hk)
        (try clear hi)
        (try clear ho0)
        obtain ⟨Ao28, co28, eo28⟩ := Kd.R_slice HO675.out
        (first | subst eo28 | (injection eo28 with f1_ f2_ f3_; have f4_ := f1_.symm; have f5_ := f3_.symm; clear f1_ f2_ f3_; subst f4_; subst f5_))
        refine hK.out _ _ ⟨(blk_cell BK661.out 0).trans rfl, (blk_cell BK661.out 1).trans rfl, (blk_cell BK661.out 2).trans rfl, (blk_cell BK661.out 3).trans rfl, (blk_cell BK661.out 4).trans rfl, (blk_cell BK662.out 0).trans rfl, (blk_cell BK662.out 1).trans rfl, (blk_cell BK662.out 2).trans rfl⟩ (fun hHeld => ?_)
        clear hK K
        refine norm_ (a' := ?_) ?_ ?_
        rotate_left
        · show Act.put _ (some 32) _ = _
          simp only [Act.put, List.setIfInBounds_toArray, List.set_cons_zero, List.set_cons_succ, i64_w, i32_w]
          rfl
        refine one_ (i := 15) (N := some 33) #[true, true, true, true, true, true, true, true, true, true, true, true, true, true, true, true, false, false, false, false] rfl rfl (one_of HT_.out (by kernel_rfl)) (by decide) (fun K hK => ?_)
        refine goes_ Try.func53 (by kernel_rfl) rfl #[.agg #[.int .u8 a0_0, .string a0_1, .string a0_2, .int .u16 a0_3, .int .u16 a0_4], .agg #[.string a1_0, .int .u16 a1_1, .int .u16 a1_2], .slice Ao24 y669.length co24, .slice Ao28 t673.length co28] (by rfl) rfl rfl (by (try simp only [List.map_toArray, List.map_cons, List.map_nil]); first | done | rfl | (simp only [List.length_drop, List.length_take]; rfl)) ?_
        with_reducible refine (rewrite_rule_of.calls a0_0 a0_1 a0_2 a0_3 a0_4 a1_0 a1_1 a1_2 _ _ y669 _ _ t673 t676 t677 t678 t679 _ ?side1 ?side2 ?side3 ?side4 A11.out).mono ?_
        (case side1 => repeat (first | exact (by repeat (first | (with_reducible exact HR672.out) | (with_reducible refine Kd.C_alloc ?_ _) | (with_reducible refine Kd.C_drewN ?_ _) | (with_reducible refine Kd.C_drew ?_) | exact HR672.out)) | (with_reducible refine Kd.C_alloc ?_ _) | (with_reducible refine Kd.C_drewN ?_ _) | (with_reducible refine Kd.C_drew ?_)))
        (case side2 => exact HC672.out)
        (case side3 => repeat (first | exact (Kd.R_reads' HO675.out).2.2 | (with_reducible refine Kd.C_alloc ?_ _) | (with_reducible refine Kd.C_drewN ?_ _) | (with_reducible refine Kd.C_drew ?_)))
        (case side4 => exact (Kd.R_reads' HO675.out).2.1)
        rintro e w29 ⟨rfl, hb⟩
        refine ⟨_, rfl, ?_⟩
        have n0_ := Aside0.mk (Kd.R_below (by (with_reducible repeat (first | apply Kd.R_alloc | apply Kd.R_drewN | apply Kd.R_drew)); exact HO667.out) hb)
        have n1_ := Aside0.mk (Kd.R_below (by (with_reducible repeat (first | apply Kd.R_alloc | apply Kd.R_drewN | apply Kd.R_drew)); exact HO675.out) hb)
        have n2_ := Aside0.mk (blk_below (g := gb661) (o := .cells #[.int .u8 a0_0, .string a0_1, .string a0_2, .int .u16 a0_3, .int .u16 a0_4] 82 (0, 0)) (by (with_reducible repeat (first | refine blk_drewN ?_ _ | refine blk_drew ?_ | refine blk_alloc ?_ _)); exact BK661.out) hb)
        have n3_ := Aside0.mk (blk_below (g := gb662) (o := .cells #[.string a1_0, .int .u16 a1_1, .int .u16 a1_2] 32 (0, 0)) (by (with_reducible repeat (first | refine blk_drewN ?_ _ | refine blk_drew ?_ | refine blk_alloc ?_ _)); exact BK662.out) hb)
        have n4_ := Aside0.mk (blk_below (g := gb663) (o := .cells #[.string (⟨#[]⟩ : ByteArray), .int .u16 0, .int .u16 0] 32 (0, 0)) (by (with_reducible repeat (first | refine blk_drewN ?_ _ | refine blk_drew ?_ | refine blk_alloc ?_ _)); exact BK663.out) hb)
        have n5_ := Aside0.mk (Kd.C_below (by repeat (first | (with_reducible exact HR672.out) | (with_reducible refine Kd.C_alloc ?_ _) | (with_reducible refine Kd.C_drewN ?_ _) | (with_reducible refine Kd.C_drew ?_) | exact HR672.out)) hb)
        have n6_ := Aside0.mk (below_step (by repeat (first | (with_reducible first | exact HB.out | apply below_alloc | apply pw_below_drewN | apply below_drew1 | refine below_set ?_ GE661.out | refine below_set ?_ GE662.out | refine below_set ?_ GE663.out) | exact HB.out)) hb)
        clear HO667
        clear HO675
        clear BK661
        clear BK662
        clear BK663
        clear HR672
        clear HB
        have HO667 := n0_
        have HO675 := n1_
        have BK661 := n2_
        have BK662 := n3_
        have BK663 := n4_
        have HR672 := n5_
        have HB := n6_
        clear n0_ n1_ n2_ n3_ n4_ n5_ n6_
        (try clear hb)
        (try clear hb2)
        (try clear hk)
        (try clear hi)
        refine hK.out _ _ ⟨(blk_cell BK661.out 0).trans rfl, (blk_cell BK661.out 1).trans rfl, (blk_cell BK661.out 2).trans rfl, (blk_cell BK661.out 3).trans rfl, (blk_cell BK661.out 4).trans rfl, (blk_cell BK662.out 0).trans rfl, (blk_cell BK662.out 1).trans rfl, (blk_cell BK662.out 2).trans rfl⟩ (fun hHeld => ?_)
        clear hK K
        refine norm_ (a' := ?_) ?_ ?_
        rotate_left
        · show Act.put _ (some 33) _ = _
          simp only [Act.put, List.setIfInBounds_toArray, List.set_cons_zero, List.set_cons_succ, i64_w, i32_w]
          rfl
        refine pure_ (i := 16) (N := some 34) (v := ?_) (a' := ?_) #[true, true, true, true, true, true, true, true, true, true, true, true, true, true, true, true, true, false, false, false] rfl rfl (any_of HT_.out (by kernel_rfl)) (fun _ _ _ h => h) (Or.inl ⟨by rfl, ?_⟩) ?_ ?_
        rotate_left
        · intro w'
          go_simp
          with_reducible rfl
        rotate_left
        · simp only [Act.put, List.setIfInBounds_toArray, List.set_cons_zero, List.set_cons_succ, i64_w, i32_w]
          rfl
        refine pure_ (i := 17) (N := some 35) (v := ?_) (a' := ?_) #[true, true, true, true, true, true, true, true, true, true, true, true, true, true, true, true, true, true, false, false] rfl rfl (any_of HT_.out (by kernel_rfl)) (fun _ _ _ h => h) (Or.inl ⟨by rfl, ?_⟩) ?_ ?_
        rotate_left
        · intro w'
          go_simp
          with_reducible rfl
        rotate_left
        · simp only [Act.put, List.setIfInBounds_toArray, List.set_cons_zero, List.set_cons_succ, i64_w, i32_w]
          rfl
        refine one_ (i := 18) (N := none) #[true, true, true, true, true, true, true, true, true, true, true, true, true, true, true, true, true, true, true, false] rfl rfl (one_of HT_.out (by kernel_rfl)) (by decide) (fun K hK => ?_)
        have hs30 : w29.cell? ⟨gb663, 0, none⟩ = some (.string (⟨#[]⟩ : ByteArray)) := (blk_cell BK663.out 0).trans rfl
        have hfs30 := blk_frozen BK663.out 0
        have hns30_0 := NB661_663.out
        have hns30_1 := NB662_663.out
        have hms30_0 := NB663_661.out
        have hms30_1 := NB663_662.out
        have hs31 : w29.cell? ⟨gb663, 1, none⟩ = some (.int .u16 0) := (blk_cell BK663.out 1).trans rfl
        have hfs31 := blk_frozen BK663.out 1
        have hns31_0 := NB661_663.out
        have hns31_1 := NB662_663.out
        have hms31_0 := NB663_661.out
        have hms31_1 := NB663_662.out
        have hs32 : w29.cell? ⟨gb663, 2, none⟩ = some (.int .u16 0) := (blk_cell BK663.out 2).trans rfl
        have hfs32 := blk_frozen BK663.out 2
        have hns32_0 := NB661_663.out
        have hns32_1 := NB662_663.out
        have hms32_0 := NB663_661.out
        have hms32_1 := NB663_662.out
        refine skip_ (w1 := ?_) (by rfl) rfl ?_ ?_
        rotate_left
        · go_simp
          rfl
        refine hK.out _ _ ⟨((cell_far (p := ⟨gb663, _, none⟩) NB661_663.out _).trans (((cell_far (p := ⟨gb663, _, none⟩) NB661_663.out _).trans (((cell_far (p := ⟨gb663, _, none⟩) NB661_663.out _).trans (hHeld.1)))))), ((cell_far (p := ⟨gb663, _, none⟩) NB661_663.out _).trans (((cell_far (p := ⟨gb663, _, none⟩) NB661_663.out _).trans (((cell_far (p := ⟨gb663, _, none⟩) NB661_663.out _).trans (hHeld.2.1)))))), ((cell_far (p := ⟨gb663, _, none⟩) NB661_663.out _).trans (((cell_far (p := ⟨gb663, _, none⟩) NB661_663.out _).trans (((cell_far (p := ⟨gb663, _, none⟩) NB661_663.out _).trans (hHeld.2.2.1)))))), ((cell_far (p := ⟨gb663, _, none⟩) NB661_663.out _).trans (((cell_far (p := ⟨gb663, _, none⟩) NB661_663.out _).trans (((cell_far (p := ⟨gb663, _, none⟩) NB661_663.out _).trans (hHeld.2.2.2.1)))))), ((cell_far (p := ⟨gb663, _, none⟩) NB661_663.out _).trans (((cell_far (p := ⟨gb663, _, none⟩) NB661_663.out _).trans (((cell_far (p := ⟨gb663, _, none⟩) NB661_663.out _).trans (hHeld.2.2.2.2.1)))))), ((cell_far (p := ⟨gb663, _, none⟩) NB662_663.out _).trans (((cell_far (p := ⟨gb663, _, none⟩) NB662_663.out _).trans (((cell_far (p := ⟨gb663, _, none⟩) NB662_663.out _).trans (hHeld.2.2.2.2.2.1)))))), ((cell_far (p := ⟨gb663, _, none⟩) NB662_663.out _).trans (((cell_far (p := ⟨gb663, _, none⟩) NB662_663.out _).trans (((cell_far (p := ⟨gb663, _, none⟩) NB662_663.out _).trans (hHeld.2.2.2.2.2.2.1)))))), ((cell_far (p := ⟨gb663, _, none⟩) NB662_663.out _).trans (((cell_far (p := ⟨gb663, _, none⟩) NB662_663.out _).trans (((cell_far (p := ⟨gb663, _, none⟩) NB662_663.out _).trans (hHeld.2.2.2.2.2.2.2))))))⟩ (fun hHeld => ?_)
        clear hK K
        refine pure_ (i := 19) (N := some 5) (v := ?_) (a' := ?_) #[true, true, true, true, true, true, true, true, true, true, true, true, true, true, true, true, true, true, true, true] rfl rfl (any_of HT_.out (by kernel_rfl)) (fun _ _ _ h => h) (Or.inl ⟨by rfl, ?_⟩) ?_ ?_
        rotate_left
        · intro w'
          go_simp
          with_reducible rfl
        rotate_left
        · simp only [Act.put, List.setIfInBounds_toArray, List.set_cons_zero, List.set_cons_succ, i64_w, i32_w]
          rfl
        refine done_ (done_of HT_.out (by kernel_rfl)) ?_
        try go_wp2
        refine bodyPost_ret (results_ct rfl _ _ gb663 32 #[.string t676, .int .u16 t677, .int .u16 t678] (0, 0) _ rfl (by (with_reducible repeat (first | refine blk_drewN ?_ _ | refine blk_drew ?_ | refine blk_alloc ?_ _)); refine blk_put (cs := #[.string t676, .int .u16 t677, .int .u16 0]) ?_ 2 _ rfl; (with_reducible repeat (first | refine blk_drewN ?_ _ | refine blk_drew ?_ | refine blk_alloc ?_ _)); refine blk_put (cs := #[.string t676, .int .u16 0, .int .u16 0]) ?_ 1 _ rfl; (with_reducible repeat (first | refine blk_drewN ?_ _ | refine blk_drew ?_ | refine blk_alloc ?_ _)); refine blk_put (cs := #[.string (⟨#[]⟩ : ByteArray), .int .u16 0, .int .u16 0]) ?_ 0 _ rfl; (with_reducible repeat (first | refine blk_drewN ?_ _ | refine blk_drew ?_ | refine blk_alloc ?_ _)); exact BK663.out) Try.underlying32 rfl (by kernel_rfl)) rfl ?_
        exact ⟨by first | rfl | (simp [errW_none, errW_some] <;> rfl) | (simp only [← hji7]; first | rfl | (simp [errW_none, errW_some] <;> rfl)) | (simp [*, errW_none, errW_some] <;> rfl), by repeat (first | (with_reducible first | exact HB.out | apply below_alloc | apply pw_below_drewN | apply below_drew1 | refine below_set ?_ GE661.out | refine below_set ?_ GE662.out | refine below_set ?_ GE663.out) | exact HB.out)⟩
      · rw [if_neg c9] at H
        exact absurd H (by simp)
    · rw [if_neg c8] at H
      exact absurd H (by simp)
  · replace c4 := Bool.eq_false_iff.mpr c4
    subst c4
    have H1 : (some ((⟨#[]⟩ : ByteArray), 0, 0, false)) = some (r1, r2, r3, r4) := by rw [if_neg (show ¬ (false = true) by decide)] at H; exact H
    clear H
    have H := H1
    clear H1
    simp only [Option.some.injEq, Prod.mk.injEq] at H
    obtain ⟨rfl, rfl, rfl, rfl⟩ := H
    go_enter Try.func41, Try.ntmps41
    go_wp2_with (first | ((with_reducible refine gate_dst (N := 2) rfl ?_); refine box_event ?hg (N := 2) ?hd (cs := #[.int .u8 a0_0, .string a0_1, .string a0_2, .int .u16 a0_3, .int .u16 a0_4]) (t := 82) ?hr ?_; (case hd => rfl); (case hg => rfl); (case hr => first | (go_simp; done) | (go_simp; rfl)); intro gb661 hg w33 hbox hb; have n0_ := Aside0.mk (below_step (by repeat (first | (with_reducible first | exact HB.out | apply below_alloc | apply pw_below_drewN | apply below_drew1) | exact HB.out)) hb); have n1_ := Aside0.mk (hbox); have n2_ := Aside0.mk ((by rw [hg]; exact (below_size (by repeat (first | (with_reducible first | exact HB.out | apply below_alloc | apply pw_below_drewN | apply below_drew1) | exact HB.out))) : w.heap.size ≤ gb661)); have n3_ := Aside0.mk ((by rw [hg]; exact (below_size (by repeat (first | (with_reducible first | exact HB.out | apply below_alloc | apply pw_below_drewN | apply below_drew1) | exact HB.out))) : w.heap.size ≤ gb661)); clear HB; have HB := n0_; have BK661 := n1_; have GW661 := n2_; have GE661 := n3_; clear n0_ n1_ n2_ n3_; clear hb hbox hg) | ((with_reducible refine gate_dst (N := 3) rfl ?_); refine box_event ?hg (N := 3) ?hd (cs := #[.string a1_0, .int .u16 a1_1, .int .u16 a1_2]) (t := 32) ?hr ?_; (case hd => rfl); (case hg => rfl); (case hr => first | (go_simp; done) | (go_simp; rfl)); intro gb662 hg w34 hbox hb; have n0_ := Aside0.mk (blk_below (g := gb661) (o := .cells #[.int .u8 a0_0, .string a0_1, .string a0_2, .int .u16 a0_3, .int .u16 a0_4] 82 (0, 0)) (by (with_reducible repeat (first | refine blk_drewN ?_ _ | refine blk_drew ?_ | refine blk_alloc ?_ _)); exact BK661.out) hb); have n1_ := Aside0.mk (below_step (by repeat (first | (with_reducible first | exact HB.out | apply below_alloc | apply pw_below_drewN | apply below_drew1 | refine below_set ?_ GE661.out) | exact HB.out)) hb); have n2_ := Aside0.mk (hbox); have n3_ := Aside0.mk ((by rw [hg]; exact (below_size (by repeat (first | (with_reducible first | exact HB.out | apply below_alloc | apply pw_below_drewN | apply below_drew1 | refine below_set ?_ GE661.out) | exact HB.out))) : w.heap.size ≤ gb662)); have n4_ := Aside0.mk ((by rw [hg]; exact (below_size (by repeat (first | (with_reducible first | exact HB.out | apply below_alloc | apply pw_below_drewN | apply below_drew1 | refine below_set ?_ GE661.out) | exact HB.out))) : w.heap.size ≤ gb662)); have n5_ := Aside0.mk ((by rw [hg]; exact Nat.ne_of_lt (blk_lt (g := gb661) (o := .cells #[.int .u8 a0_0, .string a0_1, .string a0_2, .int .u16 a0_3, .int .u16 a0_4] 82 (0, 0)) (by (with_reducible repeat (first | refine blk_drewN ?_ _ | refine blk_drew ?_ | refine blk_alloc ?_ _)); exact BK661.out)) : gb661 ≠ gb662)); have n6_ := Aside0.mk ((by rw [hg]; exact Nat.ne_of_gt (blk_lt (g := gb661) (o := .cells #[.int .u8 a0_0, .string a0_1, .string a0_2, .int .u16 a0_3, .int .u16 a0_4] 82 (0, 0)) (by (with_reducible repeat (first | refine blk_drewN ?_ _ | refine blk_drew ?_ | refine blk_alloc ?_ _)); exact BK661.out)) : gb662 ≠ gb661)); clear BK661; clear HB; have BK661 := n0_; have HB := n1_; have BK662 := n2_; have GW662 := n3_; have GE662 := n4_; have NB661_662 := n5_; have NB662_661 := n6_; clear n0_ n1_ n2_ n3_ n4_ n5_ n6_; clear hb hbox hg) | ((with_reducible refine gate_dst (N := 4) rfl ?_); refine box_event ?hg (N := 4) ?hd (cs := #[.string (⟨#[]⟩ : ByteArray), .int .u16 0, .int .u16 0]) (t := 32) ?hr ?_; (case hd => rfl); (case hg => rfl); (case hr => first | (go_simp; done) | (go_simp; rfl)); intro gb663 hg w35 hbox hb; have n0_ := Aside0.mk (blk_below (g := gb661) (o := .cells #[.int .u8 a0_0, .string a0_1, .string a0_2, .int .u16 a0_3, .int .u16 a0_4] 82 (0, 0)) (by (with_reducible repeat (first | refine blk_drewN ?_ _ | refine blk_drew ?_ | refine blk_alloc ?_ _)); exact BK661.out) hb); have n1_ := Aside0.mk (blk_below (g := gb662) (o := .cells #[.string a1_0, .int .u16 a1_1, .int .u16 a1_2] 32 (0, 0)) (by (with_reducible repeat (first | refine blk_drewN ?_ _ | refine blk_drew ?_ | refine blk_alloc ?_ _)); exact BK662.out) hb); have n2_ := Aside0.mk (below_step (by repeat (first | (with_reducible first | exact HB.out | apply below_alloc | apply pw_below_drewN | apply below_drew1 | refine below_set ?_ GE661.out | refine below_set ?_ GE662.out) | exact HB.out)) hb); have n3_ := Aside0.mk (hbox); have n4_ := Aside0.mk ((by rw [hg]; exact (below_size (by repeat (first | (with_reducible first | exact HB.out | apply below_alloc | apply pw_below_drewN | apply below_drew1 | refine below_set ?_ GE661.out | refine below_set ?_ GE662.out) | exact HB.out))) : w.heap.size ≤ gb663)); have n5_ := Aside0.mk ((by rw [hg]; exact (below_size (by repeat (first | (with_reducible first | exact HB.out | apply below_alloc | apply pw_below_drewN | apply below_drew1 | refine below_set ?_ GE661.out | refine below_set ?_ GE662.out) | exact HB.out))) : w.heap.size ≤ gb663)); have n6_ := Aside0.mk ((by rw [hg]; exact Nat.ne_of_lt (blk_lt (g := gb661) (o := .cells #[.int .u8 a0_0, .string a0_1, .string a0_2, .int .u16 a0_3, .int .u16 a0_4] 82 (0, 0)) (by (with_reducible repeat (first | refine blk_drewN ?_ _ | refine blk_drew ?_ | refine blk_alloc ?_ _)); exact BK661.out)) : gb661 ≠ gb663)); have n7_ := Aside0.mk ((by rw [hg]; exact Nat.ne_of_gt (blk_lt (g := gb661) (o := .cells #[.int .u8 a0_0, .string a0_1, .string a0_2, .int .u16 a0_3, .int .u16 a0_4] 82 (0, 0)) (by (with_reducible repeat (first | refine blk_drewN ?_ _ | refine blk_drew ?_ | refine blk_alloc ?_ _)); exact BK661.out)) : gb663 ≠ gb661)); have n8_ := Aside0.mk ((by rw [hg]; exact Nat.ne_of_lt (blk_lt (g := gb662) (o := .cells #[.string a1_0, .int .u16 a1_1, .int .u16 a1_2] 32 (0, 0)) (by (with_reducible repeat (first | refine blk_drewN ?_ _ | refine blk_drew ?_ | refine blk_alloc ?_ _)); exact BK662.out)) : gb662 ≠ gb663)); have n9_ := Aside0.mk ((by rw [hg]; exact Nat.ne_of_gt (blk_lt (g := gb662) (o := .cells #[.string a1_0, .int .u16 a1_1, .int .u16 a1_2] 32 (0, 0)) (by (with_reducible repeat (first | refine blk_drewN ?_ _ | refine blk_drew ?_ | refine blk_alloc ?_ _)); exact BK662.out)) : gb663 ≠ gb662)); clear BK661; clear BK662; clear HB; have BK661 := n0_; have BK662 := n1_; have HB := n2_; have BK663 := n3_; have GW663 := n4_; have GE663 := n5_; have NB661_663 := n6_; have NB663_661 := n7_; have NB662_663 := n8_; have NB663_662 := n9_; clear n0_ n1_ n2_ n3_ n4_ n5_ n6_ n7_ n8_ n9_; clear hb hbox hg; have hnb36 := NB662_661.out; have hnc36 := NB661_662.out; have hnb37 := NB662_663.out; have hnc37 := NB663_662.out; have hcz38_0 : w35.cell? ⟨gb662, 0, none⟩ = some (.string a1_0) := (blk_cell BK662.out 0).trans rfl; have hcz38_1 : w35.cell? ⟨gb662, 1, none⟩ = some (.int .u16 a1_1) := (blk_cell BK662.out 1).trans rfl; have hcz38_2 : w35.cell? ⟨gb662, 2, none⟩ = some (.int .u16 a1_2) := (blk_cell BK662.out 2).trans rfl; have hfz38_0 := blk_frozen BK662.out 0; have hfz38_1 := blk_frozen BK662.out 1; have hfz38_2 := blk_frozen BK662.out 2; have hnb39 := NB661_663.out; have hnc39 := NB663_661.out; have hcz40_0 : w35.cell? ⟨gb661, 0, none⟩ = some (.int .u8 a0_0) := (blk_cell BK661.out 0).trans rfl; have hcz40_1 : w35.cell? ⟨gb661, 1, none⟩ = some (.string a0_1) := (blk_cell BK661.out 1).trans rfl; have hcz40_2 : w35.cell? ⟨gb661, 2, none⟩ = some (.string a0_2) := (blk_cell BK661.out 2).trans rfl; have hcz40_3 : w35.cell? ⟨gb661, 3, none⟩ = some (.int .u16 a0_3) := (blk_cell BK661.out 3).trans rfl; have hcz40_4 : w35.cell? ⟨gb661, 4, none⟩ = some (.int .u16 a0_4) := (blk_cell BK661.out 4).trans rfl; have hfz40_0 := blk_frozen BK661.out 0; have hfz40_1 := blk_frozen BK661.out 1; have hfz40_2 := blk_frozen BK661.out 2; have hfz40_3 := blk_frozen BK661.out 3; have hfz40_4 := blk_frozen BK661.out 4) | ((with_reducible refine gate_callee (f := 51) rfl ?_); refine goesL_ (some 12) rfl rfl Try.func51 (by kernel_rfl) rfl #[.string a1_0, .string a0_1] rfl (by (try simp only [List.map_toArray, List.map_cons, List.map_nil]); first | done | rfl | (simp only [List.length_drop, List.length_take]; rfl)) ?_; (with_reducible refine (name_Under.calls k a1_0 a0_1 false _ A3.out).mono ?_); rintro e w41 ⟨rfl, hb⟩; refine ⟨_, rfl, ?_⟩; have n0_ := Aside0.mk (blk_below (g := gb661) (o := .cells #[.int .u8 a0_0, .string a0_1, .string a0_2, .int .u16 a0_3, .int .u16 a0_4] 82 (0, 0)) (by (with_reducible repeat (first | refine blk_drewN ?_ _ | refine blk_drew ?_ | refine blk_alloc ?_ _)); exact BK661.out) hb); have n1_ := Aside0.mk (blk_below (g := gb662) (o := .cells #[.string a1_0, .int .u16 a1_1, .int .u16 a1_2] 32 (0, 0)) (by (with_reducible repeat (first | refine blk_drewN ?_ _ | refine blk_drew ?_ | refine blk_alloc ?_ _)); exact BK662.out) hb); have n2_ := Aside0.mk (blk_below (g := gb663) (o := .cells #[.string (⟨#[]⟩ : ByteArray), .int .u16 0, .int .u16 0] 32 (0, 0)) (by (with_reducible repeat (first | refine blk_drewN ?_ _ | refine blk_drew ?_ | refine blk_alloc ?_ _)); exact BK663.out) hb); have n3_ := Aside0.mk (below_step (by repeat (first | (with_reducible first | exact HB.out | apply below_alloc | apply pw_below_drewN | apply below_drew1 | refine below_set ?_ GE661.out | refine below_set ?_ GE662.out | refine below_set ?_ GE663.out) | exact HB.out)) hb); clear BK661; clear BK662; clear BK663; clear HB; have BK661 := n0_; have BK662 := n1_; have BK663 := n2_; have HB := n3_; clear n0_ n1_ n2_ n3_; (try clear hb); (try clear hb2); (try clear hk); (try clear hi); have hcz42_0 : w41.cell? ⟨gb663, 0, none⟩ = some (.string (⟨#[]⟩ : ByteArray)) := (blk_cell BK663.out 0).trans rfl; have hcz42_1 : w41.cell? ⟨gb663, 1, none⟩ = some (.int .u16 0) := (blk_cell BK663.out 1).trans rfl; have hcz42_2 : w41.cell? ⟨gb663, 2, none⟩ = some (.int .u16 0) := (blk_cell BK663.out 2).trans rfl; have hfz42_0 := blk_frozen BK663.out 0; have hfz42_1 := blk_frozen BK663.out 1; have hfz42_2 := blk_frozen BK663.out 2))
    refine bodyPost_ret (results_ct rfl _ _ gb663 32 #[.string (⟨#[]⟩ : ByteArray), .int .u16 0, .int .u16 0] (0, 0) _ rfl (by (with_reducible repeat (first | refine blk_drewN ?_ _ | refine blk_drew ?_ | refine blk_alloc ?_ _)); refine blk_put (cs := #[.string (⟨#[]⟩ : ByteArray), .int .u16 0, .int .u16 0]) ?_ 2 _ rfl; (with_reducible repeat (first | refine blk_drewN ?_ _ | refine blk_drew ?_ | refine blk_alloc ?_ _)); refine blk_put (cs := #[.string (⟨#[]⟩ : ByteArray), .int .u16 0, .int .u16 0]) ?_ 1 _ rfl; (with_reducible repeat (first | refine blk_drewN ?_ _ | refine blk_drew ?_ | refine blk_alloc ?_ _)); refine blk_put (cs := #[.string (⟨#[]⟩ : ByteArray), .int .u16 0, .int .u16 0]) ?_ 0 _ rfl; (with_reducible repeat (first | refine blk_drewN ?_ _ | refine blk_drew ?_ | refine blk_alloc ?_ _)); exact BK663.out) Try.underlying32 rfl (by kernel_rfl)) rfl ?_
    exact ⟨by first | rfl | (simp [errW_none, errW_some] <;> rfl) | (simp [*, errW_none, errW_some] <;> rfl), by repeat (first | (with_reducible first | exact HB.out | apply below_alloc | apply pw_below_drewN | apply below_drew1 | refine below_set ?_ GE661.out | refine below_set ?_ GE662.out | refine below_set ?_ GE663.out) | exact HB.out)⟩

end Go.Proofs.Ytfcmphigmfdceaa.Print
