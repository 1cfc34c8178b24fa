-- Written by a program of this session, built on the kit's print (it is not the print's own text).
import Derived.Test.YtfcmphigmfdceaaKinds
import Derived.Test.YtfcmphigmfdceaaF52
import Derived.Test.YtfcmphigmfdceaaXCmp
import Derived.Test.YtfcmphigmfdceaaXOf
import Derived.Test.YtfcmphigmfdceaaXRuleOf
namespace Go.Proofs.Ytfcmphigmfdceaa.Print
open Go.RowKit Go.Proofs.YtfcmphigmfdceaaW.PrintWords Go.Proofs.YtfcmphigmfdceaaW.PrintLast Go.Proofs.YtfcmphigmfdceaaW.PrintMore
set_option linter.unusedVariables false
set_option linter.unusedSimpArgs false

/-! ### rewrite_rule_prefix: function 42 -/
def rewrite_rule_prefix.j0 : Nat → List ByteArray → List ByteArray → Bool → Int → ByteArray → ByteArray → Int → Int → ByteArray → Int → Int → Option (ByteArray × Int × Int × Bool)
  | 0, _, _, _, _, _, _, _, _, _, _, _ => none
  | k + 1, x6, x7, x40, x681000, x681001, x681002, x681003, x681004, x682000, x682001, x682002 => if x40 = true then (some ((⟨#[]⟩ : ByteArray), 0, 0, false)) else ((name_Labels.f k x681002).bind fun t696 => (if 0 ≤ (x7.length : Int) then (if (x7.length : Int) ≤ (x6.length : Int) then ((rewrite_rule_of.f x681000 x681001 x681002 x681003 x681004 x682000 x682001 x682002 t696 (x6.drop ((x7.length : Int) : Int).toNat)).bind fun bt703 => (some (bt703.1, bt703.2.1, bt703.2.2.1, bt703.2.2.2))) else (none)) else (none)))
def rewrite_rule_prefix.f (k : Nat) (a0_0 : Int) (a0_1 : ByteArray) (a0_2 : ByteArray) (a0_3 : Int) (a0_4 : Int) (a1_0 : ByteArray) (a1_1 : Int) (a1_2 : Int) : Option (ByteArray × Int × Int × Bool) := (name_Labels.f k a1_0).bind fun t683 => ((name_Labels.f k a0_1).bind fun t686 => (if (t683.length : Int) < (t686.length : Int) then (some ((⟨#[]⟩ : ByteArray), 0, 0, false)) else (if 0 ≤ (t686.length : Int) then (if (t686.length : Int) ≤ (t683.length : Int) then ((name_Of.f (t683.take ((t686.length : Int) : Int).toNat)).bind fun bt693 => (if bt693.2 = 0 then ((name_Cmp.f bt693.1 a0_1).bind fun t695 => (rewrite_rule_prefix.j0 k t683 t686 (t695 != 0) a0_0 a0_1 a0_2 a0_3 a0_4 a1_0 a1_1 a1_2)) else (rewrite_rule_prefix.j0 k t683 t686 true a0_0 a0_1 a0_2 a0_3 a0_4 a1_0 a1_1 a1_2))) else (none)) else (none))))
theorem rewrite_rule_prefix.mono_l : ∀ k, (∀ y0 y1 y2 y3 y4 y5 y6 y7 y8 y9 y10, LeO (rewrite_rule_prefix.j0 k y0 y1 y2 y3 y4 y5 y6 y7 y8 y9 y10) (rewrite_rule_prefix.j0 (k + 1) y0 y1 y2 y3 y4 y5 y6 y7 y8 y9 y10))
  | 0 => fun _ _ _ _ _ _ _ _ _ _ _ r h => by simp [rewrite_rule_prefix.j0] at h
  | k + 1 => by
    have ih0 := rewrite_rule_prefix.mono_l k
    · intro y0 y1 y2 y3 y4 y5 y6 y7 y8 y9 y10
      unfold rewrite_rule_prefix.j0
      repeat' first
      | (with_reducible exact ih0 _ _ _ _ _ _ _ _ _ _ _)
      | (with_reducible exact name_Labels.mono _ _)
      | (with_reducible exact LeO.refl _)
      | (with_reducible exact LeO.none _)
      | (with_reducible refine LeO.ite ?_ ?_)
      | (with_reducible refine LeO.bind ?_ (fun _ => ?_))
      | exact ih0 _ _ _ _ _ _ _ _ _ _ _
      | exact name_Labels.mono _ _
      | exact LeO.none _
      | refine LeO.ite ?_ ?_
      | refine LeO.bind ?_ (fun _ => ?_)
theorem rewrite_rule_prefix.mono : ∀ a0 a1 a2 a3 a4 a5 a6 a7 k, LeO (rewrite_rule_prefix.f k a0 a1 a2 a3 a4 a5 a6 a7) (rewrite_rule_prefix.f (k + 1) a0 a1 a2 a3 a4 a5 a6 a7) := by
  intro a0 a1 a2 a3 a4 a5 a6 a7 k
  have ih0 := rewrite_rule_prefix.mono_l k
  unfold rewrite_rule_prefix.f
  repeat' first
      | (with_reducible exact ih0 _ _ _ _ _ _ _ _ _ _ _)
      | (with_reducible exact name_Labels.mono _ _)
      | (with_reducible exact LeO.refl _)
      | (with_reducible exact LeO.none _)
      | (with_reducible refine LeO.ite ?_ ?_)
      | (with_reducible refine LeO.bind ?_ (fun _ => ?_))
      | exact ih0 _ _ _ _ _ _ _ _ _ _ _
      | exact name_Labels.mono _ _
      | exact LeO.none _
      | refine LeO.ite ?_ ?_
      | refine LeO.bind ?_ (fun _ => ?_)
def rewrite_rule_prefix.T1 : Bool × List (List Nat × List Nat) := (true, [([], []), ([0], [0]), ([1], [1]), ([], []), ([3], [3]), ([4], [4]), ([5, 2], [5]), ([2, 6, 0, 1, 2], [2]), ([6, 7, 0, 1, 2, 3, 4, 5, 6, 7], [6])])
def rewrite_rule_prefix.B1 : List Nat := [0, 1, 3, 0, 8, 24, 63, 127, 255]
theorem rewrite_rule_prefix.tab1 : rtab .any (opsOf Try.f42 1) = rewrite_rule_prefix.T1 := by kernel_rfl
theorem rewrite_rule_prefix.bits1 : waitsOk rewrite_rule_prefix.T1.2 rewrite_rule_prefix.B1 = true := by kernel_rfl
def rewrite_rule_prefix.T7 : Bool × List (List Nat × List Nat) := (true, [([], []), ([], []), ([], []), ([2], [2]), ([3], [3]), ([4], [4]), ([], []), ([], []), ([7], [7]), ([6, 8], [6, 8]), ([0, 1, 5, 9, 5], [0, 1, 5, 9]), ([10], [10]), ([10], [10]), ([11, 10, 0, 1, 2, 3, 4, 5, 6, 7, 8, 9, 10, 11, 12], [11]), ([12, 13, 0, 1, 2, 3, 4, 5, 6, 7, 8, 9, 10, 11, 12, 13], [12])])
def rewrite_rule_prefix.B7 : List Nat := [0, 0, 0, 4, 12, 28, 0, 0, 128, 448, 1023, 2047, 2047, 8191, 16383]
theorem rewrite_rule_prefix.tab7 : rtab .any (opsOf Try.f42 7) = rewrite_rule_prefix.T7 := by kernel_rfl
theorem rewrite_rule_prefix.bits7 : waitsOk rewrite_rule_prefix.T7.2 rewrite_rule_prefix.B7 = true := by kernel_rfl
set_option maxHeartbeats 8000000 in
set_option maxRecDepth 100000 in
theorem rewrite_rule_prefix.calls (k : Nat) (a0_0 : Int) (a0_1 : ByteArray) (a0_2 : ByteArray) (a0_3 : Int) (a0_4 : Int) (a1_0 : ByteArray) (a1_1 : Int) (a1_2 : Int) (r1 : ByteArray) (r2 : Int) (r3 : Int) (r4 : Bool) (w : World) (h : rewrite_rule_prefix.f k a0_0 a0_1 a0_2 a0_3 a0_4 a1_0 a1_1 a1_2 = some (r1, r2, r3, r4)) :
    Calls Try.prog 42 #[.agg #[.int .u8 a0_0, .string a0_1, .string a0_2, .int .u16 a0_3, .int .u16 a0_4], .agg #[.string a1_0, .int .u16 a1_1, .int .u16 a1_2]] w fun e w' => e = .returned (.tuple #[.agg #[.string r1, .int .u16 r2, .int .u16 r3], .bool r4]) ∧ Below w.heap.size w w' := by
  have hu82 := Try.underlying82
  have hu32 := Try.underlying32
  have HB := Aside0.mk (Below.refl w.heap.size w)
  have H : ((name_Labels.f k a1_0).bind fun t683 => ((name_Labels.f k a0_1).bind fun t686 => (if (t683.length : Int) < (t686.length : Int) then (some ((⟨#[]⟩ : ByteArray), 0, 0, false)) else (if 0 ≤ (t686.length : Int) then (if (t686.length : Int) ≤ (t683.length : Int) then ((name_Of.f (t683.take ((t686.length : Int) : Int).toNat)).bind fun bt693 => (if bt693.2 = 0 then ((name_Cmp.f bt693.1 a0_1).bind fun t695 => (rewrite_rule_prefix.j0 k t683 t686 (t695 != 0) a0_0 a0_1 a0_2 a0_3 a0_4 a1_0 a1_1 a1_2)) else (rewrite_rule_prefix.j0 k t683 t686 true a0_0 a0_1 a0_2 a0_3 a0_4 a1_0 a1_1 a1_2))) else (none)) else (none))))) = some (r1, r2, r3, r4) := h
  clear h
  replace H := Option.bind_eq_some_iff.mp H
  obtain ⟨t683, A30, H⟩ := H
  replace H : ((name_Labels.f k a0_1).bind fun t686 => (if (t683.length : Int) < (t686.length : Int) then (some ((⟨#[]⟩ : ByteArray), 0, 0, false)) else (if 0 ≤ (t686.length : Int) then (if (t686.length : Int) ≤ (t683.length : Int) then ((name_Of.f (t683.take ((t686.length : Int) : Int).toNat)).bind fun bt693 => (if bt693.2 = 0 then ((name_Cmp.f bt693.1 a0_1).bind fun t695 => (rewrite_rule_prefix.j0 k t683 t686 (t695 != 0) a0_0 a0_1 a0_2 a0_3 a0_4 a1_0 a1_1 a1_2)) else (rewrite_rule_prefix.j0 k t683 t686 true a0_0 a0_1 a0_2 a0_3 a0_4 a1_0 a1_1 a1_2))) else (none)) else (none)))) = some (r1, r2, r3, r4) := H
  have A3 := Aside0.mk A30
  clear A30
  replace H := Option.bind_eq_some_iff.mp H
  obtain ⟨t686, A40, H⟩ := H
  replace H : (if (t683.length : Int) < (t686.length : Int) then (some ((⟨#[]⟩ : ByteArray), 0, 0, false)) else (if 0 ≤ (t686.length : Int) then (if (t686.length : Int) ≤ (t683.length : Int) then ((name_Of.f (t683.take ((t686.length : Int) : Int).toNat)).bind fun bt693 => (if bt693.2 = 0 then ((name_Cmp.f bt693.1 a0_1).bind fun t695 => (rewrite_rule_prefix.j0 k t683 t686 (t695 != 0) a0_0 a0_1 a0_2 a0_3 a0_4 a1_0 a1_1 a1_2)) else (rewrite_rule_prefix.j0 k t683 t686 true a0_0 a0_1 a0_2 a0_3 a0_4 a1_0 a1_1 a1_2))) else (none)) else (none))) = some (r1, r2, r3, r4) := H
  have A4 := Aside0.mk A40
  clear A40
  by_cases c5 : (t683.length : Int) < (t686.length : Int)
  · rw [if_pos c5] at H
    have c5b0 : decide ((t683.length : Int) < (t686.length : Int)) = true := decide_eq_true c5
    have c5b1 : decide (t683.length < t686.length) = true := decide_eq_true (Int.ofNat_lt.mp c5)
    clear c5
    simp only [Option.some.injEq, Prod.mk.injEq] at H
    obtain ⟨rfl, rfl, rfl, rfl⟩ := H
    go_enter Try.func42, Try.ntmps42
    try go_wp2_with (first | ((with_reducible refine gate_dst (N := 2) rfl ?_); refine box_event ?hg (N := 2) ?hd (cs := #[.int .u8 a0_0, .string a0_1, .string a0_2, .int .u16 a0_3, .int .u16 a0_4]) (t := 82) ?hr ?_; (case hd => rfl); (case hg => rfl); (case hr => first | (go_simp; done) | (go_simp; rfl)); intro gb680 hg w6 hbox hb; have n0_ := Aside0.mk (below_step (by repeat (first | (with_reducible first | exact HB.out | apply below_alloc | apply pw_below_drewN | apply below_drew1) | exact HB.out)) hb); have n1_ := Aside0.mk (hbox); have n2_ := Aside0.mk ((by rw [hg]; exact (below_size (by repeat (first | (with_reducible first | exact HB.out | apply below_alloc | apply pw_below_drewN | apply below_drew1) | exact HB.out))) : w.heap.size ≤ gb680)); have n3_ := Aside0.mk ((by rw [hg]; exact (below_size (by repeat (first | (with_reducible first | exact HB.out | apply below_alloc | apply pw_below_drewN | apply below_drew1) | exact HB.out))) : w.heap.size ≤ gb680)); clear HB; have HB := n0_; have BK680 := n1_; have GW680 := n2_; have GE680 := n3_; clear n0_ n1_ n2_ n3_; clear hb hbox hg) | ((with_reducible refine gate_dst (N := 3) rfl ?_); refine box_event ?hg (N := 3) ?hd (cs := #[.string a1_0, .int .u16 a1_1, .int .u16 a1_2]) (t := 32) ?hr ?_; (case hd => rfl); (case hg => rfl); (case hr => first | (go_simp; done) | (go_simp; rfl)); intro gb681 hg w7 hbox hb; have n0_ := Aside0.mk (blk_below (g := gb680) (o := .cells #[.int .u8 a0_0, .string a0_1, .string a0_2, .int .u16 a0_3, .int .u16 a0_4] 82 (0, 0)) (by (with_reducible repeat (first | refine blk_drewN ?_ _ | refine blk_drew ?_ | refine blk_alloc ?_ _)); exact BK680.out) hb); have n1_ := Aside0.mk (below_step (by repeat (first | (with_reducible first | exact HB.out | apply below_alloc | apply pw_below_drewN | apply below_drew1 | refine below_set ?_ GE680.out) | exact HB.out)) hb); have n2_ := Aside0.mk (hbox); have n3_ := Aside0.mk ((by rw [hg]; exact (below_size (by repeat (first | (with_reducible first | exact HB.out | apply below_alloc | apply pw_below_drewN | apply below_drew1 | refine below_set ?_ GE680.out) | exact HB.out))) : w.heap.size ≤ gb681)); have n4_ := Aside0.mk ((by rw [hg]; exact (below_size (by repeat (first | (with_reducible first | exact HB.out | apply below_alloc | apply pw_below_drewN | apply below_drew1 | refine below_set ?_ GE680.out) | exact HB.out))) : w.heap.size ≤ gb681)); have n5_ := Aside0.mk ((by rw [hg]; exact Nat.ne_of_lt (blk_lt (g := gb680) (o := .cells #[.int .u8 a0_0, .string a0_1, .string a0_2, .int .u16 a0_3, .int .u16 a0_4] 82 (0, 0)) (by (with_reducible repeat (first | refine blk_drewN ?_ _ | refine blk_drew ?_ | refine blk_alloc ?_ _)); exact BK680.out)) : gb680 ≠ gb681)); have n6_ := Aside0.mk ((by rw [hg]; exact Nat.ne_of_gt (blk_lt (g := gb680) (o := .cells #[.int .u8 a0_0, .string a0_1, .string a0_2, .int .u16 a0_3, .int .u16 a0_4] 82 (0, 0)) (by (with_reducible repeat (first | refine blk_drewN ?_ _ | refine blk_drew ?_ | refine blk_alloc ?_ _)); exact BK680.out)) : gb681 ≠ gb680)); clear BK680; clear HB; have BK680 := n0_; have HB := n1_; have BK681 := n2_; have GW681 := n3_; have GE681 := n4_; have NB680_681 := n5_; have NB681_680 := n6_; clear n0_ n1_ n2_ n3_ n4_ n5_ n6_; clear hb hbox hg) | ((with_reducible refine gate_dst (N := 4) rfl ?_); refine box_event ?hg (N := 4) ?hd (cs := #[.string (⟨#[]⟩ : ByteArray), .int .u16 0, .int .u16 0]) (t := 32) ?hr ?_; (case hd => rfl); (case hg => rfl); (case hr => first | (go_simp; done) | (go_simp; rfl)); intro gb682 hg w8 hbox hb; have n0_ := Aside0.mk (blk_below (g := gb680) (o := .cells #[.int .u8 a0_0, .string a0_1, .string a0_2, .int .u16 a0_3, .int .u16 a0_4] 82 (0, 0)) (by (with_reducible repeat (first | refine blk_drewN ?_ _ | refine blk_drew ?_ | refine blk_alloc ?_ _)); exact BK680.out) hb); have n1_ := Aside0.mk (blk_below (g := gb681) (o := .cells #[.string a1_0, .int .u16 a1_1, .int .u16 a1_2] 32 (0, 0)) (by (with_reducible repeat (first | refine blk_drewN ?_ _ | refine blk_drew ?_ | refine blk_alloc ?_ _)); exact BK681.out) hb); have n2_ := Aside0.mk (below_step (by repeat (first | (with_reducible first | exact HB.out | apply below_alloc | apply pw_below_drewN | apply below_drew1 | refine below_set ?_ GE680.out | refine below_set ?_ GE681.out) | exact HB.out)) hb); have n3_ := Aside0.mk (hbox); have n4_ := Aside0.mk ((by rw [hg]; exact (below_size (by repeat (first | (with_reducible first | exact HB.out | apply below_alloc | apply pw_below_drewN | apply below_drew1 | refine below_set ?_ GE680.out | refine below_set ?_ GE681.out) | exact HB.out))) : w.heap.size ≤ gb682)); have n5_ := Aside0.mk ((by rw [hg]; exact (below_size (by repeat (first | (with_reducible first | exact HB.out | apply below_alloc | apply pw_below_drewN | apply below_drew1 | refine below_set ?_ GE680.out | refine below_set ?_ GE681.out) | exact HB.out))) : w.heap.size ≤ gb682)); have n6_ := Aside0.mk ((by rw [hg]; exact Nat.ne_of_lt (blk_lt (g := gb680) (o := .cells #[.int .u8 a0_0, .string a0_1, .string a0_2, .int .u16 a0_3, .int .u16 a0_4] 82 (0, 0)) (by (with_reducible repeat (first | refine blk_drewN ?_ _ | refine blk_drew ?_ | refine blk_alloc ?_ _)); exact BK680.out)) : gb680 ≠ gb682)); have n7_ := Aside0.mk ((by rw [hg]; exact Nat.ne_of_gt (blk_lt (g := gb680) (o := .cells #[.int .u8 a0_0, .string a0_1, .string a0_2, .int .u16 a0_3, .int .u16 a0_4] 82 (0, 0)) (by (with_reducible repeat (first | refine blk_drewN ?_ _ | refine blk_drew ?_ | refine blk_alloc ?_ _)); exact BK680.out)) : gb682 ≠ gb680)); have n8_ := Aside0.mk ((by rw [hg]; exact Nat.ne_of_lt (blk_lt (g := gb681) (o := .cells #[.string a1_0, .int .u16 a1_1, .int .u16 a1_2] 32 (0, 0)) (by (with_reducible repeat (first | refine blk_drewN ?_ _ | refine blk_drew ?_ | refine blk_alloc ?_ _)); exact BK681.out)) : gb681 ≠ gb682)); have n9_ := Aside0.mk ((by rw [hg]; exact Nat.ne_of_gt (blk_lt (g := gb681) (o := .cells #[.string a1_0, .int .u16 a1_1, .int .u16 a1_2] 32 (0, 0)) (by (with_reducible repeat (first | refine blk_drewN ?_ _ | refine blk_drew ?_ | refine blk_alloc ?_ _)); exact BK681.out)) : gb682 ≠ gb681)); clear BK680; clear BK681; clear HB; have BK680 := n0_; have BK681 := n1_; have HB := n2_; have BK682 := n3_; have GW682 := n4_; have GE682 := n5_; have NB680_682 := n6_; have NB682_680 := n7_; have NB681_682 := n8_; have NB682_681 := n9_; clear n0_ n1_ n2_ n3_ n4_ n5_ n6_ n7_ n8_ n9_; clear hb hbox hg))
    have n0_ := Aside0.mk (blk_drew BK680.out)
    have n1_ := Aside0.mk (blk_drew BK681.out)
    have n2_ := Aside0.mk (blk_drew BK682.out)
    have n3_ := Aside0.mk (below_drew1 HB.out)
    clear BK680
    clear BK681
    clear BK682
    clear HB
    have BK680 := n0_
    have BK681 := n1_
    have BK682 := n2_
    have HB := n3_
    clear n0_ n1_ n2_ n3_
    refine start_ (n := 9) (S := fun w' => w'.cell? ⟨gb681, 0, none⟩ = some (.string a1_0) ∧ w'.cell? ⟨gb681, 1, none⟩ = some (.int .u16 a1_1) ∧ w'.cell? ⟨gb681, 2, none⟩ = some (.int .u16 a1_2) ∧ w'.cell? ⟨gb680, 0, none⟩ = some (.int .u8 a0_0) ∧ w'.cell? ⟨gb680, 1, none⟩ = some (.string a0_1) ∧ w'.cell? ⟨gb680, 2, none⟩ = some (.string a0_2) ∧ w'.cell? ⟨gb680, 3, none⟩ = some (.int .u16 a0_3) ∧ w'.cell? ⟨gb680, 4, none⟩ = some (.int .u16 a0_4)) (ds := []) #[false, false, false, false, false, false, false, false, false] (by kernel_rfl) rfl rfl ⟨(blk_cell BK681.out 0).trans rfl, (blk_cell BK681.out 1).trans rfl, (blk_cell BK681.out 2).trans rfl, (blk_cell BK680.out 0).trans rfl, (blk_cell BK680.out 1).trans rfl, (blk_cell BK680.out 2).trans rfl, (blk_cell BK680.out 3).trans rfl, (blk_cell BK680.out 4).trans rfl⟩ (fun hHeld => ?_); refine with_tabW rewrite_rule_prefix.tab1 rewrite_rule_prefix.bits1 (fun HT_ HW_ => ?_)
    generalize w8.drew = w9 at BK680 BK681 BK682 HB hHeld ⊢
    refine pure_ (i := 0) (N := some 10) (v := ?_) (a' := ?_) #[true, false, false, false, false, false, false, false, false] rfl rfl (any_of HT_.out (by kernel_rfl)) (fun _ _ _ h => h) (Or.inl ⟨by rfl, ?_⟩) ?_ ?_
    rotate_left
    · intro w'
      go_simp
      with_reducible rfl
    rotate_left
    · simp only [Act.put, List.setIfInBounds_toArray, List.set_cons_zero, List.set_cons_succ, i64_w, i32_w]
      rfl
    refine pure_ (i := 3) (N := some 13) (v := ?_) (a' := ?_) #[true, false, false, true, false, false, false, false, false] rfl rfl (any_of HT_.out (by kernel_rfl)) (fun _ _ _ h => h) (Or.inl ⟨by rfl, ?_⟩) ?_ ?_
    rotate_left
    · intro w'
      go_simp
      with_reducible rfl
    rotate_left
    · simp only [Act.put, List.setIfInBounds_toArray, List.set_cons_zero, List.set_cons_succ, i64_w, i32_w]
      rfl
    refine pure_ (i := 4) (N := some 14) (v := ?_) (a' := ?_) #[true, false, false, true, true, false, false, false, false] rfl rfl (any_of HT_.out (by kernel_rfl)) (fun _ _ _ h => h) (Or.inl ⟨by rfl, ?_⟩) ?_ ?_
    rotate_left
    · intro w'
      go_simp
      with_reducible rfl
    rotate_left
    · simp only [Act.put, List.setIfInBounds_toArray, List.set_cons_zero, List.set_cons_succ, i64_w, i32_w]
      rfl
    refine take_ (i := 1) (N := some 11) (v := ?_) (a' := ?_) #[true, true, false, true, true, false, false, false, false] rfl rfl (take_ofW HT_.out HW_.out (by kernel_rfl)) (fun _ _ _ h => h) (Or.inl ⟨by rfl, ?_⟩) hHeld ?_ ?_
    rotate_left
    · rintro w' ⟨s0, s1, s2, s3, s4, s5, s6, s7⟩
      go_simp
      with_reducible rfl
    rotate_left
    · simp only [Act.put, List.setIfInBounds_toArray, List.set_cons_zero, List.set_cons_succ, i64_w, i32_w]
      rfl
    refine take_ (i := 5) (N := some 15) (v := ?_) (a' := ?_) #[true, true, false, true, true, true, false, false, false] rfl rfl (take_ofW HT_.out HW_.out (by kernel_rfl)) (fun _ _ _ h => h) (Or.inl ⟨by rfl, ?_⟩) hHeld ?_ ?_
    rotate_left
    · rintro w' ⟨s0, s1, s2, s3, s4, s5, s6, s7⟩
      go_simp
      with_reducible rfl
    rotate_left
    · simp only [Act.put, List.setIfInBounds_toArray, List.set_cons_zero, List.set_cons_succ, i64_w, i32_w]
      rfl
    refine one_ (i := 2) (N := some 12) #[true, true, true, true, true, true, false, false, false] rfl rfl (one_of HT_.out (by kernel_rfl)) (by decide) (fun K hK => ?_)
    refine goes_ Try.func52 (by kernel_rfl) rfl #[.string a1_0] (by rfl) rfl rfl (by (try simp only [List.map_toArray, List.map_cons, List.map_nil]); first | done | rfl | (simp only [List.length_drop, List.length_take]; rfl)) ?_
    with_reducible refine (name_Labels.calls k a1_0 t683 _ A3.out).mono ?_
    rintro e w10 ⟨v684, rfl, ho0, hb⟩
    refine ⟨_, rfl, ?_⟩
    have n0_ := Aside0.mk (Kd.R_lower ho0 (below_size (by repeat (first | (with_reducible first | exact HB.out | apply below_alloc | apply pw_below_drewN | apply below_drew1 | refine below_set ?_ GE680.out | refine below_set ?_ GE681.out | refine below_set ?_ GE682.out) | exact HB.out))))
    have n1_ := Aside0.mk (blk_below (g := gb680) (o := .cells #[.int .u8 a0_0, .string a0_1, .string a0_2, .int .u16 a0_3, .int .u16 a0_4] 82 (0, 0)) (by (with_reducible repeat (first | refine blk_drewN ?_ _ | refine blk_drew ?_ | refine blk_alloc ?_ _)); exact BK680.out) hb)
    have n2_ := Aside0.mk (blk_below (g := gb681) (o := .cells #[.string a1_0, .int .u16 a1_1, .int .u16 a1_2] 32 (0, 0)) (by (with_reducible repeat (first | refine blk_drewN ?_ _ | refine blk_drew ?_ | refine blk_alloc ?_ _)); exact BK681.out) hb)
    have n3_ := Aside0.mk (blk_below (g := gb682) (o := .cells #[.string (⟨#[]⟩ : ByteArray), .int .u16 0, .int .u16 0] 32 (0, 0)) (by (with_reducible repeat (first | refine blk_drewN ?_ _ | refine blk_drew ?_ | refine blk_alloc ?_ _)); exact BK682.out) hb)
    have n4_ := Aside0.mk (below_step (by repeat (first | (with_reducible first | exact HB.out | apply below_alloc | apply pw_below_drewN | apply below_drew1 | refine below_set ?_ GE680.out | refine below_set ?_ GE681.out | refine below_set ?_ GE682.out) | exact HB.out)) hb)
    clear BK680
    clear BK681
    clear BK682
    clear HB
    have HO685 := n0_
    have BK680 := n1_
    have BK681 := n2_
    have BK682 := n3_
    have HB := n4_
    clear n0_ n1_ n2_ n3_ n4_
    (try clear hb)
    (try clear hb2)
    (try clear hk)
    (try clear hi)
    (try clear ho0)
    refine hK.out _ _ ⟨(blk_cell BK681.out 0).trans rfl, (blk_cell BK681.out 1).trans rfl, (blk_cell BK681.out 2).trans rfl, (blk_cell BK680.out 0).trans rfl, (blk_cell BK680.out 1).trans rfl, (blk_cell BK680.out 2).trans rfl, (blk_cell BK680.out 3).trans rfl, (blk_cell BK680.out 4).trans rfl⟩ (fun hHeld => ?_)
    clear hK K
    refine norm_ (a' := ?_) ?_ ?_
    rotate_left
    · show Act.put _ (some 12) _ = _
      simp only [Act.put, List.setIfInBounds_toArray, List.set_cons_zero, List.set_cons_succ, i64_w, i32_w]
      rfl
    refine one_ (i := 6) (N := some 16) #[true, true, true, true, true, true, true, false, false] rfl rfl (one_of HT_.out (by kernel_rfl)) (by decide) (fun K hK => ?_)
    refine goes_ Try.func52 (by kernel_rfl) rfl #[.string a0_1] (by rfl) rfl rfl (by (try simp only [List.map_toArray, List.map_cons, List.map_nil]); first | done | rfl | (simp only [List.length_drop, List.length_take]; rfl)) ?_
    with_reducible refine (name_Labels.calls k a0_1 t686 _ A4.out).mono ?_
    rintro e w11 ⟨v687, rfl, ho0, hb⟩
    refine ⟨_, rfl, ?_⟩
    have n0_ := Aside0.mk (Kd.R_elder' (by (with_reducible repeat (first | apply Kd.R_alloc | apply Kd.R_drewN | apply Kd.R_drew)); exact HO685.out) (Kd.R_base ho0) hb)
    have n1_ := Aside0.mk (Kd.R_lower (Kd.R_new' ho0 (Kd.R_lt (by (with_reducible repeat (first | apply Kd.R_alloc | apply Kd.R_drewN | apply Kd.R_drew)); exact HO685.out))) (below_size (by repeat (first | (with_reducible first | exact HB.out | apply below_alloc | apply pw_below_drewN | apply below_drew1 | refine below_set ?_ GE680.out | refine below_set ?_ GE681.out | refine below_set ?_ GE682.out) | exact HB.out))))
    have n2_ := Aside0.mk (blk_below (g := gb680) (o := .cells #[.int .u8 a0_0, .string a0_1, .string a0_2, .int .u16 a0_3, .int .u16 a0_4] 82 (0, 0)) (by (with_reducible repeat (first | refine blk_drewN ?_ _ | refine blk_drew ?_ | refine blk_alloc ?_ _)); exact BK680.out) hb)
    have n3_ := Aside0.mk (blk_below (g := gb681) (o := .cells #[.string a1_0, .int .u16 a1_1, .int .u16 a1_2] 32 (0, 0)) (by (with_reducible repeat (first | refine blk_drewN ?_ _ | refine blk_drew ?_ | refine blk_alloc ?_ _)); exact BK681.out) hb)
    have n4_ := Aside0.mk (blk_below (g := gb682) (o := .cells #[.string (⟨#[]⟩ : ByteArray), .int .u16 0, .int .u16 0] 32 (0, 0)) (by (with_reducible repeat (first | refine blk_drewN ?_ _ | refine blk_drew ?_ | refine blk_alloc ?_ _)); exact BK682.out) hb)
    have n5_ := Aside0.mk (below_step (by repeat (first | (with_reducible first | exact HB.out | apply below_alloc | apply pw_below_drewN | apply below_drew1 | refine below_set ?_ GE680.out | refine below_set ?_ GE681.out | refine below_set ?_ GE682.out) | exact HB.out)) hb)
    clear HO685
    clear BK680
    clear BK681
    clear BK682
    clear HB
    have HO685 := n0_
    have HO688 := n1_
    have BK680 := n2_
    have BK681 := n3_
    have BK682 := n4_
    have HB := n5_
    clear n0_ n1_ n2_ n3_ n4_ n5_
    (try clear hb)
    (try clear hb2)
    (try clear hk)
    (try clear hi)
    (try clear ho0)
    refine hK.out _ _ ⟨(blk_cell BK681.out 0).trans rfl, (blk_cell BK681.out 1).trans rfl, (blk_cell BK681.out 2).trans rfl, (blk_cell BK680.out 0).trans rfl, (blk_cell BK680.out 1).trans rfl, (blk_cell BK680.out 2).trans rfl, (blk_cell BK680.out 3).trans rfl, (blk_cell BK680.out 4).trans rfl⟩ (fun hHeld => ?_)
    clear hK K
    refine norm_ (a' := ?_) ?_ ?_
    rotate_left
    · show Act.put _ (some 16) _ = _
      simp only [Act.put, List.setIfInBounds_toArray, List.set_cons_zero, List.set_cons_succ, i64_w, i32_w]
      rfl
    refine pure_ (i := 7) (N := some 6) (v := ?_) (a' := ?_) #[true, true, true, true, true, true, true, true, false] rfl rfl (any_of HT_.out (by kernel_rfl)) (fun _ _ _ h => h) (Or.inl ⟨by rfl, ?_⟩) ?_ ?_
    rotate_left
    · intro w'
      go_simp
      with_reducible rfl
    rotate_left
    · simp only [Act.put, List.setIfInBounds_toArray, List.set_cons_zero, List.set_cons_succ, i64_w, i32_w]
      rfl
    refine pure_ (i := 8) (N := some 7) (v := ?_) (a' := ?_) #[true, true, true, true, true, true, true, true, true] rfl rfl (any_of HT_.out (by kernel_rfl)) (fun _ _ _ h => h) (Or.inl ⟨by rfl, ?_⟩) ?_ ?_
    rotate_left
    · intro w'
      go_simp
      with_reducible rfl
    rotate_left
    · simp only [Act.put, List.setIfInBounds_toArray, List.set_cons_zero, List.set_cons_succ, i64_w, i32_w]
      rfl
    refine done_ (done_of HT_.out (by kernel_rfl)) ?_
    obtain ⟨Ao12, co12, eo12⟩ := Kd.R_slice HO685.out
    subst eo12
    obtain ⟨Ao13, co13, eo13⟩ := Kd.R_slice HO688.out
    subst eo13
    have hnb14 := NB682_680.out
    have hnc14 := NB680_682.out
    have hnb15 := NB682_681.out
    have hnc15 := NB681_682.out
    have hcz16_0 : w11.cell? ⟨gb682, 0, none⟩ = some (.string (⟨#[]⟩ : ByteArray)) := (blk_cell BK682.out 0).trans rfl
    have hcz16_1 : w11.cell? ⟨gb682, 1, none⟩ = some (.int .u16 0) := (blk_cell BK682.out 1).trans rfl
    have hcz16_2 : w11.cell? ⟨gb682, 2, none⟩ = some (.int .u16 0) := (blk_cell BK682.out 2).trans rfl
    have hfz16_0 := blk_frozen BK682.out 0
    have hfz16_1 := blk_frozen BK682.out 1
    have hfz16_2 := blk_frozen BK682.out 2
    try go_wp2
    refine bodyPost_ret (results_ct rfl _ _ gb682 32 #[.string (⟨#[]⟩ : ByteArray), .int .u16 0, .int .u16 0] (0, 0) _ rfl (by (with_reducible repeat (first | refine blk_drewN ?_ _ | refine blk_drew ?_ | refine blk_alloc ?_ _)); refine blk_put (cs := #[.string (⟨#[]⟩ : ByteArray), .int .u16 0, .int .u16 0]) ?_ 2 _ rfl; (with_reducible repeat (first | refine blk_drewN ?_ _ | refine blk_drew ?_ | refine blk_alloc ?_ _)); refine blk_put (cs := #[.string (⟨#[]⟩ : ByteArray), .int .u16 0, .int .u16 0]) ?_ 1 _ rfl; (with_reducible repeat (first | refine blk_drewN ?_ _ | refine blk_drew ?_ | refine blk_alloc ?_ _)); refine blk_put (cs := #[.string (⟨#[]⟩ : ByteArray), .int .u16 0, .int .u16 0]) ?_ 0 _ rfl; (with_reducible repeat (first | refine blk_drewN ?_ _ | refine blk_drew ?_ | refine blk_alloc ?_ _)); exact BK682.out) Try.underlying32 rfl (by kernel_rfl)) rfl ?_
    exact ⟨by first | rfl | (simp [errW_none, errW_some] <;> rfl) | (simp [*, errW_none, errW_some] <;> rfl), by repeat (first | (with_reducible first | exact HB.out | apply below_alloc | apply pw_below_drewN | apply below_drew1 | refine below_set ?_ GE680.out | refine below_set ?_ GE681.out | refine below_set ?_ GE682.out) | exact HB.out)⟩
  · rw [if_neg c5] at H
    have c5b0 : decide ((t683.length : Int) < (t686.length : Int)) = false := decide_eq_false c5
    have c5b1 : decide (t683.length < t686.length) = false := decide_eq_false (fun h => c5 (Int.ofNat_lt.mpr h))
    clear c5
    by_cases c17 : 0 ≤ (t686.length : Int)
    · rw [if_pos c17] at H
      have c17b0 := eq_true c17
      have c17b1 : decide (0 ≤ (t686.length : Int)) = true := decide_eq_true c17
      clear c17
      by_cases c18 : (t686.length : Int) ≤ (t683.length : Int)
      · rw [if_pos c18] at H
        have c18b0 := eq_true c18
        have c18b1 : decide ((t686.length : Int) ≤ (t683.length : Int)) = true := decide_eq_true c18
        clear c18
        obtain ⟨y689, hy689⟩ : ∃ y_ : List ByteArray, y_ = (t683.take ((t686.length : Int) : Int).toNat) := ⟨_, rfl⟩
        replace H : ((name_Of.f y689).bind fun bt693 => (if bt693.2 = 0 then ((name_Cmp.f bt693.1 a0_1).bind fun t695 => (rewrite_rule_prefix.j0 k t683 t686 (t695 != 0) a0_0 a0_1 a0_2 a0_3 a0_4 a1_0 a1_1 a1_2)) else (rewrite_rule_prefix.j0 k t683 t686 true a0_0 a0_1 a0_2 a0_3 a0_4 a1_0 a1_1 a1_2))) = some (r1, r2, r3, r4) := by first | (rw [hy689]; with_reducible exact H) | (have H2_ := (Option.bind_some _ _).symm.trans H; rw [hy689]; with_reducible exact H2_) | (have H2_ := (Option.bind_some _ _).symm.trans H; with_reducible exact H2_) | with_reducible exact H | (rw [hy689]; exact H) | exact H
        have Ny689 := Aside0.mk hy689
        clear hy689
        replace H := Option.bind_eq_some_iff.mp H
        obtain ⟨⟨t693, t694⟩, A190, H⟩ := H
        replace H : (if t694 = 0 then ((name_Cmp.f t693 a0_1).bind fun t695 => (rewrite_rule_prefix.j0 k t683 t686 (t695 != 0) a0_0 a0_1 a0_2 a0_3 a0_4 a1_0 a1_1 a1_2)) else (rewrite_rule_prefix.j0 k t683 t686 true a0_0 a0_1 a0_2 a0_3 a0_4 a1_0 a1_1 a1_2)) = some (r1, r2, r3, r4) := H
        have A19 := Aside0.mk A190
        clear A190
        have HC20 := Aside0.mk H
        clear H
        go_enter Try.func42, Try.ntmps42
        try go_wp2_with (first | ((with_reducible refine gate_dst (N := 2) rfl ?_); refine box_event ?hg (N := 2) ?hd (cs := #[.int .u8 a0_0, .string a0_1, .string a0_2, .int .u16 a0_3, .int .u16 a0_4]) (t := 82) ?hr ?_; (case hd => rfl); (case hg => rfl); (case hr => first | (go_simp; done) | (go_simp; rfl)); intro gb680 hg w21 hbox hb; have n0_ := Aside0.mk (below_step (by repeat (first | (with_reducible first | exact HB.out | apply below_alloc | apply pw_below_drewN | apply below_drew1) | exact HB.out)) hb); have n1_ := Aside0.mk (hbox); have n2_ := Aside0.mk ((by rw [hg]; exact (below_size (by repeat (first | (with_reducible first | exact HB.out | apply below_alloc | apply pw_below_drewN | apply below_drew1) | exact HB.out))) : w.heap.size ≤ gb680)); have n3_ := Aside0.mk ((by rw [hg]; exact (below_size (by repeat (first | (with_reducible first | exact HB.out | apply below_alloc | apply pw_below_drewN | apply below_drew1) | exact HB.out))) : w.heap.size ≤ gb680)); clear HB; have HB := n0_; have BK680 := n1_; have GW680 := n2_; have GE680 := n3_; clear n0_ n1_ n2_ n3_; clear hb hbox hg) | ((with_reducible refine gate_dst (N := 3) rfl ?_); refine box_event ?hg (N := 3) ?hd (cs := #[.string a1_0, .int .u16 a1_1, .int .u16 a1_2]) (t := 32) ?hr ?_; (case hd => rfl); (case hg => rfl); (case hr => first | (go_simp; done) | (go_simp; rfl)); intro gb681 hg w22 hbox hb; have n0_ := Aside0.mk (blk_below (g := gb680) (o := .cells #[.int .u8 a0_0, .string a0_1, .string a0_2, .int .u16 a0_3, .int .u16 a0_4] 82 (0, 0)) (by (with_reducible repeat (first | refine blk_drewN ?_ _ | refine blk_drew ?_ | refine blk_alloc ?_ _)); exact BK680.out) hb); have n1_ := Aside0.mk (below_step (by repeat (first | (with_reducible first | exact HB.out | apply below_alloc | apply pw_below_drewN | apply below_drew1 | refine below_set ?_ GE680.out) | exact HB.out)) hb); have n2_ := Aside0.mk (hbox); have n3_ := Aside0.mk ((by rw [hg]; exact (below_size (by repeat (first | (with_reducible first | exact HB.out | apply below_alloc | apply pw_below_drewN | apply below_drew1 | refine below_set ?_ GE680.out) | exact HB.out))) : w.heap.size ≤ gb681)); have n4_ := Aside0.mk ((by rw [hg]; exact (below_size (by repeat (first | (with_reducible first | exact HB.out | apply below_alloc | apply pw_below_drewN | apply below_drew1 | refine below_set ?_ GE680.out) | exact HB.out))) : w.heap.size ≤ gb681)); have n5_ := Aside0.mk ((by rw [hg]; exact Nat.ne_of_lt (blk_lt (g := gb680) (o := .cells #[.int .u8 a0_0, .string a0_1, .string a0_2, .int .u16 a0_3, .int .u16 a0_4] 82 (0, 0)) (by (with_reducible repeat (first | refine blk_drewN ?_ _ | refine blk_drew ?_ | refine blk_alloc ?_ _)); exact BK680.out)) : gb680 ≠ gb681)); have n6_ := Aside0.mk ((by rw [hg]; exact Nat.ne_of_gt (blk_lt (g := gb680) (o := .cells #[.int .u8 a0_0, .string a0_1, .string a0_2, .int .u16 a0_3, .int .u16 a0_4] 82 (0, 0)) (by (with_reducible repeat (first | refine blk_drewN ?_ _ | refine blk_drew ?_ | refine blk_alloc ?_ _)); exact BK680.out)) : gb681 ≠ gb680)); clear BK680; clear HB; have BK680 := n0_; have HB := n1_; have BK681 := n2_; have GW681 := n3_; have GE681 := n4_; have NB680_681 := n5_; have NB681_680 := n6_; clear n0_ n1_ n2_ n3_ n4_ n5_ n6_; clear hb hbox hg) | ((with_reducible refine gate_dst (N := 4) rfl ?_); refine box_event ?hg (N := 4) ?hd (cs := #[.string (⟨#[]⟩ : ByteArray), .int .u16 0, .int .u16 0]) (t := 32) ?hr ?_; (case hd => rfl); (case hg => rfl); (case hr => first | (go_simp; done) | (go_simp; rfl)); intro gb682 hg w23 hbox hb; have n0_ := Aside0.mk (blk_below (g := gb680) (o := .cells #[.int .u8 a0_0, .string a0_1, .string a0_2, .int .u16 a0_3, .int .u16 a0_4] 82 (0, 0)) (by (with_reducible repeat (first | refine blk_drewN ?_ _ | refine blk_drew ?_ | refine blk_alloc ?_ _)); exact BK680.out) hb); have n1_ := Aside0.mk (blk_below (g := gb681) (o := .cells #[.string a1_0, .int .u16 a1_1, .int .u16 a1_2] 32 (0, 0)) (by (with_reducible repeat (first | refine blk_drewN ?_ _ | refine blk_drew ?_ | refine blk_alloc ?_ _)); exact BK681.out) hb); have n2_ := Aside0.mk (below_step (by repeat (first | (with_reducible first | exact HB.out | apply below_alloc | apply pw_below_drewN | apply below_drew1 | refine below_set ?_ GE680.out | refine below_set ?_ GE681.out) | exact HB.out)) hb); have n3_ := Aside0.mk (hbox); have n4_ := Aside0.mk ((by rw [hg]; exact (below_size (by repeat (first | (with_reducible first | exact HB.out | apply below_alloc | apply pw_below_drewN | apply below_drew1 | refine below_set ?_ GE680.out | refine below_set ?_ GE681.out) | exact HB.out))) : w.heap.size ≤ gb682)); have n5_ := Aside0.mk ((by rw [hg]; exact (below_size (by repeat (first | (with_reducible first | exact HB.out | apply below_alloc | apply pw_below_drewN | apply below_drew1 | refine below_set ?_ GE680.out | refine below_set ?_ GE681.out) | exact HB.out))) : w.heap.size ≤ gb682)); have n6_ := Aside0.mk ((by rw [hg]; exact Nat.ne_of_lt (blk_lt (g := gb680) (o := .cells #[.int .u8 a0_0, .string a0_1, .string a0_2, .int .u16 a0_3, .int .u16 a0_4] 82 (0, 0)) (by (with_reducible repeat (first | refine blk_drewN ?_ _ | refine blk_drew ?_ | refine blk_alloc ?_ _)); exact BK680.out)) : gb680 ≠ gb682)); have n7_ := Aside0.mk ((by rw [hg]; exact Nat.ne_of_gt (blk_lt (g := gb680) (o := .cells #[.int .u8 a0_0, .string a0_1, .string a0_2, .int .u16 a0_3, .int .u16 a0_4] 82 (0, 0)) (by (with_reducible repeat (first | refine blk_drewN ?_ _ | refine blk_drew ?_ | refine blk_alloc ?_ _)); exact BK680.out)) : gb682 ≠ gb680)); have n8_ := Aside0.mk ((by rw [hg]; exact Nat.ne_of_lt (blk_lt (g := gb681) (o := .cells #[.string a1_0, .int .u16 a1_1, .int .u16 a1_2] 32 (0, 0)) (by (with_reducible repeat (first | refine blk_drewN ?_ _ | refine blk_drew ?_ | refine blk_alloc ?_ _)); exact BK681.out)) : gb681 ≠ gb682)); have n9_ := Aside0.mk ((by rw [hg]; exact Nat.ne_of_gt (blk_lt (g := gb681) (o := .cells #[.string a1_0, .int .u16 a1_1, .int .u16 a1_2] 32 (0, 0)) (by (with_reducible repeat (first | refine blk_drewN ?_ _ | refine blk_drew ?_ | refine blk_alloc ?_ _)); exact BK681.out)) : gb682 ≠ gb681)); clear BK680; clear BK681; clear HB; have BK680 := n0_; have BK681 := n1_; have HB := n2_; have BK682 := n3_; have GW682 := n4_; have GE682 := n5_; have NB680_682 := n6_; have NB682_680 := n7_; have NB681_682 := n8_; have NB682_681 := n9_; clear n0_ n1_ n2_ n3_ n4_ n5_ n6_ n7_ n8_ n9_; clear hb hbox hg))
        have n0_ := Aside0.mk (blk_drew BK680.out)
        have n1_ := Aside0.mk (blk_drew BK681.out)
        have n2_ := Aside0.mk (blk_drew BK682.out)
        have n3_ := Aside0.mk (below_drew1 HB.out)
        clear BK680
        clear BK681
        clear BK682
        clear HB
        have BK680 := n0_
        have BK681 := n1_
        have BK682 := n2_
        have HB := n3_
        clear n0_ n1_ n2_ n3_
        refine start_ (n := 9) (S := fun w' => w'.cell? ⟨gb681, 0, none⟩ = some (.string a1_0) ∧ w'.cell? ⟨gb681, 1, none⟩ = some (.int .u16 a1_1) ∧ w'.cell? ⟨gb681, 2, none⟩ = some (.int .u16 a1_2) ∧ w'.cell? ⟨gb680, 0, none⟩ = some (.int .u8 a0_0) ∧ w'.cell? ⟨gb680, 1, none⟩ = some (.string a0_1) ∧ w'.cell? ⟨gb680, 2, none⟩ = some (.string a0_2) ∧ w'.cell? ⟨gb680, 3, none⟩ = some (.int .u16 a0_3) ∧ w'.cell? ⟨gb680, 4, none⟩ = some (.int .u16 a0_4)) (ds := []) #[false, false, false, false, false, false, false, false, false] (by kernel_rfl) rfl rfl ⟨(blk_cell BK681.out 0).trans rfl, (blk_cell BK681.out 1).trans rfl, (blk_cell BK681.out 2).trans rfl, (blk_cell BK680.out 0).trans rfl, (blk_cell BK680.out 1).trans rfl, (blk_cell BK680.out 2).trans rfl, (blk_cell BK680.out 3).trans rfl, (blk_cell BK680.out 4).trans rfl⟩ (fun hHeld => ?_); refine with_tabW rewrite_rule_prefix.tab1 rewrite_rule_prefix.bits1 (fun HT_ HW_ => ?_)
        generalize w23.drew = w24 at BK680 BK681 BK682 HB hHeld ⊢
        refine pure_ (i := 0) (N := some 10) (v := ?_) (a' := ?_) #[true, false, false, false, false, false, false, false, false] rfl rfl (any_of HT_.out (by kernel_rfl)) (fun _ _ _ h => h) (Or.inl ⟨by rfl, ?_⟩) ?_ ?_
        rotate_left
        · intro w'
          go_simp
          with_reducible rfl
        rotate_left
        · simp only [Act.put, List.setIfInBounds_toArray, List.set_cons_zero, List.set_cons_succ, i64_w, i32_w]
          rfl
        refine pure_ (i := 3) (N := some 13) (v := ?_) (a' := ?_) #[true, false, false, true, false, false, false, false, false] rfl rfl (any_of HT_.out (by kernel_rfl)) (fun _ _ _ h => h) (Or.inl ⟨by rfl, ?_⟩) ?_ ?_
        rotate_left
        · intro w'
          go_simp
          with_reducible rfl
        rotate_left
        · simp only [Act.put, List.setIfInBounds_toArray, List.set_cons_zero, List.set_cons_succ, i64_w, i32_w]
          rfl
        refine pure_ (i := 4) (N := some 14) (v := ?_) (a' := ?_) #[true, false, false, true, true, false, false, false, false] rfl rfl (any_of HT_.out (by kernel_rfl)) (fun _ _ _ h => h) (Or.inl ⟨by rfl, ?_⟩) ?_ ?_
        rotate_left
        · intro w'
          go_simp
          with_reducible rfl
        rotate_left
        · simp only [Act.put, List.setIfInBounds_toArray, List.set_cons_zero, List.set_cons_succ, i64_w, i32_w]
          rfl
        refine take_ (i := 1) (N := some 11) (v := ?_) (a' := ?_) #[true, true, false, true, true, false, false, false, false] rfl rfl (take_ofW HT_.out HW_.out (by kernel_rfl)) (fun _ _ _ h => h) (Or.inl ⟨by rfl, ?_⟩) hHeld ?_ ?_
        rotate_left
        · rintro w' ⟨s0, s1, s2, s3, s4, s5, s6, s7⟩
          go_simp
          with_reducible rfl
        rotate_left
        · simp only [Act.put, List.setIfInBounds_toArray, List.set_cons_zero, List.set_cons_succ, i64_w, i32_w]
          rfl
        refine take_ (i := 5) (N := some 15) (v := ?_) (a' := ?_) #[true, true, false, true, true, true, false, false, false] rfl rfl (take_ofW HT_.out HW_.out (by kernel_rfl)) (fun _ _ _ h => h) (Or.inl ⟨by rfl, ?_⟩) hHeld ?_ ?_
        rotate_left
        · rintro w' ⟨s0, s1, s2, s3, s4, s5, s6, s7⟩
          go_simp
          with_reducible rfl
        rotate_left
        · simp only [Act.put, List.setIfInBounds_toArray, List.set_cons_zero, List.set_cons_succ, i64_w, i32_w]
          rfl
        refine one_ (i := 2) (N := some 12) #[true, true, true, true, true, true, false, false, false] rfl rfl (one_of HT_.out (by kernel_rfl)) (by decide) (fun K hK => ?_)
        refine goes_ Try.func52 (by kernel_rfl) rfl #[.string a1_0] (by rfl) rfl rfl (by (try simp only [List.map_toArray, List.map_cons, List.map_nil]); first | done | rfl | (simp only [List.length_drop, List.length_take]; rfl)) ?_
        with_reducible refine (name_Labels.calls k a1_0 t683 _ A3.out).mono ?_
        rintro e w25 ⟨v684, rfl, ho0, hb⟩
        refine ⟨_, rfl, ?_⟩
        have n0_ := Aside0.mk (Kd.R_lower ho0 (below_size (by repeat (first | (with_reducible first | exact HB.out | apply below_alloc | apply pw_below_drewN | apply below_drew1 | refine below_set ?_ GE680.out | refine below_set ?_ GE681.out | refine below_set ?_ GE682.out) | exact HB.out))))
        have n1_ := Aside0.mk (blk_below (g := gb680) (o := .cells #[.int .u8 a0_0, .string a0_1, .string a0_2, .int .u16 a0_3, .int .u16 a0_4] 82 (0, 0)) (by (with_reducible repeat (first | refine blk_drewN ?_ _ | refine blk_drew ?_ | refine blk_alloc ?_ _)); exact BK680.out) hb)
        have n2_ := Aside0.mk (blk_below (g := gb681) (o := .cells #[.string a1_0, .int .u16 a1_1, .int .u16 a1_2] 32 (0, 0)) (by (with_reducible repeat (first | refine blk_drewN ?_ _ | refine blk_drew ?_ | refine blk_alloc ?_ _)); exact BK681.out) hb)
        have n3_ := Aside0.mk (blk_below (g := gb682) (o := .cells #[.string (⟨#[]⟩ : ByteArray), .int .u16 0, .int .u16 0] 32 (0, 0)) (by (with_reducible repeat (first | refine blk_drewN ?_ _ | refine blk_drew ?_ | refine blk_alloc ?_ _)); exact BK682.out) hb)
        have n4_ := Aside0.mk (below_step (by repeat (first | (with_reducible first | exact HB.out | apply below_alloc | apply pw_below_drewN | apply below_drew1 | refine below_set ?_ GE680.out | refine below_set ?_ GE681.out | refine below_set ?_ GE682.out) | exact HB.out)) hb)
        clear BK680
        clear BK681
        clear BK682
        clear HB
        have HO685 := n0_
        have BK680 := n1_
        have BK681 := n2_
        have BK682 := n3_
        have HB := n4_
        clear n0_ n1_ n2_ n3_ n4_
        (try clear hb)
        (try clear hb2)
        (try clear hk)
        (try clear hi)
        (try clear ho0)
        refine hK.out _ _ ⟨(blk_cell BK681.out 0).trans rfl, (blk_cell BK681.out 1).trans rfl, (blk_cell BK681.out 2).trans rfl, (blk_cell BK680.out 0).trans rfl, (blk_cell BK680.out 1).trans rfl, (blk_cell BK680.out 2).trans rfl, (blk_cell BK680.out 3).trans rfl, (blk_cell BK680.out 4).trans rfl⟩ (fun hHeld => ?_)
        clear hK K
        refine norm_ (a' := ?_) ?_ ?_
        rotate_left
        · show Act.put _ (some 12) _ = _
          simp only [Act.put, List.setIfInBounds_toArray, List.set_cons_zero, List.set_cons_succ, i64_w, i32_w]
          rfl
        refine one_ (i := 6) (N := some 16) #[true, true, true, true, true, true, true, false, false] rfl rfl (one_of HT_.out (by kernel_rfl)) (by decide) (fun K hK => ?_)
        refine goes_ Try.func52 (by kernel_rfl) rfl #[.string a0_1] (by rfl) rfl rfl (by (try simp only [List.map_toArray, List.map_cons, List.map_nil]); first | done | rfl | (simp only [List.length_drop, List.length_take]; rfl)) ?_
        with_reducible refine (name_Labels.calls k a0_1 t686 _ A4.out).mono ?_
        rintro e w26 ⟨v687, rfl, ho0, hb⟩
        refine ⟨_, rfl, ?_⟩
        have n0_ := Aside0.mk (Kd.R_elder' (by (with_reducible repeat (first | apply Kd.R_alloc | apply Kd.R_drewN | apply Kd.R_drew)); exact HO685.out) (Kd.R_base ho0) hb)
        have n1_ := Aside0.mk (Kd.R_lower (Kd.R_new' ho0 (Kd.R_lt (by (with_reducible repeat (first | apply Kd.R_alloc | apply Kd.R_drewN | apply Kd.R_drew)); exact HO685.out))) (below_size (by repeat (first | (with_reducible first | exact HB.out | apply below_alloc | apply pw_below_drewN | apply below_drew1 | refine below_set ?_ GE680.out | refine below_set ?_ GE681.out | refine below_set ?_ GE682.out) | exact HB.out))))
        have n2_ := Aside0.mk (blk_below (g := gb680) (o := .cells #[.int .u8 a0_0, .string a0_1, .string a0_2, .int .u16 a0_3, .int .u16 a0_4] 82 (0, 0)) (by (with_reducible repeat (first | refine blk_drewN ?_ _ | refine blk_drew ?_ | refine blk_alloc ?_ _)); exact BK680.out) hb)
        have n3_ := Aside0.mk (blk_below (g := gb681) (o := .cells #[.string a1_0, .int .u16 a1_1, .int .u16 a1_2] 32 (0, 0)) (by (with_reducible repeat (first | refine blk_drewN ?_ _ | refine blk_drew ?_ | refine blk_alloc ?_ _)); exact BK681.out) hb)
        have n4_ := Aside0.mk (blk_below (g := gb682) (o := .cells #[.string (⟨#[]⟩ : ByteArray), .int .u16 0, .int .u16 0] 32 (0, 0)) (by (with_reducible repeat (first | refine blk_drewN ?_ _ | refine blk_drew ?_ | refine blk_alloc ?_ _)); exact BK682.out) hb)
        have n5_ := Aside0.mk (below_step (by repeat (first | (with_reducible first | exact HB.out | apply below_alloc | apply pw_below_drewN | apply below_drew1 | refine below_set ?_ GE680.out | refine below_set ?_ GE681.out | refine below_set ?_ GE682.out) | exact HB.out)) hb)
        clear HO685
        clear BK680
        clear BK681
        clear BK682
        clear HB
        have HO685 := n0_
        have HO688 := n1_
        have BK680 := n2_
        have BK681 := n3_
        have BK682 := n4_
        have HB := n5_
        clear n0_ n1_ n2_ n3_ n4_ n5_
        (try clear hb)
        (try clear hb2)
        (try clear hk)
        (try clear hi)
        (try clear ho0)
        refine hK.out _ _ ⟨(blk_cell BK681.out 0).trans rfl, (blk_cell BK681.out 1).trans rfl, (blk_cell BK681.out 2).trans rfl, (blk_cell BK680.out 0).trans rfl, (blk_cell BK680.out 1).trans rfl, (blk_cell BK680.out 2).trans rfl, (blk_cell BK680.out 3).trans rfl, (blk_cell BK680.out 4).trans rfl⟩ (fun hHeld => ?_)
        clear hK K
        refine norm_ (a' := ?_) ?_ ?_
        rotate_left
        · show Act.put _ (some 16) _ = _
          simp only [Act.put, List.setIfInBounds_toArray, List.set_cons_zero, List.set_cons_succ, i64_w, i32_w]
          rfl
        refine pure_ (i := 7) (N := some 6) (v := ?_) (a' := ?_) #[true, true, true, true, true, true, true, true, false] rfl rfl (any_of HT_.out (by kernel_rfl)) (fun _ _ _ h => h) (Or.inl ⟨by rfl, ?_⟩) ?_ ?_
        rotate_left
        · intro w'
          go_simp
          with_reducible rfl
        rotate_left
        · simp only [Act.put, List.setIfInBounds_toArray, List.set_cons_zero, List.set_cons_succ, i64_w, i32_w]
          rfl
        refine pure_ (i := 8) (N := some 7) (v := ?_) (a' := ?_) #[true, true, true, true, true, true, true, true, true] rfl rfl (any_of HT_.out (by kernel_rfl)) (fun _ _ _ h => h) (Or.inl ⟨by rfl, ?_⟩) ?_ ?_
        rotate_left
        · intro w'
          go_simp
          with_reducible rfl
        rotate_left
        · simp only [Act.put, List.setIfInBounds_toArray, List.set_cons_zero, List.set_cons_succ, i64_w, i32_w]
          rfl
        refine done_ (done_of HT_.out (by kernel_rfl)) ?_
        obtain ⟨Ao27, co27, eo27⟩ := Kd.R_slice HO685.out
        subst eo27
        obtain ⟨Ao28, co28, eo28⟩ := Kd.R_slice HO688.out
        subst eo28
        have q29 : ((t686.length : Int) : Int) ≤ ((t683.length : Int) : Int) := of_decide_eq_true (by first | (with_reducible assumption) | assumption)
        obtain ⟨i029, hi029, _, hsz29, _⟩ := info_parts info9
        have hroom29 : t683.length ≤ co27 := (Kd.R_reads' HO685.out).2.1
        have hC29 : Kd.C Kd.string _ Ao27 t683.length t683 := (Kd.R_reads' HO685.out).2.2
        have hcut29 := cut_to (P := Try.prog) 40 9 .i64 Try.underlying40 hi029 Ao27 t683.length co27 (t686.length : Int) (of_decide_eq_true (by first | (with_reducible assumption) | assumption)) q29 hroom29
        have hr29 := Kd.C_take (m := ((t686.length : Int) : Int).toNat) hC29 (by omega)
        have hy29 : y689.length = ((t686.length : Int) : Int).toNat := (by rw [Ny689.out, List.length_take]; omega)
        rw [← Ny689.out] at hr29
        rw [← hy29] at hcut29
        have HR692 := Aside0.mk hr29
        have HC692 := Aside0.mk (show y689.length ≤ co27 from by omega)
        clear hr29 hC29 hroom29 hi029 hsz29
        have KY29 := Aside0.mk hy29
        clear hy29
        have KL29 := Aside0.mk (show ((t686.length : Int) : Int).toNat ≤ t683.length from by omega)
        replace q29 := eq_true q29
        go_upto_region 5 with (first | ((with_reducible refine gate_callee (f := 55) rfl ?_); refine goesL_ (some 28) rfl rfl Try.func55 (by kernel_rfl) rfl #[.slice Ao27 y689.length co27] rfl (by (try simp only [List.map_toArray, List.map_cons, List.map_nil]); first | done | rfl | (simp only [List.length_drop, List.length_take]; rfl)) ?_; (with_reducible refine (name_Of.calls _ _ y689 t693 t694 _ ?side1 ?side2 A19.out).mono ?_); (case side1 => repeat (first | exact (by repeat (first | (with_reducible exact HR692.out) | (with_reducible refine Kd.C_alloc ?_ _) | (with_reducible refine Kd.C_drewN ?_ _) | (with_reducible refine Kd.C_drew ?_) | exact HR692.out)) | (with_reducible refine Kd.C_alloc ?_ _) | (with_reducible refine Kd.C_drewN ?_ _) | (with_reducible refine Kd.C_drew ?_))); (case side2 => exact HC692.out); rintro e w30 ⟨rfl, hb⟩; refine ⟨_, rfl, ?_⟩; have n0_ := Aside0.mk (Kd.R_below (by (with_reducible repeat (first | apply Kd.R_alloc | apply Kd.R_drewN | apply Kd.R_drew)); exact HO685.out) hb); have n1_ := Aside0.mk (Kd.R_below (by (with_reducible repeat (first | apply Kd.R_alloc | apply Kd.R_drewN | apply Kd.R_drew)); exact HO688.out) hb); have n2_ := Aside0.mk (blk_below (g := gb680) (o := .cells #[.int .u8 a0_0, .string a0_1, .string a0_2, .int .u16 a0_3, .int .u16 a0_4] 82 (0, 0)) (by (with_reducible repeat (first | refine blk_drewN ?_ _ | refine blk_drew ?_ | refine blk_alloc ?_ _)); exact BK680.out) hb); have n3_ := Aside0.mk (blk_below (g := gb681) (o := .cells #[.string a1_0, .int .u16 a1_1, .int .u16 a1_2] 32 (0, 0)) (by (with_reducible repeat (first | refine blk_drewN ?_ _ | refine blk_drew ?_ | refine blk_alloc ?_ _)); exact BK681.out) hb); have n4_ := Aside0.mk (blk_below (g := gb682) (o := .cells #[.string (⟨#[]⟩ : ByteArray), .int .u16 0, .int .u16 0] 32 (0, 0)) (by (with_reducible repeat (first | refine blk_drewN ?_ _ | refine blk_drew ?_ | refine blk_alloc ?_ _)); exact BK682.out) hb); have n5_ := Aside0.mk (Kd.C_below (by repeat (first | (with_reducible exact HR692.out) | (with_reducible refine Kd.C_alloc ?_ _) | (with_reducible refine Kd.C_drewN ?_ _) | (with_reducible refine Kd.C_drew ?_) | exact HR692.out)) hb); have n6_ := Aside0.mk (below_step (by repeat (first | (with_reducible first | exact HB.out | apply below_alloc | apply pw_below_drewN | apply below_drew1 | refine below_set ?_ GE680.out | refine below_set ?_ GE681.out | refine below_set ?_ GE682.out) | exact HB.out)) hb); clear HO685; clear HO688; clear BK680; clear BK681; clear BK682; clear HR692; clear HB; have HO685 := n0_; have HO688 := n1_; have BK680 := n2_; have BK681 := n3_; have BK682 := n4_; have HR692 := n5_; have HB := n6_; clear n0_ n1_ n2_ n3_ n4_ n5_ n6_; (try clear hb); (try clear hb2); (try clear hk); (try clear hi)))
        (try simp only [Act.put, List.setIfInBounds_toArray, List.set_cons_zero, List.set_cons_succ])
        go_cut [40] (fun v40 wc => ∃ (kq : Nat) (x40_19 : Bool), v40 = .bool x40_19 ∧ Aside0 (rewrite_rule_prefix.j0 kq t683 t686 x40_19 a0_0 a0_1 a0_2 a0_3 a0_4 a1_0 a1_1 a1_2 = some (r1, r2, r3, r4)) ∧ Aside0 (kq ≤ k) ∧ Aside0 (Kd.R Kd.string 9 wc w.heap.size (fun k_ => some k_ ≠ ((.slice Ao28 t686.length co28) : Value).ownBlock) (.slice Ao27 t683.length co27) t683) ∧ Aside0 (Kd.R Kd.string 9 wc w.heap.size (fun k_ => some k_ ≠ ((.slice Ao27 t683.length co27) : Value).ownBlock) (.slice Ao28 t686.length co28) t686) ∧ Aside0 (wc.heap[gb680]? = some (.cells #[.int .u8 a0_0, .string a0_1, .string a0_2, .int .u16 a0_3, .int .u16 a0_4] 82 (0, 0))) ∧ Aside0 (wc.heap[gb681]? = some (.cells #[.string a1_0, .int .u16 a1_1, .int .u16 a1_2] 32 (0, 0))) ∧ Aside0 (wc.heap[gb682]? = some (.cells #[.string (⟨#[]⟩ : ByteArray), .int .u16 0, .int .u16 0] 32 (0, 0))) ∧ Aside0 (Kd.C Kd.string wc Ao27 y689.length y689) ∧ Aside0 (Below w.heap.size w wc))
        case first =>
          have H := HC20.out
          clear HC20
          by_cases c31 : t694 = 0
          · rw [if_pos c31] at H
            have c31b0 : (t694 == 0) = true := beq_iff_eq.mpr c31
            have c31b1 : (t694 != 0) = false := bne_eq_false_iff_eq.mpr c31
            clear c31
            (first | rw [c31b0] | (simp only [i64_w, i32_w]; rw [c31b0]) | skip)
            replace H := Option.bind_eq_some_iff.mp H
            obtain ⟨t695, A320, H⟩ := H
            replace H : (rewrite_rule_prefix.j0 k t683 t686 (t695 != 0) a0_0 a0_1 a0_2 a0_3 a0_4 a1_0 a1_1 a1_2) = some (r1, r2, r3, r4) := H
            have A32 := Aside0.mk A320
            clear A320
            have H' := Aside0.mk H
            clear H
            have hnb33 := NB680_681.out
            have hnc33 := NB681_680.out
            have hnb34 := NB680_682.out
            have hnc34 := NB682_680.out
            have hcz35_0 : w30.cell? ⟨gb680, 0, none⟩ = some (.int .u8 a0_0) := (blk_cell BK680.out 0).trans rfl
            have hcz35_1 : w30.cell? ⟨gb680, 1, none⟩ = some (.string a0_1) := (blk_cell BK680.out 1).trans rfl
            have hcz35_2 : w30.cell? ⟨gb680, 2, none⟩ = some (.string a0_2) := (blk_cell BK680.out 2).trans rfl
            have hcz35_3 : w30.cell? ⟨gb680, 3, none⟩ = some (.int .u16 a0_3) := (blk_cell BK680.out 3).trans rfl
            have hcz35_4 : w30.cell? ⟨gb680, 4, none⟩ = some (.int .u16 a0_4) := (blk_cell BK680.out 4).trans rfl
            have hfz35_0 := blk_frozen BK680.out 0
            have hfz35_1 := blk_frozen BK680.out 1
            have hfz35_2 := blk_frozen BK680.out 2
            have hfz35_3 := blk_frozen BK680.out 3
            have hfz35_4 := blk_frozen BK680.out 4
            go_wp2_with (first | (go_at_call 50; (with_reducible refine (name_Cmp.calls t693 a0_1 t695 _ A32.out).mono ?_); rintro e w36 ⟨rfl, hb⟩; have n0_ := Aside0.mk (Kd.R_below (by (with_reducible repeat (first | apply Kd.R_alloc | apply Kd.R_drewN | apply Kd.R_drew)); exact HO685.out) hb); have n1_ := Aside0.mk (Kd.R_below (by (with_reducible repeat (first | apply Kd.R_alloc | apply Kd.R_drewN | apply Kd.R_drew)); exact HO688.out) hb); have n2_ := Aside0.mk (blk_below (g := gb680) (o := .cells #[.int .u8 a0_0, .string a0_1, .string a0_2, .int .u16 a0_3, .int .u16 a0_4] 82 (0, 0)) (by (with_reducible repeat (first | refine blk_drewN ?_ _ | refine blk_drew ?_ | refine blk_alloc ?_ _)); exact BK680.out) hb); have n3_ := Aside0.mk (blk_below (g := gb681) (o := .cells #[.string a1_0, .int .u16 a1_1, .int .u16 a1_2] 32 (0, 0)) (by (with_reducible repeat (first | refine blk_drewN ?_ _ | refine blk_drew ?_ | refine blk_alloc ?_ _)); exact BK681.out) hb); have n4_ := Aside0.mk (blk_below (g := gb682) (o := .cells #[.string (⟨#[]⟩ : ByteArray), .int .u16 0, .int .u16 0] 32 (0, 0)) (by (with_reducible repeat (first | refine blk_drewN ?_ _ | refine blk_drew ?_ | refine blk_alloc ?_ _)); exact BK682.out) hb); have n5_ := Aside0.mk (Kd.C_below (by repeat (first | (with_reducible exact HR692.out) | (with_reducible refine Kd.C_alloc ?_ _) | (with_reducible refine Kd.C_drewN ?_ _) | (with_reducible refine Kd.C_drew ?_) | exact HR692.out)) hb); have n6_ := Aside0.mk (below_step (by repeat (first | (with_reducible first | exact HB.out | apply below_alloc | apply pw_below_drewN | apply below_drew1 | refine below_set ?_ GE680.out | refine below_set ?_ GE681.out | refine below_set ?_ GE682.out) | exact HB.out)) hb); clear HO685; clear HO688; clear BK680; clear BK681; clear BK682; clear HR692; clear HB; have HO685 := n0_; have HO688 := n1_; have BK680 := n2_; have BK681 := n3_; have BK682 := n4_; have HR692 := n5_; have HB := n6_; clear n0_ n1_ n2_ n3_ n4_ n5_ n6_; (try clear hb); (try clear hb2); (try clear hk); (try clear hi)))
            go_meet
            case rel => exact ⟨_, ((t695 != 0)), (by first | rfl | (simp; done) | (simp [*]; done)), H', ⟨by first | omega | exact Nat.le_refl _⟩, ⟨by (with_reducible repeat (first | apply Kd.R_alloc | apply Kd.R_drewN | apply Kd.R_drew)); exact Kd.R_mono HO685.out (fun _ hk => hk.2)⟩, ⟨by (with_reducible repeat (first | apply Kd.R_alloc | apply Kd.R_drewN | apply Kd.R_drew)); exact Kd.R_mono HO688.out (fun _ hk => hk.2)⟩, ⟨by (with_reducible repeat (first | refine blk_drewN ?_ _ | refine blk_drew ?_ | refine blk_alloc ?_ _)); exact BK680.out⟩, ⟨by (with_reducible repeat (first | refine blk_drewN ?_ _ | refine blk_drew ?_ | refine blk_alloc ?_ _)); exact BK681.out⟩, ⟨by (with_reducible repeat (first | refine blk_drewN ?_ _ | refine blk_drew ?_ | refine blk_alloc ?_ _)); exact BK682.out⟩, ⟨by repeat (first | (with_reducible exact HR692.out) | (with_reducible refine Kd.C_alloc ?_ _) | (with_reducible refine Kd.C_drewN ?_ _) | (with_reducible refine Kd.C_drew ?_) | exact HR692.out)⟩, ⟨by repeat (first | (with_reducible first | exact HB.out | apply below_alloc | apply pw_below_drewN | apply below_drew1 | refine below_set ?_ GE680.out | refine below_set ?_ GE681.out | refine below_set ?_ GE682.out) | exact HB.out)⟩⟩
          · rw [if_neg c31] at H
            have c31b0 : (t694 == 0) = false := beq_eq_false_iff_ne.mpr c31
            have c31b1 : (t694 != 0) = true := bne_iff_ne.mpr c31
            (first | rw [c31b0] | (simp only [i64_w, i32_w]; rw [c31b0]) | skip)
            have H' := Aside0.mk H
            clear H
            go_wp2
            go_meet
            case rel => exact ⟨_, (true), (by first | rfl | (simp; done) | (simp [*]; done)), H', ⟨by first | omega | exact Nat.le_refl _⟩, ⟨by (with_reducible repeat (first | apply Kd.R_alloc | apply Kd.R_drewN | apply Kd.R_drew)); exact Kd.R_mono HO685.out (fun _ hk => hk.2)⟩, ⟨by (with_reducible repeat (first | apply Kd.R_alloc | apply Kd.R_drewN | apply Kd.R_drew)); exact Kd.R_mono HO688.out (fun _ hk => hk.2)⟩, ⟨by (with_reducible repeat (first | refine blk_drewN ?_ _ | refine blk_drew ?_ | refine blk_alloc ?_ _)); exact BK680.out⟩, ⟨by (with_reducible repeat (first | refine blk_drewN ?_ _ | refine blk_drew ?_ | refine blk_alloc ?_ _)); exact BK681.out⟩, ⟨by (with_reducible repeat (first | refine blk_drewN ?_ _ | refine blk_drew ?_ | refine blk_alloc ?_ _)); exact BK682.out⟩, ⟨by repeat (first | (with_reducible exact HR692.out) | (with_reducible refine Kd.C_alloc ?_ _) | (with_reducible refine Kd.C_drewN ?_ _) | (with_reducible refine Kd.C_drew ?_) | exact HR692.out)⟩, ⟨by repeat (first | (with_reducible first | exact HB.out | apply below_alloc | apply pw_below_drewN | apply below_drew1 | refine below_set ?_ GE680.out | refine below_set ?_ GE681.out | refine below_set ?_ GE682.out) | exact HB.out)⟩⟩
        case rest =>
          clear HC20
          try clear c1
          try clear p2
          try clear q2
          try clear c3
          try clear c4
          try clear c5
          try clear c5b0
          try clear c5b1
          try clear c14
          try clear c15
          try clear c17
          try clear c17b0
          try clear c17b1
          try clear c18
          try clear c18b0
          try clear c18b1
          try clear q29
          try clear c31
          try clear c31b0
          try clear c31b1
          try clear c33
          try clear c34
          try clear hcz16_0
          try clear hcz16_1
          try clear hcz16_2
          try clear hcz35_0
          try clear hcz35_1
          try clear hcz35_2
          try clear hcz35_3
          try clear hcz35_4
          try clear hfz16_0
          try clear hfz16_1
          try clear hfz16_2
          try clear hfz35_0
          try clear hfz35_1
          try clear hfz35_2
          try clear hfz35_3
          try clear hfz35_4
          try clear q29
          obtain ⟨kq, x40_19, rfl, HA, HJ19, HO_6, HO_7, BK680, BK681, BK682, HR692, HB⟩ := hcut
          cases kq with
          | zero => exact absurd HA.out (by simp [rewrite_rule_prefix.j0])
          | succ kj19 =>
            have H := HA.out
            clear HA
            simp only [rewrite_rule_prefix.j0] at H
            by_cases c37 : x40_19 = true
            · subst c37
              have H1 : (some ((⟨#[]⟩ : ByteArray), 0, 0, false)) = some (r1, r2, r3, r4) := by rw [if_pos rfl] at H; exact H
              clear H
              have H := H1
              clear H1
              simp only [Option.some.injEq, Prod.mk.injEq] at H
              obtain ⟨rfl, rfl, rfl, rfl⟩ := H
              have hnb38 := NB682_680.out
              have hnc38 := NB680_682.out
              have hnb39 := NB682_681.out
              have hnc39 := NB681_682.out
              have hcz40_0 : wc.cell? ⟨gb682, 0, none⟩ = some (.string (⟨#[]⟩ : ByteArray)) := (blk_cell BK682.out 0).trans rfl
              have hcz40_1 : wc.cell? ⟨gb682, 1, none⟩ = some (.int .u16 0) := (blk_cell BK682.out 1).trans rfl
              have hcz40_2 : wc.cell? ⟨gb682, 2, none⟩ = some (.int .u16 0) := (blk_cell BK682.out 2).trans rfl
              have hfz40_0 := blk_frozen BK682.out 0
              have hfz40_1 := blk_frozen BK682.out 1
              have hfz40_2 := blk_frozen BK682.out 2
              go_wp2
              refine bodyPost_ret (results_ct rfl _ _ gb682 32 #[.string (⟨#[]⟩ : ByteArray), .int .u16 0, .int .u16 0] (0, 0) _ rfl (by (with_reducible repeat (first | refine blk_drewN ?_ _ | refine blk_drew ?_ | refine blk_alloc ?_ _)); refine blk_put (cs := #[.string (⟨#[]⟩ : ByteArray), .int .u16 0, .int .u16 0]) ?_ 2 _ rfl; (with_reducible repeat (first | refine blk_drewN ?_ _ | refine blk_drew ?_ | refine blk_alloc ?_ _)); refine blk_put (cs := #[.string (⟨#[]⟩ : ByteArray), .int .u16 0, .int .u16 0]) ?_ 1 _ rfl; (with_reducible repeat (first | refine blk_drewN ?_ _ | refine blk_drew ?_ | refine blk_alloc ?_ _)); refine blk_put (cs := #[.string (⟨#[]⟩ : ByteArray), .int .u16 0, .int .u16 0]) ?_ 0 _ rfl; (with_reducible repeat (first | refine blk_drewN ?_ _ | refine blk_drew ?_ | refine blk_alloc ?_ _)); exact BK682.out) Try.underlying32 rfl (by kernel_rfl)) rfl ?_
              exact ⟨by first | rfl | (simp [errW_none, errW_some] <;> rfl) | (simp [*, errW_none, errW_some] <;> rfl), by repeat (first | (with_reducible first | exact HB.out | apply below_alloc | apply pw_below_drewN | apply below_drew1 | refine below_set ?_ GE680.out | refine below_set ?_ GE681.out | refine below_set ?_ GE682.out) | exact HB.out)⟩
            · replace c37 := Bool.eq_false_iff.mpr c37
              subst c37
              have H1 : ((name_Labels.f kj19 a0_2).bind fun t696 => (if 0 ≤ (t686.length : Int) then (if (t686.length : Int) ≤ (t683.length : Int) then ((rewrite_rule_of.f a0_0 a0_1 a0_2 a0_3 a0_4 a1_0 a1_1 a1_2 t696 (t683.drop ((t686.length : Int) : Int).toNat)).bind fun bt703 => (some (bt703.1, bt703.2.1, bt703.2.2.1, bt703.2.2.2))) else (none)) else (none))) = some (r1, r2, r3, r4) := by rw [if_neg (show ¬ (false = true) by decide)] at H; exact H
              clear H
              have H := H1
              clear H1
              replace H := Option.bind_eq_some_iff.mp H
              obtain ⟨t696, A410, H⟩ := H
              replace H : (if 0 ≤ (t686.length : Int) then (if (t686.length : Int) ≤ (t683.length : Int) then ((rewrite_rule_of.f a0_0 a0_1 a0_2 a0_3 a0_4 a1_0 a1_1 a1_2 t696 (t683.drop ((t686.length : Int) : Int).toNat)).bind fun bt703 => (some (bt703.1, bt703.2.1, bt703.2.2.1, bt703.2.2.2))) else (none)) else (none)) = some (r1, r2, r3, r4) := H
              have A41 := Aside0.mk A410
              clear A410
              by_cases c42 : 0 ≤ (t686.length : Int)
              · rw [if_pos c42] at H
                have c42b0 := eq_true c42
                have c42b1 : decide (0 ≤ (t686.length : Int)) = true := decide_eq_true c42
                clear c42
                by_cases c43 : (t686.length : Int) ≤ (t683.length : Int)
                · rw [if_pos c43] at H
                  have c43b0 := eq_true c43
                  have c43b1 : decide ((t686.length : Int) ≤ (t683.length : Int)) = true := decide_eq_true c43
                  clear c43
                  obtain ⟨y699, hy699⟩ : ∃ y_ : List ByteArray, y_ = (t683.drop ((t686.length : Int) : Int).toNat) := ⟨_, rfl⟩
                  replace H : ((rewrite_rule_of.f a0_0 a0_1 a0_2 a0_3 a0_4 a1_0 a1_1 a1_2 t696 y699).bind fun bt703 => (some (bt703.1, bt703.2.1, bt703.2.2.1, bt703.2.2.2))) = some (r1, r2, r3, r4) := by first | (rw [hy699]; with_reducible exact H) | (have H2_ := (Option.bind_some _ _).symm.trans H; rw [hy699]; with_reducible exact H2_) | (have H2_ := (Option.bind_some _ _).symm.trans H; with_reducible exact H2_) | with_reducible exact H | (rw [hy699]; exact H) | exact H
                  have Ny699 := Aside0.mk hy699
                  clear hy699
                  replace H := Option.bind_eq_some_iff.mp H
                  obtain ⟨⟨t703, t704, t705, t706⟩, A440, H⟩ := H
                  replace H : (some (t703, t704, t705, t706)) = some (r1, r2, r3, r4) := H
                  have A44 := Aside0.mk A440
                  clear A440
                  simp only [Option.some.injEq, Prod.mk.injEq] at H
                  obtain ⟨rfl, rfl, rfl, rfl⟩ := H
                  try go_wp2
                  have n0_ := Aside0.mk (Kd.R_drew HO_6.out)
                  have n1_ := Aside0.mk (Kd.R_drew HO_7.out)
                  have n2_ := Aside0.mk (blk_drew BK680.out)
                  have n3_ := Aside0.mk (blk_drew BK681.out)
                  have n4_ := Aside0.mk (blk_drew BK682.out)
                  have n5_ := Aside0.mk (Kd.C_drew HR692.out)
                  have n6_ := Aside0.mk (below_drew1 HB.out)
                  clear HO_6
                  clear HO_7
                  clear BK680
                  clear BK681
                  clear BK682
                  clear HR692
                  clear HB
                  have HO_6 := n0_
                  have HO_7 := n1_
                  have BK680 := n2_
                  have BK681 := n3_
                  have BK682 := n4_
                  have HR692 := n5_
                  have HB := n6_
                  clear n0_ n1_ n2_ n3_ n4_ n5_ n6_
                  have q46 : ((t686.length : Int) : Int) ≤ ((t683.length : Int) : Int) := of_decide_eq_true (by first | (with_reducible assumption) | assumption)
                  obtain ⟨i046, hi046, _, hsz46, _⟩ := info_parts info9
                  have hroom46 : t683.length ≤ co27 := (Kd.R_reads' HO_6.out).2.1
                  have hC46 : Kd.C Kd.string _ Ao27 t683.length t683 := (Kd.R_reads' HO_6.out).2.2
                  have q046 : (0 : Int) ≤ ((t686.length : Int) : Int) := of_decide_eq_true (by first | (with_reducible assumption) | assumption)
                  have hcut46 := cut_from (P := Try.prog) 40 9 .i64 Try.underlying40 hi046 1 hsz46 Ao27 t683.length co27 (t686.length : Int) q046 q46
                  have hr46 := Kd.C_drop (m := ((t686.length : Int) : Int).toNat) (c := co27) hC46 (by omega) hroom46
                  obtain ⟨A46, hA46⟩ : ∃ A1, A1 = (if co27 = ((t686.length : Int) : Int).toNat then Ao27 else (Ao27 : Option Addr).map (·.add (((t686.length : Int) : Int).toNat * 1))) := ⟨_, rfl⟩
                  obtain ⟨c46, hc46⟩ : ∃ c1, c1 = co27 - ((t686.length : Int) : Int).toNat := ⟨_, rfl⟩
                  have hy46 : y699.length = t683.length - ((t686.length : Int) : Int).toNat := (by rw [Ny699.out, List.length_drop] <;> omega)
                  rw [show (t683).drop ((t686.length : Int) : Int).toNat = y699 from Ny699.out.symm] at hr46
                  replace hr46 : Kd.C Kd.string _ A46 y699.length y699 := (by rw [hA46]; exact hr46)
                  rw [← hy46, ← hA46, ← hc46] at hcut46
                  have HR702 := Aside0.mk hr46
                  have HC702 := Aside0.mk (show y699.length ≤ c46 from by rw [hy46, hc46]; exact Nat.sub_le_sub_right hroom46 _)
                  clear hr46 hC46 hroom46 hi046 hsz46 hc46
                  have KY46 := Aside0.mk hy46
                  have KA46 := Aside0.mk hA46
                  clear hy46 hA46
                  have KL46 := Aside0.mk (show ((t686.length : Int) : Int).toNat ≤ t683.length from by omega)
                  replace q46 := eq_true q46
                  refine start_ (n := 15) (S := fun w' => w'.cell? ⟨gb680, 0, none⟩ = some (.int .u8 a0_0) ∧ w'.cell? ⟨gb680, 1, none⟩ = some (.string a0_1) ∧ w'.cell? ⟨gb680, 2, none⟩ = some (.string a0_2) ∧ w'.cell? ⟨gb680, 3, none⟩ = some (.int .u16 a0_3) ∧ w'.cell? ⟨gb680, 4, none⟩ = some (.int .u16 a0_4) ∧ w'.cell? ⟨gb681, 0, none⟩ = some (.string a1_0) ∧ w'.cell? ⟨gb681, 1, none⟩ = some (.int .u16 a1_1) ∧ w'.cell? ⟨gb681, 2, none⟩ = some (.int .u16 a1_2)) (ds := []) #[false, false, false, false, false, false, false, false, false, false, false, false, false, false, false] (by kernel_rfl) rfl rfl ⟨(blk_cell BK680.out 0).trans rfl, (blk_cell BK680.out 1).trans rfl, (blk_cell BK680.out 2).trans rfl, (blk_cell BK680.out 3).trans rfl, (blk_cell BK680.out 4).trans rfl, (blk_cell BK681.out 0).trans rfl, (blk_cell BK681.out 1).trans rfl, (blk_cell BK681.out 2).trans rfl⟩ (fun hHeld => ?_); refine with_tabW rewrite_rule_prefix.tab7 rewrite_rule_prefix.bits7 (fun HT_ HW_ => ?_)
                  generalize wc.drew = w45 at HO_6 HO_7 BK680 BK681 BK682 HR692 HB HR702 hHeld ⊢
                  refine pure_ (i := 2) (N := some 44) (v := ?_) (a' := ?_) #[false, false, true, false, false, false, false, false, false, false, false, false, false, false, false] rfl rfl (any_of HT_.out (by kernel_rfl)) (fun _ _ _ h => h) (Or.inl ⟨by rfl, ?_⟩) ?_ ?_
                  rotate_left
                  · intro w'
                    go_simp
                    with_reducible rfl
                  rotate_left
                  · simp only [Act.put, List.setIfInBounds_toArray, List.set_cons_zero, List.set_cons_succ, i64_w, i32_w]
                    rfl
                  refine pure_ (i := 3) (N := some 45) (v := ?_) (a' := ?_) #[false, false, true, true, false, false, false, false, false, false, false, false, false, false, false] rfl rfl (any_of HT_.out (by kernel_rfl)) (fun _ _ _ h => h) (Or.inl ⟨by rfl, ?_⟩) ?_ ?_
                  rotate_left
                  · intro w'
                    go_simp
                    with_reducible rfl
                  rotate_left
                  · simp only [Act.put, List.setIfInBounds_toArray, List.set_cons_zero, List.set_cons_succ, i64_w, i32_w]
                    rfl
                  refine pure_ (i := 6) (N := some 48) (v := ?_) (a' := ?_) #[false, false, true, true, false, false, true, false, false, false, false, false, false, false, false] rfl rfl (any_of HT_.out (by kernel_rfl)) (fun _ _ _ h => h) (Or.inl ⟨by rfl, ?_⟩) ?_ ?_
                  rotate_left
                  · intro w'
                    go_simp
                    with_reducible rfl
                  rotate_left
                  · simp only [Act.put, List.setIfInBounds_toArray, List.set_cons_zero, List.set_cons_succ, i64_w, i32_w]
                    rfl
                  refine pure_ (i := 7) (N := some 49) (v := ?_) (a' := ?_) #[false, false, true, true, false, false, true, true, false, false, false, false, false, false, false] rfl rfl (any_of HT_.out (by kernel_rfl)) (fun _ _ _ h => h) (Or.inl ⟨by rfl, ?_⟩) ?_ ?_
                  rotate_left
                  · intro w'
                    go_simp
                    with_reducible rfl
                  rotate_left
                  · simp only [Act.put, List.setIfInBounds_toArray, List.set_cons_zero, List.set_cons_succ, i64_w, i32_w]
                    rfl
                  refine pure_ (i := 8) (N := some 50) (v := ?_) (a' := ?_) #[false, false, true, true, false, false, true, true, true, false, false, false, false, false, false] rfl rfl (any_of HT_.out (by kernel_rfl)) (fun _ _ _ h => h) (Or.inl ⟨by rfl, ?_⟩) ?_ ?_
                  rotate_left
                  · intro w'
                    go_simp
                    with_reducible rfl
                  rotate_left
                  · simp only [Act.put, List.setIfInBounds_toArray, List.set_cons_zero, List.set_cons_succ, i64_w, i32_w]
                    rfl
                  refine pure_ (i := 9) (N := some 51) (v := ?_) (a' := ?_) #[false, false, true, true, false, false, true, true, true, true, false, false, false, false, false] rfl rfl (any_of HT_.out (by kernel_rfl)) (fun _ _ _ h => h) (Or.inl ⟨by rfl, ?_⟩) ?_ ?_
                  rotate_left
                  · intro w'
                    go_simp
                    with_reducible rfl
                  rotate_left
                  · simp only [Act.put, List.setIfInBounds_toArray, List.set_cons_zero, List.set_cons_succ, i64_w, i32_w]
                    rfl
                  refine take_ (i := 0) (N := some 42) (v := ?_) (a' := ?_) #[true, false, true, true, false, false, true, true, true, true, false, false, false, false, false] rfl rfl (take_ofW HT_.out HW_.out (by kernel_rfl)) (fun _ _ _ h => h) (Or.inl ⟨by rfl, ?_⟩) hHeld ?_ ?_
                  rotate_left
                  · rintro w' ⟨s0, s1, s2, s3, s4, s5, s6, s7⟩
                    go_simp
                    with_reducible rfl
                  rotate_left
                  · simp only [Act.put, List.setIfInBounds_toArray, List.set_cons_zero, List.set_cons_succ, i64_w, i32_w]
                    rfl
                  refine take_ (i := 1) (N := some 43) (v := ?_) (a' := ?_) #[true, true, true, true, false, false, true, true, true, true, false, false, false, false, false] rfl rfl (take_ofW HT_.out HW_.out (by kernel_rfl)) (fun _ _ _ h => h) (Or.inl ⟨by rfl, ?_⟩) hHeld ?_ ?_
                  rotate_left
                  · rintro w' ⟨s0, s1, s2, s3, s4, s5, s6, s7⟩
                    go_simp
                    with_reducible rfl
                  rotate_left
                  · simp only [Act.put, List.setIfInBounds_toArray, List.set_cons_zero, List.set_cons_succ, i64_w, i32_w]
                    rfl
                  refine take_ (i := 4) (N := some 46) (v := ?_) (a' := ?_) #[true, true, true, true, true, false, true, true, true, true, false, false, false, false, false] rfl rfl (take_ofW HT_.out HW_.out (by kernel_rfl)) (fun _ _ _ h => h) (Or.inl ⟨by rfl, ?_⟩) hHeld ?_ ?_
                  rotate_left
                  · rintro w' ⟨s0, s1, s2, s3, s4, s5, s6, s7⟩
                    go_simp
                    with_reducible rfl
                  rotate_left
                  · simp only [Act.put, List.setIfInBounds_toArray, List.set_cons_zero, List.set_cons_succ, i64_w, i32_w]
                    rfl
                  refine one_ (i := 5) (N := some 47) #[true, true, true, true, true, true, true, true, true, true, false, false, false, false, false] rfl rfl (one_of HT_.out (by kernel_rfl)) (by decide) (fun K hK => ?_)
                  refine goes_ Try.func52 (by kernel_rfl) rfl #[.string a0_2] (by rfl) rfl rfl (by (try simp only [List.map_toArray, List.map_cons, List.map_nil]); first | done | rfl | (simp only [List.length_drop, List.length_take]; rfl)) ?_
                  with_reducible refine (name_Labels.calls kj19 a0_2 t696 _ A41.out).mono ?_
                  rintro e w47 ⟨v697, rfl, ho0, hb⟩
                  refine ⟨_, rfl, ?_⟩
                  have n0_ := Aside0.mk (Kd.R_elder' (by (with_reducible repeat (first | apply Kd.R_alloc | apply Kd.R_drewN | apply Kd.R_drew)); exact HO_6.out) (Kd.R_base ho0) hb)
                  have n1_ := Aside0.mk (Kd.R_elder' (by (with_reducible repeat (first | apply Kd.R_alloc | apply Kd.R_drewN | apply Kd.R_drew)); exact HO_7.out) (Kd.R_base ho0) hb)
                  have n2_ := Aside0.mk (Kd.R_lower (Kd.R_new' (Kd.R_new' ho0 (Kd.R_lt (by (with_reducible repeat (first | apply Kd.R_alloc | apply Kd.R_drewN | apply Kd.R_drew)); exact HO_6.out))) (Kd.R_lt (by (with_reducible repeat (first | apply Kd.R_alloc | apply Kd.R_drewN | apply Kd.R_drew)); exact HO_7.out))) (below_size (by repeat (first | (with_reducible first | exact HB.out | apply below_alloc | apply pw_below_drewN | apply below_drew1 | refine below_set ?_ GE680.out | refine below_set ?_ GE681.out | refine below_set ?_ GE682.out) | exact HB.out))))
                  have n3_ := Aside0.mk (blk_below (g := gb680) (o := .cells #[.int .u8 a0_0, .string a0_1, .string a0_2, .int .u16 a0_3, .int .u16 a0_4] 82 (0, 0)) (by (with_reducible repeat (first | refine blk_drewN ?_ _ | refine blk_drew ?_ | refine blk_alloc ?_ _)); exact BK680.out) hb)
                  have n4_ := Aside0.mk (blk_below (g := gb681) (o := .cells #[.string a1_0, .int .u16 a1_1, .int .u16 a1_2] 32 (0, 0)) (by (with_reducible repeat (first | refine blk_drewN ?_ _ | refine blk_drew ?_ | refine blk_alloc ?_ _)); exact BK681.out) hb)
                  have n5_ := Aside0.mk (blk_below (g := gb682) (o := .cells #[.string (⟨#[]⟩ : ByteArray), .int .u16 0, .int .u16 0] 32 (0, 0)) (by (with_reducible repeat (first | refine blk_drewN ?_ _ | refine blk_drew ?_ | refine blk_alloc ?_ _)); exact BK682.out) hb)
                  have n6_ := Aside0.mk (Kd.C_below (by repeat (first | (with_reducible exact HR692.out) | (with_reducible refine Kd.C_alloc ?_ _) | (with_reducible refine Kd.C_drewN ?_ _) | (with_reducible refine Kd.C_drew ?_) | exact HR692.out)) hb)
                  have n7_ := Aside0.mk (Kd.C_below (by repeat (first | (with_reducible exact HR702.out) | (with_reducible refine Kd.C_alloc ?_ _) | (with_reducible refine Kd.C_drewN ?_ _) | (with_reducible refine Kd.C_drew ?_) | exact HR702.out)) hb)
                  have n8_ := Aside0.mk (below_step (by repeat (first | (with_reducible first | exact HB.out | apply below_alloc | apply pw_below_drewN | apply below_drew1 | refine below_set ?_ GE680.out | refine below_set ?_ GE681.out | refine below_set ?_ GE682.out) | exact HB.out)) hb)
                  clear HO_6
                  clear HO_7
                  clear BK680
                  clear BK681
                  clear BK682
                  clear HR692
                  clear HR702
                  clear HB
                  have HO_6 := n0_
                  have HO_7 := n1_
                  have HO698 := n2_
                  have BK680 := n3_
                  have BK681 := n4_
                  have BK682 := n5_
                  have HR692 := n6_
                  have HR702 := n7_
                  have HB := n8_
                  clear n0_ n1_ n2_ n3_ n4_ n5_ n6_ n7_ n8_
                  (try clear hb)
                  (try clear hb2)
                  (try clear hk)
                  (try clear hi)
                  (try clear ho0)
                  obtain ⟨Ao48, co48, eo48⟩ := Kd.R_slice HO698.out
                  (first | subst eo48 | (injection eo48 with f1_ f2_ f3_; have f4_ := f1_.symm; have f5_ := f3_.symm; clear f1_ f2_ f3_; subst f4_; subst f5_))
                  refine hK.out _ _ ⟨(blk_cell BK680.out 0).trans rfl, (blk_cell BK680.out 1).trans rfl, (blk_cell BK680.out 2).trans rfl, (blk_cell BK680.out 3).trans rfl, (blk_cell BK680.out 4).trans rfl, (blk_cell BK681.out 0).trans rfl, (blk_cell BK681.out 1).trans rfl, (blk_cell BK681.out 2).trans rfl⟩ (fun hHeld => ?_)
                  clear hK K
                  refine norm_ (a' := ?_) ?_ ?_
                  rotate_left
                  · show Act.put _ (some 47) _ = _
                    simp only [Act.put, List.setIfInBounds_toArray, List.set_cons_zero, List.set_cons_succ, i64_w, i32_w]
                    rfl
                  refine one_ (i := 10) (N := some 52) #[true, true, true, true, true, true, true, true, true, true, true, false, false, false, false] rfl rfl (one_of HT_.out (by kernel_rfl)) (by decide) (fun K hK => ?_)
                  refine goes_ Try.func53 (by kernel_rfl) rfl #[.agg #[.int .u8 a0_0, .string a0_1, .string a0_2, .int .u16 a0_3, .int .u16 a0_4], .agg #[.string a1_0, .int .u16 a1_1, .int .u16 a1_2], .slice Ao48 t696.length co48, .slice A46 y699.length c46] (by rfl) rfl rfl (by (try simp only [List.map_toArray, List.map_cons, List.map_nil]); first | done | rfl | (simp only [List.length_drop, List.length_take]; rfl)) ?_
                  with_reducible refine (rewrite_rule_of.calls a0_0 a0_1 a0_2 a0_3 a0_4 a1_0 a1_1 a1_2 _ _ t696 _ _ y699 t703 t704 t705 t706 _ ?side1 ?side2 ?side3 ?side4 A44.out).mono ?_
                  (case side1 => repeat (first | exact (Kd.R_reads' HO698.out).2.2 | (with_reducible refine Kd.C_alloc ?_ _) | (with_reducible refine Kd.C_drewN ?_ _) | (with_reducible refine Kd.C_drew ?_)))
                  (case side2 => exact (Kd.R_reads' HO698.out).2.1)
                  (case side3 => repeat (first | exact (by repeat (first | (with_reducible exact HR702.out) | (with_reducible refine Kd.C_alloc ?_ _) | (with_reducible refine Kd.C_drewN ?_ _) | (with_reducible refine Kd.C_drew ?_) | exact HR702.out)) | (with_reducible refine Kd.C_alloc ?_ _) | (with_reducible refine Kd.C_drewN ?_ _) | (with_reducible refine Kd.C_drew ?_)))
                  (case side4 => exact HC702.out)
                  rintro e w49 ⟨rfl, hb⟩
                  refine ⟨_, rfl, ?_⟩
                  have n0_ := Aside0.mk (Kd.R_below (by (with_reducible repeat (first | apply Kd.R_alloc | apply Kd.R_drewN | apply Kd.R_drew)); exact HO_6.out) hb)
                  have n1_ := Aside0.mk (Kd.R_below (by (with_reducible repeat (first | apply Kd.R_alloc | apply Kd.R_drewN | apply Kd.R_drew)); exact HO_7.out) hb)
                  have n2_ := Aside0.mk (Kd.R_below (by (with_reducible repeat (first | apply Kd.R_alloc | apply Kd.R_drewN | apply Kd.R_drew)); exact HO698.out) hb)
                  have n3_ := Aside0.mk (blk_below (g := gb680) (o := .cells #[.int .u8 a0_0, .string a0_1, .string a0_2, .int .u16 a0_3, .int .u16 a0_4] 82 (0, 0)) (by (with_reducible repeat (first | refine blk_drewN ?_ _ | refine blk_drew ?_ | refine blk_alloc ?_ _)); exact BK680.out) hb)
                  have n4_ := Aside0.mk (blk_below (g := gb681) (o := .cells #[.string a1_0, .int .u16 a1_1, .int .u16 a1_2] 32 (0, 0)) (by (with_reducible repeat (first | refine blk_drewN ?_ _ | refine blk_drew ?_ | refine blk_alloc ?_ _)); exact BK681.out) hb)
                  have n5_ := Aside0.mk (blk_below (g := gb682) (o := .cells #[.string (⟨#[]⟩ : ByteArray), .int .u16 0, .int .u16 0] 32 (0, 0)) (by (with_reducible repeat (first | refine blk_drewN ?_ _ | refine blk_drew ?_ | refine blk_alloc ?_ _)); exact BK682.out) hb)
                  have n6_ := Aside0.mk (Kd.C_below (by repeat (first | (with_reducible exact HR692.out) | (with_reducible refine Kd.C_alloc ?_ _) | (with_reducible refine Kd.C_drewN ?_ _) | (with_reducible refine Kd.C_drew ?_) | exact HR692.out)) hb)
                  have n7_ := Aside0.mk (Kd.C_below (by repeat (first | (with_reducible exact HR702.out) | (with_reducible refine Kd.C_alloc ?_ _) | (with_reducible refine Kd.C_drewN ?_ _) | (with_reducible refine Kd.C_drew ?_) | exact HR702.out)) hb)
                  have n8_ := Aside0.mk (below_step (by repeat (first | (with_reducible first | exact HB.out | apply below_alloc | apply pw_below_drewN | apply below_drew1 | refine below_set ?_ GE680.out | refine below_set ?_ GE681.out | refine below_set ?_ GE682.out) | exact HB.out)) hb)
                  clear HO_6
                  clear HO_7
                  clear HO698
                  clear BK680
                  clear BK681
                  clear BK682
                  clear HR692
                  clear HR702
                  clear HB
                  have HO_6 := n0_
                  have HO_7 := n1_
                  have HO698 := n2_
                  have BK680 := n3_
                  have BK681 := n4_
                  have BK682 := n5_
                  have HR692 := n6_
                  have HR702 := n7_
                  have HB := n8_
                  clear n0_ n1_ n2_ n3_ n4_ n5_ n6_ n7_ n8_
                  (try clear hb)
                  (try clear hb2)
                  (try clear hk)
                  (try clear hi)
                  refine hK.out _ _ ⟨(blk_cell BK680.out 0).trans rfl, (blk_cell BK680.out 1).trans rfl, (blk_cell BK680.out 2).trans rfl, (blk_cell BK680.out 3).trans rfl, (blk_cell BK680.out 4).trans rfl, (blk_cell BK681.out 0).trans rfl, (blk_cell BK681.out 1).trans rfl, (blk_cell BK681.out 2).trans rfl⟩ (fun hHeld => ?_)
                  clear hK K
                  refine norm_ (a' := ?_) ?_ ?_
                  rotate_left
                  · show Act.put _ (some 52) _ = _
                    simp only [Act.put, List.setIfInBounds_toArray, List.set_cons_zero, List.set_cons_succ, i64_w, i32_w]
                    rfl
                  refine pure_ (i := 11) (N := some 53) (v := ?_) (a' := ?_) #[true, true, true, true, true, true, true, true, true, true, true, true, false, false, false] rfl rfl (any_of HT_.out (by kernel_rfl)) (fun _ _ _ h => h) (Or.inl ⟨by rfl, ?_⟩) ?_ ?_
                  rotate_left
                  · intro w'
                    go_simp
                    with_reducible rfl
                  rotate_left
                  · simp only [Act.put, List.setIfInBounds_toArray, List.set_cons_zero, List.set_cons_succ, i64_w, i32_w]
                    rfl
                  refine pure_ (i := 12) (N := some 54) (v := ?_) (a' := ?_) #[true, true, true, true, true, true, true, true, true, true, true, true, true, false, false] rfl rfl (any_of HT_.out (by kernel_rfl)) (fun _ _ _ h => h) (Or.inl ⟨by rfl, ?_⟩) ?_ ?_
                  rotate_left
                  · intro w'
                    go_simp
                    with_reducible rfl
                  rotate_left
                  · simp only [Act.put, List.setIfInBounds_toArray, List.set_cons_zero, List.set_cons_succ, i64_w, i32_w]
                    rfl
                  refine one_ (i := 13) (N := none) #[true, true, true, true, true, true, true, true, true, true, true, true, true, true, false] rfl rfl (one_of HT_.out (by kernel_rfl)) (by decide) (fun K hK => ?_)
                  have hs50 : w49.cell? ⟨gb682, 0, none⟩ = some (.string (⟨#[]⟩ : ByteArray)) := (blk_cell BK682.out 0).trans rfl
                  have hfs50 := blk_frozen BK682.out 0
                  have hns50_0 := NB680_682.out
                  have hns50_1 := NB681_682.out
                  have hms50_0 := NB682_680.out
                  have hms50_1 := NB682_681.out
                  have hs51 : w49.cell? ⟨gb682, 1, none⟩ = some (.int .u16 0) := (blk_cell BK682.out 1).trans rfl
                  have hfs51 := blk_frozen BK682.out 1
                  have hns51_0 := NB680_682.out
                  have hns51_1 := NB681_682.out
                  have hms51_0 := NB682_680.out
                  have hms51_1 := NB682_681.out
                  have hs52 : w49.cell? ⟨gb682, 2, none⟩ = some (.int .u16 0) := (blk_cell BK682.out 2).trans rfl
                  have hfs52 := blk_frozen BK682.out 2
                  have hns52_0 := NB680_682.out
                  have hns52_1 := NB681_682.out
                  have hms52_0 := NB682_680.out
                  have hms52_1 := NB682_681.out
                  refine skip_ (w1 := ?_) (by rfl) rfl ?_ ?_
                  rotate_left
                  · go_simp
                    rfl
                  refine hK.out _ _ ⟨((cell_far (p := ⟨gb682, _, none⟩) NB680_682.out _).trans (((cell_far (p := ⟨gb682, _, none⟩) NB680_682.out _).trans (((cell_far (p := ⟨gb682, _, none⟩) NB680_682.out _).trans (hHeld.1)))))), ((cell_far (p := ⟨gb682, _, none⟩) NB680_682.out _).trans (((cell_far (p := ⟨gb682, _, none⟩) NB680_682.out _).trans (((cell_far (p := ⟨gb682, _, none⟩) NB680_682.out _).trans (hHeld.2.1)))))), ((cell_far (p := ⟨gb682, _, none⟩) NB680_682.out _).trans (((cell_far (p := ⟨gb682, _, none⟩) NB680_682.out _).trans (((cell_far (p := ⟨gb682, _, none⟩) NB680_682.out _).trans (hHeld.2.2.1)))))), ((cell_far (p := ⟨gb682, _, none⟩) NB680_682.out _).trans (((cell_far (p := ⟨gb682, _, none⟩) NB680_682.out _).trans (((cell_far (p := ⟨gb682, _, none⟩) NB680_682.out _).trans (hHeld.2.2.2.1)))))), ((cell_far (p := ⟨gb682, _, none⟩) NB680_682.out _).trans (((cell_far (p := ⟨gb682, _, none⟩) NB680_682.out _).trans (((cell_far (p := ⟨gb682, _, none⟩) NB680_682.out _).trans (hHeld.2.2.2.2.1)))))), ((cell_far (p := ⟨gb682, _, none⟩) NB681_682.out _).trans (((cell_far (p := ⟨gb682, _, none⟩) NB681_682.out _).trans (((cell_far (p := ⟨gb682, _, none⟩) NB681_682.out _).trans (hHeld.2.2.2.2.2.1)))))), ((cell_far (p := ⟨gb682, _, none⟩) NB681_682.out _).trans (((cell_far (p := ⟨gb682, _, none⟩) NB681_682.out _).trans (((cell_far (p := ⟨gb682, _, none⟩) NB681_682.out _).trans (hHeld.2.2.2.2.2.2.1)))))), ((cell_far (p := ⟨gb682, _, none⟩) NB681_682.out _).trans (((cell_far (p := ⟨gb682, _, none⟩) NB681_682.out _).trans (((cell_far (p := ⟨gb682, _, none⟩) NB681_682.out _).trans (hHeld.2.2.2.2.2.2.2))))))⟩ (fun hHeld => ?_)
                  clear hK K
                  refine pure_ (i := 14) (N := some 5) (v := ?_) (a' := ?_) #[true, true, true, true, true, true, true, true, true, true, true, true, true, true, true] rfl rfl (any_of HT_.out (by kernel_rfl)) (fun _ _ _ h => h) (Or.inl ⟨by rfl, ?_⟩) ?_ ?_
                  rotate_left
                  · intro w'
                    go_simp
                    with_reducible rfl
                  rotate_left
                  · simp only [Act.put, List.setIfInBounds_toArray, List.set_cons_zero, List.set_cons_succ, i64_w, i32_w]
                    rfl
                  refine done_ (done_of HT_.out (by kernel_rfl)) ?_
                  try go_wp2
                  refine bodyPost_ret (results_ct rfl _ _ gb682 32 #[.string t703, .int .u16 t704, .int .u16 t705] (0, 0) _ rfl (by (with_reducible repeat (first | refine blk_drewN ?_ _ | refine blk_drew ?_ | refine blk_alloc ?_ _)); refine blk_put (cs := #[.string t703, .int .u16 t704, .int .u16 0]) ?_ 2 _ rfl; (with_reducible repeat (first | refine blk_drewN ?_ _ | refine blk_drew ?_ | refine blk_alloc ?_ _)); refine blk_put (cs := #[.string t703, .int .u16 0, .int .u16 0]) ?_ 1 _ rfl; (with_reducible repeat (first | refine blk_drewN ?_ _ | refine blk_drew ?_ | refine blk_alloc ?_ _)); refine blk_put (cs := #[.string (⟨#[]⟩ : ByteArray), .int .u16 0, .int .u16 0]) ?_ 0 _ rfl; (with_reducible repeat (first | refine blk_drewN ?_ _ | refine blk_drew ?_ | refine blk_alloc ?_ _)); exact BK682.out) Try.underlying32 rfl (by kernel_rfl)) rfl ?_
                  exact ⟨by first | rfl | (simp [errW_none, errW_some] <;> rfl) | (simp [*, errW_none, errW_some] <;> rfl), by repeat (first | (with_reducible first | exact HB.out | apply below_alloc | apply pw_below_drewN | apply below_drew1 | refine below_set ?_ GE680.out | refine below_set ?_ GE681.out | refine below_set ?_ GE682.out) | exact HB.out)⟩
                · rw [if_neg c43] at H
                  exact absurd H (by simp)
              · rw [if_neg c42] at H
                exact absurd H (by simp)
      · rw [if_neg c18] at H
        exact absurd H (by simp)
    · rw [if_neg c17] at H
      exact absurd H (by simp)

end Go.Proofs.Ytfcmphigmfdceaa.Print
