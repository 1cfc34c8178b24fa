-- Written by a program of this session, built on the kit's print (it is not the print's own text).
import Derived.Test.YtafminohaofjnaaKinds
import Derived.Test.YtafminohaofjnaaF21
import Derived.Test.YtafminohaofjnaaF27
import Derived.Test.YtafminohaofjnaaXRKinds
import Derived.Test.YtafminohaofjnaaF13D
import Derived.Test.YtafminohaofjnaaXBits
namespace Go.Proofs.Ytafminohaofjnaa.Print
open Go.RowKit Go.Proofs.YtafminohaofjnaaW.PrintWords Go.Proofs.YtafminohaofjnaaW.PrintLast Go.Proofs.YtafminohaofjnaaW.PrintMore
set_option linter.unusedVariables false
set_option linter.unusedSimpArgs false

def hearsayref08_Entries.T14 : Bool × List (List Nat × List Nat) := (true, [([], []), ([], []), ([0, 1], [0, 1]), ([2], [2]), ([], []), ([4], [4]), ([3, 5], [3, 5]), ([6, 3, 0, 1, 2, 3, 4, 5, 6], [6])])
def hearsayref08_Entries.B14 : List Nat := [0, 0, 3, 7, 0, 16, 63, 127]
theorem hearsayref08_Entries.tab14 : rtab .any (opsOf Try.f13 14) = hearsayref08_Entries.T14 := by kernel_rfl
theorem hearsayref08_Entries.bits14 : waitsOk hearsayref08_Entries.T14.2 hearsayref08_Entries.B14 = true := by kernel_rfl
def hearsayref08_Entries.T20 : Bool × List (List Nat × List Nat) := (true, [([], []), ([], []), ([], []), ([0, 1, 2], [0, 1, 2]), ([], []), ([4], [4]), ([], []), ([6], [6]), ([3, 5, 7], [3, 5, 7]), ([], []), ([9, 8, 0, 1, 2, 3, 4, 5, 6, 7, 8, 9], [8, 9])])
def hearsayref08_Entries.B20 : List Nat := [0, 0, 0, 7, 0, 16, 0, 64, 255, 0, 1023]
theorem hearsayref08_Entries.tab20 : rtab .any (opsOf Try.f13 20) = hearsayref08_Entries.T20 := by kernel_rfl
theorem hearsayref08_Entries.bits20 : waitsOk hearsayref08_Entries.T20.2 hearsayref08_Entries.B20 = true := by kernel_rfl
set_option maxHeartbeats 40000000 in
set_option maxRecDepth 100000 in
theorem hearsayref08_Entries.calls (k : Nat) (a0 : ByteArray) (r1 : List (S45)) (r2 : Int) (r3 : Int) (r4 : Int) (w : World) (h : hearsayref08_Entries.f k a0 = some (r1, r2, r3, r4)) :
    Calls Try.prog 13 #[.string a0] w fun e w' => ∃ v0_ : Value, e = .returned (.tuple #[v0_, .agg #[.int .i64 r2, .int .i64 r3], .int .i64 r4]) ∧ Kd.S k45 45 w' w.heap.size (fun _ => True) v0_ r1 ∧ Below w.heap.size w w' := by
 have hu30 := Try.underlying30
 have hu45 := Try.underlying45
 have hu23 := Try.underlying23
 have HB := Aside0.mk (Below.refl w.heap.size w)
 have H : (if (a0.size : Int) > 262144 then (some (([] : List (S45)), 0, 0, 2)) else ((hearsayref08_kinds.f a0).bind fun bt120 => (if bt120.2.2 = 0 then (hearsayref08_Entries.l0 k a0 bt120.1 ([] : List (S45)) true 0 1 1 false 0 ([] : List (S23))) else ((hearsayref08_SpotOf.f k a0 bt120.2.1).bind fun bt125 => (some (([] : List (S45)), bt125.1, bt125.2, bt120.2.2)))))) = some (r1, r2, r3, r4) := h
 clear h
 by_cases c2 : (a0.size : Int) > 262144
 {
 rw [if_pos c2] at H
 have c2b0 : decide (262144 < (a0.size : Int)) = true := decide_eq_true c2
 have c2b1 : decide (262144 < a0.size) = true := decide_eq_true (by omega)
 clear c2
 simp only [Option.some.injEq, Prod.mk.injEq] at H
 obtain ⟨rfl, rfl, rfl, rfl⟩ := H
 go_enter Try.func13, Try.ntmps13
 go_wp2_with (first | ((with_reducible refine gate_dst (N := 3) rfl ?_); refine box_event ?hg (N := 3) ?hd (cs := #[.int .i64 0, .int .i64 0]) (t := 30) ?hr ?_; (case hd => rfl); (case hg => rfl); (case hr => first | (go_simp; done) | (go_simp; rfl)); intro gb119 hg w3 hbox hb; have n0_ := Aside0.mk (below_step (by repeat (first | (with_reducible first | exact HB.out | apply below_alloc | apply pw_below_drewN | apply below_drew1) | exact HB.out)) hb); have n1_ := Aside0.mk (hbox); have n2_ := Aside0.mk ((by rw [hg]; exact (below_size (by repeat (first | (with_reducible first | exact HB.out | apply below_alloc | apply pw_below_drewN | apply below_drew1) | exact HB.out))) : w.heap.size ≤ gb119)); have n3_ := Aside0.mk ((by rw [hg]; exact (below_size (by repeat (first | (with_reducible first | exact HB.out | apply below_alloc | apply pw_below_drewN | apply below_drew1) | exact HB.out))) : w.heap.size ≤ gb119)); clear HB; have HB := n0_; have BK119 := n1_; have GW119 := n2_; have GE119 := n3_; clear n0_ n1_ n2_ n3_; clear hb hbox hg; have hcz4_0 : w3.cell? ⟨gb119, 0, none⟩ = some (.int .i64 0) := (blk_cell BK119.out 0).trans rfl; have hcz4_1 : w3.cell? ⟨gb119, 1, none⟩ = some (.int .i64 0) := (blk_cell BK119.out 1).trans rfl; have hfz4_0 := blk_frozen BK119.out 0; have hfz4_1 := blk_frozen BK119.out 1))
 refine bodyPost_ret (results_list (rs := [.tmp 2, .cell 3 30, .tmp 4]) rfl (by simp) (.tmp (.cell gb119 30 #[.int .i64 0, .int .i64 0] (0, 0) _ rfl (by (with_reducible repeat (first | refine blk_drewN ?_ _ | refine blk_drew ?_ | refine blk_alloc ?_ _)); refine blk_put (cs := #[.int .i64 0, .int .i64 0]) ?_ 1 _ rfl; (with_reducible repeat (first | refine blk_drewN ?_ _ | refine blk_drew ?_ | refine blk_alloc ?_ _)); refine blk_put (cs := #[.int .i64 0, .int .i64 0]) ?_ 0 _ rfl; (with_reducible repeat (first | refine blk_drewN ?_ _ | refine blk_drew ?_ | refine blk_alloc ?_ _)); exact BK119.out) Try.underlying30 rfl (by kernel_rfl) (.tmp .nil)))) rfl ?_
 exact ⟨_, by first | rfl | (simp [errW_none, errW_some] <;> rfl) | (simp [*, errW_none, errW_some] <;> rfl), by first | exact Kd.S_nil _ _ _ _ _ | exact Kd.N_nil _ _ _ _ _ | exact Kd.V_nil _ _ _ _ _ | exact Kd.Q_nil _ _ _ _ _ | exact Kd.R_nil _ _ _ _ _, by repeat (first | (with_reducible first | exact HB.out | apply below_alloc | apply pw_below_drewN | apply below_drew1 | refine below_set ?_ GE119.out) | exact HB.out)⟩ }
 {
 rw [if_neg c2] at H
 have c2b0 : decide (262144 < (a0.size : Int)) = false := decide_eq_false c2
 have c2b1 : decide (262144 < a0.size) = false := decide_eq_false (by omega)
 clear c2
 replace H := Option.bind_eq_some_iff.mp H
 obtain ⟨⟨t120, t121, t122⟩, A50, H⟩ := H
 replace H : (if t122 = 0 then (hearsayref08_Entries.l0 k a0 t120 ([] : List (S45)) true 0 1 1 false 0 ([] : List (S23))) else ((hearsayref08_SpotOf.f k a0 t121).bind fun bt125 => (some (([] : List (S45)), bt125.1, bt125.2, t122)))) = some (r1, r2, r3, r4) := H
 have A5 := Aside0.mk A50
 clear A50
 by_cases c6 : t122 = 0
 {
 rw [if_pos c6] at H
 have c6b0 : (t122 == 0) = true := beq_iff_eq.mpr c6
 have c6b1 : (t122 != 0) = false := bne_eq_false_iff_eq.mpr c6
 clear c6
 have H' := Aside0.mk H
 clear H
 go_enter Try.func13, Try.ntmps13
 go_wp2_with (first | ((with_reducible refine gate_dst (N := 3) rfl ?_); refine box_event ?hg (N := 3) ?hd (cs := #[.int .i64 0, .int .i64 0]) (t := 30) ?hr ?_; (case hd => rfl); (case hg => rfl); (case hr => first | (go_simp; done) | (go_simp; rfl)); intro gb119 hg w7 hbox hb; have n0_ := Aside0.mk (below_step (by repeat (first | (with_reducible first | exact HB.out | apply below_alloc | apply pw_below_drewN | apply below_drew1) | exact HB.out)) hb); have n1_ := Aside0.mk (hbox); have n2_ := Aside0.mk ((by rw [hg]; exact (below_size (by repeat (first | (with_reducible first | exact HB.out | apply below_alloc | apply pw_below_drewN | apply below_drew1) | exact HB.out))) : w.heap.size ≤ gb119)); have n3_ := Aside0.mk ((by rw [hg]; exact (below_size (by repeat (first | (with_reducible first | exact HB.out | apply below_alloc | apply pw_below_drewN | apply below_drew1) | exact HB.out))) : w.heap.size ≤ gb119)); clear HB; have HB := n0_; have BK119 := n1_; have GW119 := n2_; have GE119 := n3_; clear n0_ n1_ n2_ n3_; clear hb hbox hg) | ((with_reducible refine gate_callee (f := 26) rfl ?_); refine goesL_ (some 21) rfl rfl Try.func26 (by kernel_rfl) rfl #[.string a0] rfl (by (try simp only [List.map_toArray, List.map_cons, List.map_nil]); first | done | rfl | (simp only [List.length_drop, List.length_take]; rfl)) ?_; (with_reducible refine (hearsayref08_kinds.calls a0 t120 t121 t122 _ A5.out).mono ?_); rintro e w8 ⟨v123, rfl, ho0, hb⟩; refine ⟨_, rfl, ?_⟩; have n0_ := Aside0.mk (Kd.R_lower ho0 (below_size (by repeat (first | (with_reducible first | exact HB.out | apply below_alloc | apply pw_below_drewN | apply below_drew1 | refine below_set ?_ GE119.out) | exact HB.out)))); have n1_ := Aside0.mk (blk_below (g := gb119) (o := .cells #[.int .i64 0, .int .i64 0] 30 (0, 0)) (by (with_reducible repeat (first | refine blk_drewN ?_ _ | refine blk_drew ?_ | refine blk_alloc ?_ _)); exact BK119.out) hb); have n2_ := Aside0.mk (below_step (by repeat (first | (with_reducible first | exact HB.out | apply below_alloc | apply pw_below_drewN | apply below_drew1 | refine below_set ?_ GE119.out) | exact HB.out)) hb); clear BK119; clear HB; have HO124 := n0_; have BK119 := n1_; have HB := n2_; clear n0_ n1_ n2_; (try clear hb); (try clear hb2); (try clear hk); (try clear hi); (try clear ho0)) | ((with_reducible refine gate_dst (N := 9) rfl ?_); refine box_event ?hg (N := 9) ?hd (cs := #[.int .i64 0, .int .i64 0]) (t := 30) ?hr ?_; (case hd => rfl); (case hg => rfl); (case hr => first | (go_simp; done) | (go_simp; rfl)); intro gb127 hg w9 hbox hb; have n0_ := Aside0.mk (Kd.R_below (by (with_reducible repeat (first | apply Kd.R_alloc | apply Kd.R_drewN | apply Kd.R_drew)); exact HO124.out) hb); have n1_ := Aside0.mk (blk_below (g := gb119) (o := .cells #[.int .i64 0, .int .i64 0] 30 (0, 0)) (by (with_reducible repeat (first | refine blk_drewN ?_ _ | refine blk_drew ?_ | refine blk_alloc ?_ _)); exact BK119.out) hb); have n2_ := Aside0.mk (below_step (by repeat (first | (with_reducible first | exact HB.out | apply below_alloc | apply pw_below_drewN | apply below_drew1 | refine below_set ?_ GE119.out) | exact HB.out)) hb); have n3_ := Aside0.mk (hbox); have n4_ := Aside0.mk ((by rw [hg]; exact (below_size (by repeat (first | (with_reducible first | exact HB.out | apply below_alloc | apply pw_below_drewN | apply below_drew1 | refine below_set ?_ GE119.out) | exact HB.out))) : w.heap.size ≤ gb127)); have n5_ := Aside0.mk ((by rw [hg]; exact (below_size (by repeat (first | (with_reducible first | exact HB.out | apply below_alloc | apply pw_below_drewN | apply below_drew1 | refine below_set ?_ GE119.out) | exact HB.out))) : w.heap.size ≤ gb127)); have n6_ := Aside0.mk ((by rw [hg]; exact Nat.ne_of_lt (blk_lt (g := gb119) (o := .cells #[.int .i64 0, .int .i64 0] 30 (0, 0)) (by (with_reducible repeat (first | refine blk_drewN ?_ _ | refine blk_drew ?_ | refine blk_alloc ?_ _)); exact BK119.out)) : gb119 ≠ gb127)); have n7_ := Aside0.mk ((by rw [hg]; exact Nat.ne_of_gt (blk_lt (g := gb119) (o := .cells #[.int .i64 0, .int .i64 0] 30 (0, 0)) (by (with_reducible repeat (first | refine blk_drewN ?_ _ | refine blk_drew ?_ | refine blk_alloc ?_ _)); exact BK119.out)) : gb127 ≠ gb119)); clear HO124; clear BK119; clear HB; have HO124 := n0_; have BK119 := n1_; have HB := n2_; have BK127 := n3_; have GW127 := n4_; have GE127 := n5_; have NB119_127 := n6_; have NB127_119 := n7_; clear n0_ n1_ n2_ n3_ n4_ n5_ n6_ n7_; clear hb hbox hg; have hnb10 := NB127_119.out; have hnc10 := NB119_127.out; have hcz11_0 : w9.cell? ⟨gb127, 0, none⟩ = some (.int .i64 0) := (blk_cell BK127.out 0).trans rfl; have hcz11_1 : w9.cell? ⟨gb127, 1, none⟩ = some (.int .i64 0) := (blk_cell BK127.out 1).trans rfl; have hfz11_0 := blk_frozen BK127.out 0; have hfz11_1 := blk_frozen BK127.out 1) | ((with_reducible refine gate_dst (N := 10) rfl ?_); refine box_event ?hg (N := 10) ?hd (cs := #[.bool false, .int .i64 0, .slice none 0 0]) (t := 45) ?hr ?_; (case hd => rfl); (case hg => rfl); (case hr => first | (go_simp; done) | (go_simp; rfl)); intro gb128 hg w12 hbox hb; have n0_ := Aside0.mk (Kd.R_below (by (with_reducible repeat (first | apply Kd.R_alloc | apply Kd.R_drewN | apply Kd.R_drew)); exact (Kd.R_mono (Kd.R_far (p := ⟨gb127, 1, none⟩) (Kd.R_far (p := ⟨gb127, 0, none⟩) (Kd.R_types HO124.out BK127.out (by decide)) (fun _ hk => hk.2) (.int .i64 1)) (fun _ hk => hk.2) (.int .i64 1)) (fun _ h_ => h_.1))) hb); have n1_ := Aside0.mk (blk_below (g := gb119) (o := .cells #[.int .i64 0, .int .i64 0] 30 (0, 0)) (by (with_reducible repeat (first | refine blk_drewN ?_ _ | refine blk_drew ?_ | refine blk_alloc ?_ _)); refine blk_far ?_ NB119_127.out _; (with_reducible repeat (first | refine blk_drewN ?_ _ | refine blk_drew ?_ | refine blk_alloc ?_ _)); refine blk_far ?_ NB119_127.out _; (with_reducible repeat (first | refine blk_drewN ?_ _ | refine blk_drew ?_ | refine blk_alloc ?_ _)); exact BK119.out) hb); have n2_ := Aside0.mk (blk_below (g := gb127) (o := .cells #[.int .i64 1, .int .i64 1] 30 (0, 0)) (by (with_reducible repeat (first | refine blk_drewN ?_ _ | refine blk_drew ?_ | refine blk_alloc ?_ _)); refine blk_put (cs := #[.int .i64 1, .int .i64 0]) ?_ 1 _ rfl; (with_reducible repeat (first | refine blk_drewN ?_ _ | refine blk_drew ?_ | refine blk_alloc ?_ _)); refine blk_put (cs := #[.int .i64 0, .int .i64 0]) ?_ 0 _ rfl; (with_reducible repeat (first | refine blk_drewN ?_ _ | refine blk_drew ?_ | refine blk_alloc ?_ _)); exact BK127.out) hb); have n3_ := Aside0.mk (below_step (by repeat (first | (with_reducible first | exact HB.out | apply below_alloc | apply pw_below_drewN | apply below_drew1 | refine below_set ?_ GE119.out | refine below_set ?_ GE127.out) | exact HB.out)) hb); have n4_ := Aside0.mk (hbox); have n5_ := Aside0.mk ((by rw [hg]; exact (below_size (by repeat (first | (with_reducible first | exact HB.out | apply below_alloc | apply pw_below_drewN | apply below_drew1 | refine below_set ?_ GE119.out | refine below_set ?_ GE127.out) | exact HB.out))) : w.heap.size ≤ gb128)); have n6_ := Aside0.mk ((by rw [hg]; exact (below_size (by repeat (first | (with_reducible first | exact HB.out | apply below_alloc | apply pw_below_drewN | apply below_drew1 | refine below_set ?_ GE119.out | refine below_set ?_ GE127.out) | exact HB.out))) : w.heap.size ≤ gb128)); have n7_ := Aside0.mk ((by rw [hg]; exact Nat.ne_of_lt (blk_lt (g := gb119) (o := .cells #[.int .i64 0, .int .i64 0] 30 (0, 0)) (by (with_reducible repeat (first | refine blk_drewN ?_ _ | refine blk_drew ?_ | refine blk_alloc ?_ _)); refine blk_far ?_ NB119_127.out _; (with_reducible repeat (first | refine blk_drewN ?_ _ | refine blk_drew ?_ | refine blk_alloc ?_ _)); refine blk_far ?_ NB119_127.out _; (with_reducible repeat (first | refine blk_drewN ?_ _ | refine blk_drew ?_ | refine blk_alloc ?_ _)); exact BK119.out)) : gb119 ≠ gb128)); have n8_ := Aside0.mk ((by rw [hg]; exact Nat.ne_of_gt (blk_lt (g := gb119) (o := .cells #[.int .i64 0, .int .i64 0] 30 (0, 0)) (by (with_reducible repeat (first | refine blk_drewN ?_ _ | refine blk_drew ?_ | refine blk_alloc ?_ _)); refine blk_far ?_ NB119_127.out _; (with_reducible repeat (first | refine blk_drewN ?_ _ | refine blk_drew ?_ | refine blk_alloc ?_ _)); refine blk_far ?_ NB119_127.out _; (with_reducible repeat (first | refine blk_drewN ?_ _ | refine blk_drew ?_ | refine blk_alloc ?_ _)); exact BK119.out)) : gb128 ≠ gb119)); have n9_ := Aside0.mk ((by rw [hg]; exact Nat.ne_of_lt (blk_lt (g := gb127) (o := .cells #[.int .i64 1, .int .i64 1] 30 (0, 0)) (by (with_reducible repeat (first | refine blk_drewN ?_ _ | refine blk_drew ?_ | refine blk_alloc ?_ _)); refine blk_put (cs := #[.int .i64 1, .int .i64 0]) ?_ 1 _ rfl; (with_reducible repeat (first | refine blk_drewN ?_ _ | refine blk_drew ?_ | refine blk_alloc ?_ _)); refine blk_put (cs := #[.int .i64 0, .int .i64 0]) ?_ 0 _ rfl; (with_reducible repeat (first | refine blk_drewN ?_ _ | refine blk_drew ?_ | refine blk_alloc ?_ _)); exact BK127.out)) : gb127 ≠ gb128)); have n10_ := Aside0.mk ((by rw [hg]; exact Nat.ne_of_gt (blk_lt (g := gb127) (o := .cells #[.int .i64 1, .int .i64 1] 30 (0, 0)) (by (with_reducible repeat (first | refine blk_drewN ?_ _ | refine blk_drew ?_ | refine blk_alloc ?_ _)); refine blk_put (cs := #[.int .i64 1, .int .i64 0]) ?_ 1 _ rfl; (with_reducible repeat (first | refine blk_drewN ?_ _ | refine blk_drew ?_ | refine blk_alloc ?_ _)); refine blk_put (cs := #[.int .i64 0, .int .i64 0]) ?_ 0 _ rfl; (with_reducible repeat (first | refine blk_drewN ?_ _ | refine blk_drew ?_ | refine blk_alloc ?_ _)); exact BK127.out)) : gb128 ≠ gb127)); clear HO124; clear BK119; clear BK127; clear HB; have HO124 := n0_; have BK119 := n1_; have BK127 := n2_; have HB := n3_; have BK128 := n4_; have GW128 := n5_; have GE128 := n6_; have NB119_128 := n7_; have NB128_119 := n8_; have NB127_128 := n9_; have NB128_127 := n10_; clear n0_ n1_ n2_ n3_ n4_ n5_ n6_ n7_ n8_ n9_ n10_; clear hb hbox hg))
 go_loopg [8, 11, 12] k (fun kq v8 v11 v12 w' => ∃ (x8_1 : List (S45)) (x11_1 : Bool) (x12_1 : Int) (x128000_1 : Int) (x128001_1 : Int) (x129000_1 : Bool) (x129001_1 : Int) (x129002_1 : List (S23)) (u129002 : Value), v11 = .bool x11_1 ∧ v12 = .int .i64 x12_1 ∧ Aside0 (hearsayref08_Entries.l0 kq a0 t120 x8_1 x11_1 x12_1 x128000_1 x128001_1 x129000_1 x129001_1 x129002_1 = some (r1, r2, r3, r4)) ∧ Aside0 (kq ≤ k) ∧ Aside0 (Kd.R (Kd.int .i64) 3 w' w.heap.size (fun _ => True) v123 t120) ∧ Aside0 (Kd.S k45 45 w' w.heap.size (fun k_ => some k_ ≠ (u129002 : Value).ownBlock ∧ k_ ≠ gb128) v8 x8_1) ∧ Aside0 (Kd.R k23 23 w' w.heap.size (fun _ => True) u129002 x129002_1) ∧ Aside0 (w'.heap[gb119]? = some (.cells #[.int .i64 0, .int .i64 0] 30 (0, 0))) ∧ Aside0 (w'.heap[gb127]? = some (.cells #[.int .i64 x128000_1, .int .i64 x128001_1] 30 (0, 0))) ∧ Aside0 (w'.heap[gb128]? = some (.cells #[.bool x129000_1, .int .i64 x129001_1, u129002] 45 (0, 0))) ∧ Aside0 (Below w.heap.size w w'))
 case atStart => exact ⟨(([] : List (S45))), (true), (0), (1), (1), (false), (0), (([] : List (S23))), (.slice none 0 0), (by first | rfl | (simp; done) | (simp [*]; done)), (by first | rfl | (simp; done) | (simp [*]; done)), H', ⟨Nat.le_refl _⟩, ⟨by (with_reducible repeat (first | apply Kd.R_alloc | apply Kd.R_drewN | apply Kd.R_drew)); exact HO124.out⟩, ⟨by first | exact Kd.S_nil _ _ _ _ _ | exact Kd.N_nil _ _ _ _ _ | exact Kd.V_nil _ _ _ _ _ | exact Kd.Q_nil _ _ _ _ _ | exact Kd.R_nil _ _ _ _ _⟩, ⟨by first | exact Kd.R_nil _ _ _ _ _ | exact Kd.N_nil _ _ _ _ _ | exact Kd.V_nil _ _ _ _ _ | exact Kd.Q_nil _ _ _ _ _ | exact Kd.S_nil _ _ _ _ _⟩, ⟨by (with_reducible repeat (first | refine blk_drewN ?_ _ | refine blk_drew ?_ | refine blk_alloc ?_ _)); exact BK119.out⟩, ⟨by (with_reducible repeat (first | refine blk_drewN ?_ _ | refine blk_drew ?_ | refine blk_alloc ?_ _)); exact BK127.out⟩, ⟨by (with_reducible repeat (first | refine blk_drewN ?_ _ | refine blk_drew ?_ | refine blk_alloc ?_ _)); exact BK128.out⟩, ⟨by repeat (first | (with_reducible first | exact HB.out | apply below_alloc | apply pw_below_drewN | apply below_drew1 | refine below_set ?_ GE119.out | refine below_set ?_ GE127.out | refine below_set ?_ GE128.out) | exact HB.out)⟩⟩
 case round => (
 clear H'
 try clear c1
 try clear c2
 try clear c2b0
 try clear c2b1
 try clear p2
 try clear c6
 try clear c6b0
 try clear c6b1
 try clear c10
 try clear hcz11_0
 try clear hcz11_1
 try clear hcz4_0
 try clear hcz4_1
 try clear hfz11_0
 try clear hfz11_1
 try clear hfz4_0
 try clear hfz4_1
 obtain ⟨x8_1, x11_1, x12_1, x128000_1, x128001_1, x129000_1, x129001_1, x129002_1, u129002, rfl, rfl, HA, HK1, HO_5, HO_8, HO_129002, BK119, BK127, BK128, HB⟩ := hrel
 cases gk with
 | zero => exact absurd HA.out (by simp [hearsayref08_Entries.l0])
 | succ k1 => (
 have H := HA.out
 clear HA
 simp only [hearsayref08_Entries.l0] at H
 by_cases c13 : x12_1 < (a0.size : Int)
 {
 rw [if_pos c13] at H
 have c13b0 : decide (x12_1 < (a0.size : Int)) = true := decide_eq_true c13
 clear c13
 have HC14 := Aside0.mk H
 clear H
 go_upto_if 38 with (fail)
 go_cut [11] (fun v11 wc => ∃ (kq : Nat) (x11_13 : Bool) (x129000_13 : Bool) (x129001_13 : Int) (x129002_13 : List (S23)) (u129002 : Value), v11 = .bool x11_13 ∧ Aside0 (hearsayref08_Entries.j1 kq a0 t120 x8_1 x11_13 x12_1 x128000_1 x128001_1 x129000_13 x129001_13 x129002_13 = some (r1, r2, r3, r4)) ∧ Aside0 (kq ≤ k1) ∧ Aside0 (Kd.R (Kd.int .i64) 3 wc w.heap.size (fun _ => True) v123 t120) ∧ Aside0 (Kd.S k45 45 wc w.heap.size (fun k_ => some k_ ≠ (u129002 : Value).ownBlock ∧ k_ ≠ gb128) u8 x8_1) ∧ Aside0 (Kd.R k23 23 wc w.heap.size (fun _ => True) u129002 x129002_13) ∧ Aside0 (wc.heap[gb119]? = some (.cells #[.int .i64 0, .int .i64 0] 30 (0, 0))) ∧ Aside0 (wc.heap[gb127]? = some (.cells #[.int .i64 x128000_1, .int .i64 x128001_1] 30 (0, 0))) ∧ Aside0 (wc.heap[gb128]? = some (.cells #[.bool x129000_13, .int .i64 x129001_13, u129002] 45 (0, 0))) ∧ Aside0 (Below w.heap.size w wc))
 case first => (
 have H := HC14.out
 clear HC14
 by_cases c15 : x11_1 = true
 {
 subst c15
 have H1 : (if 0 ≤ x12_1 then ((hearsayref08_Blank.f (bt a0 x12_1)).bind fun t132 => (hearsayref08_Entries.j1 k1 a0 t120 x8_1 false x12_1 x128000_1 x128001_1 t132 x128000_1 ([] : List (S23)))) else (none)) = some (r1, r2, r3, r4) := by rw [if_pos rfl] at H; exact H
 clear H
 have H := H1
 clear H1
 by_cases c16 : 0 ≤ x12_1
 {
 rw [if_pos c16] at H
 have c16b0 : decide (0 ≤ x12_1) = true := decide_eq_true c16
 clear c16
 (first | rw [c16b0] | (simp only [i64_w, i32_w]; rw [c16b0]) | skip)
 replace H := Option.bind_eq_some_iff.mp H
 obtain ⟨t132, A180, H⟩ := H
 replace H : (hearsayref08_Entries.j1 k1 a0 t120 x8_1 false x12_1 x128000_1 x128001_1 t132 x128000_1 ([] : List (S23))) = some (r1, r2, r3, r4) := H
 have A18 := Aside0.mk A180
 clear A180
 have H' := Aside0.mk H
 clear H
 try go_wp2
 have n0_ := Aside0.mk (Kd.R_drew HO_5.out)
 have n1_ := Aside0.mk (Kd.S_drew HO_8.out)
 have n2_ := Aside0.mk (Kd.R_drew HO_129002.out)
 have n3_ := Aside0.mk (blk_drew BK119.out)
 have n4_ := Aside0.mk (blk_drew BK127.out)
 have n5_ := Aside0.mk (blk_drew BK128.out)
 have n6_ := Aside0.mk (below_drew1 HB.out)
 clear HO_5
 clear HO_8
 clear HO_129002
 clear BK119
 clear BK127
 clear BK128
 clear HB
 have HO_5 := n0_
 have HO_8 := n1_
 have HO_129002 := n2_
 have BK119 := n3_
 have BK127 := n4_
 have BK128 := n5_
 have HB := n6_
 clear n0_ n1_ n2_ n3_ n4_ n5_ n6_
 have p17 : 0 ≤ (x12_1 : Int) := of_decide_eq_true (by first | (with_reducible assumption) | assumption)
 have q17 : x12_1 < (a0.size : Int) := of_decide_eq_true (by first | (with_reducible assumption) | assumption)
 have hx17 := bt_at a0 x12_1
 replace p17 := eq_true p17
 replace q17 := eq_true q17
 refine start_ (n := 8) (S := fun w' => w'.cell? ⟨gb127, 0, none⟩ = some (.int .i64 x128000_1) ∧ w'.cell? ⟨gb127, 1, none⟩ = some (.int .i64 x128001_1)) (ds := []) (bm_ 8 0) (by kernel_rfl) rfl rfl ⟨(blk_cell BK127.out 0).trans rfl, (blk_cell BK127.out 1).trans rfl⟩ (fun hHeld => ?_); refine with_tabW hearsayref08_Entries.tab14 hearsayref08_Entries.bits14 (fun HT_ HW_ => ?_)
 generalize wr.drew = w19 at HO_5 HO_8 HO_129002 BK119 BK127 BK128 HB hHeld ⊢
 refine pure_ (i := 0) (N := some 39) (v := ?_) (a' := ?_) (bm_ 8 1) rfl rfl (any_of HT_.out (by kernel_rfl)) (fun _ _ _ h => h) (Or.inl ⟨by rfl, ?_⟩) ?_ ?_
 rotate_left
 {
 intro w'
 go_simp
 with_reducible rfl }
 rotate_left
 {
 simp only [Act.put, sA_, s0_, sS_, i64_w, i32_w]
 rfl }
 refine pure_ (i := 1) (N := some 40) (v := ?_) (a' := ?_) (bm_ 8 3) rfl rfl (any_of HT_.out (by kernel_rfl)) (fun _ _ _ h => h) (Or.inl ⟨by rfl, ?_⟩) ?_ ?_
 rotate_left
 {
 intro w'
 go_simp
 with_reducible rfl }
 rotate_left
 {
 simp only [Act.put, sA_, s0_, sS_, i64_w, i32_w]
 rfl }
 refine pure_ (i := 4) (N := some 43) (v := ?_) (a' := ?_) (bm_ 8 19) rfl rfl (any_of HT_.out (by kernel_rfl)) (fun _ _ _ h => h) (Or.inl ⟨by rfl, ?_⟩) ?_ ?_
 rotate_left
 {
 intro w'
 go_simp
 with_reducible rfl }
 rotate_left
 {
 simp only [Act.put, sA_, s0_, sS_, i64_w, i32_w]
 rfl }
 refine take_ (i := 2) (N := some 41) (v := ?_) (a' := ?_) (bm_ 8 23) rfl rfl (take_ofW HT_.out HW_.out (by kernel_rfl)) (fun _ _ _ h => h) (Or.inl ⟨by rfl, ?_⟩) hHeld ?_ ?_
 rotate_left
 {
 rintro w' ⟨s0, s1⟩
 go_simp
 with_reducible rfl }
 rotate_left
 {
 simp only [Act.put, sA_, s0_, sS_, i64_w, i32_w]
 rfl }
 refine take_ (i := 5) (N := some 44) (v := ?_) (a' := ?_) (bm_ 8 55) rfl rfl (take_ofW HT_.out HW_.out (by kernel_rfl)) (fun _ _ _ h => h) (Or.inl ⟨by rfl, ?_⟩) hHeld ?_ ?_
 rotate_left
 {
 rintro w' ⟨s0, s1⟩
 go_simp
 with_reducible rfl }
 rotate_left
 {
 simp only [Act.put, sA_, s0_, sS_, i64_w, i32_w]
 rfl }
 refine one_ (i := 3) (N := some 42) (bm_ 8 63) rfl rfl (one_of HT_.out (by kernel_rfl)) (by decide) (fun K hK => ?_)
 refine goes_ Try.func21 (by kernel_rfl) rfl #[.int .u8 (bt a0 x12_1)] (by rfl) rfl rfl (by (try simp only [List.map_toArray, List.map_cons, List.map_nil]); first | done | rfl | (simp only [List.length_drop, List.length_take]; rfl)) ?_
 with_reducible refine (hearsayref08_Blank.calls (bt a0 x12_1) t132 _ A18.out).mono ?_
 rintro e w' ⟨rfl, ⟨nd, rfl⟩⟩
 refine ⟨_, rfl, ?_⟩
 refine hK.out _ _ ⟨(blk_cell BK127.out 0).trans rfl, (blk_cell BK127.out 1).trans rfl⟩ (fun hHeld => ?_)
 clear hK K
 refine norm_ (a' := ?_) ?_ ?_
 rotate_left
 {
 show Act.put _ (some 42) _ = _
 simp only [Act.put, sA_, s0_, sS_, i64_w, i32_w]
 rfl }
 refine pure_ (i := 6) (N := some 45) (v := ?_) (a' := ?_) (bm_ 8 127) rfl rfl (any_of HT_.out (by kernel_rfl)) (fun _ _ _ h => h) (Or.inl ⟨by rfl, ?_⟩) ?_ ?_
 rotate_left
 {
 intro w'
 go_simp
 with_reducible rfl }
 rotate_left
 {
 simp only [Act.put, sA_, s0_, sS_, i64_w, i32_w]
 rfl }
 refine one_ (i := 7) (N := none) (bm_ 8 255) rfl rfl (one_of HT_.out (by kernel_rfl)) (by decide) (fun K hK => ?_)
 have hs20 : w19.cell? ⟨gb128, 0, none⟩ = some (.bool x129000_1) := (blk_cell BK128.out 0).trans rfl
 have hfs20 := blk_frozen BK128.out 0
 have hns20_0 := NB119_128.out
 have hns20_1 := NB127_128.out
 have hms20_0 := NB128_119.out
 have hms20_1 := NB128_127.out
 have hs21 : w19.cell? ⟨gb128, 1, none⟩ = some (.int .i64 x129001_1) := (blk_cell BK128.out 1).trans rfl
 have hfs21 := blk_frozen BK128.out 1
 have hns21_0 := NB119_128.out
 have hns21_1 := NB127_128.out
 have hms21_0 := NB128_119.out
 have hms21_1 := NB128_127.out
 have hs22 : w19.cell? ⟨gb128, 2, none⟩ = some (u129002) := (blk_cell BK128.out 2).trans rfl
 have hfs22 := blk_frozen BK128.out 2
 have hns22_0 := NB119_128.out
 have hns22_1 := NB127_128.out
 have hms22_0 := NB128_119.out
 have hms22_1 := NB128_127.out
 refine skip_ (w1 := ?_) (by rfl) rfl ?_ ?_
 rotate_left
 {
 go_simp
 rfl }
 refine hK.out _ _ ⟨((cell_far (p := ⟨gb128, _, none⟩) NB127_128.out _).trans (((cell_far (p := ⟨gb128, _, none⟩) NB127_128.out _).trans (((cell_far (p := ⟨gb128, _, none⟩) NB127_128.out _).trans (hHeld.1)))))), ((cell_far (p := ⟨gb128, _, none⟩) NB127_128.out _).trans (((cell_far (p := ⟨gb128, _, none⟩) NB127_128.out _).trans (((cell_far (p := ⟨gb128, _, none⟩) NB127_128.out _).trans (hHeld.2))))))⟩ (fun hHeld => ?_)
 clear hK K
 refine done_ (done_of HT_.out (by kernel_rfl)) ?_
 try go_wp2
 go_meet
 case rel => exact ⟨_, (false), (t132), (x128000_1), (([] : List (S23))), (.slice none 0 0), (by first | rfl | (simp; done) | (simp [*]; done)), H', ⟨by have := HK1.out; first | omega | exact Nat.le_refl _⟩, ⟨by (with_reducible repeat (first | apply Kd.R_alloc | apply Kd.R_drewN | apply Kd.R_drew)); exact Kd.R_mono (Kd.R_far (p := ⟨gb128, 2, none⟩) (Kd.R_far (p := ⟨gb128, 1, none⟩) (Kd.R_far (p := ⟨gb128, 0, none⟩) (Kd.R_types HO_5.out BK128.out (by decide)) (fun _ hk => hk.2) (.bool t132)) (fun _ hk => hk.2) (.int .i64 x128000_1)) (fun _ hk => hk.2) (.slice none 0 0)) (fun _ hk => trivial)⟩, ⟨by (with_reducible repeat (first | apply Kd.S_alloc | apply Kd.S_drewN | apply Kd.S_drew)); exact Kd.S_mono (Kd.S_far (p := ⟨gb128, 2, none⟩) (Kd.S_far (p := ⟨gb128, 1, none⟩) (Kd.S_far (p := ⟨gb128, 0, none⟩) (Kd.S_mono HO_8.out (fun k_ hk => (⟨hk, hk.2⟩ : _ ∧ k_ ≠ gb128))) (fun _ hk => hk.2) (.bool t132)) (fun _ hk => hk.2) (.int .i64 x128000_1)) (fun _ hk => hk.2) (.slice none 0 0)) (fun _ hk => ⟨(by simp [Value.ownBlock]), hk.1.2⟩)⟩, ⟨by first | exact Kd.R_nil _ _ _ _ _ | exact Kd.N_nil _ _ _ _ _ | exact Kd.V_nil _ _ _ _ _ | exact Kd.Q_nil _ _ _ _ _ | exact Kd.S_nil _ _ _ _ _⟩, ⟨by (with_reducible repeat (first | refine blk_drewN ?_ _ | refine blk_drew ?_ | refine blk_alloc ?_ _)); refine blk_far ?_ NB119_128.out _; (with_reducible repeat (first | refine blk_drewN ?_ _ | refine blk_drew ?_ | refine blk_alloc ?_ _)); refine blk_far ?_ NB119_128.out _; (with_reducible repeat (first | refine blk_drewN ?_ _ | refine blk_drew ?_ | refine blk_alloc ?_ _)); refine blk_far ?_ NB119_128.out _; (with_reducible repeat (first | refine blk_drewN ?_ _ | refine blk_drew ?_ | refine blk_alloc ?_ _)); exact BK119.out⟩, ⟨by (with_reducible repeat (first | refine blk_drewN ?_ _ | refine blk_drew ?_ | refine blk_alloc ?_ _)); refine blk_far ?_ NB127_128.out _; (with_reducible repeat (first | refine blk_drewN ?_ _ | refine blk_drew ?_ | refine blk_alloc ?_ _)); refine blk_far ?_ NB127_128.out _; (with_reducible repeat (first | refine blk_drewN ?_ _ | refine blk_drew ?_ | refine blk_alloc ?_ _)); refine blk_far ?_ NB127_128.out _; (with_reducible repeat (first | refine blk_drewN ?_ _ | refine blk_drew ?_ | refine blk_alloc ?_ _)); exact BK127.out⟩, ⟨by (with_reducible repeat (first | refine blk_drewN ?_ _ | refine blk_drew ?_ | refine blk_alloc ?_ _)); refine blk_put (cs := #[.bool t132, .int .i64 x128000_1, u129002]) ?_ 2 _ rfl; (with_reducible repeat (first | refine blk_drewN ?_ _ | refine blk_drew ?_ | refine blk_alloc ?_ _)); refine blk_put (cs := #[.bool t132, .int .i64 x129001_1, u129002]) ?_ 1 _ rfl; (with_reducible repeat (first | refine blk_drewN ?_ _ | refine blk_drew ?_ | refine blk_alloc ?_ _)); refine blk_put (cs := #[.bool x129000_1, .int .i64 x129001_1, u129002]) ?_ 0 _ rfl; (with_reducible repeat (first | refine blk_drewN ?_ _ | refine blk_drew ?_ | refine blk_alloc ?_ _)); exact BK128.out⟩, ⟨by repeat (first | (with_reducible first | exact HB.out | apply below_alloc | apply pw_below_drewN | apply below_drew1 | refine below_set ?_ GE119.out | refine below_set ?_ GE127.out | refine below_set ?_ GE128.out) | exact HB.out)⟩⟩ }
 {
 rw [if_neg c16] at H
 exact absurd H (by simp) }}
 {
 replace c15 := Bool.eq_false_iff.mpr c15
 subst c15
 have H1 : (hearsayref08_Entries.j1 k1 a0 t120 x8_1 false x12_1 x128000_1 x128001_1 x129000_1 x129001_1 x129002_1) = some (r1, r2, r3, r4) := by rw [if_neg (show ¬ (false = true) by decide)] at H; exact H
 clear H
 have H := H1
 clear H1
 have H' := Aside0.mk H
 clear H
 go_wp2
 go_meet
 case rel => exact ⟨_, (false), (x129000_1), (x129001_1), (x129002_1), (u129002), (by first | rfl | (simp; done) | (simp [*]; done)), H', ⟨by have := HK1.out; first | omega | exact Nat.le_refl _⟩, ⟨by (with_reducible repeat (first | apply Kd.R_alloc | apply Kd.R_drewN | apply Kd.R_drew)); exact HO_5.out⟩, ⟨by (with_reducible repeat (first | apply Kd.S_alloc | apply Kd.S_drewN | apply Kd.S_drew)); exact HO_8.out⟩, ⟨by (with_reducible repeat (first | apply Kd.R_alloc | apply Kd.R_drewN | apply Kd.R_drew)); exact HO_129002.out⟩, ⟨by (with_reducible repeat (first | refine blk_drewN ?_ _ | refine blk_drew ?_ | refine blk_alloc ?_ _)); exact BK119.out⟩, ⟨by (with_reducible repeat (first | refine blk_drewN ?_ _ | refine blk_drew ?_ | refine blk_alloc ?_ _)); exact BK127.out⟩, ⟨by (with_reducible repeat (first | refine blk_drewN ?_ _ | refine blk_drew ?_ | refine blk_alloc ?_ _)); exact BK128.out⟩, ⟨by repeat (first | (with_reducible first | exact HB.out | apply below_alloc | apply pw_below_drewN | apply below_drew1 | refine below_set ?_ GE119.out | refine below_set ?_ GE127.out | refine below_set ?_ GE128.out) | exact HB.out)⟩⟩ })
 case rest => (
 clear HC14
 try clear c1
 try clear p1
 try clear q1
 try clear hx1
 try clear c2
 try clear c2b0
 try clear c2b1
 try clear p2
 try clear c6
 try clear c6b0
 try clear c6b1
 try clear c10
 try clear c13
 try clear c13b0
 try clear c15
 try clear c16
 try clear c16b0
 try clear p17
 try clear q17
 try clear hx17
 try clear c21
 try clear hcz11_0
 try clear hcz11_1
 try clear hcz4_0
 try clear hcz4_1
 try clear hfz11_0
 try clear hfz11_1
 try clear hfz4_0
 try clear hfz4_1
 try clear p17
 try clear p2
 try clear q17
 obtain ⟨kq, x11_13, x129000_13, x129001_13, x129002_13, u129002, rfl, HA, HJ13, HO_5, HO_8, HO_129002, BK119, BK127, BK128, HB⟩ := hcut
 cases kq with
 | zero => exact absurd HA.out (by simp [hearsayref08_Entries.j1])
 | succ kj13 => (
 have H := HA.out
 clear HA
 simp only [hearsayref08_Entries.j1] at H
 have HC23 := Aside0.mk H
 clear H
 go_upto_region 16 with (fail)
 go_cut [57] (fun v57 wc => ∃ (kq : Nat) (x57_22 : Bool), v57 = .bool x57_22 ∧ Aside0 (hearsayref08_Entries.j2 kq a0 t120 x8_1 x11_13 x12_1 x57_22 x128000_1 x128001_1 x129000_13 x129001_13 x129002_13 = some (r1, r2, r3, r4)) ∧ Aside0 (kq ≤ kj13) ∧ Aside0 (Kd.R (Kd.int .i64) 3 wc w.heap.size (fun _ => True) v123 t120) ∧ Aside0 (Kd.S k45 45 wc w.heap.size (fun k_ => some k_ ≠ (u129002 : Value).ownBlock ∧ k_ ≠ gb128) u8 x8_1) ∧ Aside0 (Kd.R k23 23 wc w.heap.size (fun _ => True) u129002 x129002_13) ∧ Aside0 (wc.heap[gb119]? = some (.cells #[.int .i64 0, .int .i64 0] 30 (0, 0))) ∧ Aside0 (wc.heap[gb127]? = some (.cells #[.int .i64 x128000_1, .int .i64 x128001_1] 30 (0, 0))) ∧ Aside0 (wc.heap[gb128]? = some (.cells #[.bool x129000_13, .int .i64 x129001_13, u129002] 45 (0, 0))) ∧ Aside0 (Below w.heap.size w wc))
 case first => (
 have H := HC23.out
 clear HC23
 by_cases c24 : 0 ≤ x12_1
 {
 rw [if_pos c24] at H
 have c24b0 : decide (0 ≤ x12_1) = true := decide_eq_true c24
 clear c24
 (first | rw [c24b0] | (simp only [i64_w, i32_w]; rw [c24b0]) | skip)
 by_cases c25 : x12_1 < (t120.length : Int)
 {
 rw [if_pos c25] at H
 have c25b0 : decide (x12_1 < (t120.length : Int)) = true := decide_eq_true c25
 clear c25
 by_cases c26 : (rd t120 x12_1) = 3
 {
 rw [if_pos c26] at H
 have c26b0 : ((rd t120 x12_1) == 3) = true := beq_iff_eq.mpr c26
 have c26b1 : ((rd t120 x12_1) != 3) = false := bne_eq_false_iff_eq.mpr c26
 clear c26
 have H' := Aside0.mk H
 clear H
 obtain ⟨Ao27, co27, eo27⟩ := Kd.R_slice HO_5.out
 subst eo27
 have p133 : 0 ≤ (x12_1 : Int) := of_decide_eq_true (by first | (with_reducible assumption) | assumption)
 have q133 : x12_1 < (t120.length : Int) := of_decide_eq_true (by first | (with_reducible assumption) | assumption)
 obtain ⟨ad133, e133, hx133_0⟩ := Kd.at_int (Kd.R_reads' HO_5.out).2.2 x12_1 p133 q133
 cases e133
 replace p133 := eq_true p133
 replace q133 := eq_true q133
 go_wp2
 go_meet
 case rel => exact ⟨_, (true), (by first | rfl | (simp; done) | (simp [*]; done)), H', ⟨by have := HK1.out; have := HJ13.out; first | omega | exact Nat.le_refl _⟩, ⟨by (with_reducible repeat (first | apply Kd.R_alloc | apply Kd.R_drewN | apply Kd.R_drew)); exact HO_5.out⟩, ⟨by (with_reducible repeat (first | apply Kd.S_alloc | apply Kd.S_drewN | apply Kd.S_drew)); exact HO_8.out⟩, ⟨by (with_reducible repeat (first | apply Kd.R_alloc | apply Kd.R_drewN | apply Kd.R_drew)); exact HO_129002.out⟩, ⟨by (with_reducible repeat (first | refine blk_drewN ?_ _ | refine blk_drew ?_ | refine blk_alloc ?_ _)); exact BK119.out⟩, ⟨by (with_reducible repeat (first | refine blk_drewN ?_ _ | refine blk_drew ?_ | refine blk_alloc ?_ _)); exact BK127.out⟩, ⟨by (with_reducible repeat (first | refine blk_drewN ?_ _ | refine blk_drew ?_ | refine blk_alloc ?_ _)); exact BK128.out⟩, ⟨by repeat (first | (with_reducible first | exact HB.out | apply below_alloc | apply pw_below_drewN | apply below_drew1 | refine below_set ?_ GE119.out | refine below_set ?_ GE127.out | refine below_set ?_ GE128.out) | exact HB.out)⟩⟩ }
 {
 rw [if_neg c26] at H
 have c26b0 : ((rd t120 x12_1) == 3) = false := beq_eq_false_iff_ne.mpr c26
 have c26b1 : ((rd t120 x12_1) != 3) = true := bne_iff_ne.mpr c26
 have H' := Aside0.mk H
 clear H
 obtain ⟨Ao28, co28, eo28⟩ := Kd.R_slice HO_5.out
 subst eo28
 have p133 : 0 ≤ (x12_1 : Int) := of_decide_eq_true (by first | (with_reducible assumption) | assumption)
 have q133 : x12_1 < (t120.length : Int) := of_decide_eq_true (by first | (with_reducible assumption) | assumption)
 obtain ⟨ad133, e133, hx133_0⟩ := Kd.at_int (Kd.R_reads' HO_5.out).2.2 x12_1 p133 q133
 cases e133
 replace p133 := eq_true p133
 replace q133 := eq_true q133
 have p134 : 0 ≤ (x12_1 : Int) := of_decide_eq_true (by first | (with_reducible assumption) | assumption)
 have q134 : x12_1 < (t120.length : Int) := of_decide_eq_true (by first | (with_reducible assumption) | assumption)
 obtain ⟨ad134, e134, hx134_0⟩ := Kd.at_int (Kd.R_reads' HO_5.out).2.2 x12_1 p134 q134
 obtain rfl : ad133 = ad134 := (by injection e134)
 replace p134 := eq_true p134
 replace q134 := eq_true q134
 go_wp2
 go_meet
 case rel => exact ⟨_, (((rd t120 x12_1) == 5)), (by first | rfl | (simp; done) | (simp [*]; done)), H', ⟨by have := HK1.out; have := HJ13.out; first | omega | exact Nat.le_refl _⟩, ⟨by (with_reducible repeat (first | apply Kd.R_alloc | apply Kd.R_drewN | apply Kd.R_drew)); exact HO_5.out⟩, ⟨by (with_reducible repeat (first | apply Kd.S_alloc | apply Kd.S_drewN | apply Kd.S_drew)); exact HO_8.out⟩, ⟨by (with_reducible repeat (first | apply Kd.R_alloc | apply Kd.R_drewN | apply Kd.R_drew)); exact HO_129002.out⟩, ⟨by (with_reducible repeat (first | refine blk_drewN ?_ _ | refine blk_drew ?_ | refine blk_alloc ?_ _)); exact BK119.out⟩, ⟨by (with_reducible repeat (first | refine blk_drewN ?_ _ | refine blk_drew ?_ | refine blk_alloc ?_ _)); exact BK127.out⟩, ⟨by (with_reducible repeat (first | refine blk_drewN ?_ _ | refine blk_drew ?_ | refine blk_alloc ?_ _)); exact BK128.out⟩, ⟨by repeat (first | (with_reducible first | exact HB.out | apply below_alloc | apply pw_below_drewN | apply below_drew1 | refine below_set ?_ GE119.out | refine below_set ?_ GE127.out | refine below_set ?_ GE128.out) | exact HB.out)⟩⟩ }}
 {
 rw [if_neg c25] at H
 exact absurd H (by simp) }}
 {
 rw [if_neg c24] at H
 exact absurd H (by simp) })
 case rest => (
 clear HC23
 try clear c1
 try clear p1
 try clear q1
 try clear hx1
 try clear c2
 try clear c2b0
 try clear c2b1
 try clear p2
 try clear c6
 try clear c6b0
 try clear c6b1
 try clear c10
 try clear c13
 try clear c13b0
 try clear p13
 try clear q13
 try clear hx13
 try clear c15
 try clear c16
 try clear c16b0
 try clear p17
 try clear q17
 try clear hx17
 try clear c21
 try clear c24
 try clear c24b0
 try clear c25
 try clear c25b0
 try clear c26
 try clear c26b0
 try clear c26b1
 try clear hcz11_0
 try clear hcz11_1
 try clear hcz4_0
 try clear hcz4_1
 try clear hfz11_0
 try clear hfz11_1
 try clear hfz4_0
 try clear hfz4_1
 try clear hx133_0
 try clear hx134_0
 try clear p1
 try clear p133
 try clear p134
 try clear p17
 try clear p2
 try clear q1
 try clear q133
 try clear q134
 try clear q17
 obtain ⟨kq, x57_22, rfl, HA, HJ22, HO_5, HO_8, HO_129002, BK119, BK127, BK128, HB⟩ := hcut
 cases kq with
 | zero => exact absurd HA.out (by simp [hearsayref08_Entries.j2])
 | succ kj22 => (
 have H := HA.out
 clear HA
 simp only [hearsayref08_Entries.j2] at H
 have HC29 := Aside0.mk H
 clear H
 go_upto_if 57 with (fail)
 go_cut [] (fun wc => ∃ (kq : Nat) (x129002_28 : List (S23)) (u129002 : Value), Aside0 (hearsayref08_Entries.j4 kq a0 t120 x8_1 x11_13 x12_1 x128000_1 x128001_1 x129000_13 x129001_13 x129002_28 = some (r1, r2, r3, r4)) ∧ Aside0 (kq ≤ kj22) ∧ Aside0 (Kd.R (Kd.int .i64) 3 wc w.heap.size (fun _ => True) v123 t120) ∧ Aside0 (Kd.S k45 45 wc w.heap.size (fun k_ => some k_ ≠ (u129002 : Value).ownBlock ∧ k_ ≠ gb128) u8 x8_1) ∧ Aside0 (Kd.R k23 23 wc w.heap.size (fun _ => True) u129002 x129002_28) ∧ Aside0 (wc.heap[gb119]? = some (.cells #[.int .i64 0, .int .i64 0] 30 (0, 0))) ∧ Aside0 (wc.heap[gb127]? = some (.cells #[.int .i64 x128000_1, .int .i64 x128001_1] 30 (0, 0))) ∧ Aside0 (wc.heap[gb128]? = some (.cells #[.bool x129000_13, .int .i64 x129001_13, u129002] 45 (0, 0))) ∧ Aside0 (Below w.heap.size w wc))
 case first => (
 have H := HC29.out
 clear HC29
 by_cases c30 : x57_22 = true
 {
 subst c30
 have H1 : (hearsayref08_Entries.l1 kj22 a0 t120 x8_1 x11_13 x12_1 (wrap64 (x12_1 + 1)) x128000_1 x128001_1 x129000_13 x129001_13 x129002_13) = some (r1, r2, r3, r4) := by rw [if_pos rfl] at H; exact H
 clear H
 have H := H1
 clear H1
 have H' := Aside0.mk H
 clear H
 go_wp2
 go_loopg [13] kj22 (fun kq v13 w' => ∃ (x13_4 : Int), v13 = .int .i64 x13_4 ∧ Aside0 (hearsayref08_Entries.l1 kq a0 t120 x8_1 x11_13 x12_1 x13_4 x128000_1 x128001_1 x129000_13 x129001_13 x129002_13 = some (r1, r2, r3, r4)) ∧ Aside0 (kq ≤ kj22) ∧ Aside0 (Kd.R (Kd.int .i64) 3 w' w.heap.size (fun _ => True) v123 t120) ∧ Aside0 (Kd.S k45 45 w' w.heap.size (fun k_ => some k_ ≠ (u129002 : Value).ownBlock ∧ k_ ≠ gb128) u8 x8_1) ∧ Aside0 (Kd.R k23 23 w' w.heap.size (fun _ => True) u129002 x129002_13) ∧ Aside0 (w'.heap[gb119]? = some (.cells #[.int .i64 0, .int .i64 0] 30 (0, 0))) ∧ Aside0 (w'.heap[gb127]? = some (.cells #[.int .i64 x128000_1, .int .i64 x128001_1] 30 (0, 0))) ∧ Aside0 (w'.heap[gb128]? = some (.cells #[.bool x129000_13, .int .i64 x129001_13, u129002] 45 (0, 0))) ∧ Aside0 (Below w.heap.size w w'))
 case atStart => exact ⟨(wrap64 (x12_1 + 1)), (by first | rfl | (simp; done) | (simp [*]; done)), H', ⟨Nat.le_refl _⟩, ⟨by (with_reducible repeat (first | apply Kd.R_alloc | apply Kd.R_drewN | apply Kd.R_drew)); exact HO_5.out⟩, ⟨by (with_reducible repeat (first | apply Kd.S_alloc | apply Kd.S_drewN | apply Kd.S_drew)); exact HO_8.out⟩, ⟨by (with_reducible repeat (first | apply Kd.R_alloc | apply Kd.R_drewN | apply Kd.R_drew)); exact HO_129002.out⟩, ⟨by (with_reducible repeat (first | refine blk_drewN ?_ _ | refine blk_drew ?_ | refine blk_alloc ?_ _)); exact BK119.out⟩, ⟨by (with_reducible repeat (first | refine blk_drewN ?_ _ | refine blk_drew ?_ | refine blk_alloc ?_ _)); exact BK127.out⟩, ⟨by (with_reducible repeat (first | refine blk_drewN ?_ _ | refine blk_drew ?_ | refine blk_alloc ?_ _)); exact BK128.out⟩, ⟨by repeat (first | (with_reducible first | exact HB.out | apply below_alloc | apply pw_below_drewN | apply below_drew1 | refine below_set ?_ GE119.out | refine below_set ?_ GE127.out | refine below_set ?_ GE128.out) | exact HB.out)⟩⟩
 case round => (
 clear H'
 try clear c1
 try clear p1
 try clear q1
 try clear hx1
 try clear c2
 try clear c2b0
 try clear c2b1
 try clear p2
 try clear c3
 try clear c6
 try clear c6b0
 try clear c6b1
 try clear p6
 try clear c10
 try clear c13
 try clear c13b0
 try clear p13
 try clear q13
 try clear hx13
 try clear c15
 try clear c16
 try clear c16b0
 try clear p17
 try clear q17
 try clear hx17
 try clear c21
 try clear c24
 try clear c24b0
 try clear c25
 try clear c25b0
 try clear c26
 try clear c26b0
 try clear c26b1
 try clear c30
 try clear hcz11_0
 try clear hcz11_1
 try clear hcz4_0
 try clear hcz4_1
 try clear hfz11_0
 try clear hfz11_1
 try clear hfz4_0
 try clear hfz4_1
 try clear hx133_0
 try clear hx134_0
 try clear p1
 try clear p13
 try clear p133
 try clear p134
 try clear p17
 try clear p2
 try clear q1
 try clear q13
 try clear q133
 try clear q134
 try clear q17
 obtain ⟨x13_4, rfl, HA, HK4, HO_5, HO_8, HO_129002, BK119, BK127, BK128, HB⟩ := hrel
 cases gk with
 | zero => exact absurd HA.out (by simp [hearsayref08_Entries.l1])
 | succ k4 => (
 have H := HA.out
 clear HA
 simp only [hearsayref08_Entries.l1] at H
 by_cases c31 : x13_4 < (a0.size : Int)
 {
 rw [if_pos c31] at H
 have c31b0 : decide (x13_4 < (a0.size : Int)) = true := decide_eq_true c31
 clear c31
 (first | rw [c31b0] | (simp only [i64_w, i32_w]; rw [c31b0]) | skip)
 by_cases c32 : 0 ≤ x13_4
 {
 rw [if_pos c32] at H
 have c32b0 : decide (0 ≤ x13_4) = true := decide_eq_true c32
 clear c32
 by_cases c33 : x13_4 < (t120.length : Int)
 {
 rw [if_pos c33] at H
 have c33b0 : decide (x13_4 < (t120.length : Int)) = true := decide_eq_true c33
 clear c33
 by_cases c34 : (rd t120 x13_4) = 4
 {
 rw [if_pos c34] at H
 have c34b0 : ((rd t120 x13_4) == 4) = true := beq_iff_eq.mpr c34
 have c34b1 : ((rd t120 x13_4) != 4) = false := bne_eq_false_iff_eq.mpr c34
 clear c34
 have H' := Aside0.mk H
 clear H
 obtain ⟨Ao35, co35, eo35⟩ := Kd.R_slice HO_5.out
 subst eo35
 have p135 : 0 ≤ (x13_4 : Int) := of_decide_eq_true (by first | (with_reducible assumption) | assumption)
 have q135 : x13_4 < (t120.length : Int) := of_decide_eq_true (by first | (with_reducible assumption) | assumption)
 obtain ⟨ad135, e135, hx135_0⟩ := Kd.at_int (Kd.R_reads' HO_5.out).2.2 x13_4 p135 q135
 cases e135
 replace p135 := eq_true p135
 replace q135 := eq_true q135
 go_wp2
 go_roundg k4
 case measure => have := HK1.out; have := HJ13.out; have := HJ22.out; have := HK4.out; omega
 case rel => exact ⟨(wrap64 (x13_4 + 1)), (by first | rfl | (simp; done) | (simp [*]; done)), H', ⟨by have := HK1.out; have := HJ13.out; have := HJ22.out; have := HK4.out; omega⟩, ⟨by (with_reducible repeat (first | apply Kd.R_alloc | apply Kd.R_drewN | apply Kd.R_drew)); exact HO_5.out⟩, ⟨by (with_reducible repeat (first | apply Kd.S_alloc | apply Kd.S_drewN | apply Kd.S_drew)); exact HO_8.out⟩, ⟨by (with_reducible repeat (first | apply Kd.R_alloc | apply Kd.R_drewN | apply Kd.R_drew)); exact HO_129002.out⟩, ⟨by (with_reducible repeat (first | refine blk_drewN ?_ _ | refine blk_drew ?_ | refine blk_alloc ?_ _)); exact BK119.out⟩, ⟨by (with_reducible repeat (first | refine blk_drewN ?_ _ | refine blk_drew ?_ | refine blk_alloc ?_ _)); exact BK127.out⟩, ⟨by (with_reducible repeat (first | refine blk_drewN ?_ _ | refine blk_drew ?_ | refine blk_alloc ?_ _)); exact BK128.out⟩, ⟨by repeat (first | (with_reducible first | exact HB.out | apply below_alloc | apply pw_below_drewN | apply below_drew1 | refine below_set ?_ GE119.out | refine below_set ?_ GE127.out | refine below_set ?_ GE128.out) | exact HB.out)⟩⟩ }
 {
 rw [if_neg c34] at H
 have c34b0 : ((rd t120 x13_4) == 4) = false := beq_eq_false_iff_ne.mpr c34
 have c34b1 : ((rd t120 x13_4) != 4) = true := bne_iff_ne.mpr c34
 by_cases c36 : 0 ≤ x12_1
 {
 rw [if_pos c36] at H
 have c36b0 := eq_true c36
 have c36b1 : decide (0 ≤ x12_1) = true := decide_eq_true c36
 clear c36
 by_cases c37 : x12_1 ≤ x13_4
 {
 rw [if_pos c37] at H
 have c37b0 := eq_true c37
 have c37b1 : decide (x12_1 ≤ x13_4) = true := decide_eq_true c37
 clear c37
 by_cases c38 : x13_4 ≤ (a0.size : Int)
 {
 rw [if_pos c38] at H
 have c38b0 := eq_true c38
 have c38b1 : decide (x13_4 ≤ (a0.size : Int)) = true := decide_eq_true c38
 clear c38
 by_cases c39 : x12_1 < (t120.length : Int)
 {
 rw [if_pos c39] at H
 have c39b0 : decide (x12_1 < (t120.length : Int)) = true := decide_eq_true c39
 clear c39
 by_cases c40 : (rd t120 x12_1) = 5
 {
 rw [if_pos c40] at H
 have c40b0 : ((rd t120 x12_1) == 5) = true := beq_iff_eq.mpr c40
 have c40b1 : ((rd t120 x12_1) != 5) = false := bne_eq_false_iff_eq.mpr c40
 clear c40
 obtain ⟨ji41, hji41⟩ : ∃ j_ : Int, (wrap64 (x12_1 + 1)) = j_ := ⟨_, rfl⟩
 replace H : (if 0 ≤ (ji41) then (if (ji41) ≤ (wrap64 (x13_4 - 1)) then (if (wrap64 (x13_4 - 1)) ≤ (a0.size : Int) then (if x129002_13.length < 3518437208883 then (hearsayref08_Entries.j4 k4 a0 t120 x8_1 x11_13 x12_1 x128000_1 x128001_1 x129000_13 x129001_13 (x129002_13 ++ [(⟨a0.extract ((ji41) : Int).toNat ((wrap64 (x13_4 - 1)) : Int).toNat, true, x128000_1, x128001_1⟩ : S23)])) else (none)) else (none)) else (none)) else (none)) = some (r1, r2, r3, r4) := by first | (rw [hji41] at H; exact H) | (simp only [hji41] at H ⊢; exact H)
 have hji41w : (IntKind.i64.wrap (x12_1 + 1)) = ji41 := (i64_w _).trans hji41
 by_cases c42 : 0 ≤ (ji41)
 {
 rw [if_pos c42] at H
 have c42b0 := eq_true c42
 have c42b1 : decide (0 ≤ (ji41)) = true := decide_eq_true c42
 clear c42
 by_cases c43 : (ji41) ≤ (wrap64 (x13_4 - 1))
 {
 rw [if_pos c43] at H
 have c43b0 := eq_true c43
 have c43b1 : decide ((ji41) ≤ (wrap64 (x13_4 - 1))) = true := decide_eq_true c43
 clear c43
 by_cases c44 : (wrap64 (x13_4 - 1)) ≤ (a0.size : Int)
 {
 rw [if_pos c44] at H
 have c44b0 := eq_true c44
 have c44b1 : decide ((wrap64 (x13_4 - 1)) ≤ (a0.size : Int)) = true := decide_eq_true c44
 clear c44
 by_cases c45 : x129002_13.length < 3518437208883
 {
 rw [if_pos c45] at H
 have LMc45 := Aside0.mk c45
 clear c45
 obtain ⟨y138, hy138⟩ : ∃ y_ : List (S23), y_ = (x129002_13 ++ [(⟨a0.extract ((ji41) : Int).toNat ((wrap64 (x13_4 - 1)) : Int).toNat, true, x128000_1, x128001_1⟩ : S23)]) := ⟨_, rfl⟩
 replace H : (hearsayref08_Entries.j4 k4 a0 t120 x8_1 x11_13 x12_1 x128000_1 x128001_1 x129000_13 x129001_13 y138) = some (r1, r2, r3, r4) := by first | (rw [hy138]; with_reducible exact H) | (have H2_ := (Option.bind_some _ _).symm.trans H; rw [hy138]; with_reducible exact H2_) | (have H2_ := (Option.bind_some _ _).symm.trans H; with_reducible exact H2_) | with_reducible exact H | (rw [hy138]; exact H) | exact H
 have Ny138 := Aside0.mk hy138
 clear hy138
 have H' := Aside0.mk H
 clear H
 obtain ⟨Ao46, co46, eo46⟩ := Kd.R_slice HO_5.out
 subst eo46
 have p135 : 0 ≤ (x13_4 : Int) := of_decide_eq_true (by first | (with_reducible assumption) | assumption)
 have q135 : x13_4 < (t120.length : Int) := of_decide_eq_true (by first | (with_reducible assumption) | assumption)
 obtain ⟨ad135, e135, hx135_0⟩ := Kd.at_int (Kd.R_reads' HO_5.out).2.2 x13_4 p135 q135
 cases e135
 replace p135 := eq_true p135
 replace q135 := eq_true q135
 try go_wp2
 have n0_ := Aside0.mk (Kd.R_drew HO_5.out)
 have n1_ := Aside0.mk (Kd.S_drew HO_8.out)
 have n2_ := Aside0.mk (Kd.R_drew HO_129002.out)
 have n3_ := Aside0.mk (blk_drew BK119.out)
 have n4_ := Aside0.mk (blk_drew BK127.out)
 have n5_ := Aside0.mk (blk_drew BK128.out)
 have n6_ := Aside0.mk (below_drew1 HB.out)
 clear HO_5
 clear HO_8
 clear HO_129002
 clear BK119
 clear BK127
 clear BK128
 clear HB
 have HO_5 := n0_
 have HO_8 := n1_
 have HO_129002 := n2_
 have BK119 := n3_
 have BK127 := n4_
 have BK128 := n5_
 have HB := n6_
 clear n0_ n1_ n2_ n3_ n4_ n5_ n6_
 refine start_ (n := 11) (S := fun w' => w'.cell? ⟨gb127, 0, none⟩ = some (.int .i64 x128000_1) ∧ w'.cell? ⟨gb127, 1, none⟩ = some (.int .i64 x128001_1)) (ds := []) (bm_ 11 0) (by kernel_rfl) rfl rfl ⟨(blk_cell BK127.out 0).trans rfl, (blk_cell BK127.out 1).trans rfl⟩ (fun hHeld => ?_); refine with_tabW hearsayref08_Entries.tab20 hearsayref08_Entries.bits20 (fun HT_ HW_ => ?_)
 generalize wr.drew = w47 at HO_5 HO_8 HO_129002 BK119 BK127 BK128 HB hHeld ⊢
 refine pure_ (i := 0) (N := some 73) (v := ?_) (a' := ?_) (bm_ 11 1) rfl rfl (any_of HT_.out (by kernel_rfl)) (fun _ _ _ h => h) (Or.inl ⟨by rfl, ?_⟩) ?_ ?_
 rotate_left
 {
 intro w'
 go_simp
 with_reducible rfl }
 rotate_left
 {
 simp only [Act.put, sA_, s0_, sS_, i64_w, i32_w]
 rfl }
 refine pure_ (i := 1) (N := some 74) (v := ?_) (a' := ?_) (bm_ 11 3) rfl rfl (any_of HT_.out (by kernel_rfl)) (fun _ _ _ h => h) (Or.inl ⟨by rfl, ?_⟩) ?_ ?_
 rotate_left
 {
 intro w'
 go_simp
 with_reducible rfl }
 rotate_left
 {
 simp only [Act.put, sA_, s0_, sS_, i64_w, i32_w]
 rfl }
 refine pure_ (i := 2) (N := some 75) (v := ?_) (a' := ?_) (bm_ 11 7) rfl rfl (any_of HT_.out (by kernel_rfl)) (fun _ _ _ h => h) (Or.inl ⟨by rfl, ?_⟩) ?_ ?_
 rotate_left
 {
 intro w'
 go_simp
 with_reducible rfl }
 rotate_left
 {
 simp only [Act.put, sA_, s0_, sS_, i64_w, i32_w]
 rfl }
 refine pure_ (i := 3) (N := some 76) (v := ?_) (a' := ?_) (bm_ 11 15) rfl rfl (any_of HT_.out (by kernel_rfl)) (fun _ _ _ h => h) (Or.inl ⟨by rfl, ?_⟩) ?_ ?_
 rotate_left
 {
 intro w'
 go_simp
 with_reducible rfl }
 rotate_left
 {
 simp only [Act.put, sA_, s0_, sS_, i64_w, i32_w]
 rfl }
 refine pure_ (i := 4) (N := some 77) (v := ?_) (a' := ?_) (bm_ 11 31) rfl rfl (any_of HT_.out (by kernel_rfl)) (fun _ _ _ h => h) (Or.inl ⟨by rfl, ?_⟩) ?_ ?_
 rotate_left
 {
 intro w'
 go_simp
 with_reducible rfl }
 rotate_left
 {
 simp only [Act.put, sA_, s0_, sS_, i64_w, i32_w]
 rfl }
 refine pure_ (i := 6) (N := some 79) (v := ?_) (a' := ?_) (bm_ 11 95) rfl rfl (any_of HT_.out (by kernel_rfl)) (fun _ _ _ h => h) (Or.inl ⟨by rfl, ?_⟩) ?_ ?_
 rotate_left
 {
 intro w'
 go_simp
 with_reducible rfl }
 rotate_left
 {
 simp only [Act.put, sA_, s0_, sS_, i64_w, i32_w]
 rfl }
 refine take_ (i := 5) (N := some 78) (v := ?_) (a' := ?_) (bm_ 11 127) rfl rfl (take_ofW HT_.out HW_.out (by kernel_rfl)) (fun _ _ _ h => h) (Or.inl ⟨by rfl, ?_⟩) hHeld ?_ ?_
 rotate_left
 {
 rintro w' ⟨s0, s1⟩
 go_simp
 with_reducible rfl }
 rotate_left
 {
 simp only [Act.put, sA_, s0_, sS_, i64_w, i32_w]
 rfl }
 refine take_ (i := 7) (N := some 80) (v := ?_) (a' := ?_) (bm_ 11 255) rfl rfl (take_ofW HT_.out HW_.out (by kernel_rfl)) (fun _ _ _ h => h) (Or.inl ⟨by rfl, ?_⟩) hHeld ?_ ?_
 rotate_left
 {
 rintro w' ⟨s0, s1⟩
 go_simp
 with_reducible rfl }
 rotate_left
 {
 simp only [Act.put, sA_, s0_, sS_, i64_w, i32_w]
 rfl }
 refine pure_ (i := 8) (N := some 81) (v := ?_) (a' := ?_) (bm_ 11 511) rfl rfl (any_of HT_.out (by kernel_rfl)) (fun _ _ _ h => h) (Or.inl ⟨by rfl, ?_⟩) ?_ ?_
 rotate_left
 {
 intro w'
 go_simp
 with_reducible rfl }
 rotate_left
 {
 simp only [Act.put, sA_, s0_, sS_, i64_w, i32_w]
 rfl }
 refine one_ (i := 9) (N := some 14) (bm_ 11 1023) rfl rfl (one_of HT_.out (by kernel_rfl)) (by decide) (fun K hK => ?_)
 refine box_step ?hg (N := 14) ?hd (cs := #[.string (⟨#[]⟩ : ByteArray), .bool false, .int .i64 0, .int .i64 0]) (t := 23) ?hr ?_; (case hd => rfl); (case hg => rfl); (case hr => first | (go_simp; done) | (go_simp; rfl))
 intro gb136 hg w48 hbox hb
 have n0_ := Aside0.mk (Kd.R_below (by (with_reducible repeat (first | apply Kd.R_alloc | apply Kd.R_drewN | apply Kd.R_drew)); exact HO_5.out) hb)
 have n1_ := Aside0.mk (Kd.S_below (Kd.S_elderB (by (with_reducible repeat (first | apply Kd.S_alloc | apply Kd.S_drewN | apply Kd.S_drew)); exact HO_8.out) gb136 (Nat.le_of_eq hg.symm)) hb)
 have n2_ := Aside0.mk (Kd.R_below (Kd.R_elderB (by (with_reducible repeat (first | apply Kd.R_alloc | apply Kd.R_drewN | apply Kd.R_drew)); exact HO_129002.out) gb136 (Nat.le_of_eq hg.symm)) hb)
 have n3_ := Aside0.mk (blk_below (g := gb119) (o := .cells #[.int .i64 0, .int .i64 0] 30 (0, 0)) (by (with_reducible repeat (first | refine blk_drewN ?_ _ | refine blk_drew ?_ | refine blk_alloc ?_ _)); exact BK119.out) hb)
 have n4_ := Aside0.mk (blk_below (g := gb127) (o := .cells #[.int .i64 x128000_1, .int .i64 x128001_1] 30 (0, 0)) (by (with_reducible repeat (first | refine blk_drewN ?_ _ | refine blk_drew ?_ | refine blk_alloc ?_ _)); exact BK127.out) hb)
 have n5_ := Aside0.mk (blk_below (g := gb128) (o := .cells #[.bool x129000_13, .int .i64 x129001_13, u129002] 45 (0, 0)) (by (with_reducible repeat (first | refine blk_drewN ?_ _ | refine blk_drew ?_ | refine blk_alloc ?_ _)); exact BK128.out) hb)
 have n6_ := Aside0.mk (below_step (by repeat (first | (with_reducible first | exact HB.out | apply below_alloc | apply pw_below_drewN | apply below_drew1 | refine below_set ?_ GE119.out | refine below_set ?_ GE127.out | refine below_set ?_ GE128.out) | exact HB.out)) hb)
 have n7_ := Aside0.mk (hbox)
 have n8_ := Aside0.mk ((by rw [hg]; exact (below_size (by repeat (first | (with_reducible first | exact HB.out | apply below_alloc | apply pw_below_drewN | apply below_drew1 | refine below_set ?_ GE119.out | refine below_set ?_ GE127.out | refine below_set ?_ GE128.out) | exact HB.out))) : w.heap.size ≤ gb136))
 have n9_ := Aside0.mk ((by rw [hg]; exact (below_size (by repeat (first | (with_reducible first | exact HB.out | apply below_alloc | apply pw_below_drewN | apply below_drew1 | refine below_set ?_ GE119.out | refine below_set ?_ GE127.out | refine below_set ?_ GE128.out) | exact HB.out))) : w.heap.size ≤ gb136))
 have n10_ := Aside0.mk ((by rw [hg]; exact Nat.ne_of_lt (blk_lt (g := gb119) (o := .cells #[.int .i64 0, .int .i64 0] 30 (0, 0)) (by (with_reducible repeat (first | refine blk_drewN ?_ _ | refine blk_drew ?_ | refine blk_alloc ?_ _)); exact BK119.out)) : gb119 ≠ gb136))
 have n11_ := Aside0.mk ((by rw [hg]; exact Nat.ne_of_gt (blk_lt (g := gb119) (o := .cells #[.int .i64 0, .int .i64 0] 30 (0, 0)) (by (with_reducible repeat (first | refine blk_drewN ?_ _ | refine blk_drew ?_ | refine blk_alloc ?_ _)); exact BK119.out)) : gb136 ≠ gb119))
 have n12_ := Aside0.mk ((by rw [hg]; exact Nat.ne_of_lt (blk_lt (g := gb127) (o := .cells #[.int .i64 x128000_1, .int .i64 x128001_1] 30 (0, 0)) (by (with_reducible repeat (first | refine blk_drewN ?_ _ | refine blk_drew ?_ | refine blk_alloc ?_ _)); exact BK127.out)) : gb127 ≠ gb136))
 have n13_ := Aside0.mk ((by rw [hg]; exact Nat.ne_of_gt (blk_lt (g := gb127) (o := .cells #[.int .i64 x128000_1, .int .i64 x128001_1] 30 (0, 0)) (by (with_reducible repeat (first | refine blk_drewN ?_ _ | refine blk_drew ?_ | refine blk_alloc ?_ _)); exact BK127.out)) : gb136 ≠ gb127))
 have n14_ := Aside0.mk ((by rw [hg]; exact Nat.ne_of_lt (blk_lt (g := gb128) (o := .cells #[.bool x129000_13, .int .i64 x129001_13, u129002] 45 (0, 0)) (by (with_reducible repeat (first | refine blk_drewN ?_ _ | refine blk_drew ?_ | refine blk_alloc ?_ _)); exact BK128.out)) : gb128 ≠ gb136))
 have n15_ := Aside0.mk ((by rw [hg]; exact Nat.ne_of_gt (blk_lt (g := gb128) (o := .cells #[.bool x129000_13, .int .i64 x129001_13, u129002] 45 (0, 0)) (by (with_reducible repeat (first | refine blk_drewN ?_ _ | refine blk_drew ?_ | refine blk_alloc ?_ _)); exact BK128.out)) : gb136 ≠ gb128))
 clear HO_5
 clear HO_8
 clear HO_129002
 clear BK119
 clear BK127
 clear BK128
 clear HB
 have HO_5 := n0_
 have HO_8 := n1_
 have HO_129002 := n2_
 have BK119 := n3_
 have BK127 := n4_
 have BK128 := n5_
 have HB := n6_
 have BK136 := n7_
 have GW136 := n8_
 have GE136 := n9_
 have NB119_136 := n10_
 have NB136_119 := n11_
 have NB127_136 := n12_
 have NB136_127 := n13_
 have NB128_136 := n14_
 have NB136_128 := n15_
 clear n0_ n1_ n2_ n3_ n4_ n5_ n6_ n7_ n8_ n9_ n10_ n11_ n12_ n13_ n14_ n15_
 clear hb hbox hg
 refine hK.out _ _ ⟨(blk_cell BK127.out 0).trans rfl, (blk_cell BK127.out 1).trans rfl⟩ (fun hHeld => ?_)
 clear hK K
 refine norm_ (a' := ?_) ?_ ?_
 rotate_left
 {
 show Act.put _ (some 14) _ = _
 simp only [Act.put, sA_, s0_, sS_, i64_w, i32_w]
 rfl }
 refine one_ (i := 10) (N := none) (bm_ 11 2047) rfl rfl (one_of HT_.out (by kernel_rfl)) (by decide) (fun K hK => ?_)
 have hs49 : w48.cell? ⟨gb136, 0, none⟩ = some (.string (⟨#[]⟩ : ByteArray)) := (blk_cell BK136.out 0).trans rfl
 have hfs49 := blk_frozen BK136.out 0
 have hns49_0 := NB119_136.out
 have hns49_1 := NB127_136.out
 have hns49_2 := NB128_136.out
 have hms49_0 := NB136_119.out
 have hms49_1 := NB136_127.out
 have hms49_2 := NB136_128.out
 have hs50 : w48.cell? ⟨gb136, 1, none⟩ = some (.bool false) := (blk_cell BK136.out 1).trans rfl
 have hfs50 := blk_frozen BK136.out 1
 have hns50_0 := NB119_136.out
 have hns50_1 := NB127_136.out
 have hns50_2 := NB128_136.out
 have hms50_0 := NB136_119.out
 have hms50_1 := NB136_127.out
 have hms50_2 := NB136_128.out
 have hs51 : w48.cell? ⟨gb136, 2, none⟩ = some (.int .i64 0) := (blk_cell BK136.out 2).trans rfl
 have hfs51 := blk_frozen BK136.out 2
 have hns51_0 := NB119_136.out
 have hns51_1 := NB127_136.out
 have hns51_2 := NB128_136.out
 have hms51_0 := NB136_119.out
 have hms51_1 := NB136_127.out
 have hms51_2 := NB136_128.out
 have hs52 : w48.cell? ⟨gb136, 3, none⟩ = some (.int .i64 0) := (blk_cell BK136.out 3).trans rfl
 have hfs52 := blk_frozen BK136.out 3
 have hns52_0 := NB119_136.out
 have hns52_1 := NB127_136.out
 have hns52_2 := NB128_136.out
 have hms52_0 := NB136_119.out
 have hms52_1 := NB136_127.out
 have hms52_2 := NB136_128.out
 refine skip_ (w1 := ?_) (by rfl) rfl ?_ ?_
 rotate_left
 {
 go_simp
 rfl }
 refine hK.out _ _ ⟨((cell_far (p := ⟨gb136, _, none⟩) NB127_136.out _).trans (((cell_far (p := ⟨gb136, _, none⟩) NB127_136.out _).trans (((cell_far (p := ⟨gb136, _, none⟩) NB127_136.out _).trans (((cell_far (p := ⟨gb136, _, none⟩) NB127_136.out _).trans (hHeld.1)))))))), ((cell_far (p := ⟨gb136, _, none⟩) NB127_136.out _).trans (((cell_far (p := ⟨gb136, _, none⟩) NB127_136.out _).trans (((cell_far (p := ⟨gb136, _, none⟩) NB127_136.out _).trans (((cell_far (p := ⟨gb136, _, none⟩) NB127_136.out _).trans (hHeld.2))))))))⟩ (fun hHeld => ?_)
 clear hK K
 refine done_ (done_of HT_.out (by kernel_rfl)) ?_
 have p137 : 0 ≤ (x12_1 : Int) := of_decide_eq_true (by first | (with_reducible assumption) | assumption)
 have q137 : x12_1 < (t120.length : Int) := of_decide_eq_true (by first | (with_reducible assumption) | assumption)
 obtain ⟨ad137, e137, hx137_0⟩ := Kd.at_int (Kd.R_reads' HO_5.out).2.2 x12_1 p137 q137
 obtain rfl : ad135 = ad137 := (by injection e137)
 have hn137_0 : ad135.block ≠ gb136 := Kd.own_blk (Kd.R_ne HO_5.out BK136.out (by decide))
 have hn137_1 : ad135.block ≠ gb136 := Kd.own_blk (Kd.R_ne HO_5.out BK136.out (by decide))
 have hn137_2 : ad135.block ≠ gb136 := Kd.own_blk (Kd.R_ne HO_5.out BK136.out (by decide))
 have hn137_3 : ad135.block ≠ gb136 := Kd.own_blk (Kd.R_ne HO_5.out BK136.out (by decide))
 replace hx137_0 := (cell_far (p := ⟨gb136, 0, none⟩) (by first | (rw [add_block]; exact hn137_0) | (show (Addr.add _ _).block ≠ _; rw [add_block]; exact hn137_0) | exact hn137_0) (.string (a0.extract (x12_1 : Int).toNat (x13_4 : Int).toNat))).trans hx137_0
 replace hx137_0 := (cell_far (p := ⟨gb136, 1, none⟩) (by first | (rw [add_block]; exact hn137_1) | (show (Addr.add _ _).block ≠ _; rw [add_block]; exact hn137_1) | exact hn137_1) (.bool false)).trans hx137_0
 replace hx137_0 := (cell_far (p := ⟨gb136, 2, none⟩) (by first | (rw [add_block]; exact hn137_2) | (show (Addr.add _ _).block ≠ _; rw [add_block]; exact hn137_2) | exact hn137_2) (.int .i64 x128000_1)).trans hx137_0
 replace hx137_0 := (cell_far (p := ⟨gb136, 3, none⟩) (by first | (rw [add_block]; exact hn137_3) | (show (Addr.add _ _).block ≠ _; rw [add_block]; exact hn137_3) | exact hn137_3) (.int .i64 x128001_1)).trans hx137_0
 clear hn137_0
 clear hn137_1
 clear hn137_2
 clear hn137_3
 replace p137 := eq_true p137
 replace q137 := eq_true q137
 have hnb53 := NB136_119.out
 have hnc53 := NB119_136.out
 have hnb54 := NB136_127.out
 have hnc54 := NB127_136.out
 have hnb55 := NB136_128.out
 have hnc55 := NB128_136.out
 have hcz56_0 : w48.cell? ⟨gb136, 0, none⟩ = some (.string (⟨#[]⟩ : ByteArray)) := (blk_cell BK136.out 0).trans rfl
 have hcz56_1 : w48.cell? ⟨gb136, 1, none⟩ = some (.bool false) := (blk_cell BK136.out 1).trans rfl
 have hcz56_2 : w48.cell? ⟨gb136, 2, none⟩ = some (.int .i64 0) := (blk_cell BK136.out 2).trans rfl
 have hcz56_3 : w48.cell? ⟨gb136, 3, none⟩ = some (.int .i64 0) := (blk_cell BK136.out 3).trans rfl
 have hfz56_0 := blk_frozen BK136.out 0
 have hfz56_1 := blk_frozen BK136.out 1
 have hfz56_2 := blk_frozen BK136.out 2
 have hfz56_3 := blk_frozen BK136.out 3
 have hnb57 := NB128_119.out
 have hnc57 := NB119_128.out
 have hnb58 := NB128_127.out
 have hnc58 := NB127_128.out
 have hcz59_0 : w48.cell? ⟨gb128, 0, none⟩ = some (.bool x129000_13) := (blk_cell BK128.out 0).trans rfl
 have hcz59_1 : w48.cell? ⟨gb128, 1, none⟩ = some (.int .i64 x129001_13) := (blk_cell BK128.out 1).trans rfl
 have hcz59_2 : w48.cell? ⟨gb128, 2, none⟩ = some (u129002) := (blk_cell BK128.out 2).trans rfl
 have hfz59_0 := blk_frozen BK128.out 0
 have hfz59_1 := blk_frozen BK128.out 1
 have hfz59_2 := blk_frozen BK128.out 2
 have bq_ := blk_put (cs' := #[.string (a0.extract (x12_1 : Int).toNat (x13_4 : Int).toNat), .bool false, .int .i64 x128000_1, .int .i64 x128001_1]) (blk_put (cs' := #[.string (a0.extract (x12_1 : Int).toNat (x13_4 : Int).toNat), .bool false, .int .i64 x128000_1, .int .i64 0]) (blk_put (cs' := #[.string (a0.extract (x12_1 : Int).toNat (x13_4 : Int).toNat), .bool false, .int .i64 0, .int .i64 0]) (blk_put (cs' := #[.string (a0.extract (x12_1 : Int).toNat (x13_4 : Int).toNat), .bool false, .int .i64 0, .int .i64 0]) BK136.out 0 (.string (a0.extract (x12_1 : Int).toNat (x13_4 : Int).toNat)) rfl) 1 (.bool false) rfl) 2 (.int .i64 x128000_1) rfl) 3 (.int .i64 x128001_1) rfl
 have hq0_ := (blk_cell bq_ 0).trans (show _ = some (.string (a0.extract (x12_1 : Int).toNat (x13_4 : Int).toNat)) from rfl)
 have hq1_ := (blk_cell bq_ 1).trans (show _ = some (.bool false) from rfl)
 have hq2_ := (blk_cell bq_ 2).trans (show _ = some (.int .i64 x128000_1) from rfl)
 have hq3_ := (blk_cell bq_ 3).trans (show _ = some (.int .i64 x128001_1) from rfl)
 clear bq_
 try go_wp2_with (first | ((with_reducible refine gate_builtin (b := .append) (xs := #[.tmp 96, .tmp 98]) rfl ?_); at_builtin; refine Kd.R_append k23 (w0 := w) w.heap.size rfl (.tmp 96) (.tmp 98) 43 23 (.agg #[(.string ⟨#[]⟩), (.bool false), (.int .i64 0), (.int .i64 0)]) 40 rfl Try.underlying43 info23 rfl (by decide) (by omega) u129002 x129002_13 (⟨a0.extract ((ji41) : Int).toNat ((wrap64 (x13_4 - 1)) : Int).toNat, true, x128000_1, x128001_1⟩ : S23) [.string (a0.extract ((ji41) : Int).toNat ((wrap64 (x13_4 - 1)) : Int).toNat), .bool true, .int .i64 x128000_1, .int .i64 x128001_1] (fun k_ => k_ ≠ gb136) (fun _ => False) rfl (by first | (go_simp; done) | (go_simp; rfl)) ?aP (fun _ hk => hk.elim) ?aF ?aO ?aB ?aS ?aL ?_; (case aP => exact k23_mkM _ _ _ (⟨a0.extract ((ji41) : Int).toNat ((wrap64 (x13_4 - 1)) : Int).toNat, true, x128000_1, x128001_1⟩ : S23)); (case aB => exact (by repeat (first | (with_reducible first | exact HB.out | apply below_alloc | apply pw_below_drewN | apply below_drew1 | refine below_set ?_ GE119.out | refine below_set ?_ GE127.out | refine below_set ?_ GE128.out | refine below_set ?_ GE136.out) | exact HB.out))); (case aF => exact (fun k_ hk => Kd.freshB (g := gb136) (o := .cells #[.string (a0.extract ((ji41) : Int).toNat ((wrap64 (x13_4 - 1)) : Int).toNat), .bool true, .int .i64 x128000_1, .int .i64 x128001_1] 23 (0, 0)) (by (with_reducible repeat (first | refine blk_drewN ?_ _ | refine blk_drew ?_ | refine blk_alloc ?_ _)); refine blk_put (cs := #[.string (a0.extract (x12_1 : Int).toNat (x13_4 : Int).toNat), .bool true, .int .i64 x128000_1, .int .i64 x128001_1]) ?_ 0 _ rfl; (with_reducible repeat (first | refine blk_drewN ?_ _ | refine blk_drew ?_ | refine blk_alloc ?_ _)); refine blk_put (cs := #[.string (a0.extract (x12_1 : Int).toNat (x13_4 : Int).toNat), .bool false, .int .i64 x128000_1, .int .i64 x128001_1]) ?_ 1 _ rfl; (with_reducible repeat (first | refine blk_drewN ?_ _ | refine blk_drew ?_ | refine blk_alloc ?_ _)); refine blk_put (cs := #[.string (a0.extract (x12_1 : Int).toNat (x13_4 : Int).toNat), .bool false, .int .i64 x128000_1, .int .i64 0]) ?_ 3 _ rfl; (with_reducible repeat (first | refine blk_drewN ?_ _ | refine blk_drew ?_ | refine blk_alloc ?_ _)); refine blk_put (cs := #[.string (a0.extract (x12_1 : Int).toNat (x13_4 : Int).toNat), .bool false, .int .i64 0, .int .i64 0]) ?_ 2 _ rfl; (with_reducible repeat (first | refine blk_drewN ?_ _ | refine blk_drew ?_ | refine blk_alloc ?_ _)); refine blk_put (cs := #[.string (a0.extract (x12_1 : Int).toNat (x13_4 : Int).toNat), .bool false, .int .i64 0, .int .i64 0]) ?_ 1 _ rfl; (with_reducible repeat (first | refine blk_drewN ?_ _ | refine blk_drew ?_ | refine blk_alloc ?_ _)); refine blk_put (cs := #[.string (⟨#[]⟩ : ByteArray), .bool false, .int .i64 0, .int .i64 0]) ?_ 0 _ rfl; (with_reducible repeat (first | refine blk_drewN ?_ _ | refine blk_drew ?_ | refine blk_alloc ?_ _)); exact BK136.out) k_ hk)); (case aO => exact (by (with_reducible repeat (first | apply Kd.R_alloc | apply Kd.R_drewN | apply Kd.R_drew)); exact Kd.R_mono (Kd.R_far (p := ⟨gb136, 0, none⟩) (Kd.R_far (p := ⟨gb136, 1, none⟩) (Kd.R_far (p := ⟨gb136, 3, none⟩) (Kd.R_far (p := ⟨gb136, 2, none⟩) (Kd.R_far (p := ⟨gb136, 1, none⟩) (Kd.R_far (p := ⟨gb136, 0, none⟩) (Kd.R_mono HO_129002.out (fun k_ hk => (⟨hk, hk.2⟩ : _ ∧ k_ ≠ gb136))) (fun _ hk => hk.2) (.string (a0.extract (x12_1 : Int).toNat (x13_4 : Int).toNat))) (fun _ hk => hk.2) (.bool false)) (fun _ hk => hk.2) (.int .i64 x128000_1)) (fun _ hk => hk.2) (.int .i64 x128001_1)) (fun _ hk => hk.2) (.bool true)) (fun _ hk => hk.2) (.string (a0.extract ((ji41) : Int).toNat ((wrap64 (x13_4 - 1)) : Int).toNat))) (fun _ hk => hk.1.2))); (case aS => exact (below_size (by repeat (first | (with_reducible first | exact HB.out | apply below_alloc | apply pw_below_drewN | apply below_drew1 | refine below_set ?_ GE119.out | refine below_set ?_ GE127.out | refine below_set ?_ GE128.out | refine below_set ?_ GE136.out) | exact HB.out)))); (case aL => have := LMc45.out; omega); intro v139 w60 ho hb hg hat; rw [← Ny138.out] at ho; have n0_ := Aside0.mk (Kd.R_over' (by (with_reducible repeat (first | apply Kd.R_alloc | apply Kd.R_drewN | apply Kd.R_drew)); exact (Kd.R_mono (Kd.R_far (p := ⟨gb136, 0, none⟩) (Kd.R_far (p := ⟨gb136, 1, none⟩) (Kd.R_far (p := ⟨gb136, 3, none⟩) (Kd.R_far (p := ⟨gb136, 2, none⟩) (Kd.R_far (p := ⟨gb136, 1, none⟩) (Kd.R_far (p := ⟨gb136, 0, none⟩) (Kd.R_types HO_5.out BK136.out (by decide)) (fun _ hk => hk.2) (.string (a0.extract (x12_1 : Int).toNat (x13_4 : Int).toNat))) (fun _ hk => hk.2) (.bool false)) (fun _ hk => hk.2) (.int .i64 x128000_1)) (fun _ hk => hk.2) (.int .i64 x128001_1)) (fun _ hk => hk.2) (.bool true)) (fun _ hk => hk.2) (.string (a0.extract ((ji41) : Int).toNat ((wrap64 (x13_4 - 1)) : Int).toNat))) (fun _ h_ => h_.1))) (Kd.R_typed (by (with_reducible repeat (first | apply Kd.R_alloc | apply Kd.R_drewN | apply Kd.R_drew)); exact (Kd.R_mono (Kd.R_far (p := ⟨gb136, 0, none⟩) (Kd.R_far (p := ⟨gb136, 1, none⟩) (Kd.R_far (p := ⟨gb136, 3, none⟩) (Kd.R_far (p := ⟨gb136, 2, none⟩) (Kd.R_far (p := ⟨gb136, 1, none⟩) (Kd.R_far (p := ⟨gb136, 0, none⟩) (Kd.R_mono HO_129002.out (fun k_ hk => (⟨hk, hk.2⟩ : _ ∧ k_ ≠ gb136))) (fun _ hk => hk.2) (.string (a0.extract (x12_1 : Int).toNat (x13_4 : Int).toNat))) (fun _ hk => hk.2) (.bool false)) (fun _ hk => hk.2) (.int .i64 x128000_1)) (fun _ hk => hk.2) (.int .i64 x128001_1)) (fun _ hk => hk.2) (.bool true)) (fun _ hk => hk.2) (.string (a0.extract ((ji41) : Int).toNat ((wrap64 (x13_4 - 1)) : Int).toNat))) (fun _ h_ => h_.1)))) (by decide) hg); have n1_ := Aside0.mk (Kd.S_after (ok := (fun k_ => k_ ≠ gb128 ∧ k_ ≠ gb136)) (by (with_reducible repeat (first | apply Kd.S_alloc | apply Kd.S_drewN | apply Kd.S_drew)); exact Kd.S_mono (Kd.S_far (p := ⟨gb136, 0, none⟩) (Kd.S_far (p := ⟨gb136, 1, none⟩) (Kd.S_far (p := ⟨gb136, 3, none⟩) (Kd.S_far (p := ⟨gb136, 2, none⟩) (Kd.S_far (p := ⟨gb136, 1, none⟩) (Kd.S_far (p := ⟨gb136, 0, none⟩) (Kd.S_mono HO_8.out (fun k_ hk => (⟨hk, hk.2⟩ : _ ∧ k_ ≠ gb136))) (fun _ hk => hk.2) (.string (a0.extract (x12_1 : Int).toNat (x13_4 : Int).toNat))) (fun _ hk => hk.2) (.bool false)) (fun _ hk => hk.2) (.int .i64 x128000_1)) (fun _ hk => hk.2) (.int .i64 x128001_1)) (fun _ hk => hk.2) (.bool true)) (fun _ hk => hk.2) (.string (a0.extract ((ji41) : Int).toNat ((wrap64 (x13_4 - 1)) : Int).toNat))) (fun _ hk => ⟨⟨hk.1.1.2, hk.1.2⟩, hk.1.1.1⟩)) hg hat); have n2_ := Aside0.mk (blk_grown (g := gb119) (o := .cells #[.int .i64 0, .int .i64 0] 30 (0, 0)) (by (with_reducible repeat (first | refine blk_drewN ?_ _ | refine blk_drew ?_ | refine blk_alloc ?_ _)); refine blk_far ?_ NB119_136.out _; (with_reducible repeat (first | refine blk_drewN ?_ _ | refine blk_drew ?_ | refine blk_alloc ?_ _)); refine blk_far ?_ NB119_136.out _; (with_reducible repeat (first | refine blk_drewN ?_ _ | refine blk_drew ?_ | refine blk_alloc ?_ _)); refine blk_far ?_ NB119_136.out _; (with_reducible repeat (first | refine blk_drewN ?_ _ | refine blk_drew ?_ | refine blk_alloc ?_ _)); refine blk_far ?_ NB119_136.out _; (with_reducible repeat (first | refine blk_drewN ?_ _ | refine blk_drew ?_ | refine blk_alloc ?_ _)); refine blk_far ?_ NB119_136.out _; (with_reducible repeat (first | refine blk_drewN ?_ _ | refine blk_drew ?_ | refine blk_alloc ?_ _)); refine blk_far ?_ NB119_136.out _; (with_reducible repeat (first | refine blk_drewN ?_ _ | refine blk_drew ?_ | refine blk_alloc ?_ _)); exact BK119.out) hg (Kd.R_ne HO_129002.out BK119.out (by decide))); have n3_ := Aside0.mk (blk_grown (g := gb127) (o := .cells #[.int .i64 x128000_1, .int .i64 x128001_1] 30 (0, 0)) (by (with_reducible repeat (first | refine blk_drewN ?_ _ | refine blk_drew ?_ | refine blk_alloc ?_ _)); refine blk_far ?_ NB127_136.out _; (with_reducible repeat (first | refine blk_drewN ?_ _ | refine blk_drew ?_ | refine blk_alloc ?_ _)); refine blk_far ?_ NB127_136.out _; (with_reducible repeat (first | refine blk_drewN ?_ _ | refine blk_drew ?_ | refine blk_alloc ?_ _)); refine blk_far ?_ NB127_136.out _; (with_reducible repeat (first | refine blk_drewN ?_ _ | refine blk_drew ?_ | refine blk_alloc ?_ _)); refine blk_far ?_ NB127_136.out _; (with_reducible repeat (first | refine blk_drewN ?_ _ | refine blk_drew ?_ | refine blk_alloc ?_ _)); refine blk_far ?_ NB127_136.out _; (with_reducible repeat (first | refine blk_drewN ?_ _ | refine blk_drew ?_ | refine blk_alloc ?_ _)); refine blk_far ?_ NB127_136.out _; (with_reducible repeat (first | refine blk_drewN ?_ _ | refine blk_drew ?_ | refine blk_alloc ?_ _)); exact BK127.out) hg (Kd.R_ne HO_129002.out BK127.out (by decide))); have n4_ := Aside0.mk (blk_grown (g := gb128) (o := .cells #[.bool x129000_13, .int .i64 x129001_13, u129002] 45 (0, 0)) (by (with_reducible repeat (first | refine blk_drewN ?_ _ | refine blk_drew ?_ | refine blk_alloc ?_ _)); refine blk_far ?_ NB128_136.out _; (with_reducible repeat (first | refine blk_drewN ?_ _ | refine blk_drew ?_ | refine blk_alloc ?_ _)); refine blk_far ?_ NB128_136.out _; (with_reducible repeat (first | refine blk_drewN ?_ _ | refine blk_drew ?_ | refine blk_alloc ?_ _)); refine blk_far ?_ NB128_136.out _; (with_reducible repeat (first | refine blk_drewN ?_ _ | refine blk_drew ?_ | refine blk_alloc ?_ _)); refine blk_far ?_ NB128_136.out _; (with_reducible repeat (first | refine blk_drewN ?_ _ | refine blk_drew ?_ | refine blk_alloc ?_ _)); refine blk_far ?_ NB128_136.out _; (with_reducible repeat (first | refine blk_drewN ?_ _ | refine blk_drew ?_ | refine blk_alloc ?_ _)); refine blk_far ?_ NB128_136.out _; (with_reducible repeat (first | refine blk_drewN ?_ _ | refine blk_drew ?_ | refine blk_alloc ?_ _)); exact BK128.out) hg (Kd.R_ne HO_129002.out BK128.out (by decide))); have n5_ := Aside0.mk (blk_grown (g := gb136) (o := .cells #[.string (a0.extract ((ji41) : Int).toNat ((wrap64 (x13_4 - 1)) : Int).toNat), .bool true, .int .i64 x128000_1, .int .i64 x128001_1] 23 (0, 0)) (by (with_reducible repeat (first | refine blk_drewN ?_ _ | refine blk_drew ?_ | refine blk_alloc ?_ _)); refine blk_put (cs := #[.string (a0.extract (x12_1 : Int).toNat (x13_4 : Int).toNat), .bool true, .int .i64 x128000_1, .int .i64 x128001_1]) ?_ 0 _ rfl; (with_reducible repeat (first | refine blk_drewN ?_ _ | refine blk_drew ?_ | refine blk_alloc ?_ _)); refine blk_put (cs := #[.string (a0.extract (x12_1 : Int).toNat (x13_4 : Int).toNat), .bool false, .int .i64 x128000_1, .int .i64 x128001_1]) ?_ 1 _ rfl; (with_reducible repeat (first | refine blk_drewN ?_ _ | refine blk_drew ?_ | refine blk_alloc ?_ _)); refine blk_put (cs := #[.string (a0.extract (x12_1 : Int).toNat (x13_4 : Int).toNat), .bool false, .int .i64 x128000_1, .int .i64 0]) ?_ 3 _ rfl; (with_reducible repeat (first | refine blk_drewN ?_ _ | refine blk_drew ?_ | refine blk_alloc ?_ _)); refine blk_put (cs := #[.string (a0.extract (x12_1 : Int).toNat (x13_4 : Int).toNat), .bool false, .int .i64 0, .int .i64 0]) ?_ 2 _ rfl; (with_reducible repeat (first | refine blk_drewN ?_ _ | refine blk_drew ?_ | refine blk_alloc ?_ _)); refine blk_put (cs := #[.string (a0.extract (x12_1 : Int).toNat (x13_4 : Int).toNat), .bool false, .int .i64 0, .int .i64 0]) ?_ 1 _ rfl; (with_reducible repeat (first | refine blk_drewN ?_ _ | refine blk_drew ?_ | refine blk_alloc ?_ _)); refine blk_put (cs := #[.string (⟨#[]⟩ : ByteArray), .bool false, .int .i64 0, .int .i64 0]) ?_ 0 _ rfl; (with_reducible repeat (first | refine blk_drewN ?_ _ | refine blk_drew ?_ | refine blk_alloc ?_ _)); exact BK136.out) hg (Kd.R_away HO_129002.out (fun _ hk => hk.2))); have n6_ := Aside0.mk (hb); have n7_ := Aside0.mk (ho); clear HO_5; clear HO_8; clear BK119; clear BK127; clear BK128; clear BK136; clear HB; clear HO_129002; have HO_5 := n0_; have HO_8 := n1_; have BK119 := n2_; have BK127 := n3_; have BK128 := n4_; have BK136 := n5_; have HB := n6_; have HO140 := n7_; clear n0_ n1_ n2_ n3_ n4_ n5_ n6_ n7_; clear ho hb hg hat; obtain ⟨Ao61, co61, eo61⟩ := Kd.R_slice HO140.out; subst eo61; have hcz62_0 : w60.cell? ⟨gb128, 0, none⟩ = some (.bool x129000_13) := (blk_cell BK128.out 0).trans rfl; have hcz62_1 : w60.cell? ⟨gb128, 1, none⟩ = some (.int .i64 x129001_13) := (blk_cell BK128.out 1).trans rfl; have hcz62_2 : w60.cell? ⟨gb128, 2, none⟩ = some (u129002) := (blk_cell BK128.out 2).trans rfl; have hfz62_0 := blk_frozen BK128.out 0; have hfz62_1 := blk_frozen BK128.out 1; have hfz62_2 := blk_frozen BK128.out 2))
 go_meet
 case rel => exact ⟨_, (y138), (.slice Ao61 y138.length co61), H', ⟨by have := HK1.out; have := HJ13.out; have := HJ22.out; have := HK4.out; first | omega | exact Nat.le_refl _⟩, ⟨by (with_reducible repeat (first | apply Kd.R_alloc | apply Kd.R_drewN | apply Kd.R_drew)); exact Kd.R_mono (Kd.R_far (p := ⟨gb128, 2, none⟩) (Kd.R_types HO_5.out BK128.out (by decide)) (fun _ hk => hk.2) (.slice Ao61 y138.length co61)) (fun _ hk => trivial)⟩, ⟨by (with_reducible repeat (first | apply Kd.S_alloc | apply Kd.S_drewN | apply Kd.S_drew)); exact Kd.S_mono (Kd.S_far (p := ⟨gb128, 2, none⟩) (Kd.S_mono HO_8.out (fun k_ hk => (⟨hk, hk.1.1⟩ : _ ∧ k_ ≠ gb128))) (fun _ hk => hk.2) (.slice Ao61 y138.length co61)) (fun _ hk => ⟨hk.1.2, hk.1.1.1⟩)⟩, ⟨by (with_reducible repeat (first | apply Kd.R_alloc | apply Kd.R_drewN | apply Kd.R_drew)); exact Kd.R_mono (Kd.R_far (p := ⟨gb128, 2, none⟩) (Kd.R_types HO140.out BK128.out (by decide)) (fun _ hk => hk.2) (.slice Ao61 y138.length co61)) (fun _ hk => trivial)⟩, ⟨by (with_reducible repeat (first | refine blk_drewN ?_ _ | refine blk_drew ?_ | refine blk_alloc ?_ _)); refine blk_far ?_ NB119_128.out _; (with_reducible repeat (first | refine blk_drewN ?_ _ | refine blk_drew ?_ | refine blk_alloc ?_ _)); exact BK119.out⟩, ⟨by (with_reducible repeat (first | refine blk_drewN ?_ _ | refine blk_drew ?_ | refine blk_alloc ?_ _)); refine blk_far ?_ NB127_128.out _; (with_reducible repeat (first | refine blk_drewN ?_ _ | refine blk_drew ?_ | refine blk_alloc ?_ _)); exact BK127.out⟩, ⟨by (with_reducible repeat (first | refine blk_drewN ?_ _ | refine blk_drew ?_ | refine blk_alloc ?_ _)); refine blk_put (cs := #[.bool x129000_13, .int .i64 x129001_13, u129002]) ?_ 2 _ rfl; (with_reducible repeat (first | refine blk_drewN ?_ _ | refine blk_drew ?_ | refine blk_alloc ?_ _)); exact BK128.out⟩, ⟨by repeat (first | (with_reducible first | exact HB.out | apply below_alloc | apply pw_below_drewN | apply below_drew1 | refine below_set ?_ GE119.out | refine below_set ?_ GE127.out | refine below_set ?_ GE128.out | refine below_set ?_ GE136.out) | exact HB.out)⟩⟩ }
 {
 rw [if_neg c45] at H
 exact absurd H (by simp) }}
 {
 rw [if_neg c44] at H
 exact absurd H (by simp) }}
 {
 rw [if_neg c43] at H
 exact absurd H (by simp) }}
 {
 rw [if_neg c42] at H
 exact absurd H (by simp) }}
 {
 rw [if_neg c40] at H
 have c40b0 : ((rd t120 x12_1) == 5) = false := beq_eq_false_iff_ne.mpr c40
 have c40b1 : ((rd t120 x12_1) != 5) = true := bne_iff_ne.mpr c40
 by_cases c63 : x129002_13.length < 3518437208883
 {
 rw [if_pos c63] at H
 have LMc63 := Aside0.mk c63
 clear c63
 obtain ⟨y141, hy141⟩ : ∃ y_ : List (S23), y_ = (x129002_13 ++ [(⟨a0.extract (x12_1 : Int).toNat (x13_4 : Int).toNat, false, x128000_1, x128001_1⟩ : S23)]) := ⟨_, rfl⟩
 replace H : (hearsayref08_Entries.j4 k4 a0 t120 x8_1 x11_13 x12_1 x128000_1 x128001_1 x129000_13 x129001_13 y141) = some (r1, r2, r3, r4) := by first | (rw [hy141]; with_reducible exact H) | (have H2_ := (Option.bind_some _ _).symm.trans H; rw [hy141]; with_reducible exact H2_) | (have H2_ := (Option.bind_some _ _).symm.trans H; with_reducible exact H2_) | with_reducible exact H | (rw [hy141]; exact H) | exact H
 have Ny141 := Aside0.mk hy141
 clear hy141
 have H' := Aside0.mk H
 clear H
 obtain ⟨Ao64, co64, eo64⟩ := Kd.R_slice HO_5.out
 subst eo64
 have p135 : 0 ≤ (x13_4 : Int) := of_decide_eq_true (by first | (with_reducible assumption) | assumption)
 have q135 : x13_4 < (t120.length : Int) := of_decide_eq_true (by first | (with_reducible assumption) | assumption)
 obtain ⟨ad135, e135, hx135_0⟩ := Kd.at_int (Kd.R_reads' HO_5.out).2.2 x13_4 p135 q135
 cases e135
 replace p135 := eq_true p135
 replace q135 := eq_true q135
 try go_wp2
 have n0_ := Aside0.mk (Kd.R_drew HO_5.out)
 have n1_ := Aside0.mk (Kd.S_drew HO_8.out)
 have n2_ := Aside0.mk (Kd.R_drew HO_129002.out)
 have n3_ := Aside0.mk (blk_drew BK119.out)
 have n4_ := Aside0.mk (blk_drew BK127.out)
 have n5_ := Aside0.mk (blk_drew BK128.out)
 have n6_ := Aside0.mk (below_drew1 HB.out)
 clear HO_5
 clear HO_8
 clear HO_129002
 clear BK119
 clear BK127
 clear BK128
 clear HB
 have HO_5 := n0_
 have HO_8 := n1_
 have HO_129002 := n2_
 have BK119 := n3_
 have BK127 := n4_
 have BK128 := n5_
 have HB := n6_
 clear n0_ n1_ n2_ n3_ n4_ n5_ n6_
 refine start_ (n := 11) (S := fun w' => w'.cell? ⟨gb127, 0, none⟩ = some (.int .i64 x128000_1) ∧ w'.cell? ⟨gb127, 1, none⟩ = some (.int .i64 x128001_1)) (ds := []) (bm_ 11 0) (by kernel_rfl) rfl rfl ⟨(blk_cell BK127.out 0).trans rfl, (blk_cell BK127.out 1).trans rfl⟩ (fun hHeld => ?_); refine with_tabW hearsayref08_Entries.tab20 hearsayref08_Entries.bits20 (fun HT_ HW_ => ?_)
 generalize wr.drew = w65 at HO_5 HO_8 HO_129002 BK119 BK127 BK128 HB hHeld ⊢
 refine pure_ (i := 0) (N := some 73) (v := ?_) (a' := ?_) (bm_ 11 1) rfl rfl (any_of HT_.out (by kernel_rfl)) (fun _ _ _ h => h) (Or.inl ⟨by rfl, ?_⟩) ?_ ?_
 rotate_left
 {
 intro w'
 go_simp
 with_reducible rfl }
 rotate_left
 {
 simp only [Act.put, sA_, s0_, sS_, i64_w, i32_w]
 rfl }
 refine pure_ (i := 1) (N := some 74) (v := ?_) (a' := ?_) (bm_ 11 3) rfl rfl (any_of HT_.out (by kernel_rfl)) (fun _ _ _ h => h) (Or.inl ⟨by rfl, ?_⟩) ?_ ?_
 rotate_left
 {
 intro w'
 go_simp
 with_reducible rfl }
 rotate_left
 {
 simp only [Act.put, sA_, s0_, sS_, i64_w, i32_w]
 rfl }
 refine pure_ (i := 2) (N := some 75) (v := ?_) (a' := ?_) (bm_ 11 7) rfl rfl (any_of HT_.out (by kernel_rfl)) (fun _ _ _ h => h) (Or.inl ⟨by rfl, ?_⟩) ?_ ?_
 rotate_left
 {
 intro w'
 go_simp
 with_reducible rfl }
 rotate_left
 {
 simp only [Act.put, sA_, s0_, sS_, i64_w, i32_w]
 rfl }
 refine pure_ (i := 3) (N := some 76) (v := ?_) (a' := ?_) (bm_ 11 15) rfl rfl (any_of HT_.out (by kernel_rfl)) (fun _ _ _ h => h) (Or.inl ⟨by rfl, ?_⟩) ?_ ?_
 rotate_left
 {
 intro w'
 go_simp
 with_reducible rfl }
 rotate_left
 {
 simp only [Act.put, sA_, s0_, sS_, i64_w, i32_w]
 rfl }
 refine pure_ (i := 4) (N := some 77) (v := ?_) (a' := ?_) (bm_ 11 31) rfl rfl (any_of HT_.out (by kernel_rfl)) (fun _ _ _ h => h) (Or.inl ⟨by rfl, ?_⟩) ?_ ?_
 rotate_left
 {
 intro w'
 go_simp
 with_reducible rfl }
 rotate_left
 {
 simp only [Act.put, sA_, s0_, sS_, i64_w, i32_w]
 rfl }
 refine pure_ (i := 6) (N := some 79) (v := ?_) (a' := ?_) (bm_ 11 95) rfl rfl (any_of HT_.out (by kernel_rfl)) (fun _ _ _ h => h) (Or.inl ⟨by rfl, ?_⟩) ?_ ?_
 rotate_left
 {
 intro w'
 go_simp
 with_reducible rfl }
 rotate_left
 {
 simp only [Act.put, sA_, s0_, sS_, i64_w, i32_w]
 rfl }
 refine take_ (i := 5) (N := some 78) (v := ?_) (a' := ?_) (bm_ 11 127) rfl rfl (take_ofW HT_.out HW_.out (by kernel_rfl)) (fun _ _ _ h => h) (Or.inl ⟨by rfl, ?_⟩) hHeld ?_ ?_
 rotate_left
 {
 rintro w' ⟨s0, s1⟩
 go_simp
 with_reducible rfl }
 rotate_left
 {
 simp only [Act.put, sA_, s0_, sS_, i64_w, i32_w]
 rfl }
 refine take_ (i := 7) (N := some 80) (v := ?_) (a' := ?_) (bm_ 11 255) rfl rfl (take_ofW HT_.out HW_.out (by kernel_rfl)) (fun _ _ _ h => h) (Or.inl ⟨by rfl, ?_⟩) hHeld ?_ ?_
 rotate_left
 {
 rintro w' ⟨s0, s1⟩
 go_simp
 with_reducible rfl }
 rotate_left
 {
 simp only [Act.put, sA_, s0_, sS_, i64_w, i32_w]
 rfl }
 refine pure_ (i := 8) (N := some 81) (v := ?_) (a' := ?_) (bm_ 11 511) rfl rfl (any_of HT_.out (by kernel_rfl)) (fun _ _ _ h => h) (Or.inl ⟨by rfl, ?_⟩) ?_ ?_
 rotate_left
 {
 intro w'
 go_simp
 with_reducible rfl }
 rotate_left
 {
 simp only [Act.put, sA_, s0_, sS_, i64_w, i32_w]
 rfl }
 refine one_ (i := 9) (N := some 14) (bm_ 11 1023) rfl rfl (one_of HT_.out (by kernel_rfl)) (by decide) (fun K hK => ?_)
 refine box_step ?hg (N := 14) ?hd (cs := #[.string (⟨#[]⟩ : ByteArray), .bool false, .int .i64 0, .int .i64 0]) (t := 23) ?hr ?_; (case hd => rfl); (case hg => rfl); (case hr => first | (go_simp; done) | (go_simp; rfl))
 intro gb136 hg w66 hbox hb
 have n0_ := Aside0.mk (Kd.R_below (by (with_reducible repeat (first | apply Kd.R_alloc | apply Kd.R_drewN | apply Kd.R_drew)); exact HO_5.out) hb)
 have n1_ := Aside0.mk (Kd.S_below (Kd.S_elderB (by (with_reducible repeat (first | apply Kd.S_alloc | apply Kd.S_drewN | apply Kd.S_drew)); exact HO_8.out) gb136 (Nat.le_of_eq hg.symm)) hb)
 have n2_ := Aside0.mk (Kd.R_below (Kd.R_elderB (by (with_reducible repeat (first | apply Kd.R_alloc | apply Kd.R_drewN | apply Kd.R_drew)); exact HO_129002.out) gb136 (Nat.le_of_eq hg.symm)) hb)
 have n3_ := Aside0.mk (blk_below (g := gb119) (o := .cells #[.int .i64 0, .int .i64 0] 30 (0, 0)) (by (with_reducible repeat (first | refine blk_drewN ?_ _ | refine blk_drew ?_ | refine blk_alloc ?_ _)); exact BK119.out) hb)
 have n4_ := Aside0.mk (blk_below (g := gb127) (o := .cells #[.int .i64 x128000_1, .int .i64 x128001_1] 30 (0, 0)) (by (with_reducible repeat (first | refine blk_drewN ?_ _ | refine blk_drew ?_ | refine blk_alloc ?_ _)); exact BK127.out) hb)
 have n5_ := Aside0.mk (blk_below (g := gb128) (o := .cells #[.bool x129000_13, .int .i64 x129001_13, u129002] 45 (0, 0)) (by (with_reducible repeat (first | refine blk_drewN ?_ _ | refine blk_drew ?_ | refine blk_alloc ?_ _)); exact BK128.out) hb)
 have n6_ := Aside0.mk (below_step (by repeat (first | (with_reducible first | exact HB.out | apply below_alloc | apply pw_below_drewN | apply below_drew1 | refine below_set ?_ GE119.out | refine below_set ?_ GE127.out | refine below_set ?_ GE128.out) | exact HB.out)) hb)
 have n7_ := Aside0.mk (hbox)
 have n8_ := Aside0.mk ((by rw [hg]; exact (below_size (by repeat (first | (with_reducible first | exact HB.out | apply below_alloc | apply pw_below_drewN | apply below_drew1 | refine below_set ?_ GE119.out | refine below_set ?_ GE127.out | refine below_set ?_ GE128.out) | exact HB.out))) : w.heap.size ≤ gb136))
 have n9_ := Aside0.mk ((by rw [hg]; exact (below_size (by repeat (first | (with_reducible first | exact HB.out | apply below_alloc | apply pw_below_drewN | apply below_drew1 | refine below_set ?_ GE119.out | refine below_set ?_ GE127.out | refine below_set ?_ GE128.out) | exact HB.out))) : w.heap.size ≤ gb136))
 have n10_ := Aside0.mk ((by rw [hg]; exact Nat.ne_of_lt (blk_lt (g := gb119) (o := .cells #[.int .i64 0, .int .i64 0] 30 (0, 0)) (by (with_reducible repeat (first | refine blk_drewN ?_ _ | refine blk_drew ?_ | refine blk_alloc ?_ _)); exact BK119.out)) : gb119 ≠ gb136))
 have n11_ := Aside0.mk ((by rw [hg]; exact Nat.ne_of_gt (blk_lt (g := gb119) (o := .cells #[.int .i64 0, .int .i64 0] 30 (0, 0)) (by (with_reducible repeat (first | refine blk_drewN ?_ _ | refine blk_drew ?_ | refine blk_alloc ?_ _)); exact BK119.out)) : gb136 ≠ gb119))
 have n12_ := Aside0.mk ((by rw [hg]; exact Nat.ne_of_lt (blk_lt (g := gb127) (o := .cells #[.int .i64 x128000_1, .int .i64 x128001_1] 30 (0, 0)) (by (with_reducible repeat (first | refine blk_drewN ?_ _ | refine blk_drew ?_ | refine blk_alloc ?_ _)); exact BK127.out)) : gb127 ≠ gb136))
 have n13_ := Aside0.mk ((by rw [hg]; exact Nat.ne_of_gt (blk_lt (g := gb127) (o := .cells #[.int .i64 x128000_1, .int .i64 x128001_1] 30 (0, 0)) (by (with_reducible repeat (first | refine blk_drewN ?_ _ | refine blk_drew ?_ | refine blk_alloc ?_ _)); exact BK127.out)) : gb136 ≠ gb127))
 have n14_ := Aside0.mk ((by rw [hg]; exact Nat.ne_of_lt (blk_lt (g := gb128) (o := .cells #[.bool x129000_13, .int .i64 x129001_13, u129002] 45 (0, 0)) (by (with_reducible repeat (first | refine blk_drewN ?_ _ | refine blk_drew ?_ | refine blk_alloc ?_ _)); exact BK128.out)) : gb128 ≠ gb136))
 have n15_ := Aside0.mk ((by rw [hg]; exact Nat.ne_of_gt (blk_lt (g := gb128) (o := .cells #[.bool x129000_13, .int .i64 x129001_13, u129002] 45 (0, 0)) (by (with_reducible repeat (first | refine blk_drewN ?_ _ | refine blk_drew ?_ | refine blk_alloc ?_ _)); exact BK128.out)) : gb136 ≠ gb128))
 clear HO_5
 clear HO_8
 clear HO_129002
 clear BK119
 clear BK127
 clear BK128
 clear HB
 have HO_5 := n0_
 have HO_8 := n1_
 have HO_129002 := n2_
 have BK119 := n3_
 have BK127 := n4_
 have BK128 := n5_
 have HB := n6_
 have BK136 := n7_
 have GW136 := n8_
 have GE136 := n9_
 have NB119_136 := n10_
 have NB136_119 := n11_
 have NB127_136 := n12_
 have NB136_127 := n13_
 have NB128_136 := n14_
 have NB136_128 := n15_
 clear n0_ n1_ n2_ n3_ n4_ n5_ n6_ n7_ n8_ n9_ n10_ n11_ n12_ n13_ n14_ n15_
 clear hb hbox hg
 refine hK.out _ _ ⟨(blk_cell BK127.out 0).trans rfl, (blk_cell BK127.out 1).trans rfl⟩ (fun hHeld => ?_)
 clear hK K
 refine norm_ (a' := ?_) ?_ ?_
 rotate_left
 {
 show Act.put _ (some 14) _ = _
 simp only [Act.put, sA_, s0_, sS_, i64_w, i32_w]
 rfl }
 refine one_ (i := 10) (N := none) (bm_ 11 2047) rfl rfl (one_of HT_.out (by kernel_rfl)) (by decide) (fun K hK => ?_)
 have hs67 : w66.cell? ⟨gb136, 0, none⟩ = some (.string (⟨#[]⟩ : ByteArray)) := (blk_cell BK136.out 0).trans rfl
 have hfs67 := blk_frozen BK136.out 0
 have hns67_0 := NB119_136.out
 have hns67_1 := NB127_136.out
 have hns67_2 := NB128_136.out
 have hms67_0 := NB136_119.out
 have hms67_1 := NB136_127.out
 have hms67_2 := NB136_128.out
 have hs68 : w66.cell? ⟨gb136, 1, none⟩ = some (.bool false) := (blk_cell BK136.out 1).trans rfl
 have hfs68 := blk_frozen BK136.out 1
 have hns68_0 := NB119_136.out
 have hns68_1 := NB127_136.out
 have hns68_2 := NB128_136.out
 have hms68_0 := NB136_119.out
 have hms68_1 := NB136_127.out
 have hms68_2 := NB136_128.out
 have hs69 : w66.cell? ⟨gb136, 2, none⟩ = some (.int .i64 0) := (blk_cell BK136.out 2).trans rfl
 have hfs69 := blk_frozen BK136.out 2
 have hns69_0 := NB119_136.out
 have hns69_1 := NB127_136.out
 have hns69_2 := NB128_136.out
 have hms69_0 := NB136_119.out
 have hms69_1 := NB136_127.out
 have hms69_2 := NB136_128.out
 have hs70 : w66.cell? ⟨gb136, 3, none⟩ = some (.int .i64 0) := (blk_cell BK136.out 3).trans rfl
 have hfs70 := blk_frozen BK136.out 3
 have hns70_0 := NB119_136.out
 have hns70_1 := NB127_136.out
 have hns70_2 := NB128_136.out
 have hms70_0 := NB136_119.out
 have hms70_1 := NB136_127.out
 have hms70_2 := NB136_128.out
 refine skip_ (w1 := ?_) (by rfl) rfl ?_ ?_
 rotate_left
 {
 go_simp
 rfl }
 refine hK.out _ _ ⟨((cell_far (p := ⟨gb136, _, none⟩) NB127_136.out _).trans (((cell_far (p := ⟨gb136, _, none⟩) NB127_136.out _).trans (((cell_far (p := ⟨gb136, _, none⟩) NB127_136.out _).trans (((cell_far (p := ⟨gb136, _, none⟩) NB127_136.out _).trans (hHeld.1)))))))), ((cell_far (p := ⟨gb136, _, none⟩) NB127_136.out _).trans (((cell_far (p := ⟨gb136, _, none⟩) NB127_136.out _).trans (((cell_far (p := ⟨gb136, _, none⟩) NB127_136.out _).trans (((cell_far (p := ⟨gb136, _, none⟩) NB127_136.out _).trans (hHeld.2))))))))⟩ (fun hHeld => ?_)
 clear hK K
 refine done_ (done_of HT_.out (by kernel_rfl)) ?_
 have p137 : 0 ≤ (x12_1 : Int) := of_decide_eq_true (by first | (with_reducible assumption) | assumption)
 have q137 : x12_1 < (t120.length : Int) := of_decide_eq_true (by first | (with_reducible assumption) | assumption)
 obtain ⟨ad137, e137, hx137_0⟩ := Kd.at_int (Kd.R_reads' HO_5.out).2.2 x12_1 p137 q137
 obtain rfl : ad135 = ad137 := (by injection e137)
 have hn137_0 : ad135.block ≠ gb136 := Kd.own_blk (Kd.R_ne HO_5.out BK136.out (by decide))
 have hn137_1 : ad135.block ≠ gb136 := Kd.own_blk (Kd.R_ne HO_5.out BK136.out (by decide))
 have hn137_2 : ad135.block ≠ gb136 := Kd.own_blk (Kd.R_ne HO_5.out BK136.out (by decide))
 have hn137_3 : ad135.block ≠ gb136 := Kd.own_blk (Kd.R_ne HO_5.out BK136.out (by decide))
 replace hx137_0 := (cell_far (p := ⟨gb136, 0, none⟩) (by first | (rw [add_block]; exact hn137_0) | (show (Addr.add _ _).block ≠ _; rw [add_block]; exact hn137_0) | exact hn137_0) (.string (a0.extract (x12_1 : Int).toNat (x13_4 : Int).toNat))).trans hx137_0
 replace hx137_0 := (cell_far (p := ⟨gb136, 1, none⟩) (by first | (rw [add_block]; exact hn137_1) | (show (Addr.add _ _).block ≠ _; rw [add_block]; exact hn137_1) | exact hn137_1) (.bool false)).trans hx137_0
 replace hx137_0 := (cell_far (p := ⟨gb136, 2, none⟩) (by first | (rw [add_block]; exact hn137_2) | (show (Addr.add _ _).block ≠ _; rw [add_block]; exact hn137_2) | exact hn137_2) (.int .i64 x128000_1)).trans hx137_0
 replace hx137_0 := (cell_far (p := ⟨gb136, 3, none⟩) (by first | (rw [add_block]; exact hn137_3) | (show (Addr.add _ _).block ≠ _; rw [add_block]; exact hn137_3) | exact hn137_3) (.int .i64 x128001_1)).trans hx137_0
 clear hn137_0
 clear hn137_1
 clear hn137_2
 clear hn137_3
 replace p137 := eq_true p137
 replace q137 := eq_true q137
 have hnb71 := NB128_119.out
 have hnc71 := NB119_128.out
 have hnb72 := NB128_127.out
 have hnc72 := NB127_128.out
 have hnb73 := NB128_136.out
 have hnc73 := NB136_128.out
 have hcz74_0 : w66.cell? ⟨gb128, 0, none⟩ = some (.bool x129000_13) := (blk_cell BK128.out 0).trans rfl
 have hcz74_1 : w66.cell? ⟨gb128, 1, none⟩ = some (.int .i64 x129001_13) := (blk_cell BK128.out 1).trans rfl
 have hcz74_2 : w66.cell? ⟨gb128, 2, none⟩ = some (u129002) := (blk_cell BK128.out 2).trans rfl
 have hfz74_0 := blk_frozen BK128.out 0
 have hfz74_1 := blk_frozen BK128.out 1
 have hfz74_2 := blk_frozen BK128.out 2
 have hnb75 := NB136_119.out
 have hnc75 := NB119_136.out
 have hnb76 := NB136_127.out
 have hnc76 := NB127_136.out
 have hcz77_0 : w66.cell? ⟨gb136, 0, none⟩ = some (.string (⟨#[]⟩ : ByteArray)) := (blk_cell BK136.out 0).trans rfl
 have hcz77_1 : w66.cell? ⟨gb136, 1, none⟩ = some (.bool false) := (blk_cell BK136.out 1).trans rfl
 have hcz77_2 : w66.cell? ⟨gb136, 2, none⟩ = some (.int .i64 0) := (blk_cell BK136.out 2).trans rfl
 have hcz77_3 : w66.cell? ⟨gb136, 3, none⟩ = some (.int .i64 0) := (blk_cell BK136.out 3).trans rfl
 have hfz77_0 := blk_frozen BK136.out 0
 have hfz77_1 := blk_frozen BK136.out 1
 have hfz77_2 := blk_frozen BK136.out 2
 have hfz77_3 := blk_frozen BK136.out 3
 try go_wp2_with (first | ((with_reducible refine gate_builtin (b := .append) (xs := #[.tmp 96, .tmp 98]) rfl ?_); at_builtin; refine Kd.R_append k23 (w0 := w) w.heap.size rfl (.tmp 96) (.tmp 98) 43 23 (.agg #[(.string ⟨#[]⟩), (.bool false), (.int .i64 0), (.int .i64 0)]) 40 rfl Try.underlying43 info23 rfl (by decide) (by omega) u129002 x129002_13 (⟨a0.extract (x12_1 : Int).toNat (x13_4 : Int).toNat, false, x128000_1, x128001_1⟩ : S23) [.string (a0.extract (x12_1 : Int).toNat (x13_4 : Int).toNat), .bool false, .int .i64 x128000_1, .int .i64 x128001_1] (fun k_ => k_ ≠ gb136) (fun _ => False) rfl (by first | (go_simp; done) | (go_simp; rfl)) ?aP (fun _ hk => hk.elim) ?aF ?aO ?aB ?aS ?aL ?_; (case aP => exact k23_mkM _ _ _ (⟨a0.extract (x12_1 : Int).toNat (x13_4 : Int).toNat, false, x128000_1, x128001_1⟩ : S23)); (case aB => exact (by repeat (first | (with_reducible first | exact HB.out | apply below_alloc | apply pw_below_drewN | apply below_drew1 | refine below_set ?_ GE119.out | refine below_set ?_ GE127.out | refine below_set ?_ GE128.out | refine below_set ?_ GE136.out) | exact HB.out))); (case aF => exact (fun k_ hk => Kd.freshB (g := gb136) (o := .cells #[.string (a0.extract (x12_1 : Int).toNat (x13_4 : Int).toNat), .bool false, .int .i64 x128000_1, .int .i64 x128001_1] 23 (0, 0)) (by (with_reducible repeat (first | refine blk_drewN ?_ _ | refine blk_drew ?_ | refine blk_alloc ?_ _)); refine blk_put (cs := #[.string (a0.extract (x12_1 : Int).toNat (x13_4 : Int).toNat), .bool false, .int .i64 x128000_1, .int .i64 0]) ?_ 3 _ rfl; (with_reducible repeat (first | refine blk_drewN ?_ _ | refine blk_drew ?_ | refine blk_alloc ?_ _)); refine blk_put (cs := #[.string (a0.extract (x12_1 : Int).toNat (x13_4 : Int).toNat), .bool false, .int .i64 0, .int .i64 0]) ?_ 2 _ rfl; (with_reducible repeat (first | refine blk_drewN ?_ _ | refine blk_drew ?_ | refine blk_alloc ?_ _)); refine blk_put (cs := #[.string (a0.extract (x12_1 : Int).toNat (x13_4 : Int).toNat), .bool false, .int .i64 0, .int .i64 0]) ?_ 1 _ rfl; (with_reducible repeat (first | refine blk_drewN ?_ _ | refine blk_drew ?_ | refine blk_alloc ?_ _)); refine blk_put (cs := #[.string (⟨#[]⟩ : ByteArray), .bool false, .int .i64 0, .int .i64 0]) ?_ 0 _ rfl; (with_reducible repeat (first | refine blk_drewN ?_ _ | refine blk_drew ?_ | refine blk_alloc ?_ _)); exact BK136.out) k_ hk)); (case aO => exact (by (with_reducible repeat (first | apply Kd.R_alloc | apply Kd.R_drewN | apply Kd.R_drew)); exact Kd.R_mono (Kd.R_far (p := ⟨gb136, 3, none⟩) (Kd.R_far (p := ⟨gb136, 2, none⟩) (Kd.R_far (p := ⟨gb136, 1, none⟩) (Kd.R_far (p := ⟨gb136, 0, none⟩) (Kd.R_mono HO_129002.out (fun k_ hk => (⟨hk, hk.2⟩ : _ ∧ k_ ≠ gb136))) (fun _ hk => hk.2) (.string (a0.extract (x12_1 : Int).toNat (x13_4 : Int).toNat))) (fun _ hk => hk.2) (.bool false)) (fun _ hk => hk.2) (.int .i64 x128000_1)) (fun _ hk => hk.2) (.int .i64 x128001_1)) (fun _ hk => hk.1.2))); (case aS => exact (below_size (by repeat (first | (with_reducible first | exact HB.out | apply below_alloc | apply pw_below_drewN | apply below_drew1 | refine below_set ?_ GE119.out | refine below_set ?_ GE127.out | refine below_set ?_ GE128.out | refine below_set ?_ GE136.out) | exact HB.out)))); (case aL => have := LMc63.out; omega); intro v142 w78 ho hb hg hat; rw [← Ny141.out] at ho; have n0_ := Aside0.mk (Kd.R_over' (by (with_reducible repeat (first | apply Kd.R_alloc | apply Kd.R_drewN | apply Kd.R_drew)); exact (Kd.R_mono (Kd.R_far (p := ⟨gb136, 3, none⟩) (Kd.R_far (p := ⟨gb136, 2, none⟩) (Kd.R_far (p := ⟨gb136, 1, none⟩) (Kd.R_far (p := ⟨gb136, 0, none⟩) (Kd.R_types HO_5.out BK136.out (by decide)) (fun _ hk => hk.2) (.string (a0.extract (x12_1 : Int).toNat (x13_4 : Int).toNat))) (fun _ hk => hk.2) (.bool false)) (fun _ hk => hk.2) (.int .i64 x128000_1)) (fun _ hk => hk.2) (.int .i64 x128001_1)) (fun _ h_ => h_.1))) (Kd.R_typed (by (with_reducible repeat (first | apply Kd.R_alloc | apply Kd.R_drewN | apply Kd.R_drew)); exact (Kd.R_mono (Kd.R_far (p := ⟨gb136, 3, none⟩) (Kd.R_far (p := ⟨gb136, 2, none⟩) (Kd.R_far (p := ⟨gb136, 1, none⟩) (Kd.R_far (p := ⟨gb136, 0, none⟩) (Kd.R_mono HO_129002.out (fun k_ hk => (⟨hk, hk.2⟩ : _ ∧ k_ ≠ gb136))) (fun _ hk => hk.2) (.string (a0.extract (x12_1 : Int).toNat (x13_4 : Int).toNat))) (fun _ hk => hk.2) (.bool false)) (fun _ hk => hk.2) (.int .i64 x128000_1)) (fun _ hk => hk.2) (.int .i64 x128001_1)) (fun _ h_ => h_.1)))) (by decide) hg); have n1_ := Aside0.mk (Kd.S_after (ok := (fun k_ => k_ ≠ gb128 ∧ k_ ≠ gb136)) (by (with_reducible repeat (first | apply Kd.S_alloc | apply Kd.S_drewN | apply Kd.S_drew)); exact Kd.S_mono (Kd.S_far (p := ⟨gb136, 3, none⟩) (Kd.S_far (p := ⟨gb136, 2, none⟩) (Kd.S_far (p := ⟨gb136, 1, none⟩) (Kd.S_far (p := ⟨gb136, 0, none⟩) (Kd.S_mono HO_8.out (fun k_ hk => (⟨hk, hk.2⟩ : _ ∧ k_ ≠ gb136))) (fun _ hk => hk.2) (.string (a0.extract (x12_1 : Int).toNat (x13_4 : Int).toNat))) (fun _ hk => hk.2) (.bool false)) (fun _ hk => hk.2) (.int .i64 x128000_1)) (fun _ hk => hk.2) (.int .i64 x128001_1)) (fun _ hk => ⟨⟨hk.1.1.2, hk.1.2⟩, hk.1.1.1⟩)) hg hat); have n2_ := Aside0.mk (blk_grown (g := gb119) (o := .cells #[.int .i64 0, .int .i64 0] 30 (0, 0)) (by (with_reducible repeat (first | refine blk_drewN ?_ _ | refine blk_drew ?_ | refine blk_alloc ?_ _)); refine blk_far ?_ NB119_136.out _; (with_reducible repeat (first | refine blk_drewN ?_ _ | refine blk_drew ?_ | refine blk_alloc ?_ _)); refine blk_far ?_ NB119_136.out _; (with_reducible repeat (first | refine blk_drewN ?_ _ | refine blk_drew ?_ | refine blk_alloc ?_ _)); refine blk_far ?_ NB119_136.out _; (with_reducible repeat (first | refine blk_drewN ?_ _ | refine blk_drew ?_ | refine blk_alloc ?_ _)); refine blk_far ?_ NB119_136.out _; (with_reducible repeat (first | refine blk_drewN ?_ _ | refine blk_drew ?_ | refine blk_alloc ?_ _)); exact BK119.out) hg (Kd.R_ne HO_129002.out BK119.out (by decide))); have n3_ := Aside0.mk (blk_grown (g := gb127) (o := .cells #[.int .i64 x128000_1, .int .i64 x128001_1] 30 (0, 0)) (by (with_reducible repeat (first | refine blk_drewN ?_ _ | refine blk_drew ?_ | refine blk_alloc ?_ _)); refine blk_far ?_ NB127_136.out _; (with_reducible repeat (first | refine blk_drewN ?_ _ | refine blk_drew ?_ | refine blk_alloc ?_ _)); refine blk_far ?_ NB127_136.out _; (with_reducible repeat (first | refine blk_drewN ?_ _ | refine blk_drew ?_ | refine blk_alloc ?_ _)); refine blk_far ?_ NB127_136.out _; (with_reducible repeat (first | refine blk_drewN ?_ _ | refine blk_drew ?_ | refine blk_alloc ?_ _)); refine blk_far ?_ NB127_136.out _; (with_reducible repeat (first | refine blk_drewN ?_ _ | refine blk_drew ?_ | refine blk_alloc ?_ _)); exact BK127.out) hg (Kd.R_ne HO_129002.out BK127.out (by decide))); have n4_ := Aside0.mk (blk_grown (g := gb128) (o := .cells #[.bool x129000_13, .int .i64 x129001_13, u129002] 45 (0, 0)) (by (with_reducible repeat (first | refine blk_drewN ?_ _ | refine blk_drew ?_ | refine blk_alloc ?_ _)); refine blk_far ?_ NB128_136.out _; (with_reducible repeat (first | refine blk_drewN ?_ _ | refine blk_drew ?_ | refine blk_alloc ?_ _)); refine blk_far ?_ NB128_136.out _; (with_reducible repeat (first | refine blk_drewN ?_ _ | refine blk_drew ?_ | refine blk_alloc ?_ _)); refine blk_far ?_ NB128_136.out _; (with_reducible repeat (first | refine blk_drewN ?_ _ | refine blk_drew ?_ | refine blk_alloc ?_ _)); refine blk_far ?_ NB128_136.out _; (with_reducible repeat (first | refine blk_drewN ?_ _ | refine blk_drew ?_ | refine blk_alloc ?_ _)); exact BK128.out) hg (Kd.R_ne HO_129002.out BK128.out (by decide))); have n5_ := Aside0.mk (blk_grown (g := gb136) (o := .cells #[.string (a0.extract (x12_1 : Int).toNat (x13_4 : Int).toNat), .bool false, .int .i64 x128000_1, .int .i64 x128001_1] 23 (0, 0)) (by (with_reducible repeat (first | refine blk_drewN ?_ _ | refine blk_drew ?_ | refine blk_alloc ?_ _)); refine blk_put (cs := #[.string (a0.extract (x12_1 : Int).toNat (x13_4 : Int).toNat), .bool false, .int .i64 x128000_1, .int .i64 0]) ?_ 3 _ rfl; (with_reducible repeat (first | refine blk_drewN ?_ _ | refine blk_drew ?_ | refine blk_alloc ?_ _)); refine blk_put (cs := #[.string (a0.extract (x12_1 : Int).toNat (x13_4 : Int).toNat), .bool false, .int .i64 0, .int .i64 0]) ?_ 2 _ rfl; (with_reducible repeat (first | refine blk_drewN ?_ _ | refine blk_drew ?_ | refine blk_alloc ?_ _)); refine blk_put (cs := #[.string (a0.extract (x12_1 : Int).toNat (x13_4 : Int).toNat), .bool false, .int .i64 0, .int .i64 0]) ?_ 1 _ rfl; (with_reducible repeat (first | refine blk_drewN ?_ _ | refine blk_drew ?_ | refine blk_alloc ?_ _)); refine blk_put (cs := #[.string (⟨#[]⟩ : ByteArray), .bool false, .int .i64 0, .int .i64 0]) ?_ 0 _ rfl; (with_reducible repeat (first | refine blk_drewN ?_ _ | refine blk_drew ?_ | refine blk_alloc ?_ _)); exact BK136.out) hg (Kd.R_away HO_129002.out (fun _ hk => hk.2))); have n6_ := Aside0.mk (hb); have n7_ := Aside0.mk (ho); clear HO_5; clear HO_8; clear BK119; clear BK127; clear BK128; clear BK136; clear HB; clear HO_129002; have HO_5 := n0_; have HO_8 := n1_; have BK119 := n2_; have BK127 := n3_; have BK128 := n4_; have BK136 := n5_; have HB := n6_; have HO143 := n7_; clear n0_ n1_ n2_ n3_ n4_ n5_ n6_ n7_; clear ho hb hg hat; obtain ⟨Ao79, co79, eo79⟩ := Kd.R_slice HO143.out; subst eo79; have hcz80_0 : w78.cell? ⟨gb128, 0, none⟩ = some (.bool x129000_13) := (blk_cell BK128.out 0).trans rfl; have hcz80_1 : w78.cell? ⟨gb128, 1, none⟩ = some (.int .i64 x129001_13) := (blk_cell BK128.out 1).trans rfl; have hcz80_2 : w78.cell? ⟨gb128, 2, none⟩ = some (u129002) := (blk_cell BK128.out 2).trans rfl; have hfz80_0 := blk_frozen BK128.out 0; have hfz80_1 := blk_frozen BK128.out 1; have hfz80_2 := blk_frozen BK128.out 2))
 go_meet
 case rel => exact ⟨_, (y141), (.slice Ao79 y141.length co79), H', ⟨by have := HK1.out; have := HJ13.out; have := HJ22.out; have := HK4.out; first | omega | exact Nat.le_refl _⟩, ⟨by (with_reducible repeat (first | apply Kd.R_alloc | apply Kd.R_drewN | apply Kd.R_drew)); exact Kd.R_mono (Kd.R_far (p := ⟨gb128, 2, none⟩) (Kd.R_types HO_5.out BK128.out (by decide)) (fun _ hk => hk.2) (.slice Ao79 y141.length co79)) (fun _ hk => trivial)⟩, ⟨by (with_reducible repeat (first | apply Kd.S_alloc | apply Kd.S_drewN | apply Kd.S_drew)); exact Kd.S_mono (Kd.S_far (p := ⟨gb128, 2, none⟩) (Kd.S_mono HO_8.out (fun k_ hk => (⟨hk, hk.1.1⟩ : _ ∧ k_ ≠ gb128))) (fun _ hk => hk.2) (.slice Ao79 y141.length co79)) (fun _ hk => ⟨hk.1.2, hk.1.1.1⟩)⟩, ⟨by (with_reducible repeat (first | apply Kd.R_alloc | apply Kd.R_drewN | apply Kd.R_drew)); exact Kd.R_mono (Kd.R_far (p := ⟨gb128, 2, none⟩) (Kd.R_types HO143.out BK128.out (by decide)) (fun _ hk => hk.2) (.slice Ao79 y141.length co79)) (fun _ hk => trivial)⟩, ⟨by (with_reducible repeat (first | refine blk_drewN ?_ _ | refine blk_drew ?_ | refine blk_alloc ?_ _)); refine blk_far ?_ NB119_128.out _; (with_reducible repeat (first | refine blk_drewN ?_ _ | refine blk_drew ?_ | refine blk_alloc ?_ _)); exact BK119.out⟩, ⟨by (with_reducible repeat (first | refine blk_drewN ?_ _ | refine blk_drew ?_ | refine blk_alloc ?_ _)); refine blk_far ?_ NB127_128.out _; (with_reducible repeat (first | refine blk_drewN ?_ _ | refine blk_drew ?_ | refine blk_alloc ?_ _)); exact BK127.out⟩, ⟨by (with_reducible repeat (first | refine blk_drewN ?_ _ | refine blk_drew ?_ | refine blk_alloc ?_ _)); refine blk_put (cs := #[.bool x129000_13, .int .i64 x129001_13, u129002]) ?_ 2 _ rfl; (with_reducible repeat (first | refine blk_drewN ?_ _ | refine blk_drew ?_ | refine blk_alloc ?_ _)); exact BK128.out⟩, ⟨by repeat (first | (with_reducible first | exact HB.out | apply below_alloc | apply pw_below_drewN | apply below_drew1 | refine below_set ?_ GE119.out | refine below_set ?_ GE127.out | refine below_set ?_ GE128.out | refine below_set ?_ GE136.out) | exact HB.out)⟩⟩ }
 {
 rw [if_neg c63] at H
 exact absurd H (by simp) }}}
 {
 rw [if_neg c39] at H
 exact absurd H (by simp) }}
 {
 rw [if_neg c38] at H
 exact absurd H (by simp) }}
 {
 rw [if_neg c37] at H
 exact absurd H (by simp) }}
 {
 rw [if_neg c36] at H
 exact absurd H (by simp) }}}
 {
 rw [if_neg c33] at H
 exact absurd H (by simp) }}
 {
 rw [if_neg c32] at H
 exact absurd H (by simp) }}
 {
 rw [if_neg c31] at H
 have c31b0 : decide (x13_4 < (a0.size : Int)) = false := decide_eq_false c31
 clear c31
 (first | rw [c31b0] | (simp only [i64_w, i32_w]; rw [c31b0]) | skip)
 by_cases c81 : 0 ≤ x12_1
 {
 rw [if_pos c81] at H
 have c81b0 := eq_true c81
 have c81b1 : decide (0 ≤ x12_1) = true := decide_eq_true c81
 clear c81
 by_cases c82 : x12_1 ≤ x13_4
 {
 rw [if_pos c82] at H
 have c82b0 := eq_true c82
 have c82b1 : decide (x12_1 ≤ x13_4) = true := decide_eq_true c82
 clear c82
 by_cases c83 : x13_4 ≤ (a0.size : Int)
 {
 rw [if_pos c83] at H
 have c83b0 := eq_true c83
 have c83b1 : decide (x13_4 ≤ (a0.size : Int)) = true := decide_eq_true c83
 clear c83
 by_cases c84 : x12_1 < (t120.length : Int)
 {
 rw [if_pos c84] at H
 have c84b0 : decide (x12_1 < (t120.length : Int)) = true := decide_eq_true c84
 clear c84
 by_cases c85 : (rd t120 x12_1) = 5
 {
 rw [if_pos c85] at H
 have c85b0 : ((rd t120 x12_1) == 5) = true := beq_iff_eq.mpr c85
 have c85b1 : ((rd t120 x12_1) != 5) = false := bne_eq_false_iff_eq.mpr c85
 clear c85
 obtain ⟨ji86, hji86⟩ : ∃ j_ : Int, (wrap64 (x12_1 + 1)) = j_ := ⟨_, rfl⟩
 replace H : (if 0 ≤ (ji86) then (if (ji86) ≤ (wrap64 (x13_4 - 1)) then (if (wrap64 (x13_4 - 1)) ≤ (a0.size : Int) then (if x129002_13.length < 3518437208883 then (hearsayref08_Entries.j4 k4 a0 t120 x8_1 x11_13 x12_1 x128000_1 x128001_1 x129000_13 x129001_13 (x129002_13 ++ [(⟨a0.extract ((ji86) : Int).toNat ((wrap64 (x13_4 - 1)) : Int).toNat, true, x128000_1, x128001_1⟩ : S23)])) else (none)) else (none)) else (none)) else (none)) = some (r1, r2, r3, r4) := by first | (rw [hji86] at H; exact H) | (simp only [hji86] at H ⊢; exact H)
 have hji86w : (IntKind.i64.wrap (x12_1 + 1)) = ji86 := (i64_w _).trans hji86
 by_cases c87 : 0 ≤ (ji86)
 {
 rw [if_pos c87] at H
 have c87b0 := eq_true c87
 have c87b1 : decide (0 ≤ (ji86)) = true := decide_eq_true c87
 clear c87
 by_cases c88 : (ji86) ≤ (wrap64 (x13_4 - 1))
 {
 rw [if_pos c88] at H
 have c88b0 := eq_true c88
 have c88b1 : decide ((ji86) ≤ (wrap64 (x13_4 - 1))) = true := decide_eq_true c88
 clear c88
 by_cases c89 : (wrap64 (x13_4 - 1)) ≤ (a0.size : Int)
 {
 rw [if_pos c89] at H
 have c89b0 := eq_true c89
 have c89b1 : decide ((wrap64 (x13_4 - 1)) ≤ (a0.size : Int)) = true := decide_eq_true c89
 clear c89
 by_cases c90 : x129002_13.length < 3518437208883
 {
 rw [if_pos c90] at H
 have LMc90 := Aside0.mk c90
 clear c90
 obtain ⟨y146, hy146⟩ : ∃ y_ : List (S23), y_ = (x129002_13 ++ [(⟨a0.extract ((ji86) : Int).toNat ((wrap64 (x13_4 - 1)) : Int).toNat, true, x128000_1, x128001_1⟩ : S23)]) := ⟨_, rfl⟩
 replace H : (hearsayref08_Entries.j4 k4 a0 t120 x8_1 x11_13 x12_1 x128000_1 x128001_1 x129000_13 x129001_13 y146) = some (r1, r2, r3, r4) := by first | (rw [hy146]; with_reducible exact H) | (have H2_ := (Option.bind_some _ _).symm.trans H; rw [hy146]; with_reducible exact H2_) | (have H2_ := (Option.bind_some _ _).symm.trans H; with_reducible exact H2_) | with_reducible exact H | (rw [hy146]; exact H) | exact H
 have Ny146 := Aside0.mk hy146
 clear hy146
 have H' := Aside0.mk H
 clear H
 try go_wp2
 have n0_ := Aside0.mk (Kd.R_drew HO_5.out)
 have n1_ := Aside0.mk (Kd.S_drew HO_8.out)
 have n2_ := Aside0.mk (Kd.R_drew HO_129002.out)
 have n3_ := Aside0.mk (blk_drew BK119.out)
 have n4_ := Aside0.mk (blk_drew BK127.out)
 have n5_ := Aside0.mk (blk_drew BK128.out)
 have n6_ := Aside0.mk (below_drew1 HB.out)
 clear HO_5
 clear HO_8
 clear HO_129002
 clear BK119
 clear BK127
 clear BK128
 clear HB
 have HO_5 := n0_
 have HO_8 := n1_
 have HO_129002 := n2_
 have BK119 := n3_
 have BK127 := n4_
 have BK128 := n5_
 have HB := n6_
 clear n0_ n1_ n2_ n3_ n4_ n5_ n6_
 refine start_ (n := 11) (S := fun w' => w'.cell? ⟨gb127, 0, none⟩ = some (.int .i64 x128000_1) ∧ w'.cell? ⟨gb127, 1, none⟩ = some (.int .i64 x128001_1)) (ds := []) (bm_ 11 0) (by kernel_rfl) rfl rfl ⟨(blk_cell BK127.out 0).trans rfl, (blk_cell BK127.out 1).trans rfl⟩ (fun hHeld => ?_); refine with_tabW hearsayref08_Entries.tab20 hearsayref08_Entries.bits20 (fun HT_ HW_ => ?_)
 generalize wr.drew = w91 at HO_5 HO_8 HO_129002 BK119 BK127 BK128 HB hHeld ⊢
 refine pure_ (i := 0) (N := some 73) (v := ?_) (a' := ?_) (bm_ 11 1) rfl rfl (any_of HT_.out (by kernel_rfl)) (fun _ _ _ h => h) (Or.inl ⟨by rfl, ?_⟩) ?_ ?_
 rotate_left
 {
 intro w'
 go_simp
 with_reducible rfl }
 rotate_left
 {
 simp only [Act.put, sA_, s0_, sS_, i64_w, i32_w]
 rfl }
 refine pure_ (i := 1) (N := some 74) (v := ?_) (a' := ?_) (bm_ 11 3) rfl rfl (any_of HT_.out (by kernel_rfl)) (fun _ _ _ h => h) (Or.inl ⟨by rfl, ?_⟩) ?_ ?_
 rotate_left
 {
 intro w'
 go_simp
 with_reducible rfl }
 rotate_left
 {
 simp only [Act.put, sA_, s0_, sS_, i64_w, i32_w]
 rfl }
 refine pure_ (i := 2) (N := some 75) (v := ?_) (a' := ?_) (bm_ 11 7) rfl rfl (any_of HT_.out (by kernel_rfl)) (fun _ _ _ h => h) (Or.inl ⟨by rfl, ?_⟩) ?_ ?_
 rotate_left
 {
 intro w'
 go_simp
 with_reducible rfl }
 rotate_left
 {
 simp only [Act.put, sA_, s0_, sS_, i64_w, i32_w]
 rfl }
 refine pure_ (i := 3) (N := some 76) (v := ?_) (a' := ?_) (bm_ 11 15) rfl rfl (any_of HT_.out (by kernel_rfl)) (fun _ _ _ h => h) (Or.inl ⟨by rfl, ?_⟩) ?_ ?_
 rotate_left
 {
 intro w'
 go_simp
 with_reducible rfl }
 rotate_left
 {
 simp only [Act.put, sA_, s0_, sS_, i64_w, i32_w]
 rfl }
 refine pure_ (i := 4) (N := some 77) (v := ?_) (a' := ?_) (bm_ 11 31) rfl rfl (any_of HT_.out (by kernel_rfl)) (fun _ _ _ h => h) (Or.inl ⟨by rfl, ?_⟩) ?_ ?_
 rotate_left
 {
 intro w'
 go_simp
 with_reducible rfl }
 rotate_left
 {
 simp only [Act.put, sA_, s0_, sS_, i64_w, i32_w]
 rfl }
 refine pure_ (i := 6) (N := some 79) (v := ?_) (a' := ?_) (bm_ 11 95) rfl rfl (any_of HT_.out (by kernel_rfl)) (fun _ _ _ h => h) (Or.inl ⟨by rfl, ?_⟩) ?_ ?_
 rotate_left
 {
 intro w'
 go_simp
 with_reducible rfl }
 rotate_left
 {
 simp only [Act.put, sA_, s0_, sS_, i64_w, i32_w]
 rfl }
 refine take_ (i := 5) (N := some 78) (v := ?_) (a' := ?_) (bm_ 11 127) rfl rfl (take_ofW HT_.out HW_.out (by kernel_rfl)) (fun _ _ _ h => h) (Or.inl ⟨by rfl, ?_⟩) hHeld ?_ ?_
 rotate_left
 {
 rintro w' ⟨s0, s1⟩
 go_simp
 with_reducible rfl }
 rotate_left
 {
 simp only [Act.put, sA_, s0_, sS_, i64_w, i32_w]
 rfl }
 refine take_ (i := 7) (N := some 80) (v := ?_) (a' := ?_) (bm_ 11 255) rfl rfl (take_ofW HT_.out HW_.out (by kernel_rfl)) (fun _ _ _ h => h) (Or.inl ⟨by rfl, ?_⟩) hHeld ?_ ?_
 rotate_left
 {
 rintro w' ⟨s0, s1⟩
 go_simp
 with_reducible rfl }
 rotate_left
 {
 simp only [Act.put, sA_, s0_, sS_, i64_w, i32_w]
 rfl }
 refine pure_ (i := 8) (N := some 81) (v := ?_) (a' := ?_) (bm_ 11 511) rfl rfl (any_of HT_.out (by kernel_rfl)) (fun _ _ _ h => h) (Or.inl ⟨by rfl, ?_⟩) ?_ ?_
 rotate_left
 {
 intro w'
 go_simp
 with_reducible rfl }
 rotate_left
 {
 simp only [Act.put, sA_, s0_, sS_, i64_w, i32_w]
 rfl }
 refine one_ (i := 9) (N := some 14) (bm_ 11 1023) rfl rfl (one_of HT_.out (by kernel_rfl)) (by decide) (fun K hK => ?_)
 refine box_step ?hg (N := 14) ?hd (cs := #[.string (⟨#[]⟩ : ByteArray), .bool false, .int .i64 0, .int .i64 0]) (t := 23) ?hr ?_; (case hd => rfl); (case hg => rfl); (case hr => first | (go_simp; done) | (go_simp; rfl))
 intro gb144 hg w92 hbox hb
 have n0_ := Aside0.mk (Kd.R_below (by (with_reducible repeat (first | apply Kd.R_alloc | apply Kd.R_drewN | apply Kd.R_drew)); exact HO_5.out) hb)
 have n1_ := Aside0.mk (Kd.S_below (Kd.S_elderB (by (with_reducible repeat (first | apply Kd.S_alloc | apply Kd.S_drewN | apply Kd.S_drew)); exact HO_8.out) gb144 (Nat.le_of_eq hg.symm)) hb)
 have n2_ := Aside0.mk (Kd.R_below (Kd.R_elderB (by (with_reducible repeat (first | apply Kd.R_alloc | apply Kd.R_drewN | apply Kd.R_drew)); exact HO_129002.out) gb144 (Nat.le_of_eq hg.symm)) hb)
 have n3_ := Aside0.mk (blk_below (g := gb119) (o := .cells #[.int .i64 0, .int .i64 0] 30 (0, 0)) (by (with_reducible repeat (first | refine blk_drewN ?_ _ | refine blk_drew ?_ | refine blk_alloc ?_ _)); exact BK119.out) hb)
 have n4_ := Aside0.mk (blk_below (g := gb127) (o := .cells #[.int .i64 x128000_1, .int .i64 x128001_1] 30 (0, 0)) (by (with_reducible repeat (first | refine blk_drewN ?_ _ | refine blk_drew ?_ | refine blk_alloc ?_ _)); exact BK127.out) hb)
 have n5_ := Aside0.mk (blk_below (g := gb128) (o := .cells #[.bool x129000_13, .int .i64 x129001_13, u129002] 45 (0, 0)) (by (with_reducible repeat (first | refine blk_drewN ?_ _ | refine blk_drew ?_ | refine blk_alloc ?_ _)); exact BK128.out) hb)
 have n6_ := Aside0.mk (below_step (by repeat (first | (with_reducible first | exact HB.out | apply below_alloc | apply pw_below_drewN | apply below_drew1 | refine below_set ?_ GE119.out | refine below_set ?_ GE127.out | refine below_set ?_ GE128.out) | exact HB.out)) hb)
 have n7_ := Aside0.mk (hbox)
 have n8_ := Aside0.mk ((by rw [hg]; exact (below_size (by repeat (first | (with_reducible first | exact HB.out | apply below_alloc | apply pw_below_drewN | apply below_drew1 | refine below_set ?_ GE119.out | refine below_set ?_ GE127.out | refine below_set ?_ GE128.out) | exact HB.out))) : w.heap.size ≤ gb144))
 have n9_ := Aside0.mk ((by rw [hg]; exact (below_size (by repeat (first | (with_reducible first | exact HB.out | apply below_alloc | apply pw_below_drewN | apply below_drew1 | refine below_set ?_ GE119.out | refine below_set ?_ GE127.out | refine below_set ?_ GE128.out) | exact HB.out))) : w.heap.size ≤ gb144))
 have n10_ := Aside0.mk ((by rw [hg]; exact Nat.ne_of_lt (blk_lt (g := gb119) (o := .cells #[.int .i64 0, .int .i64 0] 30 (0, 0)) (by (with_reducible repeat (first | refine blk_drewN ?_ _ | refine blk_drew ?_ | refine blk_alloc ?_ _)); exact BK119.out)) : gb119 ≠ gb144))
 have n11_ := Aside0.mk ((by rw [hg]; exact Nat.ne_of_gt (blk_lt (g := gb119) (o := .cells #[.int .i64 0, .int .i64 0] 30 (0, 0)) (by (with_reducible repeat (first | refine blk_drewN ?_ _ | refine blk_drew ?_ | refine blk_alloc ?_ _)); exact BK119.out)) : gb144 ≠ gb119))
 have n12_ := Aside0.mk ((by rw [hg]; exact Nat.ne_of_lt (blk_lt (g := gb127) (o := .cells #[.int .i64 x128000_1, .int .i64 x128001_1] 30 (0, 0)) (by (with_reducible repeat (first | refine blk_drewN ?_ _ | refine blk_drew ?_ | refine blk_alloc ?_ _)); exact BK127.out)) : gb127 ≠ gb144))
 have n13_ := Aside0.mk ((by rw [hg]; exact Nat.ne_of_gt (blk_lt (g := gb127) (o := .cells #[.int .i64 x128000_1, .int .i64 x128001_1] 30 (0, 0)) (by (with_reducible repeat (first | refine blk_drewN ?_ _ | refine blk_drew ?_ | refine blk_alloc ?_ _)); exact BK127.out)) : gb144 ≠ gb127))
 have n14_ := Aside0.mk ((by rw [hg]; exact Nat.ne_of_lt (blk_lt (g := gb128) (o := .cells #[.bool x129000_13, .int .i64 x129001_13, u129002] 45 (0, 0)) (by (with_reducible repeat (first | refine blk_drewN ?_ _ | refine blk_drew ?_ | refine blk_alloc ?_ _)); exact BK128.out)) : gb128 ≠ gb144))
 have n15_ := Aside0.mk ((by rw [hg]; exact Nat.ne_of_gt (blk_lt (g := gb128) (o := .cells #[.bool x129000_13, .int .i64 x129001_13, u129002] 45 (0, 0)) (by (with_reducible repeat (first | refine blk_drewN ?_ _ | refine blk_drew ?_ | refine blk_alloc ?_ _)); exact BK128.out)) : gb144 ≠ gb128))
 clear HO_5
 clear HO_8
 clear HO_129002
 clear BK119
 clear BK127
 clear BK128
 clear HB
 have HO_5 := n0_
 have HO_8 := n1_
 have HO_129002 := n2_
 have BK119 := n3_
 have BK127 := n4_
 have BK128 := n5_
 have HB := n6_
 have BK144 := n7_
 have GW144 := n8_
 have GE144 := n9_
 have NB119_144 := n10_
 have NB144_119 := n11_
 have NB127_144 := n12_
 have NB144_127 := n13_
 have NB128_144 := n14_
 have NB144_128 := n15_
 clear n0_ n1_ n2_ n3_ n4_ n5_ n6_ n7_ n8_ n9_ n10_ n11_ n12_ n13_ n14_ n15_
 clear hb hbox hg
 refine hK.out _ _ ⟨(blk_cell BK127.out 0).trans rfl, (blk_cell BK127.out 1).trans rfl⟩ (fun hHeld => ?_)
 clear hK K
 refine norm_ (a' := ?_) ?_ ?_
 rotate_left
 {
 show Act.put _ (some 14) _ = _
 simp only [Act.put, sA_, s0_, sS_, i64_w, i32_w]
 rfl }
 refine one_ (i := 10) (N := none) (bm_ 11 2047) rfl rfl (one_of HT_.out (by kernel_rfl)) (by decide) (fun K hK => ?_)
 have hs93 : w92.cell? ⟨gb144, 0, none⟩ = some (.string (⟨#[]⟩ : ByteArray)) := (blk_cell BK144.out 0).trans rfl
 have hfs93 := blk_frozen BK144.out 0
 have hns93_0 := NB119_144.out
 have hns93_1 := NB127_144.out
 have hns93_2 := NB128_144.out
 have hms93_0 := NB144_119.out
 have hms93_1 := NB144_127.out
 have hms93_2 := NB144_128.out
 have hs94 : w92.cell? ⟨gb144, 1, none⟩ = some (.bool false) := (blk_cell BK144.out 1).trans rfl
 have hfs94 := blk_frozen BK144.out 1
 have hns94_0 := NB119_144.out
 have hns94_1 := NB127_144.out
 have hns94_2 := NB128_144.out
 have hms94_0 := NB144_119.out
 have hms94_1 := NB144_127.out
 have hms94_2 := NB144_128.out
 have hs95 : w92.cell? ⟨gb144, 2, none⟩ = some (.int .i64 0) := (blk_cell BK144.out 2).trans rfl
 have hfs95 := blk_frozen BK144.out 2
 have hns95_0 := NB119_144.out
 have hns95_1 := NB127_144.out
 have hns95_2 := NB128_144.out
 have hms95_0 := NB144_119.out
 have hms95_1 := NB144_127.out
 have hms95_2 := NB144_128.out
 have hs96 : w92.cell? ⟨gb144, 3, none⟩ = some (.int .i64 0) := (blk_cell BK144.out 3).trans rfl
 have hfs96 := blk_frozen BK144.out 3
 have hns96_0 := NB119_144.out
 have hns96_1 := NB127_144.out
 have hns96_2 := NB128_144.out
 have hms96_0 := NB144_119.out
 have hms96_1 := NB144_127.out
 have hms96_2 := NB144_128.out
 refine skip_ (w1 := ?_) (by rfl) rfl ?_ ?_
 rotate_left
 {
 go_simp
 rfl }
 refine hK.out _ _ ⟨((cell_far (p := ⟨gb144, _, none⟩) NB127_144.out _).trans (((cell_far (p := ⟨gb144, _, none⟩) NB127_144.out _).trans (((cell_far (p := ⟨gb144, _, none⟩) NB127_144.out _).trans (((cell_far (p := ⟨gb144, _, none⟩) NB127_144.out _).trans (hHeld.1)))))))), ((cell_far (p := ⟨gb144, _, none⟩) NB127_144.out _).trans (((cell_far (p := ⟨gb144, _, none⟩) NB127_144.out _).trans (((cell_far (p := ⟨gb144, _, none⟩) NB127_144.out _).trans (((cell_far (p := ⟨gb144, _, none⟩) NB127_144.out _).trans (hHeld.2))))))))⟩ (fun hHeld => ?_)
 clear hK K
 refine done_ (done_of HT_.out (by kernel_rfl)) ?_
 obtain ⟨Ao97, co97, eo97⟩ := Kd.R_slice HO_5.out
 subst eo97
 have p145 : 0 ≤ (x12_1 : Int) := of_decide_eq_true (by first | (with_reducible assumption) | assumption)
 have q145 : x12_1 < (t120.length : Int) := of_decide_eq_true (by first | (with_reducible assumption) | assumption)
 obtain ⟨ad145, e145, hx145_0⟩ := Kd.at_int (Kd.R_reads' HO_5.out).2.2 x12_1 p145 q145
 cases e145
 have hn145_0 : ad145.block ≠ gb144 := Kd.own_blk (Kd.R_ne HO_5.out BK144.out (by decide))
 have hn145_1 : ad145.block ≠ gb144 := Kd.own_blk (Kd.R_ne HO_5.out BK144.out (by decide))
 have hn145_2 : ad145.block ≠ gb144 := Kd.own_blk (Kd.R_ne HO_5.out BK144.out (by decide))
 have hn145_3 : ad145.block ≠ gb144 := Kd.own_blk (Kd.R_ne HO_5.out BK144.out (by decide))
 replace hx145_0 := (cell_far (p := ⟨gb144, 0, none⟩) (by first | (rw [add_block]; exact hn145_0) | (show (Addr.add _ _).block ≠ _; rw [add_block]; exact hn145_0) | exact hn145_0) (.string (a0.extract (x12_1 : Int).toNat (x13_4 : Int).toNat))).trans hx145_0
 replace hx145_0 := (cell_far (p := ⟨gb144, 1, none⟩) (by first | (rw [add_block]; exact hn145_1) | (show (Addr.add _ _).block ≠ _; rw [add_block]; exact hn145_1) | exact hn145_1) (.bool false)).trans hx145_0
 replace hx145_0 := (cell_far (p := ⟨gb144, 2, none⟩) (by first | (rw [add_block]; exact hn145_2) | (show (Addr.add _ _).block ≠ _; rw [add_block]; exact hn145_2) | exact hn145_2) (.int .i64 x128000_1)).trans hx145_0
 replace hx145_0 := (cell_far (p := ⟨gb144, 3, none⟩) (by first | (rw [add_block]; exact hn145_3) | (show (Addr.add _ _).block ≠ _; rw [add_block]; exact hn145_3) | exact hn145_3) (.int .i64 x128001_1)).trans hx145_0
 clear hn145_0
 clear hn145_1
 clear hn145_2
 clear hn145_3
 replace p145 := eq_true p145
 replace q145 := eq_true q145
 have hnb98 := NB144_119.out
 have hnc98 := NB119_144.out
 have hnb99 := NB144_127.out
 have hnc99 := NB127_144.out
 have hnb100 := NB144_128.out
 have hnc100 := NB128_144.out
 have hcz101_0 : w92.cell? ⟨gb144, 0, none⟩ = some (.string (⟨#[]⟩ : ByteArray)) := (blk_cell BK144.out 0).trans rfl
 have hcz101_1 : w92.cell? ⟨gb144, 1, none⟩ = some (.bool false) := (blk_cell BK144.out 1).trans rfl
 have hcz101_2 : w92.cell? ⟨gb144, 2, none⟩ = some (.int .i64 0) := (blk_cell BK144.out 2).trans rfl
 have hcz101_3 : w92.cell? ⟨gb144, 3, none⟩ = some (.int .i64 0) := (blk_cell BK144.out 3).trans rfl
 have hfz101_0 := blk_frozen BK144.out 0
 have hfz101_1 := blk_frozen BK144.out 1
 have hfz101_2 := blk_frozen BK144.out 2
 have hfz101_3 := blk_frozen BK144.out 3
 have hnb102 := NB128_119.out
 have hnc102 := NB119_128.out
 have hnb103 := NB128_127.out
 have hnc103 := NB127_128.out
 have hcz104_0 : w92.cell? ⟨gb128, 0, none⟩ = some (.bool x129000_13) := (blk_cell BK128.out 0).trans rfl
 have hcz104_1 : w92.cell? ⟨gb128, 1, none⟩ = some (.int .i64 x129001_13) := (blk_cell BK128.out 1).trans rfl
 have hcz104_2 : w92.cell? ⟨gb128, 2, none⟩ = some (u129002) := (blk_cell BK128.out 2).trans rfl
 have hfz104_0 := blk_frozen BK128.out 0
 have hfz104_1 := blk_frozen BK128.out 1
 have hfz104_2 := blk_frozen BK128.out 2
 have bq_ := blk_put (cs' := #[.string (a0.extract (x12_1 : Int).toNat (x13_4 : Int).toNat), .bool false, .int .i64 x128000_1, .int .i64 x128001_1]) (blk_put (cs' := #[.string (a0.extract (x12_1 : Int).toNat (x13_4 : Int).toNat), .bool false, .int .i64 x128000_1, .int .i64 0]) (blk_put (cs' := #[.string (a0.extract (x12_1 : Int).toNat (x13_4 : Int).toNat), .bool false, .int .i64 0, .int .i64 0]) (blk_put (cs' := #[.string (a0.extract (x12_1 : Int).toNat (x13_4 : Int).toNat), .bool false, .int .i64 0, .int .i64 0]) BK144.out 0 (.string (a0.extract (x12_1 : Int).toNat (x13_4 : Int).toNat)) rfl) 1 (.bool false) rfl) 2 (.int .i64 x128000_1) rfl) 3 (.int .i64 x128001_1) rfl
 have hq0_ := (blk_cell bq_ 0).trans (show _ = some (.string (a0.extract (x12_1 : Int).toNat (x13_4 : Int).toNat)) from rfl)
 have hq1_ := (blk_cell bq_ 1).trans (show _ = some (.bool false) from rfl)
 have hq2_ := (blk_cell bq_ 2).trans (show _ = some (.int .i64 x128000_1) from rfl)
 have hq3_ := (blk_cell bq_ 3).trans (show _ = some (.int .i64 x128001_1) from rfl)
 clear bq_
 try go_wp2_with (first | ((with_reducible refine gate_builtin (b := .append) (xs := #[.tmp 96, .tmp 98]) rfl ?_); at_builtin; refine Kd.R_append k23 (w0 := w) w.heap.size rfl (.tmp 96) (.tmp 98) 43 23 (.agg #[(.string ⟨#[]⟩), (.bool false), (.int .i64 0), (.int .i64 0)]) 40 rfl Try.underlying43 info23 rfl (by decide) (by omega) u129002 x129002_13 (⟨a0.extract ((ji86) : Int).toNat ((wrap64 (x13_4 - 1)) : Int).toNat, true, x128000_1, x128001_1⟩ : S23) [.string (a0.extract ((ji86) : Int).toNat ((wrap64 (x13_4 - 1)) : Int).toNat), .bool true, .int .i64 x128000_1, .int .i64 x128001_1] (fun k_ => k_ ≠ gb144) (fun _ => False) rfl (by first | (go_simp; done) | (go_simp; rfl)) ?aP (fun _ hk => hk.elim) ?aF ?aO ?aB ?aS ?aL ?_; (case aP => exact k23_mkM _ _ _ (⟨a0.extract ((ji86) : Int).toNat ((wrap64 (x13_4 - 1)) : Int).toNat, true, x128000_1, x128001_1⟩ : S23)); (case aB => exact (by repeat (first | (with_reducible first | exact HB.out | apply below_alloc | apply pw_below_drewN | apply below_drew1 | refine below_set ?_ GE119.out | refine below_set ?_ GE127.out | refine below_set ?_ GE128.out | refine below_set ?_ GE144.out) | exact HB.out))); (case aF => exact (fun k_ hk => Kd.freshB (g := gb144) (o := .cells #[.string (a0.extract ((ji86) : Int).toNat ((wrap64 (x13_4 - 1)) : Int).toNat), .bool true, .int .i64 x128000_1, .int .i64 x128001_1] 23 (0, 0)) (by (with_reducible repeat (first | refine blk_drewN ?_ _ | refine blk_drew ?_ | refine blk_alloc ?_ _)); refine blk_put (cs := #[.string (a0.extract (x12_1 : Int).toNat (x13_4 : Int).toNat), .bool true, .int .i64 x128000_1, .int .i64 x128001_1]) ?_ 0 _ rfl; (with_reducible repeat (first | refine blk_drewN ?_ _ | refine blk_drew ?_ | refine blk_alloc ?_ _)); refine blk_put (cs := #[.string (a0.extract (x12_1 : Int).toNat (x13_4 : Int).toNat), .bool false, .int .i64 x128000_1, .int .i64 x128001_1]) ?_ 1 _ rfl; (with_reducible repeat (first | refine blk_drewN ?_ _ | refine blk_drew ?_ | refine blk_alloc ?_ _)); refine blk_put (cs := #[.string (a0.extract (x12_1 : Int).toNat (x13_4 : Int).toNat), .bool false, .int .i64 x128000_1, .int .i64 0]) ?_ 3 _ rfl; (with_reducible repeat (first | refine blk_drewN ?_ _ | refine blk_drew ?_ | refine blk_alloc ?_ _)); refine blk_put (cs := #[.string (a0.extract (x12_1 : Int).toNat (x13_4 : Int).toNat), .bool false, .int .i64 0, .int .i64 0]) ?_ 2 _ rfl; (with_reducible repeat (first | refine blk_drewN ?_ _ | refine blk_drew ?_ | refine blk_alloc ?_ _)); refine blk_put (cs := #[.string (a0.extract (x12_1 : Int).toNat (x13_4 : Int).toNat), .bool false, .int .i64 0, .int .i64 0]) ?_ 1 _ rfl; (with_reducible repeat (first | refine blk_drewN ?_ _ | refine blk_drew ?_ | refine blk_alloc ?_ _)); refine blk_put (cs := #[.string (⟨#[]⟩ : ByteArray), .bool false, .int .i64 0, .int .i64 0]) ?_ 0 _ rfl; (with_reducible repeat (first | refine blk_drewN ?_ _ | refine blk_drew ?_ | refine blk_alloc ?_ _)); exact BK144.out) k_ hk)); (case aO => exact (by (with_reducible repeat (first | apply Kd.R_alloc | apply Kd.R_drewN | apply Kd.R_drew)); exact Kd.R_mono (Kd.R_far (p := ⟨gb144, 0, none⟩) (Kd.R_far (p := ⟨gb144, 1, none⟩) (Kd.R_far (p := ⟨gb144, 3, none⟩) (Kd.R_far (p := ⟨gb144, 2, none⟩) (Kd.R_far (p := ⟨gb144, 1, none⟩) (Kd.R_far (p := ⟨gb144, 0, none⟩) (Kd.R_mono HO_129002.out (fun k_ hk => (⟨hk, hk.2⟩ : _ ∧ k_ ≠ gb144))) (fun _ hk => hk.2) (.string (a0.extract (x12_1 : Int).toNat (x13_4 : Int).toNat))) (fun _ hk => hk.2) (.bool false)) (fun _ hk => hk.2) (.int .i64 x128000_1)) (fun _ hk => hk.2) (.int .i64 x128001_1)) (fun _ hk => hk.2) (.bool true)) (fun _ hk => hk.2) (.string (a0.extract ((ji86) : Int).toNat ((wrap64 (x13_4 - 1)) : Int).toNat))) (fun _ hk => hk.1.2))); (case aS => exact (below_size (by repeat (first | (with_reducible first | exact HB.out | apply below_alloc | apply pw_below_drewN | apply below_drew1 | refine below_set ?_ GE119.out | refine below_set ?_ GE127.out | refine below_set ?_ GE128.out | refine below_set ?_ GE144.out) | exact HB.out)))); (case aL => have := LMc90.out; omega); intro v147 w105 ho hb hg hat; rw [← Ny146.out] at ho; have n0_ := Aside0.mk (Kd.R_over' (by (with_reducible repeat (first | apply Kd.R_alloc | apply Kd.R_drewN | apply Kd.R_drew)); exact (Kd.R_mono (Kd.R_far (p := ⟨gb144, 0, none⟩) (Kd.R_far (p := ⟨gb144, 1, none⟩) (Kd.R_far (p := ⟨gb144, 3, none⟩) (Kd.R_far (p := ⟨gb144, 2, none⟩) (Kd.R_far (p := ⟨gb144, 1, none⟩) (Kd.R_far (p := ⟨gb144, 0, none⟩) (Kd.R_types HO_5.out BK144.out (by decide)) (fun _ hk => hk.2) (.string (a0.extract (x12_1 : Int).toNat (x13_4 : Int).toNat))) (fun _ hk => hk.2) (.bool false)) (fun _ hk => hk.2) (.int .i64 x128000_1)) (fun _ hk => hk.2) (.int .i64 x128001_1)) (fun _ hk => hk.2) (.bool true)) (fun _ hk => hk.2) (.string (a0.extract ((ji86) : Int).toNat ((wrap64 (x13_4 - 1)) : Int).toNat))) (fun _ h_ => h_.1))) (Kd.R_typed (by (with_reducible repeat (first | apply Kd.R_alloc | apply Kd.R_drewN | apply Kd.R_drew)); exact (Kd.R_mono (Kd.R_far (p := ⟨gb144, 0, none⟩) (Kd.R_far (p := ⟨gb144, 1, none⟩) (Kd.R_far (p := ⟨gb144, 3, none⟩) (Kd.R_far (p := ⟨gb144, 2, none⟩) (Kd.R_far (p := ⟨gb144, 1, none⟩) (Kd.R_far (p := ⟨gb144, 0, none⟩) (Kd.R_mono HO_129002.out (fun k_ hk => (⟨hk, hk.2⟩ : _ ∧ k_ ≠ gb144))) (fun _ hk => hk.2) (.string (a0.extract (x12_1 : Int).toNat (x13_4 : Int).toNat))) (fun _ hk => hk.2) (.bool false)) (fun _ hk => hk.2) (.int .i64 x128000_1)) (fun _ hk => hk.2) (.int .i64 x128001_1)) (fun _ hk => hk.2) (.bool true)) (fun _ hk => hk.2) (.string (a0.extract ((ji86) : Int).toNat ((wrap64 (x13_4 - 1)) : Int).toNat))) (fun _ h_ => h_.1)))) (by decide) hg); have n1_ := Aside0.mk (Kd.S_after (ok := (fun k_ => k_ ≠ gb128 ∧ k_ ≠ gb144)) (by (with_reducible repeat (first | apply Kd.S_alloc | apply Kd.S_drewN | apply Kd.S_drew)); exact Kd.S_mono (Kd.S_far (p := ⟨gb144, 0, none⟩) (Kd.S_far (p := ⟨gb144, 1, none⟩) (Kd.S_far (p := ⟨gb144, 3, none⟩) (Kd.S_far (p := ⟨gb144, 2, none⟩) (Kd.S_far (p := ⟨gb144, 1, none⟩) (Kd.S_far (p := ⟨gb144, 0, none⟩) (Kd.S_mono HO_8.out (fun k_ hk => (⟨hk, hk.2⟩ : _ ∧ k_ ≠ gb144))) (fun _ hk => hk.2) (.string (a0.extract (x12_1 : Int).toNat (x13_4 : Int).toNat))) (fun _ hk => hk.2) (.bool false)) (fun _ hk => hk.2) (.int .i64 x128000_1)) (fun _ hk => hk.2) (.int .i64 x128001_1)) (fun _ hk => hk.2) (.bool true)) (fun _ hk => hk.2) (.string (a0.extract ((ji86) : Int).toNat ((wrap64 (x13_4 - 1)) : Int).toNat))) (fun _ hk => ⟨⟨hk.1.1.2, hk.1.2⟩, hk.1.1.1⟩)) hg hat); have n2_ := Aside0.mk (blk_grown (g := gb119) (o := .cells #[.int .i64 0, .int .i64 0] 30 (0, 0)) (by (with_reducible repeat (first | refine blk_drewN ?_ _ | refine blk_drew ?_ | refine blk_alloc ?_ _)); refine blk_far ?_ NB119_144.out _; (with_reducible repeat (first | refine blk_drewN ?_ _ | refine blk_drew ?_ | refine blk_alloc ?_ _)); refine blk_far ?_ NB119_144.out _; (with_reducible repeat (first | refine blk_drewN ?_ _ | refine blk_drew ?_ | refine blk_alloc ?_ _)); refine blk_far ?_ NB119_144.out _; (with_reducible repeat (first | refine blk_drewN ?_ _ | refine blk_drew ?_ | refine blk_alloc ?_ _)); refine blk_far ?_ NB119_144.out _; (with_reducible repeat (first | refine blk_drewN ?_ _ | refine blk_drew ?_ | refine blk_alloc ?_ _)); refine blk_far ?_ NB119_144.out _; (with_reducible repeat (first | refine blk_drewN ?_ _ | refine blk_drew ?_ | refine blk_alloc ?_ _)); refine blk_far ?_ NB119_144.out _; (with_reducible repeat (first | refine blk_drewN ?_ _ | refine blk_drew ?_ | refine blk_alloc ?_ _)); exact BK119.out) hg (Kd.R_ne HO_129002.out BK119.out (by decide))); have n3_ := Aside0.mk (blk_grown (g := gb127) (o := .cells #[.int .i64 x128000_1, .int .i64 x128001_1] 30 (0, 0)) (by (with_reducible repeat (first | refine blk_drewN ?_ _ | refine blk_drew ?_ | refine blk_alloc ?_ _)); refine blk_far ?_ NB127_144.out _; (with_reducible repeat (first | refine blk_drewN ?_ _ | refine blk_drew ?_ | refine blk_alloc ?_ _)); refine blk_far ?_ NB127_144.out _; (with_reducible repeat (first | refine blk_drewN ?_ _ | refine blk_drew ?_ | refine blk_alloc ?_ _)); refine blk_far ?_ NB127_144.out _; (with_reducible repeat (first | refine blk_drewN ?_ _ | refine blk_drew ?_ | refine blk_alloc ?_ _)); refine blk_far ?_ NB127_144.out _; (with_reducible repeat (first | refine blk_drewN ?_ _ | refine blk_drew ?_ | refine blk_alloc ?_ _)); refine blk_far ?_ NB127_144.out _; (with_reducible repeat (first | refine blk_drewN ?_ _ | refine blk_drew ?_ | refine blk_alloc ?_ _)); refine blk_far ?_ NB127_144.out _; (with_reducible repeat (first | refine blk_drewN ?_ _ | refine blk_drew ?_ | refine blk_alloc ?_ _)); exact BK127.out) hg (Kd.R_ne HO_129002.out BK127.out (by decide))); have n4_ := Aside0.mk (blk_grown (g := gb128) (o := .cells #[.bool x129000_13, .int .i64 x129001_13, u129002] 45 (0, 0)) (by (with_reducible repeat (first | refine blk_drewN ?_ _ | refine blk_drew ?_ | refine blk_alloc ?_ _)); refine blk_far ?_ NB128_144.out _; (with_reducible repeat (first | refine blk_drewN ?_ _ | refine blk_drew ?_ | refine blk_alloc ?_ _)); refine blk_far ?_ NB128_144.out _; (with_reducible repeat (first | refine blk_drewN ?_ _ | refine blk_drew ?_ | refine blk_alloc ?_ _)); refine blk_far ?_ NB128_144.out _; (with_reducible repeat (first | refine blk_drewN ?_ _ | refine blk_drew ?_ | refine blk_alloc ?_ _)); refine blk_far ?_ NB128_144.out _; (with_reducible repeat (first | refine blk_drewN ?_ _ | refine blk_drew ?_ | refine blk_alloc ?_ _)); refine blk_far ?_ NB128_144.out _; (with_reducible repeat (first | refine blk_drewN ?_ _ | refine blk_drew ?_ | refine blk_alloc ?_ _)); refine blk_far ?_ NB128_144.out _; (with_reducible repeat (first | refine blk_drewN ?_ _ | refine blk_drew ?_ | refine blk_alloc ?_ _)); exact BK128.out) hg (Kd.R_ne HO_129002.out BK128.out (by decide))); have n5_ := Aside0.mk (blk_grown (g := gb144) (o := .cells #[.string (a0.extract ((ji86) : Int).toNat ((wrap64 (x13_4 - 1)) : Int).toNat), .bool true, .int .i64 x128000_1, .int .i64 x128001_1] 23 (0, 0)) (by (with_reducible repeat (first | refine blk_drewN ?_ _ | refine blk_drew ?_ | refine blk_alloc ?_ _)); refine blk_put (cs := #[.string (a0.extract (x12_1 : Int).toNat (x13_4 : Int).toNat), .bool true, .int .i64 x128000_1, .int .i64 x128001_1]) ?_ 0 _ rfl; (with_reducible repeat (first | refine blk_drewN ?_ _ | refine blk_drew ?_ | refine blk_alloc ?_ _)); refine blk_put (cs := #[.string (a0.extract (x12_1 : Int).toNat (x13_4 : Int).toNat), .bool false, .int .i64 x128000_1, .int .i64 x128001_1]) ?_ 1 _ rfl; (with_reducible repeat (first | refine blk_drewN ?_ _ | refine blk_drew ?_ | refine blk_alloc ?_ _)); refine blk_put (cs := #[.string (a0.extract (x12_1 : Int).toNat (x13_4 : Int).toNat), .bool false, .int .i64 x128000_1, .int .i64 0]) ?_ 3 _ rfl; (with_reducible repeat (first | refine blk_drewN ?_ _ | refine blk_drew ?_ | refine blk_alloc ?_ _)); refine blk_put (cs := #[.string (a0.extract (x12_1 : Int).toNat (x13_4 : Int).toNat), .bool false, .int .i64 0, .int .i64 0]) ?_ 2 _ rfl; (with_reducible repeat (first | refine blk_drewN ?_ _ | refine blk_drew ?_ | refine blk_alloc ?_ _)); refine blk_put (cs := #[.string (a0.extract (x12_1 : Int).toNat (x13_4 : Int).toNat), .bool false, .int .i64 0, .int .i64 0]) ?_ 1 _ rfl; (with_reducible repeat (first | refine blk_drewN ?_ _ | refine blk_drew ?_ | refine blk_alloc ?_ _)); refine blk_put (cs := #[.string (⟨#[]⟩ : ByteArray), .bool false, .int .i64 0, .int .i64 0]) ?_ 0 _ rfl; (with_reducible repeat (first | refine blk_drewN ?_ _ | refine blk_drew ?_ | refine blk_alloc ?_ _)); exact BK144.out) hg (Kd.R_away HO_129002.out (fun _ hk => hk.2))); have n6_ := Aside0.mk (hb); have n7_ := Aside0.mk (ho); clear HO_5; clear HO_8; clear BK119; clear BK127; clear BK128; clear BK144; clear HB; clear HO_129002; have HO_5 := n0_; have HO_8 := n1_; have BK119 := n2_; have BK127 := n3_; have BK128 := n4_; have BK144 := n5_; have HB := n6_; have HO148 := n7_; clear n0_ n1_ n2_ n3_ n4_ n5_ n6_ n7_; clear ho hb hg hat; obtain ⟨Ao106, co106, eo106⟩ := Kd.R_slice HO148.out; subst eo106; have hcz107_0 : w105.cell? ⟨gb128, 0, none⟩ = some (.bool x129000_13) := (blk_cell BK128.out 0).trans rfl; have hcz107_1 : w105.cell? ⟨gb128, 1, none⟩ = some (.int .i64 x129001_13) := (blk_cell BK128.out 1).trans rfl; have hcz107_2 : w105.cell? ⟨gb128, 2, none⟩ = some (u129002) := (blk_cell BK128.out 2).trans rfl; have hfz107_0 := blk_frozen BK128.out 0; have hfz107_1 := blk_frozen BK128.out 1; have hfz107_2 := blk_frozen BK128.out 2))
 go_meet
 case rel => exact ⟨_, (y146), (.slice Ao106 y146.length co106), H', ⟨by have := HK1.out; have := HJ13.out; have := HJ22.out; have := HK4.out; first | omega | exact Nat.le_refl _⟩, ⟨by (with_reducible repeat (first | apply Kd.R_alloc | apply Kd.R_drewN | apply Kd.R_drew)); exact Kd.R_mono (Kd.R_far (p := ⟨gb128, 2, none⟩) (Kd.R_types HO_5.out BK128.out (by decide)) (fun _ hk => hk.2) (.slice Ao106 y146.length co106)) (fun _ hk => trivial)⟩, ⟨by (with_reducible repeat (first | apply Kd.S_alloc | apply Kd.S_drewN | apply Kd.S_drew)); exact Kd.S_mono (Kd.S_far (p := ⟨gb128, 2, none⟩) (Kd.S_mono HO_8.out (fun k_ hk => (⟨hk, hk.1.1⟩ : _ ∧ k_ ≠ gb128))) (fun _ hk => hk.2) (.slice Ao106 y146.length co106)) (fun _ hk => ⟨hk.1.2, hk.1.1.1⟩)⟩, ⟨by (with_reducible repeat (first | apply Kd.R_alloc | apply Kd.R_drewN | apply Kd.R_drew)); exact Kd.R_mono (Kd.R_far (p := ⟨gb128, 2, none⟩) (Kd.R_types HO148.out BK128.out (by decide)) (fun _ hk => hk.2) (.slice Ao106 y146.length co106)) (fun _ hk => trivial)⟩, ⟨by (with_reducible repeat (first | refine blk_drewN ?_ _ | refine blk_drew ?_ | refine blk_alloc ?_ _)); refine blk_far ?_ NB119_128.out _; (with_reducible repeat (first | refine blk_drewN ?_ _ | refine blk_drew ?_ | refine blk_alloc ?_ _)); exact BK119.out⟩, ⟨by (with_reducible repeat (first | refine blk_drewN ?_ _ | refine blk_drew ?_ | refine blk_alloc ?_ _)); refine blk_far ?_ NB127_128.out _; (with_reducible repeat (first | refine blk_drewN ?_ _ | refine blk_drew ?_ | refine blk_alloc ?_ _)); exact BK127.out⟩, ⟨by (with_reducible repeat (first | refine blk_drewN ?_ _ | refine blk_drew ?_ | refine blk_alloc ?_ _)); refine blk_put (cs := #[.bool x129000_13, .int .i64 x129001_13, u129002]) ?_ 2 _ rfl; (with_reducible repeat (first | refine blk_drewN ?_ _ | refine blk_drew ?_ | refine blk_alloc ?_ _)); exact BK128.out⟩, ⟨by repeat (first | (with_reducible first | exact HB.out | apply below_alloc | apply pw_below_drewN | apply below_drew1 | refine below_set ?_ GE119.out | refine below_set ?_ GE127.out | refine below_set ?_ GE128.out | refine below_set ?_ GE144.out) | exact HB.out)⟩⟩ }
 {
 rw [if_neg c90] at H
 exact absurd H (by simp) }}
 {
 rw [if_neg c89] at H
 exact absurd H (by simp) }}
 {
 rw [if_neg c88] at H
 exact absurd H (by simp) }}
 {
 rw [if_neg c87] at H
 exact absurd H (by simp) }}
 {
 rw [if_neg c85] at H
 have c85b0 : ((rd t120 x12_1) == 5) = false := beq_eq_false_iff_ne.mpr c85
 have c85b1 : ((rd t120 x12_1) != 5) = true := bne_iff_ne.mpr c85
 by_cases c108 : x129002_13.length < 3518437208883
 {
 rw [if_pos c108] at H
 have LMc108 := Aside0.mk c108
 clear c108
 obtain ⟨y149, hy149⟩ : ∃ y_ : List (S23), y_ = (x129002_13 ++ [(⟨a0.extract (x12_1 : Int).toNat (x13_4 : Int).toNat, false, x128000_1, x128001_1⟩ : S23)]) := ⟨_, rfl⟩
 replace H : (hearsayref08_Entries.j4 k4 a0 t120 x8_1 x11_13 x12_1 x128000_1 x128001_1 x129000_13 x129001_13 y149) = some (r1, r2, r3, r4) := by first | (rw [hy149]; with_reducible exact H) | (have H2_ := (Option.bind_some _ _).symm.trans H; rw [hy149]; with_reducible exact H2_) | (have H2_ := (Option.bind_some _ _).symm.trans H; with_reducible exact H2_) | with_reducible exact H | (rw [hy149]; exact H) | exact H
 have Ny149 := Aside0.mk hy149
 clear hy149
 have H' := Aside0.mk H
 clear H
 try go_wp2
 have n0_ := Aside0.mk (Kd.R_drew HO_5.out)
 have n1_ := Aside0.mk (Kd.S_drew HO_8.out)
 have n2_ := Aside0.mk (Kd.R_drew HO_129002.out)
 have n3_ := Aside0.mk (blk_drew BK119.out)
 have n4_ := Aside0.mk (blk_drew BK127.out)
 have n5_ := Aside0.mk (blk_drew BK128.out)
 have n6_ := Aside0.mk (below_drew1 HB.out)
 clear HO_5
 clear HO_8
 clear HO_129002
 clear BK119
 clear BK127
 clear BK128
 clear HB
 have HO_5 := n0_
 have HO_8 := n1_
 have HO_129002 := n2_
 have BK119 := n3_
 have BK127 := n4_
 have BK128 := n5_
 have HB := n6_
 clear n0_ n1_ n2_ n3_ n4_ n5_ n6_
 refine start_ (n := 11) (S := fun w' => w'.cell? ⟨gb127, 0, none⟩ = some (.int .i64 x128000_1) ∧ w'.cell? ⟨gb127, 1, none⟩ = some (.int .i64 x128001_1)) (ds := []) (bm_ 11 0) (by kernel_rfl) rfl rfl ⟨(blk_cell BK127.out 0).trans rfl, (blk_cell BK127.out 1).trans rfl⟩ (fun hHeld => ?_); refine with_tabW hearsayref08_Entries.tab20 hearsayref08_Entries.bits20 (fun HT_ HW_ => ?_)
 generalize wr.drew = w109 at HO_5 HO_8 HO_129002 BK119 BK127 BK128 HB hHeld ⊢
 refine pure_ (i := 0) (N := some 73) (v := ?_) (a' := ?_) (bm_ 11 1) rfl rfl (any_of HT_.out (by kernel_rfl)) (fun _ _ _ h => h) (Or.inl ⟨by rfl, ?_⟩) ?_ ?_
 rotate_left
 {
 intro w'
 go_simp
 with_reducible rfl }
 rotate_left
 {
 simp only [Act.put, sA_, s0_, sS_, i64_w, i32_w]
 rfl }
 refine pure_ (i := 1) (N := some 74) (v := ?_) (a' := ?_) (bm_ 11 3) rfl rfl (any_of HT_.out (by kernel_rfl)) (fun _ _ _ h => h) (Or.inl ⟨by rfl, ?_⟩) ?_ ?_
 rotate_left
 {
 intro w'
 go_simp
 with_reducible rfl }
 rotate_left
 {
 simp only [Act.put, sA_, s0_, sS_, i64_w, i32_w]
 rfl }
 refine pure_ (i := 2) (N := some 75) (v := ?_) (a' := ?_) (bm_ 11 7) rfl rfl (any_of HT_.out (by kernel_rfl)) (fun _ _ _ h => h) (Or.inl ⟨by rfl, ?_⟩) ?_ ?_
 rotate_left
 {
 intro w'
 go_simp
 with_reducible rfl }
 rotate_left
 {
 simp only [Act.put, sA_, s0_, sS_, i64_w, i32_w]
 rfl }
 refine pure_ (i := 3) (N := some 76) (v := ?_) (a' := ?_) (bm_ 11 15) rfl rfl (any_of HT_.out (by kernel_rfl)) (fun _ _ _ h => h) (Or.inl ⟨by rfl, ?_⟩) ?_ ?_
 rotate_left
 {
 intro w'
 go_simp
 with_reducible rfl }
 rotate_left
 {
 simp only [Act.put, sA_, s0_, sS_, i64_w, i32_w]
 rfl }
 refine pure_ (i := 4) (N := some 77) (v := ?_) (a' := ?_) (bm_ 11 31) rfl rfl (any_of HT_.out (by kernel_rfl)) (fun _ _ _ h => h) (Or.inl ⟨by rfl, ?_⟩) ?_ ?_
 rotate_left
 {
 intro w'
 go_simp
 with_reducible rfl }
 rotate_left
 {
 simp only [Act.put, sA_, s0_, sS_, i64_w, i32_w]
 rfl }
 refine pure_ (i := 6) (N := some 79) (v := ?_) (a' := ?_) (bm_ 11 95) rfl rfl (any_of HT_.out (by kernel_rfl)) (fun _ _ _ h => h) (Or.inl ⟨by rfl, ?_⟩) ?_ ?_
 rotate_left
 {
 intro w'
 go_simp
 with_reducible rfl }
 rotate_left
 {
 simp only [Act.put, sA_, s0_, sS_, i64_w, i32_w]
 rfl }
 refine take_ (i := 5) (N := some 78) (v := ?_) (a' := ?_) (bm_ 11 127) rfl rfl (take_ofW HT_.out HW_.out (by kernel_rfl)) (fun _ _ _ h => h) (Or.inl ⟨by rfl, ?_⟩) hHeld ?_ ?_
 rotate_left
 {
 rintro w' ⟨s0, s1⟩
 go_simp
 with_reducible rfl }
 rotate_left
 {
 simp only [Act.put, sA_, s0_, sS_, i64_w, i32_w]
 rfl }
 refine take_ (i := 7) (N := some 80) (v := ?_) (a' := ?_) (bm_ 11 255) rfl rfl (take_ofW HT_.out HW_.out (by kernel_rfl)) (fun _ _ _ h => h) (Or.inl ⟨by rfl, ?_⟩) hHeld ?_ ?_
 rotate_left
 {
 rintro w' ⟨s0, s1⟩
 go_simp
 with_reducible rfl }
 rotate_left
 {
 simp only [Act.put, sA_, s0_, sS_, i64_w, i32_w]
 rfl }
 refine pure_ (i := 8) (N := some 81) (v := ?_) (a' := ?_) (bm_ 11 511) rfl rfl (any_of HT_.out (by kernel_rfl)) (fun _ _ _ h => h) (Or.inl ⟨by rfl, ?_⟩) ?_ ?_
 rotate_left
 {
 intro w'
 go_simp
 with_reducible rfl }
 rotate_left
 {
 simp only [Act.put, sA_, s0_, sS_, i64_w, i32_w]
 rfl }
 refine one_ (i := 9) (N := some 14) (bm_ 11 1023) rfl rfl (one_of HT_.out (by kernel_rfl)) (by decide) (fun K hK => ?_)
 refine box_step ?hg (N := 14) ?hd (cs := #[.string (⟨#[]⟩ : ByteArray), .bool false, .int .i64 0, .int .i64 0]) (t := 23) ?hr ?_; (case hd => rfl); (case hg => rfl); (case hr => first | (go_simp; done) | (go_simp; rfl))
 intro gb144 hg w110 hbox hb
 have n0_ := Aside0.mk (Kd.R_below (by (with_reducible repeat (first | apply Kd.R_alloc | apply Kd.R_drewN | apply Kd.R_drew)); exact HO_5.out) hb)
 have n1_ := Aside0.mk (Kd.S_below (Kd.S_elderB (by (with_reducible repeat (first | apply Kd.S_alloc | apply Kd.S_drewN | apply Kd.S_drew)); exact HO_8.out) gb144 (Nat.le_of_eq hg.symm)) hb)
 have n2_ := Aside0.mk (Kd.R_below (Kd.R_elderB (by (with_reducible repeat (first | apply Kd.R_alloc | apply Kd.R_drewN | apply Kd.R_drew)); exact HO_129002.out) gb144 (Nat.le_of_eq hg.symm)) hb)
 have n3_ := Aside0.mk (blk_below (g := gb119) (o := .cells #[.int .i64 0, .int .i64 0] 30 (0, 0)) (by (with_reducible repeat (first | refine blk_drewN ?_ _ | refine blk_drew ?_ | refine blk_alloc ?_ _)); exact BK119.out) hb)
 have n4_ := Aside0.mk (blk_below (g := gb127) (o := .cells #[.int .i64 x128000_1, .int .i64 x128001_1] 30 (0, 0)) (by (with_reducible repeat (first | refine blk_drewN ?_ _ | refine blk_drew ?_ | refine blk_alloc ?_ _)); exact BK127.out) hb)
 have n5_ := Aside0.mk (blk_below (g := gb128) (o := .cells #[.bool x129000_13, .int .i64 x129001_13, u129002] 45 (0, 0)) (by (with_reducible repeat (first | refine blk_drewN ?_ _ | refine blk_drew ?_ | refine blk_alloc ?_ _)); exact BK128.out) hb)
 have n6_ := Aside0.mk (below_step (by repeat (first | (with_reducible first | exact HB.out | apply below_alloc | apply pw_below_drewN | apply below_drew1 | refine below_set ?_ GE119.out | refine below_set ?_ GE127.out | refine below_set ?_ GE128.out) | exact HB.out)) hb)
 have n7_ := Aside0.mk (hbox)
 have n8_ := Aside0.mk ((by rw [hg]; exact (below_size (by repeat (first | (with_reducible first | exact HB.out | apply below_alloc | apply pw_below_drewN | apply below_drew1 | refine below_set ?_ GE119.out | refine below_set ?_ GE127.out | refine below_set ?_ GE128.out) | exact HB.out))) : w.heap.size ≤ gb144))
 have n9_ := Aside0.mk ((by rw [hg]; exact (below_size (by repeat (first | (with_reducible first | exact HB.out | apply below_alloc | apply pw_below_drewN | apply below_drew1 | refine below_set ?_ GE119.out | refine below_set ?_ GE127.out | refine below_set ?_ GE128.out) | exact HB.out))) : w.heap.size ≤ gb144))
 have n10_ := Aside0.mk ((by rw [hg]; exact Nat.ne_of_lt (blk_lt (g := gb119) (o := .cells #[.int .i64 0, .int .i64 0] 30 (0, 0)) (by (with_reducible repeat (first | refine blk_drewN ?_ _ | refine blk_drew ?_ | refine blk_alloc ?_ _)); exact BK119.out)) : gb119 ≠ gb144))
 have n11_ := Aside0.mk ((by rw [hg]; exact Nat.ne_of_gt (blk_lt (g := gb119) (o := .cells #[.int .i64 0, .int .i64 0] 30 (0, 0)) (by (with_reducible repeat (first | refine blk_drewN ?_ _ | refine blk_drew ?_ | refine blk_alloc ?_ _)); exact BK119.out)) : gb144 ≠ gb119))
 have n12_ := Aside0.mk ((by rw [hg]; exact Nat.ne_of_lt (blk_lt (g := gb127) (o := .cells #[.int .i64 x128000_1, .int .i64 x128001_1] 30 (0, 0)) (by (with_reducible repeat (first | refine blk_drewN ?_ _ | refine blk_drew ?_ | refine blk_alloc ?_ _)); exact BK127.out)) : gb127 ≠ gb144))
 have n13_ := Aside0.mk ((by rw [hg]; exact Nat.ne_of_gt (blk_lt (g := gb127) (o := .cells #[.int .i64 x128000_1, .int .i64 x128001_1] 30 (0, 0)) (by (with_reducible repeat (first | refine blk_drewN ?_ _ | refine blk_drew ?_ | refine blk_alloc ?_ _)); exact BK127.out)) : gb144 ≠ gb127))
 have n14_ := Aside0.mk ((by rw [hg]; exact Nat.ne_of_lt (blk_lt (g := gb128) (o := .cells #[.bool x129000_13, .int .i64 x129001_13, u129002] 45 (0, 0)) (by (with_reducible repeat (first | refine blk_drewN ?_ _ | refine blk_drew ?_ | refine blk_alloc ?_ _)); exact BK128.out)) : gb128 ≠ gb144))
 have n15_ := Aside0.mk ((by rw [hg]; exact Nat.ne_of_gt (blk_lt (g := gb128) (o := .cells #[.bool x129000_13, .int .i64 x129001_13, u129002] 45 (0, 0)) (by (with_reducible repeat (first | refine blk_drewN ?_ _ | refine blk_drew ?_ | refine blk_alloc ?_ _)); exact BK128.out)) : gb144 ≠ gb128))
 clear HO_5
 clear HO_8
 clear HO_129002
 clear BK119
 clear BK127
 clear BK128
 clear HB
 have HO_5 := n0_
 have HO_8 := n1_
 have HO_129002 := n2_
 have BK119 := n3_
 have BK127 := n4_
 have BK128 := n5_
 have HB := n6_
 have BK144 := n7_
 have GW144 := n8_
 have GE144 := n9_
 have NB119_144 := n10_
 have NB144_119 := n11_
 have NB127_144 := n12_
 have NB144_127 := n13_
 have NB128_144 := n14_
 have NB144_128 := n15_
 clear n0_ n1_ n2_ n3_ n4_ n5_ n6_ n7_ n8_ n9_ n10_ n11_ n12_ n13_ n14_ n15_
 clear hb hbox hg
 refine hK.out _ _ ⟨(blk_cell BK127.out 0).trans rfl, (blk_cell BK127.out 1).trans rfl⟩ (fun hHeld => ?_)
 clear hK K
 refine norm_ (a' := ?_) ?_ ?_
 rotate_left
 {
 show Act.put _ (some 14) _ = _
 simp only [Act.put, sA_, s0_, sS_, i64_w, i32_w]
 rfl }
 refine one_ (i := 10) (N := none) (bm_ 11 2047) rfl rfl (one_of HT_.out (by kernel_rfl)) (by decide) (fun K hK => ?_)
 have hs111 : w110.cell? ⟨gb144, 0, none⟩ = some (.string (⟨#[]⟩ : ByteArray)) := (blk_cell BK144.out 0).trans rfl
 have hfs111 := blk_frozen BK144.out 0
 have hns111_0 := NB119_144.out
 have hns111_1 := NB127_144.out
 have hns111_2 := NB128_144.out
 have hms111_0 := NB144_119.out
 have hms111_1 := NB144_127.out
 have hms111_2 := NB144_128.out
 have hs112 : w110.cell? ⟨gb144, 1, none⟩ = some (.bool false) := (blk_cell BK144.out 1).trans rfl
 have hfs112 := blk_frozen BK144.out 1
 have hns112_0 := NB119_144.out
 have hns112_1 := NB127_144.out
 have hns112_2 := NB128_144.out
 have hms112_0 := NB144_119.out
 have hms112_1 := NB144_127.out
 have hms112_2 := NB144_128.out
 have hs113 : w110.cell? ⟨gb144, 2, none⟩ = some (.int .i64 0) := (blk_cell BK144.out 2).trans rfl
 have hfs113 := blk_frozen BK144.out 2
 have hns113_0 := NB119_144.out
 have hns113_1 := NB127_144.out
 have hns113_2 := NB128_144.out
 have hms113_0 := NB144_119.out
 have hms113_1 := NB144_127.out
 have hms113_2 := NB144_128.out
 have hs114 : w110.cell? ⟨gb144, 3, none⟩ = some (.int .i64 0) := (blk_cell BK144.out 3).trans rfl
 have hfs114 := blk_frozen BK144.out 3
 have hns114_0 := NB119_144.out
 have hns114_1 := NB127_144.out
 have hns114_2 := NB128_144.out
 have hms114_0 := NB144_119.out
 have hms114_1 := NB144_127.out
 have hms114_2 := NB144_128.out
 refine skip_ (w1 := ?_) (by rfl) rfl ?_ ?_
 rotate_left
 {
 go_simp
 rfl }
 refine hK.out _ _ ⟨((cell_far (p := ⟨gb144, _, none⟩) NB127_144.out _).trans (((cell_far (p := ⟨gb144, _, none⟩) NB127_144.out _).trans (((cell_far (p := ⟨gb144, _, none⟩) NB127_144.out _).trans (((cell_far (p := ⟨gb144, _, none⟩) NB127_144.out _).trans (hHeld.1)))))))), ((cell_far (p := ⟨gb144, _, none⟩) NB127_144.out _).trans (((cell_far (p := ⟨gb144, _, none⟩) NB127_144.out _).trans (((cell_far (p := ⟨gb144, _, none⟩) NB127_144.out _).trans (((cell_far (p := ⟨gb144, _, none⟩) NB127_144.out _).trans (hHeld.2))))))))⟩ (fun hHeld => ?_)
 clear hK K
 refine done_ (done_of HT_.out (by kernel_rfl)) ?_
 obtain ⟨Ao115, co115, eo115⟩ := Kd.R_slice HO_5.out
 subst eo115
 have p145 : 0 ≤ (x12_1 : Int) := of_decide_eq_true (by first | (with_reducible assumption) | assumption)
 have q145 : x12_1 < (t120.length : Int) := of_decide_eq_true (by first | (with_reducible assumption) | assumption)
 obtain ⟨ad145, e145, hx145_0⟩ := Kd.at_int (Kd.R_reads' HO_5.out).2.2 x12_1 p145 q145
 cases e145
 have hn145_0 : ad145.block ≠ gb144 := Kd.own_blk (Kd.R_ne HO_5.out BK144.out (by decide))
 have hn145_1 : ad145.block ≠ gb144 := Kd.own_blk (Kd.R_ne HO_5.out BK144.out (by decide))
 have hn145_2 : ad145.block ≠ gb144 := Kd.own_blk (Kd.R_ne HO_5.out BK144.out (by decide))
 have hn145_3 : ad145.block ≠ gb144 := Kd.own_blk (Kd.R_ne HO_5.out BK144.out (by decide))
 replace hx145_0 := (cell_far (p := ⟨gb144, 0, none⟩) (by first | (rw [add_block]; exact hn145_0) | (show (Addr.add _ _).block ≠ _; rw [add_block]; exact hn145_0) | exact hn145_0) (.string (a0.extract (x12_1 : Int).toNat (x13_4 : Int).toNat))).trans hx145_0
 replace hx145_0 := (cell_far (p := ⟨gb144, 1, none⟩) (by first | (rw [add_block]; exact hn145_1) | (show (Addr.add _ _).block ≠ _; rw [add_block]; exact hn145_1) | exact hn145_1) (.bool false)).trans hx145_0
 replace hx145_0 := (cell_far (p := ⟨gb144, 2, none⟩) (by first | (rw [add_block]; exact hn145_2) | (show (Addr.add _ _).block ≠ _; rw [add_block]; exact hn145_2) | exact hn145_2) (.int .i64 x128000_1)).trans hx145_0
 replace hx145_0 := (cell_far (p := ⟨gb144, 3, none⟩) (by first | (rw [add_block]; exact hn145_3) | (show (Addr.add _ _).block ≠ _; rw [add_block]; exact hn145_3) | exact hn145_3) (.int .i64 x128001_1)).trans hx145_0
 clear hn145_0
 clear hn145_1
 clear hn145_2
 clear hn145_3
 replace p145 := eq_true p145
 replace q145 := eq_true q145
 have hnb116 := NB128_119.out
 have hnc116 := NB119_128.out
 have hnb117 := NB128_127.out
 have hnc117 := NB127_128.out
 have hnb118 := NB128_144.out
 have hnc118 := NB144_128.out
 have hcz119_0 : w110.cell? ⟨gb128, 0, none⟩ = some (.bool x129000_13) := (blk_cell BK128.out 0).trans rfl
 have hcz119_1 : w110.cell? ⟨gb128, 1, none⟩ = some (.int .i64 x129001_13) := (blk_cell BK128.out 1).trans rfl
 have hcz119_2 : w110.cell? ⟨gb128, 2, none⟩ = some (u129002) := (blk_cell BK128.out 2).trans rfl
 have hfz119_0 := blk_frozen BK128.out 0
 have hfz119_1 := blk_frozen BK128.out 1
 have hfz119_2 := blk_frozen BK128.out 2
 have hnb120 := NB144_119.out
 have hnc120 := NB119_144.out
 have hnb121 := NB144_127.out
 have hnc121 := NB127_144.out
 have hcz122_0 : w110.cell? ⟨gb144, 0, none⟩ = some (.string (⟨#[]⟩ : ByteArray)) := (blk_cell BK144.out 0).trans rfl
 have hcz122_1 : w110.cell? ⟨gb144, 1, none⟩ = some (.bool false) := (blk_cell BK144.out 1).trans rfl
 have hcz122_2 : w110.cell? ⟨gb144, 2, none⟩ = some (.int .i64 0) := (blk_cell BK144.out 2).trans rfl
 have hcz122_3 : w110.cell? ⟨gb144, 3, none⟩ = some (.int .i64 0) := (blk_cell BK144.out 3).trans rfl
 have hfz122_0 := blk_frozen BK144.out 0
 have hfz122_1 := blk_frozen BK144.out 1
 have hfz122_2 := blk_frozen BK144.out 2
 have hfz122_3 := blk_frozen BK144.out 3
 try go_wp2_with (first | ((with_reducible refine gate_builtin (b := .append) (xs := #[.tmp 96, .tmp 98]) rfl ?_); at_builtin; refine Kd.R_append k23 (w0 := w) w.heap.size rfl (.tmp 96) (.tmp 98) 43 23 (.agg #[(.string ⟨#[]⟩), (.bool false), (.int .i64 0), (.int .i64 0)]) 40 rfl Try.underlying43 info23 rfl (by decide) (by omega) u129002 x129002_13 (⟨a0.extract (x12_1 : Int).toNat (x13_4 : Int).toNat, false, x128000_1, x128001_1⟩ : S23) [.string (a0.extract (x12_1 : Int).toNat (x13_4 : Int).toNat), .bool false, .int .i64 x128000_1, .int .i64 x128001_1] (fun k_ => k_ ≠ gb144) (fun _ => False) rfl (by first | (go_simp; done) | (go_simp; rfl)) ?aP (fun _ hk => hk.elim) ?aF ?aO ?aB ?aS ?aL ?_; (case aP => exact k23_mkM _ _ _ (⟨a0.extract (x12_1 : Int).toNat (x13_4 : Int).toNat, false, x128000_1, x128001_1⟩ : S23)); (case aB => exact (by repeat (first | (with_reducible first | exact HB.out | apply below_alloc | apply pw_below_drewN | apply below_drew1 | refine below_set ?_ GE119.out | refine below_set ?_ GE127.out | refine below_set ?_ GE128.out | refine below_set ?_ GE144.out) | exact HB.out))); (case aF => exact (fun k_ hk => Kd.freshB (g := gb144) (o := .cells #[.string (a0.extract (x12_1 : Int).toNat (x13_4 : Int).toNat), .bool false, .int .i64 x128000_1, .int .i64 x128001_1] 23 (0, 0)) (by (with_reducible repeat (first | refine blk_drewN ?_ _ | refine blk_drew ?_ | refine blk_alloc ?_ _)); refine blk_put (cs := #[.string (a0.extract (x12_1 : Int).toNat (x13_4 : Int).toNat), .bool false, .int .i64 x128000_1, .int .i64 0]) ?_ 3 _ rfl; (with_reducible repeat (first | refine blk_drewN ?_ _ | refine blk_drew ?_ | refine blk_alloc ?_ _)); refine blk_put (cs := #[.string (a0.extract (x12_1 : Int).toNat (x13_4 : Int).toNat), .bool false, .int .i64 0, .int .i64 0]) ?_ 2 _ rfl; (with_reducible repeat (first | refine blk_drewN ?_ _ | refine blk_drew ?_ | refine blk_alloc ?_ _)); refine blk_put (cs := #[.string (a0.extract (x12_1 : Int).toNat (x13_4 : Int).toNat), .bool false, .int .i64 0, .int .i64 0]) ?_ 1 _ rfl; (with_reducible repeat (first | refine blk_drewN ?_ _ | refine blk_drew ?_ | refine blk_alloc ?_ _)); refine blk_put (cs := #[.string (⟨#[]⟩ : ByteArray), .bool false, .int .i64 0, .int .i64 0]) ?_ 0 _ rfl; (with_reducible repeat (first | refine blk_drewN ?_ _ | refine blk_drew ?_ | refine blk_alloc ?_ _)); exact BK144.out) k_ hk)); (case aO => exact (by (with_reducible repeat (first | apply Kd.R_alloc | apply Kd.R_drewN | apply Kd.R_drew)); exact Kd.R_mono (Kd.R_far (p := ⟨gb144, 3, none⟩) (Kd.R_far (p := ⟨gb144, 2, none⟩) (Kd.R_far (p := ⟨gb144, 1, none⟩) (Kd.R_far (p := ⟨gb144, 0, none⟩) (Kd.R_mono HO_129002.out (fun k_ hk => (⟨hk, hk.2⟩ : _ ∧ k_ ≠ gb144))) (fun _ hk => hk.2) (.string (a0.extract (x12_1 : Int).toNat (x13_4 : Int).toNat))) (fun _ hk => hk.2) (.bool false)) (fun _ hk => hk.2) (.int .i64 x128000_1)) (fun _ hk => hk.2) (.int .i64 x128001_1)) (fun _ hk => hk.1.2))); (case aS => exact (below_size (by repeat (first | (with_reducible first | exact HB.out | apply below_alloc | apply pw_below_drewN | apply below_drew1 | refine below_set ?_ GE119.out | refine below_set ?_ GE127.out | refine below_set ?_ GE128.out | refine below_set ?_ GE144.out) | exact HB.out)))); (case aL => have := LMc108.out; omega); intro v150 w123 ho hb hg hat; rw [← Ny149.out] at ho; have n0_ := Aside0.mk (Kd.R_over' (by (with_reducible repeat (first | apply Kd.R_alloc | apply Kd.R_drewN | apply Kd.R_drew)); exact (Kd.R_mono (Kd.R_far (p := ⟨gb144, 3, none⟩) (Kd.R_far (p := ⟨gb144, 2, none⟩) (Kd.R_far (p := ⟨gb144, 1, none⟩) (Kd.R_far (p := ⟨gb144, 0, none⟩) (Kd.R_types HO_5.out BK144.out (by decide)) (fun _ hk => hk.2) (.string (a0.extract (x12_1 : Int).toNat (x13_4 : Int).toNat))) (fun _ hk => hk.2) (.bool false)) (fun _ hk => hk.2) (.int .i64 x128000_1)) (fun _ hk => hk.2) (.int .i64 x128001_1)) (fun _ h_ => h_.1))) (Kd.R_typed (by (with_reducible repeat (first | apply Kd.R_alloc | apply Kd.R_drewN | apply Kd.R_drew)); exact (Kd.R_mono (Kd.R_far (p := ⟨gb144, 3, none⟩) (Kd.R_far (p := ⟨gb144, 2, none⟩) (Kd.R_far (p := ⟨gb144, 1, none⟩) (Kd.R_far (p := ⟨gb144, 0, none⟩) (Kd.R_mono HO_129002.out (fun k_ hk => (⟨hk, hk.2⟩ : _ ∧ k_ ≠ gb144))) (fun _ hk => hk.2) (.string (a0.extract (x12_1 : Int).toNat (x13_4 : Int).toNat))) (fun _ hk => hk.2) (.bool false)) (fun _ hk => hk.2) (.int .i64 x128000_1)) (fun _ hk => hk.2) (.int .i64 x128001_1)) (fun _ h_ => h_.1)))) (by decide) hg); have n1_ := Aside0.mk (Kd.S_after (ok := (fun k_ => k_ ≠ gb128 ∧ k_ ≠ gb144)) (by (with_reducible repeat (first | apply Kd.S_alloc | apply Kd.S_drewN | apply Kd.S_drew)); exact Kd.S_mono (Kd.S_far (p := ⟨gb144, 3, none⟩) (Kd.S_far (p := ⟨gb144, 2, none⟩) (Kd.S_far (p := ⟨gb144, 1, none⟩) (Kd.S_far (p := ⟨gb144, 0, none⟩) (Kd.S_mono HO_8.out (fun k_ hk => (⟨hk, hk.2⟩ : _ ∧ k_ ≠ gb144))) (fun _ hk => hk.2) (.string (a0.extract (x12_1 : Int).toNat (x13_4 : Int).toNat))) (fun _ hk => hk.2) (.bool false)) (fun _ hk => hk.2) (.int .i64 x128000_1)) (fun _ hk => hk.2) (.int .i64 x128001_1)) (fun _ hk => ⟨⟨hk.1.1.2, hk.1.2⟩, hk.1.1.1⟩)) hg hat); have n2_ := Aside0.mk (blk_grown (g := gb119) (o := .cells #[.int .i64 0, .int .i64 0] 30 (0, 0)) (by (with_reducible repeat (first | refine blk_drewN ?_ _ | refine blk_drew ?_ | refine blk_alloc ?_ _)); refine blk_far ?_ NB119_144.out _; (with_reducible repeat (first | refine blk_drewN ?_ _ | refine blk_drew ?_ | refine blk_alloc ?_ _)); refine blk_far ?_ NB119_144.out _; (with_reducible repeat (first | refine blk_drewN ?_ _ | refine blk_drew ?_ | refine blk_alloc ?_ _)); refine blk_far ?_ NB119_144.out _; (with_reducible repeat (first | refine blk_drewN ?_ _ | refine blk_drew ?_ | refine blk_alloc ?_ _)); refine blk_far ?_ NB119_144.out _; (with_reducible repeat (first | refine blk_drewN ?_ _ | refine blk_drew ?_ | refine blk_alloc ?_ _)); exact BK119.out) hg (Kd.R_ne HO_129002.out BK119.out (by decide))); have n3_ := Aside0.mk (blk_grown (g := gb127) (o := .cells #[.int .i64 x128000_1, .int .i64 x128001_1] 30 (0, 0)) (by (with_reducible repeat (first | refine blk_drewN ?_ _ | refine blk_drew ?_ | refine blk_alloc ?_ _)); refine blk_far ?_ NB127_144.out _; (with_reducible repeat (first | refine blk_drewN ?_ _ | refine blk_drew ?_ | refine blk_alloc ?_ _)); refine blk_far ?_ NB127_144.out _; (with_reducible repeat (first | refine blk_drewN ?_ _ | refine blk_drew ?_ | refine blk_alloc ?_ _)); refine blk_far ?_ NB127_144.out _; (with_reducible repeat (first | refine blk_drewN ?_ _ | refine blk_drew ?_ | refine blk_alloc ?_ _)); refine blk_far ?_ NB127_144.out _; (with_reducible repeat (first | refine blk_drewN ?_ _ | refine blk_drew ?_ | refine blk_alloc ?_ _)); exact BK127.out) hg (Kd.R_ne HO_129002.out BK127.out (by decide))); have n4_ := Aside0.mk (blk_grown (g := gb128) (o := .cells #[.bool x129000_13, .int .i64 x129001_13, u129002] 45 (0, 0)) (by (with_reducible repeat (first | refine blk_drewN ?_ _ | refine blk_drew ?_ | refine blk_alloc ?_ _)); refine blk_far ?_ NB128_144.out _; (with_reducible repeat (first | refine blk_drewN ?_ _ | refine blk_drew ?_ | refine blk_alloc ?_ _)); refine blk_far ?_ NB128_144.out _; (with_reducible repeat (first | refine blk_drewN ?_ _ | refine blk_drew ?_ | refine blk_alloc ?_ _)); refine blk_far ?_ NB128_144.out _; (with_reducible repeat (first | refine blk_drewN ?_ _ | refine blk_drew ?_ | refine blk_alloc ?_ _)); refine blk_far ?_ NB128_144.out _; (with_reducible repeat (first | refine blk_drewN ?_ _ | refine blk_drew ?_ | refine blk_alloc ?_ _)); exact BK128.out) hg (Kd.R_ne HO_129002.out BK128.out (by decide))); have n5_ := Aside0.mk (blk_grown (g := gb144) (o := .cells #[.string (a0.extract (x12_1 : Int).toNat (x13_4 : Int).toNat), .bool false, .int .i64 x128000_1, .int .i64 x128001_1] 23 (0, 0)) (by (with_reducible repeat (first | refine blk_drewN ?_ _ | refine blk_drew ?_ | refine blk_alloc ?_ _)); refine blk_put (cs := #[.string (a0.extract (x12_1 : Int).toNat (x13_4 : Int).toNat), .bool false, .int .i64 x128000_1, .int .i64 0]) ?_ 3 _ rfl; (with_reducible repeat (first | refine blk_drewN ?_ _ | refine blk_drew ?_ | refine blk_alloc ?_ _)); refine blk_put (cs := #[.string (a0.extract (x12_1 : Int).toNat (x13_4 : Int).toNat), .bool false, .int .i64 0, .int .i64 0]) ?_ 2 _ rfl; (with_reducible repeat (first | refine blk_drewN ?_ _ | refine blk_drew ?_ | refine blk_alloc ?_ _)); refine blk_put (cs := #[.string (a0.extract (x12_1 : Int).toNat (x13_4 : Int).toNat), .bool false, .int .i64 0, .int .i64 0]) ?_ 1 _ rfl; (with_reducible repeat (first | refine blk_drewN ?_ _ | refine blk_drew ?_ | refine blk_alloc ?_ _)); refine blk_put (cs := #[.string (⟨#[]⟩ : ByteArray), .bool false, .int .i64 0, .int .i64 0]) ?_ 0 _ rfl; (with_reducible repeat (first | refine blk_drewN ?_ _ | refine blk_drew ?_ | refine blk_alloc ?_ _)); exact BK144.out) hg (Kd.R_away HO_129002.out (fun _ hk => hk.2))); have n6_ := Aside0.mk (hb); have n7_ := Aside0.mk (ho); clear HO_5; clear HO_8; clear BK119; clear BK127; clear BK128; clear BK144; clear HB; clear HO_129002; have HO_5 := n0_; have HO_8 := n1_; have BK119 := n2_; have BK127 := n3_; have BK128 := n4_; have BK144 := n5_; have HB := n6_; have HO151 := n7_; clear n0_ n1_ n2_ n3_ n4_ n5_ n6_ n7_; clear ho hb hg hat; obtain ⟨Ao124, co124, eo124⟩ := Kd.R_slice HO151.out; subst eo124; have hcz125_0 : w123.cell? ⟨gb128, 0, none⟩ = some (.bool x129000_13) := (blk_cell BK128.out 0).trans rfl; have hcz125_1 : w123.cell? ⟨gb128, 1, none⟩ = some (.int .i64 x129001_13) := (blk_cell BK128.out 1).trans rfl; have hcz125_2 : w123.cell? ⟨gb128, 2, none⟩ = some (u129002) := (blk_cell BK128.out 2).trans rfl; have hfz125_0 := blk_frozen BK128.out 0; have hfz125_1 := blk_frozen BK128.out 1; have hfz125_2 := blk_frozen BK128.out 2))
 go_meet
 case rel => exact ⟨_, (y149), (.slice Ao124 y149.length co124), H', ⟨by have := HK1.out; have := HJ13.out; have := HJ22.out; have := HK4.out; first | omega | exact Nat.le_refl _⟩, ⟨by (with_reducible repeat (first | apply Kd.R_alloc | apply Kd.R_drewN | apply Kd.R_drew)); exact Kd.R_mono (Kd.R_far (p := ⟨gb128, 2, none⟩) (Kd.R_types HO_5.out BK128.out (by decide)) (fun _ hk => hk.2) (.slice Ao124 y149.length co124)) (fun _ hk => trivial)⟩, ⟨by (with_reducible repeat (first | apply Kd.S_alloc | apply Kd.S_drewN | apply Kd.S_drew)); exact Kd.S_mono (Kd.S_far (p := ⟨gb128, 2, none⟩) (Kd.S_mono HO_8.out (fun k_ hk => (⟨hk, hk.1.1⟩ : _ ∧ k_ ≠ gb128))) (fun _ hk => hk.2) (.slice Ao124 y149.length co124)) (fun _ hk => ⟨hk.1.2, hk.1.1.1⟩)⟩, ⟨by (with_reducible repeat (first | apply Kd.R_alloc | apply Kd.R_drewN | apply Kd.R_drew)); exact Kd.R_mono (Kd.R_far (p := ⟨gb128, 2, none⟩) (Kd.R_types HO151.out BK128.out (by decide)) (fun _ hk => hk.2) (.slice Ao124 y149.length co124)) (fun _ hk => trivial)⟩, ⟨by (with_reducible repeat (first | refine blk_drewN ?_ _ | refine blk_drew ?_ | refine blk_alloc ?_ _)); refine blk_far ?_ NB119_128.out _; (with_reducible repeat (first | refine blk_drewN ?_ _ | refine blk_drew ?_ | refine blk_alloc ?_ _)); exact BK119.out⟩, ⟨by (with_reducible repeat (first | refine blk_drewN ?_ _ | refine blk_drew ?_ | refine blk_alloc ?_ _)); refine blk_far ?_ NB127_128.out _; (with_reducible repeat (first | refine blk_drewN ?_ _ | refine blk_drew ?_ | refine blk_alloc ?_ _)); exact BK127.out⟩, ⟨by (with_reducible repeat (first | refine blk_drewN ?_ _ | refine blk_drew ?_ | refine blk_alloc ?_ _)); refine blk_put (cs := #[.bool x129000_13, .int .i64 x129001_13, u129002]) ?_ 2 _ rfl; (with_reducible repeat (first | refine blk_drewN ?_ _ | refine blk_drew ?_ | refine blk_alloc ?_ _)); exact BK128.out⟩, ⟨by repeat (first | (with_reducible first | exact HB.out | apply below_alloc | apply pw_below_drewN | apply below_drew1 | refine below_set ?_ GE119.out | refine below_set ?_ GE127.out | refine below_set ?_ GE128.out | refine below_set ?_ GE144.out) | exact HB.out)⟩⟩ }
 {
 rw [if_neg c108] at H
 exact absurd H (by simp) }}}
 {
 rw [if_neg c84] at H
 exact absurd H (by simp) }}
 {
 rw [if_neg c83] at H
 exact absurd H (by simp) }}
 {
 rw [if_neg c82] at H
 exact absurd H (by simp) }}
 {
 rw [if_neg c81] at H
 exact absurd H (by simp) }}))}
 {
 replace c30 := Bool.eq_false_iff.mpr c30
 subst c30
 have H1 : (hearsayref08_Entries.j4 kj22 a0 t120 x8_1 x11_13 x12_1 x128000_1 x128001_1 x129000_13 x129001_13 x129002_13) = some (r1, r2, r3, r4) := by rw [if_neg (show ¬ (false = true) by decide)] at H; exact H
 clear H
 have H := H1
 clear H1
 have H' := Aside0.mk H
 clear H
 go_wp2
 go_meet
 case rel => exact ⟨_, (x129002_13), (u129002), H', ⟨by have := HK1.out; have := HJ13.out; have := HJ22.out; first | omega | exact Nat.le_refl _⟩, ⟨by (with_reducible repeat (first | apply Kd.R_alloc | apply Kd.R_drewN | apply Kd.R_drew)); exact HO_5.out⟩, ⟨by (with_reducible repeat (first | apply Kd.S_alloc | apply Kd.S_drewN | apply Kd.S_drew)); exact HO_8.out⟩, ⟨by (with_reducible repeat (first | apply Kd.R_alloc | apply Kd.R_drewN | apply Kd.R_drew)); exact HO_129002.out⟩, ⟨by (with_reducible repeat (first | refine blk_drewN ?_ _ | refine blk_drew ?_ | refine blk_alloc ?_ _)); exact BK119.out⟩, ⟨by (with_reducible repeat (first | refine blk_drewN ?_ _ | refine blk_drew ?_ | refine blk_alloc ?_ _)); exact BK127.out⟩, ⟨by (with_reducible repeat (first | refine blk_drewN ?_ _ | refine blk_drew ?_ | refine blk_alloc ?_ _)); exact BK128.out⟩, ⟨by repeat (first | (with_reducible first | exact HB.out | apply below_alloc | apply pw_below_drewN | apply below_drew1 | refine below_set ?_ GE119.out | refine below_set ?_ GE127.out | refine below_set ?_ GE128.out) | exact HB.out)⟩⟩ })
 case rest => (
 clear HC29
 try clear c1
 try clear p1
 try clear q1
 try clear hx1
 try clear p2
 try clear c3
 try clear c6
 try clear p6
 try clear c7
 try clear c8
 try clear c9
 try clear c10
 try clear c11
 try clear c12
 try clear p14
 try clear q14
 try clear hx14
 try clear c30
 try clear c31
 try clear c31b0
 try clear c32
 try clear c33
 try clear c36
 try clear c37
 try clear c38
 try clear c39
 try clear c63
 try clear p64
 try clear c75
 try clear c76
 try clear c81
 try clear c81b0
 try clear c81b1
 try clear c82
 try clear c82b0
 try clear c82b1
 try clear c83
 try clear c83b0
 try clear c83b1
 try clear c84
 try clear c84b0
 try clear c85
 try clear c85b0
 try clear c85b1
 try clear c87
 try clear c87b0
 try clear c87b1
 try clear c88
 try clear c88b0
 try clear c88b1
 try clear c89
 try clear c89b0
 try clear c89b1
 try clear c90
 try clear c98
 try clear c99
 try clear c100
 try clear c102
 try clear c103
 try clear c108
 try clear c116
 try clear c117
 try clear c118
 try clear c120
 try clear c121
 try clear hcz101_0
 try clear hcz101_1
 try clear hcz101_2
 try clear hcz101_3
 try clear hcz104_0
 try clear hcz104_1
 try clear hcz104_2
 try clear hcz107_0
 try clear hcz107_1
 try clear hcz107_2
 try clear hcz119_0
 try clear hcz119_1
 try clear hcz119_2
 try clear hcz122_0
 try clear hcz122_1
 try clear hcz122_2
 try clear hcz122_3
 try clear hcz125_0
 try clear hcz125_1
 try clear hcz125_2
 try clear hcz77_0
 try clear hcz77_1
 try clear hcz77_2
 try clear hcz77_3
 try clear hcz80_0
 try clear hcz80_1
 try clear hcz80_2
 try clear hfz101_0
 try clear hfz101_1
 try clear hfz101_2
 try clear hfz101_3
 try clear hfz104_0
 try clear hfz104_1
 try clear hfz104_2
 try clear hfz107_0
 try clear hfz107_1
 try clear hfz107_2
 try clear hfz119_0
 try clear hfz119_1
 try clear hfz119_2
 try clear hfz122_0
 try clear hfz122_1
 try clear hfz122_2
 try clear hfz122_3
 try clear hfz125_0
 try clear hfz125_1
 try clear hfz125_2
 try clear hfz74_2
 try clear hfz77_0
 try clear hfz77_1
 try clear hfz77_2
 try clear hfz77_3
 try clear hfz80_0
 try clear hfz80_1
 try clear hfz80_2
 try clear hx145_0
 try clear p145
 try clear q145
 obtain ⟨kq, x129002_28, u129002, HA, HJ28, HO_5, HO_8, HO_129002, BK119, BK127, BK128, HB⟩ := hcut
 cases kq with
 | zero => exact absurd HA.out (by simp [hearsayref08_Entries.j4])
 | succ kj28 => (
 have H := HA.out
 clear HA
 simp only [hearsayref08_Entries.j4] at H
 by_cases c126 : 0 ≤ x12_1
 {
 rw [if_pos c126] at H
 have c126b0 : decide (0 ≤ x12_1) = true := decide_eq_true c126
 clear c126
 by_cases c127 : x12_1 < (t120.length : Int)
 {
 rw [if_pos c127] at H
 have c127b0 : decide (x12_1 < (t120.length : Int)) = true := decide_eq_true c127
 clear c127
 by_cases c128 : (rd t120 x12_1) = 2
 {
 rw [if_pos c128] at H
 have c128b0 : ((rd t120 x12_1) == 2) = true := beq_iff_eq.mpr c128
 have c128b1 : ((rd t120 x12_1) != 2) = false := bne_eq_false_iff_eq.mpr c128
 clear c128
 by_cases c129 : (x129002_28.length : Int) > 0
 {
 rw [if_pos c129] at H
 have c129b0 : decide (0 < (x129002_28.length : Int)) = true := decide_eq_true c129
 have c129b1 : decide (0 < x129002_28.length) = true := decide_eq_true (by omega)
 clear c129
 by_cases c130 : x8_1.length < 3518437208883
 {
 rw [if_pos c130] at H
 have LMc130 := Aside0.mk c130
 clear c130
 obtain ⟨y153, hy153⟩ : ∃ y_ : List (S45), y_ = (x8_1 ++ [(⟨x129000_13, x129001_13, x129002_28⟩ : S45)]) := ⟨_, rfl⟩
 replace H : (if x12_1 < (a0.size : Int) then (if (bt a0 x12_1) = 10 then (hearsayref08_Entries.l0 kj28 a0 t120 y153 true (wrap64 (x12_1 + 1)) (wrap64 (x128000_1 + 1)) 1 false 0 ([] : List (S23))) else (hearsayref08_Entries.l0 kj28 a0 t120 y153 true (wrap64 (x12_1 + 1)) x128000_1 (wrap64 (x128001_1 + 1)) false 0 ([] : List (S23)))) else (none)) = some (r1, r2, r3, r4) := by first | (rw [hy153]; with_reducible exact H) | (have H2_ := (Option.bind_some _ _).symm.trans H; rw [hy153]; with_reducible exact H2_) | (have H2_ := (Option.bind_some _ _).symm.trans H; with_reducible exact H2_) | with_reducible exact H | (rw [hy153]; exact H) | exact H
 have Ny153 := Aside0.mk hy153
 clear hy153
 by_cases c131 : x12_1 < (a0.size : Int)
 {
 rw [if_pos c131] at H
 have c131b0 : decide (x12_1 < (a0.size : Int)) = true := decide_eq_true c131
 clear c131
 by_cases c133 : (bt a0 x12_1) = 10
 {
 rw [if_pos c133] at H
 have c133b0 : ((bt a0 x12_1) == 10) = true := beq_iff_eq.mpr c133
 have c133b1 : ((bt a0 x12_1) != 10) = false := bne_eq_false_iff_eq.mpr c133
 clear c133
 have H' := Aside0.mk H
 clear H
 obtain ⟨Ao134, co134, eo134⟩ := Kd.R_slice HO_5.out
 subst eo134
 have p152 : 0 ≤ (x12_1 : Int) := of_decide_eq_true (by first | (with_reducible assumption) | assumption)
 have q152 : x12_1 < (t120.length : Int) := of_decide_eq_true (by first | (with_reducible assumption) | assumption)
 obtain ⟨ad152, e152, hx152_0⟩ := Kd.at_int (Kd.R_reads' HO_5.out).2.2 x12_1 p152 q152
 cases e152
 replace p152 := eq_true p152
 replace q152 := eq_true q152
 have hnb135 := NB128_119.out
 have hnc135 := NB119_128.out
 have hnb136 := NB128_127.out
 have hnc136 := NB127_128.out
 have hcz137_0 : wc.cell? ⟨gb128, 0, none⟩ = some (.bool x129000_13) := (blk_cell BK128.out 0).trans rfl
 have hcz137_1 : wc.cell? ⟨gb128, 1, none⟩ = some (.int .i64 x129001_13) := (blk_cell BK128.out 1).trans rfl
 have hcz137_2 : wc.cell? ⟨gb128, 2, none⟩ = some (u129002) := (blk_cell BK128.out 2).trans rfl
 have hfz137_0 := blk_frozen BK128.out 0
 have hfz137_1 := blk_frozen BK128.out 1
 have hfz137_2 := blk_frozen BK128.out 2
 obtain ⟨Ao138, co138, eo138⟩ := Kd.R_slice HO_129002.out
 subst eo138
 go_wp2_with (first | ((with_reducible refine gate_builtin (b := .append) (xs := #[.tmp 110, .tmp 112]) rfl ?_); at_builtin; refine Kd.S_append k45 (w0 := w) w.heap.size rfl (.tmp 110) (.tmp 112) 28 45 (.agg #[(.bool false), (.int .i64 0), (.slice none 0 0)]) 40 rfl Try.underlying28 info45 rfl (by decide) (by omega) u8 x8_1 (⟨x129000_13, x129001_13, x129002_28⟩ : S45) [.bool x129000_13, .int .i64 x129001_13, .slice Ao138 x129002_28.length co138] (fun k_ => k_ ≠ gb128) (fun k_ => some k_ = (.slice Ao138 x129002_28.length co138 : Value).ownBlock) rfl rfl ?aP (fun k_ hk_ => ((Kd.R_mono (ok' := fun k_ => ((fun k_ => k_ ≠ gb128)) k_ ∧ some k_ ≠ (u8 : Value).ownBlock) (Kd.R_types (Kd.R_apart' (HO_129002.out) (Kd.S_typed HO_8.out) (by decide)) BK128.out (by decide)) (fun k_ hk => ⟨hk.2, hk.1.2⟩))).1 k_ hk_.symm) ?aF ?aO ?aB ?aS ?aL ?_; (case aP => exact k45_mkM _ _ _ (⟨x129000_13, x129001_13, x129002_28⟩ : S45) (Kd.R_mono (Kd.R_tight rfl (Kd.R_mono (ok' := fun k_ => ((fun k_ => k_ ≠ gb128)) k_ ∧ some k_ ≠ (u8 : Value).ownBlock) (Kd.R_types (Kd.R_apart' (HO_129002.out) (Kd.S_typed HO_8.out) (by decide)) BK128.out (by decide)) (fun k_ hk => ⟨hk.2, hk.1.2⟩))) (fun _ h_ => h_))); (case aB => exact (by repeat (first | (with_reducible first | exact HB.out | apply below_alloc | apply pw_below_drewN | apply below_drew1 | refine below_set ?_ GE119.out | refine below_set ?_ GE127.out | refine below_set ?_ GE128.out) | exact HB.out))); (case aF => exact (fun k_ hk => Kd.freshB (g := gb128) (o := .cells #[.bool x129000_13, .int .i64 x129001_13, .slice Ao138 x129002_28.length co138] 45 (0, 0)) (by (with_reducible repeat (first | refine blk_drewN ?_ _ | refine blk_drew ?_ | refine blk_alloc ?_ _)); exact BK128.out) k_ hk)); (case aO => exact (by (with_reducible repeat (first | apply Kd.S_alloc | apply Kd.S_drewN | apply Kd.S_drew)); exact Kd.S_mono HO_8.out (fun k_ hk => ⟨hk.2, fun e_ => hk.1 e_⟩))); (case aS => exact (below_size (by repeat (first | (with_reducible first | exact HB.out | apply below_alloc | apply pw_below_drewN | apply below_drew1 | refine below_set ?_ GE119.out | refine below_set ?_ GE127.out | refine below_set ?_ GE128.out) | exact HB.out)))); (case aL => have := LMc130.out; omega); intro v154 w139 ho hb hg hat; rw [← Ny153.out] at ho; have n0_ := Aside0.mk (Kd.R_over' (by (with_reducible repeat (first | apply Kd.R_alloc | apply Kd.R_drewN | apply Kd.R_drew)); exact HO_5.out) (Kd.S_typed (by (with_reducible repeat (first | apply Kd.S_alloc | apply Kd.S_drewN | apply Kd.S_drew)); exact HO_8.out)) (by decide) hg); have n1_ := Aside0.mk (blk_grown (g := gb119) (o := .cells #[.int .i64 0, .int .i64 0] 30 (0, 0)) (by (with_reducible repeat (first | refine blk_drewN ?_ _ | refine blk_drew ?_ | refine blk_alloc ?_ _)); exact BK119.out) hg (Kd.S_ne HO_8.out BK119.out (by decide))); have n2_ := Aside0.mk (blk_grown (g := gb127) (o := .cells #[.int .i64 x128000_1, .int .i64 x128001_1] 30 (0, 0)) (by (with_reducible repeat (first | refine blk_drewN ?_ _ | refine blk_drew ?_ | refine blk_alloc ?_ _)); exact BK127.out) hg (Kd.S_ne HO_8.out BK127.out (by decide))); have n3_ := Aside0.mk (blk_grown (g := gb128) (o := .cells #[.bool x129000_13, .int .i64 x129001_13, .slice Ao138 x129002_28.length co138] 45 (0, 0)) (by (with_reducible repeat (first | refine blk_drewN ?_ _ | refine blk_drew ?_ | refine blk_alloc ?_ _)); exact BK128.out) hg (Kd.S_away HO_8.out (fun _ hk => hk.2))); have n4_ := Aside0.mk (hb); have n5_ := Aside0.mk (ho); clear HO_5; clear BK119; clear BK127; clear BK128; clear HB; clear HO_8; clear HO_129002; have HO_5 := n0_; have BK119 := n1_; have BK127 := n2_; have BK128 := n3_; have HB := n4_; have HO155 := n5_; clear n0_ n1_ n2_ n3_ n4_ n5_; clear ho hb hg hat; have hcz140_0 : w139.cell? ⟨gb128, 0, none⟩ = some (.bool x129000_13) := (blk_cell BK128.out 0).trans rfl; have hcz140_1 : w139.cell? ⟨gb128, 1, none⟩ = some (.int .i64 x129001_13) := (blk_cell BK128.out 1).trans rfl; have hcz140_2 : w139.cell? ⟨gb128, 2, none⟩ = some (.slice Ao138 x129002_28.length co138) := (blk_cell BK128.out 2).trans rfl; have hfz140_0 := blk_frozen BK128.out 0; have hfz140_1 := blk_frozen BK128.out 1; have hfz140_2 := blk_frozen BK128.out 2; have hnb141 := NB127_119.out; have hnc141 := NB119_127.out; have hcz142_0 : w139.cell? ⟨gb127, 0, none⟩ = some (.int .i64 x128000_1) := (blk_cell BK127.out 0).trans rfl; have hcz142_1 : w139.cell? ⟨gb127, 1, none⟩ = some (.int .i64 x128001_1) := (blk_cell BK127.out 1).trans rfl; have hfz142_0 := blk_frozen BK127.out 0; have hfz142_1 := blk_frozen BK127.out 1; have p132 : 0 ≤ (x12_1 : Int) := of_decide_eq_true (by first | (with_reducible assumption) | assumption); have q132 : x12_1 < (a0.size : Int) := of_decide_eq_true (by first | (with_reducible assumption) | assumption); have hx132 := bt_at a0 x12_1; replace p132 := eq_true p132; replace q132 := eq_true q132))
 go_roundg kj28
 case measure => have := HK1.out; have := HJ13.out; have := HJ22.out; have := HJ28.out; omega
 case rel => exact ⟨(y153), (true), (wrap64 (x12_1 + 1)), (wrap64 (x128000_1 + 1)), (1), (false), (0), (([] : List (S23))), (.slice none 0 0), (by first | rfl | (simp; done) | (simp [*]; done)), (by first | rfl | (simp; done) | (simp [*]; done)), H', ⟨by have := HK1.out; have := HJ13.out; have := HJ22.out; have := HJ28.out; omega⟩, ⟨by (with_reducible repeat (first | apply Kd.R_alloc | apply Kd.R_drewN | apply Kd.R_drew)); exact Kd.R_mono (Kd.R_far (p := ⟨gb127, 1, none⟩) (Kd.R_far (p := ⟨gb127, 0, none⟩) (Kd.R_far (p := ⟨gb127, 1, none⟩) (Kd.R_far (p := ⟨gb128, 2, none⟩) (Kd.R_far (p := ⟨gb128, 1, none⟩) (Kd.R_far (p := ⟨gb128, 0, none⟩) (Kd.R_types (Kd.R_types HO_5.out BK128.out (by decide)) BK127.out (by decide)) (fun _ hk => hk.1.2) (.bool false)) (fun _ hk => hk.1.2) (.int .i64 0)) (fun _ hk => hk.1.2) (.slice none 0 0)) (fun _ hk => hk.2) (.int .i64 (wrap64 (x128001_1 + 1)))) (fun _ hk => hk.2) (.int .i64 (wrap64 (x128000_1 + 1)))) (fun _ hk => hk.2) (.int .i64 1)) (fun _ hk => trivial)⟩, ⟨by (with_reducible repeat (first | apply Kd.S_alloc | apply Kd.S_drewN | apply Kd.S_drew)); exact Kd.S_mono (Kd.S_far (p := ⟨gb127, 1, none⟩) (Kd.S_far (p := ⟨gb127, 0, none⟩) (Kd.S_far (p := ⟨gb127, 1, none⟩) (Kd.S_far (p := ⟨gb128, 2, none⟩) (Kd.S_far (p := ⟨gb128, 1, none⟩) (Kd.S_far (p := ⟨gb128, 0, none⟩) (Kd.S_types (Kd.S_mono HO155.out (fun k_ hk => (⟨hk, hk⟩ : _ ∧ k_ ≠ gb128))) BK127.out (by decide)) (fun _ hk => hk.1.2) (.bool false)) (fun _ hk => hk.1.2) (.int .i64 0)) (fun _ hk => hk.1.2) (.slice none 0 0)) (fun _ hk => hk.2) (.int .i64 (wrap64 (x128001_1 + 1)))) (fun _ hk => hk.2) (.int .i64 (wrap64 (x128000_1 + 1)))) (fun _ hk => hk.2) (.int .i64 1)) (fun _ hk => ⟨(by simp [Value.ownBlock]), hk.1.1⟩)⟩, ⟨by first | exact Kd.R_nil _ _ _ _ _ | exact Kd.N_nil _ _ _ _ _ | exact Kd.V_nil _ _ _ _ _ | exact Kd.Q_nil _ _ _ _ _ | exact Kd.S_nil _ _ _ _ _⟩, ⟨by (with_reducible repeat (first | refine blk_drewN ?_ _ | refine blk_drew ?_ | refine blk_alloc ?_ _)); refine blk_far ?_ NB119_127.out _; (with_reducible repeat (first | refine blk_drewN ?_ _ | refine blk_drew ?_ | refine blk_alloc ?_ _)); refine blk_far ?_ NB119_127.out _; (with_reducible repeat (first | refine blk_drewN ?_ _ | refine blk_drew ?_ | refine blk_alloc ?_ _)); refine blk_far ?_ NB119_127.out _; (with_reducible repeat (first | refine blk_drewN ?_ _ | refine blk_drew ?_ | refine blk_alloc ?_ _)); refine blk_far ?_ NB119_128.out _; (with_reducible repeat (first | refine blk_drewN ?_ _ | refine blk_drew ?_ | refine blk_alloc ?_ _)); refine blk_far ?_ NB119_128.out _; (with_reducible repeat (first | refine blk_drewN ?_ _ | refine blk_drew ?_ | refine blk_alloc ?_ _)); refine blk_far ?_ NB119_128.out _; (with_reducible repeat (first | refine blk_drewN ?_ _ | refine blk_drew ?_ | refine blk_alloc ?_ _)); exact BK119.out⟩, ⟨by (with_reducible repeat (first | refine blk_drewN ?_ _ | refine blk_drew ?_ | refine blk_alloc ?_ _)); refine blk_put (cs := #[.int .i64 (wrap64 (x128000_1 + 1)), .int .i64 (wrap64 (x128001_1 + 1))]) ?_ 1 _ rfl; (with_reducible repeat (first | refine blk_drewN ?_ _ | refine blk_drew ?_ | refine blk_alloc ?_ _)); refine blk_put (cs := #[.int .i64 x128000_1, .int .i64 (wrap64 (x128001_1 + 1))]) ?_ 0 _ rfl; (with_reducible repeat (first | refine blk_drewN ?_ _ | refine blk_drew ?_ | refine blk_alloc ?_ _)); refine blk_put (cs := #[.int .i64 x128000_1, .int .i64 x128001_1]) ?_ 1 _ rfl; (with_reducible repeat (first | refine blk_drewN ?_ _ | refine blk_drew ?_ | refine blk_alloc ?_ _)); refine blk_far ?_ NB127_128.out _; (with_reducible repeat (first | refine blk_drewN ?_ _ | refine blk_drew ?_ | refine blk_alloc ?_ _)); refine blk_far ?_ NB127_128.out _; (with_reducible repeat (first | refine blk_drewN ?_ _ | refine blk_drew ?_ | refine blk_alloc ?_ _)); refine blk_far ?_ NB127_128.out _; (with_reducible repeat (first | refine blk_drewN ?_ _ | refine blk_drew ?_ | refine blk_alloc ?_ _)); exact BK127.out⟩, ⟨by (with_reducible repeat (first | refine blk_drewN ?_ _ | refine blk_drew ?_ | refine blk_alloc ?_ _)); refine blk_far ?_ NB128_127.out _; (with_reducible repeat (first | refine blk_drewN ?_ _ | refine blk_drew ?_ | refine blk_alloc ?_ _)); refine blk_far ?_ NB128_127.out _; (with_reducible repeat (first | refine blk_drewN ?_ _ | refine blk_drew ?_ | refine blk_alloc ?_ _)); refine blk_far ?_ NB128_127.out _; (with_reducible repeat (first | refine blk_drewN ?_ _ | refine blk_drew ?_ | refine blk_alloc ?_ _)); refine blk_put (cs := #[.bool false, .int .i64 0, .slice Ao138 x129002_28.length co138]) ?_ 2 _ rfl; (with_reducible repeat (first | refine blk_drewN ?_ _ | refine blk_drew ?_ | refine blk_alloc ?_ _)); refine blk_put (cs := #[.bool false, .int .i64 x129001_13, .slice Ao138 x129002_28.length co138]) ?_ 1 _ rfl; (with_reducible repeat (first | refine blk_drewN ?_ _ | refine blk_drew ?_ | refine blk_alloc ?_ _)); refine blk_put (cs := #[.bool x129000_13, .int .i64 x129001_13, .slice Ao138 x129002_28.length co138]) ?_ 0 _ rfl; (with_reducible repeat (first | refine blk_drewN ?_ _ | refine blk_drew ?_ | refine blk_alloc ?_ _)); exact BK128.out⟩, ⟨by repeat (first | (with_reducible first | exact HB.out | apply below_alloc | apply pw_below_drewN | apply below_drew1 | refine below_set ?_ GE119.out | refine below_set ?_ GE127.out | refine below_set ?_ GE128.out) | exact HB.out)⟩⟩ }
 {
 rw [if_neg c133] at H
 have c133b0 : ((bt a0 x12_1) == 10) = false := beq_eq_false_iff_ne.mpr c133
 have c133b1 : ((bt a0 x12_1) != 10) = true := bne_iff_ne.mpr c133
 have H' := Aside0.mk H
 clear H
 obtain ⟨Ao143, co143, eo143⟩ := Kd.R_slice HO_5.out
 subst eo143
 have p152 : 0 ≤ (x12_1 : Int) := of_decide_eq_true (by first | (with_reducible assumption) | assumption)
 have q152 : x12_1 < (t120.length : Int) := of_decide_eq_true (by first | (with_reducible assumption) | assumption)
 obtain ⟨ad152, e152, hx152_0⟩ := Kd.at_int (Kd.R_reads' HO_5.out).2.2 x12_1 p152 q152
 cases e152
 replace p152 := eq_true p152
 replace q152 := eq_true q152
 have hnb144 := NB128_119.out
 have hnc144 := NB119_128.out
 have hnb145 := NB128_127.out
 have hnc145 := NB127_128.out
 have hcz146_0 : wc.cell? ⟨gb128, 0, none⟩ = some (.bool x129000_13) := (blk_cell BK128.out 0).trans rfl
 have hcz146_1 : wc.cell? ⟨gb128, 1, none⟩ = some (.int .i64 x129001_13) := (blk_cell BK128.out 1).trans rfl
 have hcz146_2 : wc.cell? ⟨gb128, 2, none⟩ = some (u129002) := (blk_cell BK128.out 2).trans rfl
 have hfz146_0 := blk_frozen BK128.out 0
 have hfz146_1 := blk_frozen BK128.out 1
 have hfz146_2 := blk_frozen BK128.out 2
 obtain ⟨Ao147, co147, eo147⟩ := Kd.R_slice HO_129002.out
 subst eo147
 go_wp2_with (first | ((with_reducible refine gate_builtin (b := .append) (xs := #[.tmp 110, .tmp 112]) rfl ?_); at_builtin; refine Kd.S_append k45 (w0 := w) w.heap.size rfl (.tmp 110) (.tmp 112) 28 45 (.agg #[(.bool false), (.int .i64 0), (.slice none 0 0)]) 40 rfl Try.underlying28 info45 rfl (by decide) (by omega) u8 x8_1 (⟨x129000_13, x129001_13, x129002_28⟩ : S45) [.bool x129000_13, .int .i64 x129001_13, .slice Ao147 x129002_28.length co147] (fun k_ => k_ ≠ gb128) (fun k_ => some k_ = (.slice Ao147 x129002_28.length co147 : Value).ownBlock) rfl rfl ?aP (fun k_ hk_ => ((Kd.R_mono (ok' := fun k_ => ((fun k_ => k_ ≠ gb128)) k_ ∧ some k_ ≠ (u8 : Value).ownBlock) (Kd.R_types (Kd.R_apart' (HO_129002.out) (Kd.S_typed HO_8.out) (by decide)) BK128.out (by decide)) (fun k_ hk => ⟨hk.2, hk.1.2⟩))).1 k_ hk_.symm) ?aF ?aO ?aB ?aS ?aL ?_; (case aP => exact k45_mkM _ _ _ (⟨x129000_13, x129001_13, x129002_28⟩ : S45) (Kd.R_mono (Kd.R_tight rfl (Kd.R_mono (ok' := fun k_ => ((fun k_ => k_ ≠ gb128)) k_ ∧ some k_ ≠ (u8 : Value).ownBlock) (Kd.R_types (Kd.R_apart' (HO_129002.out) (Kd.S_typed HO_8.out) (by decide)) BK128.out (by decide)) (fun k_ hk => ⟨hk.2, hk.1.2⟩))) (fun _ h_ => h_))); (case aB => exact (by repeat (first | (with_reducible first | exact HB.out | apply below_alloc | apply pw_below_drewN | apply below_drew1 | refine below_set ?_ GE119.out | refine below_set ?_ GE127.out | refine below_set ?_ GE128.out) | exact HB.out))); (case aF => exact (fun k_ hk => Kd.freshB (g := gb128) (o := .cells #[.bool x129000_13, .int .i64 x129001_13, .slice Ao147 x129002_28.length co147] 45 (0, 0)) (by (with_reducible repeat (first | refine blk_drewN ?_ _ | refine blk_drew ?_ | refine blk_alloc ?_ _)); exact BK128.out) k_ hk)); (case aO => exact (by (with_reducible repeat (first | apply Kd.S_alloc | apply Kd.S_drewN | apply Kd.S_drew)); exact Kd.S_mono HO_8.out (fun k_ hk => ⟨hk.2, fun e_ => hk.1 e_⟩))); (case aS => exact (below_size (by repeat (first | (with_reducible first | exact HB.out | apply below_alloc | apply pw_below_drewN | apply below_drew1 | refine below_set ?_ GE119.out | refine below_set ?_ GE127.out | refine below_set ?_ GE128.out) | exact HB.out)))); (case aL => have := LMc130.out; omega); intro v154 w148 ho hb hg hat; rw [← Ny153.out] at ho; have n0_ := Aside0.mk (Kd.R_over' (by (with_reducible repeat (first | apply Kd.R_alloc | apply Kd.R_drewN | apply Kd.R_drew)); exact HO_5.out) (Kd.S_typed (by (with_reducible repeat (first | apply Kd.S_alloc | apply Kd.S_drewN | apply Kd.S_drew)); exact HO_8.out)) (by decide) hg); have n1_ := Aside0.mk (blk_grown (g := gb119) (o := .cells #[.int .i64 0, .int .i64 0] 30 (0, 0)) (by (with_reducible repeat (first | refine blk_drewN ?_ _ | refine blk_drew ?_ | refine blk_alloc ?_ _)); exact BK119.out) hg (Kd.S_ne HO_8.out BK119.out (by decide))); have n2_ := Aside0.mk (blk_grown (g := gb127) (o := .cells #[.int .i64 x128000_1, .int .i64 x128001_1] 30 (0, 0)) (by (with_reducible repeat (first | refine blk_drewN ?_ _ | refine blk_drew ?_ | refine blk_alloc ?_ _)); exact BK127.out) hg (Kd.S_ne HO_8.out BK127.out (by decide))); have n3_ := Aside0.mk (blk_grown (g := gb128) (o := .cells #[.bool x129000_13, .int .i64 x129001_13, .slice Ao147 x129002_28.length co147] 45 (0, 0)) (by (with_reducible repeat (first | refine blk_drewN ?_ _ | refine blk_drew ?_ | refine blk_alloc ?_ _)); exact BK128.out) hg (Kd.S_away HO_8.out (fun _ hk => hk.2))); have n4_ := Aside0.mk (hb); have n5_ := Aside0.mk (ho); clear HO_5; clear BK119; clear BK127; clear BK128; clear HB; clear HO_8; clear HO_129002; have HO_5 := n0_; have BK119 := n1_; have BK127 := n2_; have BK128 := n3_; have HB := n4_; have HO155 := n5_; clear n0_ n1_ n2_ n3_ n4_ n5_; clear ho hb hg hat; have hcz149_0 : w148.cell? ⟨gb128, 0, none⟩ = some (.bool x129000_13) := (blk_cell BK128.out 0).trans rfl; have hcz149_1 : w148.cell? ⟨gb128, 1, none⟩ = some (.int .i64 x129001_13) := (blk_cell BK128.out 1).trans rfl; have hcz149_2 : w148.cell? ⟨gb128, 2, none⟩ = some (.slice Ao147 x129002_28.length co147) := (blk_cell BK128.out 2).trans rfl; have hfz149_0 := blk_frozen BK128.out 0; have hfz149_1 := blk_frozen BK128.out 1; have hfz149_2 := blk_frozen BK128.out 2; have hnb150 := NB127_119.out; have hnc150 := NB119_127.out; have hcz151_0 : w148.cell? ⟨gb127, 0, none⟩ = some (.int .i64 x128000_1) := (blk_cell BK127.out 0).trans rfl; have hcz151_1 : w148.cell? ⟨gb127, 1, none⟩ = some (.int .i64 x128001_1) := (blk_cell BK127.out 1).trans rfl; have hfz151_0 := blk_frozen BK127.out 0; have hfz151_1 := blk_frozen BK127.out 1; have p132 : 0 ≤ (x12_1 : Int) := of_decide_eq_true (by first | (with_reducible assumption) | assumption); have q132 : x12_1 < (a0.size : Int) := of_decide_eq_true (by first | (with_reducible assumption) | assumption); have hx132 := bt_at a0 x12_1; replace p132 := eq_true p132; replace q132 := eq_true q132))
 go_roundg kj28
 case measure => have := HK1.out; have := HJ13.out; have := HJ22.out; have := HJ28.out; omega
 case rel => exact ⟨(y153), (true), (wrap64 (x12_1 + 1)), (x128000_1), (wrap64 (x128001_1 + 1)), (false), (0), (([] : List (S23))), (.slice none 0 0), (by first | rfl | (simp; done) | (simp [*]; done)), (by first | rfl | (simp; done) | (simp [*]; done)), H', ⟨by have := HK1.out; have := HJ13.out; have := HJ22.out; have := HJ28.out; omega⟩, ⟨by (with_reducible repeat (first | apply Kd.R_alloc | apply Kd.R_drewN | apply Kd.R_drew)); exact Kd.R_mono (Kd.R_far (p := ⟨gb127, 1, none⟩) (Kd.R_far (p := ⟨gb128, 2, none⟩) (Kd.R_far (p := ⟨gb128, 1, none⟩) (Kd.R_far (p := ⟨gb128, 0, none⟩) (Kd.R_types (Kd.R_types HO_5.out BK128.out (by decide)) BK127.out (by decide)) (fun _ hk => hk.1.2) (.bool false)) (fun _ hk => hk.1.2) (.int .i64 0)) (fun _ hk => hk.1.2) (.slice none 0 0)) (fun _ hk => hk.2) (.int .i64 (wrap64 (x128001_1 + 1)))) (fun _ hk => trivial)⟩, ⟨by (with_reducible repeat (first | apply Kd.S_alloc | apply Kd.S_drewN | apply Kd.S_drew)); exact Kd.S_mono (Kd.S_far (p := ⟨gb127, 1, none⟩) (Kd.S_far (p := ⟨gb128, 2, none⟩) (Kd.S_far (p := ⟨gb128, 1, none⟩) (Kd.S_far (p := ⟨gb128, 0, none⟩) (Kd.S_types (Kd.S_mono HO155.out (fun k_ hk => (⟨hk, hk⟩ : _ ∧ k_ ≠ gb128))) BK127.out (by decide)) (fun _ hk => hk.1.2) (.bool false)) (fun _ hk => hk.1.2) (.int .i64 0)) (fun _ hk => hk.1.2) (.slice none 0 0)) (fun _ hk => hk.2) (.int .i64 (wrap64 (x128001_1 + 1)))) (fun _ hk => ⟨(by simp [Value.ownBlock]), hk.1.1⟩)⟩, ⟨by first | exact Kd.R_nil _ _ _ _ _ | exact Kd.N_nil _ _ _ _ _ | exact Kd.V_nil _ _ _ _ _ | exact Kd.Q_nil _ _ _ _ _ | exact Kd.S_nil _ _ _ _ _⟩, ⟨by (with_reducible repeat (first | refine blk_drewN ?_ _ | refine blk_drew ?_ | refine blk_alloc ?_ _)); refine blk_far ?_ NB119_127.out _; (with_reducible repeat (first | refine blk_drewN ?_ _ | refine blk_drew ?_ | refine blk_alloc ?_ _)); refine blk_far ?_ NB119_128.out _; (with_reducible repeat (first | refine blk_drewN ?_ _ | refine blk_drew ?_ | refine blk_alloc ?_ _)); refine blk_far ?_ NB119_128.out _; (with_reducible repeat (first | refine blk_drewN ?_ _ | refine blk_drew ?_ | refine blk_alloc ?_ _)); refine blk_far ?_ NB119_128.out _; (with_reducible repeat (first | refine blk_drewN ?_ _ | refine blk_drew ?_ | refine blk_alloc ?_ _)); exact BK119.out⟩, ⟨by (with_reducible repeat (first | refine blk_drewN ?_ _ | refine blk_drew ?_ | refine blk_alloc ?_ _)); refine blk_put (cs := #[.int .i64 x128000_1, .int .i64 x128001_1]) ?_ 1 _ rfl; (with_reducible repeat (first | refine blk_drewN ?_ _ | refine blk_drew ?_ | refine blk_alloc ?_ _)); refine blk_far ?_ NB127_128.out _; (with_reducible repeat (first | refine blk_drewN ?_ _ | refine blk_drew ?_ | refine blk_alloc ?_ _)); refine blk_far ?_ NB127_128.out _; (with_reducible repeat (first | refine blk_drewN ?_ _ | refine blk_drew ?_ | refine blk_alloc ?_ _)); refine blk_far ?_ NB127_128.out _; (with_reducible repeat (first | refine blk_drewN ?_ _ | refine blk_drew ?_ | refine blk_alloc ?_ _)); exact BK127.out⟩, ⟨by (with_reducible repeat (first | refine blk_drewN ?_ _ | refine blk_drew ?_ | refine blk_alloc ?_ _)); refine blk_far ?_ NB128_127.out _; (with_reducible repeat (first | refine blk_drewN ?_ _ | refine blk_drew ?_ | refine blk_alloc ?_ _)); refine blk_put (cs := #[.bool false, .int .i64 0, .slice Ao147 x129002_28.length co147]) ?_ 2 _ rfl; (with_reducible repeat (first | refine blk_drewN ?_ _ | refine blk_drew ?_ | refine blk_alloc ?_ _)); refine blk_put (cs := #[.bool false, .int .i64 x129001_13, .slice Ao147 x129002_28.length co147]) ?_ 1 _ rfl; (with_reducible repeat (first | refine blk_drewN ?_ _ | refine blk_drew ?_ | refine blk_alloc ?_ _)); refine blk_put (cs := #[.bool x129000_13, .int .i64 x129001_13, .slice Ao147 x129002_28.length co147]) ?_ 0 _ rfl; (with_reducible repeat (first | refine blk_drewN ?_ _ | refine blk_drew ?_ | refine blk_alloc ?_ _)); exact BK128.out⟩, ⟨by repeat (first | (with_reducible first | exact HB.out | apply below_alloc | apply pw_below_drewN | apply below_drew1 | refine below_set ?_ GE119.out | refine below_set ?_ GE127.out | refine below_set ?_ GE128.out) | exact HB.out)⟩⟩ }}
 {
 rw [if_neg c131] at H
 exact absurd H (by simp) }}
 {
 rw [if_neg c130] at H
 exact absurd H (by simp) }}
 {
 rw [if_neg c129] at H
 have c129b0 : decide (0 < (x129002_28.length : Int)) = false := decide_eq_false c129
 have c129b1 : decide (0 < x129002_28.length) = false := decide_eq_false (by omega)
 clear c129
 by_cases c152 : x12_1 < (a0.size : Int)
 {
 rw [if_pos c152] at H
 have c152b0 : decide (x12_1 < (a0.size : Int)) = true := decide_eq_true c152
 clear c152
 by_cases c154 : (bt a0 x12_1) = 10
 {
 rw [if_pos c154] at H
 have c154b0 : ((bt a0 x12_1) == 10) = true := beq_iff_eq.mpr c154
 have c154b1 : ((bt a0 x12_1) != 10) = false := bne_eq_false_iff_eq.mpr c154
 clear c154
 have H' := Aside0.mk H
 clear H
 obtain ⟨Ao155, co155, eo155⟩ := Kd.R_slice HO_5.out
 subst eo155
 have p152 : 0 ≤ (x12_1 : Int) := of_decide_eq_true (by first | (with_reducible assumption) | assumption)
 have q152 : x12_1 < (t120.length : Int) := of_decide_eq_true (by first | (with_reducible assumption) | assumption)
 obtain ⟨ad152, e152, hx152_0⟩ := Kd.at_int (Kd.R_reads' HO_5.out).2.2 x12_1 p152 q152
 cases e152
 replace p152 := eq_true p152
 replace q152 := eq_true q152
 have hnb156 := NB128_119.out
 have hnc156 := NB119_128.out
 have hnb157 := NB128_127.out
 have hnc157 := NB127_128.out
 have hcz158_0 : wc.cell? ⟨gb128, 0, none⟩ = some (.bool x129000_13) := (blk_cell BK128.out 0).trans rfl
 have hcz158_1 : wc.cell? ⟨gb128, 1, none⟩ = some (.int .i64 x129001_13) := (blk_cell BK128.out 1).trans rfl
 have hcz158_2 : wc.cell? ⟨gb128, 2, none⟩ = some (u129002) := (blk_cell BK128.out 2).trans rfl
 have hfz158_0 := blk_frozen BK128.out 0
 have hfz158_1 := blk_frozen BK128.out 1
 have hfz158_2 := blk_frozen BK128.out 2
 obtain ⟨Ao159, co159, eo159⟩ := Kd.R_slice HO_129002.out
 subst eo159
 have hnb160 := NB127_119.out
 have hnc160 := NB119_127.out
 have hcz161_0 : wc.cell? ⟨gb127, 0, none⟩ = some (.int .i64 x128000_1) := (blk_cell BK127.out 0).trans rfl
 have hcz161_1 : wc.cell? ⟨gb127, 1, none⟩ = some (.int .i64 x128001_1) := (blk_cell BK127.out 1).trans rfl
 have hfz161_0 := blk_frozen BK127.out 0
 have hfz161_1 := blk_frozen BK127.out 1
 have p153 : 0 ≤ (x12_1 : Int) := of_decide_eq_true (by first | (with_reducible assumption) | assumption)
 have q153 : x12_1 < (a0.size : Int) := of_decide_eq_true (by first | (with_reducible assumption) | assumption)
 have hx153 := bt_at a0 x12_1
 replace p153 := eq_true p153
 replace q153 := eq_true q153
 go_wp2
 go_roundg kj28
 case measure => have := HK1.out; have := HJ13.out; have := HJ22.out; have := HJ28.out; omega
 case rel => exact ⟨(x8_1), (true), (wrap64 (x12_1 + 1)), (wrap64 (x128000_1 + 1)), (1), (false), (0), (([] : List (S23))), (.slice none 0 0), (by first | rfl | (simp; done) | (simp [*]; done)), (by first | rfl | (simp; done) | (simp [*]; done)), H', ⟨by have := HK1.out; have := HJ13.out; have := HJ22.out; have := HJ28.out; omega⟩, ⟨by (with_reducible repeat (first | apply Kd.R_alloc | apply Kd.R_drewN | apply Kd.R_drew)); exact Kd.R_mono (Kd.R_far (p := ⟨gb127, 1, none⟩) (Kd.R_far (p := ⟨gb127, 0, none⟩) (Kd.R_far (p := ⟨gb127, 1, none⟩) (Kd.R_far (p := ⟨gb128, 2, none⟩) (Kd.R_far (p := ⟨gb128, 1, none⟩) (Kd.R_far (p := ⟨gb128, 0, none⟩) (Kd.R_types (Kd.R_types HO_5.out BK128.out (by decide)) BK127.out (by decide)) (fun _ hk => hk.1.2) (.bool false)) (fun _ hk => hk.1.2) (.int .i64 0)) (fun _ hk => hk.1.2) (.slice none 0 0)) (fun _ hk => hk.2) (.int .i64 (wrap64 (x128001_1 + 1)))) (fun _ hk => hk.2) (.int .i64 (wrap64 (x128000_1 + 1)))) (fun _ hk => hk.2) (.int .i64 1)) (fun _ hk => trivial)⟩, ⟨by (with_reducible repeat (first | apply Kd.S_alloc | apply Kd.S_drewN | apply Kd.S_drew)); exact Kd.S_mono (Kd.S_far (p := ⟨gb127, 1, none⟩) (Kd.S_far (p := ⟨gb127, 0, none⟩) (Kd.S_far (p := ⟨gb127, 1, none⟩) (Kd.S_far (p := ⟨gb128, 2, none⟩) (Kd.S_far (p := ⟨gb128, 1, none⟩) (Kd.S_far (p := ⟨gb128, 0, none⟩) (Kd.S_types (Kd.S_mono HO_8.out (fun k_ hk => (⟨hk, hk.2⟩ : _ ∧ k_ ≠ gb128))) BK127.out (by decide)) (fun _ hk => hk.1.2) (.bool false)) (fun _ hk => hk.1.2) (.int .i64 0)) (fun _ hk => hk.1.2) (.slice none 0 0)) (fun _ hk => hk.2) (.int .i64 (wrap64 (x128001_1 + 1)))) (fun _ hk => hk.2) (.int .i64 (wrap64 (x128000_1 + 1)))) (fun _ hk => hk.2) (.int .i64 1)) (fun _ hk => ⟨(by simp [Value.ownBlock]), hk.1.1.2⟩)⟩, ⟨by first | exact Kd.R_nil _ _ _ _ _ | exact Kd.N_nil _ _ _ _ _ | exact Kd.V_nil _ _ _ _ _ | exact Kd.Q_nil _ _ _ _ _ | exact Kd.S_nil _ _ _ _ _⟩, ⟨by (with_reducible repeat (first | refine blk_drewN ?_ _ | refine blk_drew ?_ | refine blk_alloc ?_ _)); refine blk_far ?_ NB119_127.out _; (with_reducible repeat (first | refine blk_drewN ?_ _ | refine blk_drew ?_ | refine blk_alloc ?_ _)); refine blk_far ?_ NB119_127.out _; (with_reducible repeat (first | refine blk_drewN ?_ _ | refine blk_drew ?_ | refine blk_alloc ?_ _)); refine blk_far ?_ NB119_127.out _; (with_reducible repeat (first | refine blk_drewN ?_ _ | refine blk_drew ?_ | refine blk_alloc ?_ _)); refine blk_far ?_ NB119_128.out _; (with_reducible repeat (first | refine blk_drewN ?_ _ | refine blk_drew ?_ | refine blk_alloc ?_ _)); refine blk_far ?_ NB119_128.out _; (with_reducible repeat (first | refine blk_drewN ?_ _ | refine blk_drew ?_ | refine blk_alloc ?_ _)); refine blk_far ?_ NB119_128.out _; (with_reducible repeat (first | refine blk_drewN ?_ _ | refine blk_drew ?_ | refine blk_alloc ?_ _)); exact BK119.out⟩, ⟨by (with_reducible repeat (first | refine blk_drewN ?_ _ | refine blk_drew ?_ | refine blk_alloc ?_ _)); refine blk_put (cs := #[.int .i64 (wrap64 (x128000_1 + 1)), .int .i64 (wrap64 (x128001_1 + 1))]) ?_ 1 _ rfl; (with_reducible repeat (first | refine blk_drewN ?_ _ | refine blk_drew ?_ | refine blk_alloc ?_ _)); refine blk_put (cs := #[.int .i64 x128000_1, .int .i64 (wrap64 (x128001_1 + 1))]) ?_ 0 _ rfl; (with_reducible repeat (first | refine blk_drewN ?_ _ | refine blk_drew ?_ | refine blk_alloc ?_ _)); refine blk_put (cs := #[.int .i64 x128000_1, .int .i64 x128001_1]) ?_ 1 _ rfl; (with_reducible repeat (first | refine blk_drewN ?_ _ | refine blk_drew ?_ | refine blk_alloc ?_ _)); refine blk_far ?_ NB127_128.out _; (with_reducible repeat (first | refine blk_drewN ?_ _ | refine blk_drew ?_ | refine blk_alloc ?_ _)); refine blk_far ?_ NB127_128.out _; (with_reducible repeat (first | refine blk_drewN ?_ _ | refine blk_drew ?_ | refine blk_alloc ?_ _)); refine blk_far ?_ NB127_128.out _; (with_reducible repeat (first | refine blk_drewN ?_ _ | refine blk_drew ?_ | refine blk_alloc ?_ _)); exact BK127.out⟩, ⟨by (with_reducible repeat (first | refine blk_drewN ?_ _ | refine blk_drew ?_ | refine blk_alloc ?_ _)); refine blk_far ?_ NB128_127.out _; (with_reducible repeat (first | refine blk_drewN ?_ _ | refine blk_drew ?_ | refine blk_alloc ?_ _)); refine blk_far ?_ NB128_127.out _; (with_reducible repeat (first | refine blk_drewN ?_ _ | refine blk_drew ?_ | refine blk_alloc ?_ _)); refine blk_far ?_ NB128_127.out _; (with_reducible repeat (first | refine blk_drewN ?_ _ | refine blk_drew ?_ | refine blk_alloc ?_ _)); refine blk_put (cs := #[.bool false, .int .i64 0, .slice Ao159 x129002_28.length co159]) ?_ 2 _ rfl; (with_reducible repeat (first | refine blk_drewN ?_ _ | refine blk_drew ?_ | refine blk_alloc ?_ _)); refine blk_put (cs := #[.bool false, .int .i64 x129001_13, .slice Ao159 x129002_28.length co159]) ?_ 1 _ rfl; (with_reducible repeat (first | refine blk_drewN ?_ _ | refine blk_drew ?_ | refine blk_alloc ?_ _)); refine blk_put (cs := #[.bool x129000_13, .int .i64 x129001_13, .slice Ao159 x129002_28.length co159]) ?_ 0 _ rfl; (with_reducible repeat (first | refine blk_drewN ?_ _ | refine blk_drew ?_ | refine blk_alloc ?_ _)); exact BK128.out⟩, ⟨by repeat (first | (with_reducible first | exact HB.out | apply below_alloc | apply pw_below_drewN | apply below_drew1 | refine below_set ?_ GE119.out | refine below_set ?_ GE127.out | refine below_set ?_ GE128.out) | exact HB.out)⟩⟩ }
 {
 rw [if_neg c154] at H
 have c154b0 : ((bt a0 x12_1) == 10) = false := beq_eq_false_iff_ne.mpr c154
 have c154b1 : ((bt a0 x12_1) != 10) = true := bne_iff_ne.mpr c154
 have H' := Aside0.mk H
 clear H
 obtain ⟨Ao162, co162, eo162⟩ := Kd.R_slice HO_5.out
 subst eo162
 have p152 : 0 ≤ (x12_1 : Int) := of_decide_eq_true (by first | (with_reducible assumption) | assumption)
 have q152 : x12_1 < (t120.length : Int) := of_decide_eq_true (by first | (with_reducible assumption) | assumption)
 obtain ⟨ad152, e152, hx152_0⟩ := Kd.at_int (Kd.R_reads' HO_5.out).2.2 x12_1 p152 q152
 cases e152
 replace p152 := eq_true p152
 replace q152 := eq_true q152
 have hnb163 := NB128_119.out
 have hnc163 := NB119_128.out
 have hnb164 := NB128_127.out
 have hnc164 := NB127_128.out
 have hcz165_0 : wc.cell? ⟨gb128, 0, none⟩ = some (.bool x129000_13) := (blk_cell BK128.out 0).trans rfl
 have hcz165_1 : wc.cell? ⟨gb128, 1, none⟩ = some (.int .i64 x129001_13) := (blk_cell BK128.out 1).trans rfl
 have hcz165_2 : wc.cell? ⟨gb128, 2, none⟩ = some (u129002) := (blk_cell BK128.out 2).trans rfl
 have hfz165_0 := blk_frozen BK128.out 0
 have hfz165_1 := blk_frozen BK128.out 1
 have hfz165_2 := blk_frozen BK128.out 2
 obtain ⟨Ao166, co166, eo166⟩ := Kd.R_slice HO_129002.out
 subst eo166
 have hnb167 := NB127_119.out
 have hnc167 := NB119_127.out
 have hcz168_0 : wc.cell? ⟨gb127, 0, none⟩ = some (.int .i64 x128000_1) := (blk_cell BK127.out 0).trans rfl
 have hcz168_1 : wc.cell? ⟨gb127, 1, none⟩ = some (.int .i64 x128001_1) := (blk_cell BK127.out 1).trans rfl
 have hfz168_0 := blk_frozen BK127.out 0
 have hfz168_1 := blk_frozen BK127.out 1
 have p153 : 0 ≤ (x12_1 : Int) := of_decide_eq_true (by first | (with_reducible assumption) | assumption)
 have q153 : x12_1 < (a0.size : Int) := of_decide_eq_true (by first | (with_reducible assumption) | assumption)
 have hx153 := bt_at a0 x12_1
 replace p153 := eq_true p153
 replace q153 := eq_true q153
 go_wp2
 go_roundg kj28
 case measure => have := HK1.out; have := HJ13.out; have := HJ22.out; have := HJ28.out; omega
 case rel => exact ⟨(x8_1), (true), (wrap64 (x12_1 + 1)), (x128000_1), (wrap64 (x128001_1 + 1)), (false), (0), (([] : List (S23))), (.slice none 0 0), (by first | rfl | (simp; done) | (simp [*]; done)), (by first | rfl | (simp; done) | (simp [*]; done)), H', ⟨by have := HK1.out; have := HJ13.out; have := HJ22.out; have := HJ28.out; omega⟩, ⟨by (with_reducible repeat (first | apply Kd.R_alloc | apply Kd.R_drewN | apply Kd.R_drew)); exact Kd.R_mono (Kd.R_far (p := ⟨gb127, 1, none⟩) (Kd.R_far (p := ⟨gb128, 2, none⟩) (Kd.R_far (p := ⟨gb128, 1, none⟩) (Kd.R_far (p := ⟨gb128, 0, none⟩) (Kd.R_types (Kd.R_types HO_5.out BK128.out (by decide)) BK127.out (by decide)) (fun _ hk => hk.1.2) (.bool false)) (fun _ hk => hk.1.2) (.int .i64 0)) (fun _ hk => hk.1.2) (.slice none 0 0)) (fun _ hk => hk.2) (.int .i64 (wrap64 (x128001_1 + 1)))) (fun _ hk => trivial)⟩, ⟨by (with_reducible repeat (first | apply Kd.S_alloc | apply Kd.S_drewN | apply Kd.S_drew)); exact Kd.S_mono (Kd.S_far (p := ⟨gb127, 1, none⟩) (Kd.S_far (p := ⟨gb128, 2, none⟩) (Kd.S_far (p := ⟨gb128, 1, none⟩) (Kd.S_far (p := ⟨gb128, 0, none⟩) (Kd.S_types (Kd.S_mono HO_8.out (fun k_ hk => (⟨hk, hk.2⟩ : _ ∧ k_ ≠ gb128))) BK127.out (by decide)) (fun _ hk => hk.1.2) (.bool false)) (fun _ hk => hk.1.2) (.int .i64 0)) (fun _ hk => hk.1.2) (.slice none 0 0)) (fun _ hk => hk.2) (.int .i64 (wrap64 (x128001_1 + 1)))) (fun _ hk => ⟨(by simp [Value.ownBlock]), hk.1.1.2⟩)⟩, ⟨by first | exact Kd.R_nil _ _ _ _ _ | exact Kd.N_nil _ _ _ _ _ | exact Kd.V_nil _ _ _ _ _ | exact Kd.Q_nil _ _ _ _ _ | exact Kd.S_nil _ _ _ _ _⟩, ⟨by (with_reducible repeat (first | refine blk_drewN ?_ _ | refine blk_drew ?_ | refine blk_alloc ?_ _)); refine blk_far ?_ NB119_127.out _; (with_reducible repeat (first | refine blk_drewN ?_ _ | refine blk_drew ?_ | refine blk_alloc ?_ _)); refine blk_far ?_ NB119_128.out _; (with_reducible repeat (first | refine blk_drewN ?_ _ | refine blk_drew ?_ | refine blk_alloc ?_ _)); refine blk_far ?_ NB119_128.out _; (with_reducible repeat (first | refine blk_drewN ?_ _ | refine blk_drew ?_ | refine blk_alloc ?_ _)); refine blk_far ?_ NB119_128.out _; (with_reducible repeat (first | refine blk_drewN ?_ _ | refine blk_drew ?_ | refine blk_alloc ?_ _)); exact BK119.out⟩, ⟨by (with_reducible repeat (first | refine blk_drewN ?_ _ | refine blk_drew ?_ | refine blk_alloc ?_ _)); refine blk_put (cs := #[.int .i64 x128000_1, .int .i64 x128001_1]) ?_ 1 _ rfl; (with_reducible repeat (first | refine blk_drewN ?_ _ | refine blk_drew ?_ | refine blk_alloc ?_ _)); refine blk_far ?_ NB127_128.out _; (with_reducible repeat (first | refine blk_drewN ?_ _ | refine blk_drew ?_ | refine blk_alloc ?_ _)); refine blk_far ?_ NB127_128.out _; (with_reducible repeat (first | refine blk_drewN ?_ _ | refine blk_drew ?_ | refine blk_alloc ?_ _)); refine blk_far ?_ NB127_128.out _; (with_reducible repeat (first | refine blk_drewN ?_ _ | refine blk_drew ?_ | refine blk_alloc ?_ _)); exact BK127.out⟩, ⟨by (with_reducible repeat (first | refine blk_drewN ?_ _ | refine blk_drew ?_ | refine blk_alloc ?_ _)); refine blk_far ?_ NB128_127.out _; (with_reducible repeat (first | refine blk_drewN ?_ _ | refine blk_drew ?_ | refine blk_alloc ?_ _)); refine blk_put (cs := #[.bool false, .int .i64 0, .slice Ao166 x129002_28.length co166]) ?_ 2 _ rfl; (with_reducible repeat (first | refine blk_drewN ?_ _ | refine blk_drew ?_ | refine blk_alloc ?_ _)); refine blk_put (cs := #[.bool false, .int .i64 x129001_13, .slice Ao166 x129002_28.length co166]) ?_ 1 _ rfl; (with_reducible repeat (first | refine blk_drewN ?_ _ | refine blk_drew ?_ | refine blk_alloc ?_ _)); refine blk_put (cs := #[.bool x129000_13, .int .i64 x129001_13, .slice Ao166 x129002_28.length co166]) ?_ 0 _ rfl; (with_reducible repeat (first | refine blk_drewN ?_ _ | refine blk_drew ?_ | refine blk_alloc ?_ _)); exact BK128.out⟩, ⟨by repeat (first | (with_reducible first | exact HB.out | apply below_alloc | apply pw_below_drewN | apply below_drew1 | refine below_set ?_ GE119.out | refine below_set ?_ GE127.out | refine below_set ?_ GE128.out) | exact HB.out)⟩⟩ }}
 {
 rw [if_neg c152] at H
 exact absurd H (by simp) }}}
 {
 rw [if_neg c128] at H
 have c128b0 : ((rd t120 x12_1) == 2) = false := beq_eq_false_iff_ne.mpr c128
 have c128b1 : ((rd t120 x12_1) != 2) = true := bne_iff_ne.mpr c128
 by_cases c169 : x12_1 < (a0.size : Int)
 {
 rw [if_pos c169] at H
 have c169b0 : decide (x12_1 < (a0.size : Int)) = true := decide_eq_true c169
 clear c169
 by_cases c171 : (bt a0 x12_1) = 10
 {
 rw [if_pos c171] at H
 have c171b0 : ((bt a0 x12_1) == 10) = true := beq_iff_eq.mpr c171
 have c171b1 : ((bt a0 x12_1) != 10) = false := bne_eq_false_iff_eq.mpr c171
 clear c171
 have H' := Aside0.mk H
 clear H
 obtain ⟨Ao172, co172, eo172⟩ := Kd.R_slice HO_5.out
 subst eo172
 have p152 : 0 ≤ (x12_1 : Int) := of_decide_eq_true (by first | (with_reducible assumption) | assumption)
 have q152 : x12_1 < (t120.length : Int) := of_decide_eq_true (by first | (with_reducible assumption) | assumption)
 obtain ⟨ad152, e152, hx152_0⟩ := Kd.at_int (Kd.R_reads' HO_5.out).2.2 x12_1 p152 q152
 cases e152
 replace p152 := eq_true p152
 replace q152 := eq_true q152
 have hnb173 := NB127_119.out
 have hnc173 := NB119_127.out
 have hnb174 := NB127_128.out
 have hnc174 := NB128_127.out
 have hcz175_0 : wc.cell? ⟨gb127, 0, none⟩ = some (.int .i64 x128000_1) := (blk_cell BK127.out 0).trans rfl
 have hcz175_1 : wc.cell? ⟨gb127, 1, none⟩ = some (.int .i64 x128001_1) := (blk_cell BK127.out 1).trans rfl
 have hfz175_0 := blk_frozen BK127.out 0
 have hfz175_1 := blk_frozen BK127.out 1
 have p170 : 0 ≤ (x12_1 : Int) := of_decide_eq_true (by first | (with_reducible assumption) | assumption)
 have q170 : x12_1 < (a0.size : Int) := of_decide_eq_true (by first | (with_reducible assumption) | assumption)
 have hx170 := bt_at a0 x12_1
 replace p170 := eq_true p170
 replace q170 := eq_true q170
 go_wp2
 go_roundg kj28
 case measure => have := HK1.out; have := HJ13.out; have := HJ22.out; have := HJ28.out; omega
 case rel => exact ⟨(x8_1), (x11_13), (wrap64 (x12_1 + 1)), (wrap64 (x128000_1 + 1)), (1), (x129000_13), (x129001_13), (x129002_28), (u129002), (by first | rfl | (simp; done) | (simp [*]; done)), (by first | rfl | (simp; done) | (simp [*]; done)), H', ⟨by have := HK1.out; have := HJ13.out; have := HJ22.out; have := HJ28.out; omega⟩, ⟨by (with_reducible repeat (first | apply Kd.R_alloc | apply Kd.R_drewN | apply Kd.R_drew)); exact Kd.R_mono (Kd.R_far (p := ⟨gb127, 1, none⟩) (Kd.R_far (p := ⟨gb127, 0, none⟩) (Kd.R_far (p := ⟨gb127, 1, none⟩) (Kd.R_types HO_5.out BK127.out (by decide)) (fun _ hk => hk.2) (.int .i64 (wrap64 (x128001_1 + 1)))) (fun _ hk => hk.2) (.int .i64 (wrap64 (x128000_1 + 1)))) (fun _ hk => hk.2) (.int .i64 1)) (fun _ hk => trivial)⟩, ⟨by (with_reducible repeat (first | apply Kd.S_alloc | apply Kd.S_drewN | apply Kd.S_drew)); exact Kd.S_mono (Kd.S_far (p := ⟨gb127, 1, none⟩) (Kd.S_far (p := ⟨gb127, 0, none⟩) (Kd.S_far (p := ⟨gb127, 1, none⟩) (Kd.S_types HO_8.out BK127.out (by decide)) (fun _ hk => hk.2) (.int .i64 (wrap64 (x128001_1 + 1)))) (fun _ hk => hk.2) (.int .i64 (wrap64 (x128000_1 + 1)))) (fun _ hk => hk.2) (.int .i64 1)) (fun _ hk => ⟨hk.1.1, hk.1.2⟩)⟩, ⟨by (with_reducible repeat (first | apply Kd.R_alloc | apply Kd.R_drewN | apply Kd.R_drew)); exact Kd.R_mono (Kd.R_far (p := ⟨gb127, 1, none⟩) (Kd.R_far (p := ⟨gb127, 0, none⟩) (Kd.R_far (p := ⟨gb127, 1, none⟩) (Kd.R_types HO_129002.out BK127.out (by decide)) (fun _ hk => hk.2) (.int .i64 (wrap64 (x128001_1 + 1)))) (fun _ hk => hk.2) (.int .i64 (wrap64 (x128000_1 + 1)))) (fun _ hk => hk.2) (.int .i64 1)) (fun _ hk => trivial)⟩, ⟨by (with_reducible repeat (first | refine blk_drewN ?_ _ | refine blk_drew ?_ | refine blk_alloc ?_ _)); refine blk_far ?_ NB119_127.out _; (with_reducible repeat (first | refine blk_drewN ?_ _ | refine blk_drew ?_ | refine blk_alloc ?_ _)); refine blk_far ?_ NB119_127.out _; (with_reducible repeat (first | refine blk_drewN ?_ _ | refine blk_drew ?_ | refine blk_alloc ?_ _)); refine blk_far ?_ NB119_127.out _; (with_reducible repeat (first | refine blk_drewN ?_ _ | refine blk_drew ?_ | refine blk_alloc ?_ _)); exact BK119.out⟩, ⟨by (with_reducible repeat (first | refine blk_drewN ?_ _ | refine blk_drew ?_ | refine blk_alloc ?_ _)); refine blk_put (cs := #[.int .i64 (wrap64 (x128000_1 + 1)), .int .i64 (wrap64 (x128001_1 + 1))]) ?_ 1 _ rfl; (with_reducible repeat (first | refine blk_drewN ?_ _ | refine blk_drew ?_ | refine blk_alloc ?_ _)); refine blk_put (cs := #[.int .i64 x128000_1, .int .i64 (wrap64 (x128001_1 + 1))]) ?_ 0 _ rfl; (with_reducible repeat (first | refine blk_drewN ?_ _ | refine blk_drew ?_ | refine blk_alloc ?_ _)); refine blk_put (cs := #[.int .i64 x128000_1, .int .i64 x128001_1]) ?_ 1 _ rfl; (with_reducible repeat (first | refine blk_drewN ?_ _ | refine blk_drew ?_ | refine blk_alloc ?_ _)); exact BK127.out⟩, ⟨by (with_reducible repeat (first | refine blk_drewN ?_ _ | refine blk_drew ?_ | refine blk_alloc ?_ _)); refine blk_far ?_ NB128_127.out _; (with_reducible repeat (first | refine blk_drewN ?_ _ | refine blk_drew ?_ | refine blk_alloc ?_ _)); refine blk_far ?_ NB128_127.out _; (with_reducible repeat (first | refine blk_drewN ?_ _ | refine blk_drew ?_ | refine blk_alloc ?_ _)); refine blk_far ?_ NB128_127.out _; (with_reducible repeat (first | refine blk_drewN ?_ _ | refine blk_drew ?_ | refine blk_alloc ?_ _)); exact BK128.out⟩, ⟨by repeat (first | (with_reducible first | exact HB.out | apply below_alloc | apply pw_below_drewN | apply below_drew1 | refine below_set ?_ GE119.out | refine below_set ?_ GE127.out | refine below_set ?_ GE128.out) | exact HB.out)⟩⟩ }
 {
 rw [if_neg c171] at H
 have c171b0 : ((bt a0 x12_1) == 10) = false := beq_eq_false_iff_ne.mpr c171
 have c171b1 : ((bt a0 x12_1) != 10) = true := bne_iff_ne.mpr c171
 have H' := Aside0.mk H
 clear H
 obtain ⟨Ao176, co176, eo176⟩ := Kd.R_slice HO_5.out
 subst eo176
 have p152 : 0 ≤ (x12_1 : Int) := of_decide_eq_true (by first | (with_reducible assumption) | assumption)
 have q152 : x12_1 < (t120.length : Int) := of_decide_eq_true (by first | (with_reducible assumption) | assumption)
 obtain ⟨ad152, e152, hx152_0⟩ := Kd.at_int (Kd.R_reads' HO_5.out).2.2 x12_1 p152 q152
 cases e152
 replace p152 := eq_true p152
 replace q152 := eq_true q152
 have hnb177 := NB127_119.out
 have hnc177 := NB119_127.out
 have hnb178 := NB127_128.out
 have hnc178 := NB128_127.out
 have hcz179_0 : wc.cell? ⟨gb127, 0, none⟩ = some (.int .i64 x128000_1) := (blk_cell BK127.out 0).trans rfl
 have hcz179_1 : wc.cell? ⟨gb127, 1, none⟩ = some (.int .i64 x128001_1) := (blk_cell BK127.out 1).trans rfl
 have hfz179_0 := blk_frozen BK127.out 0
 have hfz179_1 := blk_frozen BK127.out 1
 have p170 : 0 ≤ (x12_1 : Int) := of_decide_eq_true (by first | (with_reducible assumption) | assumption)
 have q170 : x12_1 < (a0.size : Int) := of_decide_eq_true (by first | (with_reducible assumption) | assumption)
 have hx170 := bt_at a0 x12_1
 replace p170 := eq_true p170
 replace q170 := eq_true q170
 go_wp2
 go_roundg kj28
 case measure => have := HK1.out; have := HJ13.out; have := HJ22.out; have := HJ28.out; omega
 case rel => exact ⟨(x8_1), (x11_13), (wrap64 (x12_1 + 1)), (x128000_1), (wrap64 (x128001_1 + 1)), (x129000_13), (x129001_13), (x129002_28), (u129002), (by first | rfl | (simp; done) | (simp [*]; done)), (by first | rfl | (simp; done) | (simp [*]; done)), H', ⟨by have := HK1.out; have := HJ13.out; have := HJ22.out; have := HJ28.out; omega⟩, ⟨by (with_reducible repeat (first | apply Kd.R_alloc | apply Kd.R_drewN | apply Kd.R_drew)); exact Kd.R_mono (Kd.R_far (p := ⟨gb127, 1, none⟩) (Kd.R_types HO_5.out BK127.out (by decide)) (fun _ hk => hk.2) (.int .i64 (wrap64 (x128001_1 + 1)))) (fun _ hk => trivial)⟩, ⟨by (with_reducible repeat (first | apply Kd.S_alloc | apply Kd.S_drewN | apply Kd.S_drew)); exact Kd.S_mono (Kd.S_far (p := ⟨gb127, 1, none⟩) (Kd.S_types HO_8.out BK127.out (by decide)) (fun _ hk => hk.2) (.int .i64 (wrap64 (x128001_1 + 1)))) (fun _ hk => ⟨hk.1.1, hk.1.2⟩)⟩, ⟨by (with_reducible repeat (first | apply Kd.R_alloc | apply Kd.R_drewN | apply Kd.R_drew)); exact Kd.R_mono (Kd.R_far (p := ⟨gb127, 1, none⟩) (Kd.R_types HO_129002.out BK127.out (by decide)) (fun _ hk => hk.2) (.int .i64 (wrap64 (x128001_1 + 1)))) (fun _ hk => trivial)⟩, ⟨by (with_reducible repeat (first | refine blk_drewN ?_ _ | refine blk_drew ?_ | refine blk_alloc ?_ _)); refine blk_far ?_ NB119_127.out _; (with_reducible repeat (first | refine blk_drewN ?_ _ | refine blk_drew ?_ | refine blk_alloc ?_ _)); exact BK119.out⟩, ⟨by (with_reducible repeat (first | refine blk_drewN ?_ _ | refine blk_drew ?_ | refine blk_alloc ?_ _)); refine blk_put (cs := #[.int .i64 x128000_1, .int .i64 x128001_1]) ?_ 1 _ rfl; (with_reducible repeat (first | refine blk_drewN ?_ _ | refine blk_drew ?_ | refine blk_alloc ?_ _)); exact BK127.out⟩, ⟨by (with_reducible repeat (first | refine blk_drewN ?_ _ | refine blk_drew ?_ | refine blk_alloc ?_ _)); refine blk_far ?_ NB128_127.out _; (with_reducible repeat (first | refine blk_drewN ?_ _ | refine blk_drew ?_ | refine blk_alloc ?_ _)); exact BK128.out⟩, ⟨by repeat (first | (with_reducible first | exact HB.out | apply below_alloc | apply pw_below_drewN | apply below_drew1 | refine below_set ?_ GE119.out | refine below_set ?_ GE127.out | refine below_set ?_ GE128.out) | exact HB.out)⟩⟩ }}
 {
 rw [if_neg c169] at H
 exact absurd H (by simp) }}}
 {
 rw [if_neg c127] at H
 exact absurd H (by simp) }}
 {
 rw [if_neg c126] at H
 exact absurd H (by simp) }))))))}
 {
 rw [if_neg c13] at H
 have c13b0 : decide (x12_1 < (a0.size : Int)) = false := decide_eq_false c13
 clear c13
 by_cases c180 : (x129002_1.length : Int) > 0
 {
 rw [if_pos c180] at H
 have c180b0 : decide (0 < (x129002_1.length : Int)) = true := decide_eq_true c180
 have c180b1 : decide (0 < x129002_1.length) = true := decide_eq_true (by omega)
 clear c180
 by_cases c181 : x8_1.length < 3518437208883
 {
 rw [if_pos c181] at H
 have LMc181 := Aside0.mk c181
 clear c181
 obtain ⟨y129, hy129⟩ : ∃ y_ : List (S45), y_ = (x8_1 ++ [(⟨x129000_1, x129001_1, x129002_1⟩ : S45)]) := ⟨_, rfl⟩
 replace H : (some (y129, 0, 0, 0)) = some (r1, r2, r3, r4) := by first | (rw [hy129]; with_reducible exact H) | (have H2_ := (Option.bind_some _ _).symm.trans H; rw [hy129]; with_reducible exact H2_) | (have H2_ := (Option.bind_some _ _).symm.trans H; with_reducible exact H2_) | with_reducible exact H | (rw [hy129]; exact H) | exact H
 have Ny129 := Aside0.mk hy129
 clear hy129
 simp only [Option.some.injEq, Prod.mk.injEq] at H
 obtain ⟨rfl, rfl, rfl, rfl⟩ := H
 have hnb182 := NB128_119.out
 have hnc182 := NB119_128.out
 have hnb183 := NB128_127.out
 have hnc183 := NB127_128.out
 have hcz184_0 : wr.cell? ⟨gb128, 0, none⟩ = some (.bool x129000_1) := (blk_cell BK128.out 0).trans rfl
 have hcz184_1 : wr.cell? ⟨gb128, 1, none⟩ = some (.int .i64 x129001_1) := (blk_cell BK128.out 1).trans rfl
 have hcz184_2 : wr.cell? ⟨gb128, 2, none⟩ = some (u129002) := (blk_cell BK128.out 2).trans rfl
 have hfz184_0 := blk_frozen BK128.out 0
 have hfz184_1 := blk_frozen BK128.out 1
 have hfz184_2 := blk_frozen BK128.out 2
 obtain ⟨Ao185, co185, eo185⟩ := Kd.R_slice HO_129002.out
 subst eo185
 go_wp2_with (first | ((with_reducible refine gate_builtin (b := .append) (xs := #[.tmp 132, .tmp 134]) rfl ?_); at_builtin; refine Kd.S_append k45 (w0 := w) w.heap.size rfl (.tmp 132) (.tmp 134) 28 45 (.agg #[(.bool false), (.int .i64 0), (.slice none 0 0)]) 40 rfl Try.underlying28 info45 rfl (by decide) (by omega) u8 x8_1 (⟨x129000_1, x129001_1, x129002_1⟩ : S45) [.bool x129000_1, .int .i64 x129001_1, .slice Ao185 x129002_1.length co185] (fun k_ => k_ ≠ gb128) (fun k_ => some k_ = (.slice Ao185 x129002_1.length co185 : Value).ownBlock) rfl rfl ?aP (fun k_ hk_ => ((Kd.R_mono (ok' := fun k_ => ((fun k_ => k_ ≠ gb128)) k_ ∧ some k_ ≠ (u8 : Value).ownBlock) (Kd.R_types (Kd.R_apart' (HO_129002.out) (Kd.S_typed HO_8.out) (by decide)) BK128.out (by decide)) (fun k_ hk => ⟨hk.2, hk.1.2⟩))).1 k_ hk_.symm) ?aF ?aO ?aB ?aS ?aL ?_; (case aP => exact k45_mkM _ _ _ (⟨x129000_1, x129001_1, x129002_1⟩ : S45) (Kd.R_mono (Kd.R_tight rfl (Kd.R_mono (ok' := fun k_ => ((fun k_ => k_ ≠ gb128)) k_ ∧ some k_ ≠ (u8 : Value).ownBlock) (Kd.R_types (Kd.R_apart' (HO_129002.out) (Kd.S_typed HO_8.out) (by decide)) BK128.out (by decide)) (fun k_ hk => ⟨hk.2, hk.1.2⟩))) (fun _ h_ => h_))); (case aB => exact (by repeat (first | (with_reducible first | exact HB.out | apply below_alloc | apply pw_below_drewN | apply below_drew1 | refine below_set ?_ GE119.out | refine below_set ?_ GE127.out | refine below_set ?_ GE128.out) | exact HB.out))); (case aF => exact (fun k_ hk => Kd.freshB (g := gb128) (o := .cells #[.bool x129000_1, .int .i64 x129001_1, .slice Ao185 x129002_1.length co185] 45 (0, 0)) (by (with_reducible repeat (first | refine blk_drewN ?_ _ | refine blk_drew ?_ | refine blk_alloc ?_ _)); exact BK128.out) k_ hk)); (case aO => exact (by (with_reducible repeat (first | apply Kd.S_alloc | apply Kd.S_drewN | apply Kd.S_drew)); exact Kd.S_mono HO_8.out (fun k_ hk => ⟨hk.2, fun e_ => hk.1 e_⟩))); (case aS => exact (below_size (by repeat (first | (with_reducible first | exact HB.out | apply below_alloc | apply pw_below_drewN | apply below_drew1 | refine below_set ?_ GE119.out | refine below_set ?_ GE127.out | refine below_set ?_ GE128.out) | exact HB.out)))); (case aL => have := LMc181.out; omega); intro v130 w186 ho hb hg hat; rw [← Ny129.out] at ho; have n0_ := Aside0.mk (Kd.R_over' (by (with_reducible repeat (first | apply Kd.R_alloc | apply Kd.R_drewN | apply Kd.R_drew)); exact HO_5.out) (Kd.S_typed (by (with_reducible repeat (first | apply Kd.S_alloc | apply Kd.S_drewN | apply Kd.S_drew)); exact HO_8.out)) (by decide) hg); have n1_ := Aside0.mk (blk_grown (g := gb119) (o := .cells #[.int .i64 0, .int .i64 0] 30 (0, 0)) (by (with_reducible repeat (first | refine blk_drewN ?_ _ | refine blk_drew ?_ | refine blk_alloc ?_ _)); exact BK119.out) hg (Kd.S_ne HO_8.out BK119.out (by decide))); have n2_ := Aside0.mk (blk_grown (g := gb127) (o := .cells #[.int .i64 x128000_1, .int .i64 x128001_1] 30 (0, 0)) (by (with_reducible repeat (first | refine blk_drewN ?_ _ | refine blk_drew ?_ | refine blk_alloc ?_ _)); exact BK127.out) hg (Kd.S_ne HO_8.out BK127.out (by decide))); have n3_ := Aside0.mk (blk_grown (g := gb128) (o := .cells #[.bool x129000_1, .int .i64 x129001_1, .slice Ao185 x129002_1.length co185] 45 (0, 0)) (by (with_reducible repeat (first | refine blk_drewN ?_ _ | refine blk_drew ?_ | refine blk_alloc ?_ _)); exact BK128.out) hg (Kd.S_away HO_8.out (fun _ hk => hk.2))); have n4_ := Aside0.mk (hb); have n5_ := Aside0.mk (ho); clear HO_5; clear BK119; clear BK127; clear BK128; clear HB; clear HO_8; clear HO_129002; have HO_5 := n0_; have BK119 := n1_; have BK127 := n2_; have BK128 := n3_; have HB := n4_; have HO131 := n5_; clear n0_ n1_ n2_ n3_ n4_ n5_; clear ho hb hg hat; have hnb187 := NB119_127.out; have hnc187 := NB127_119.out; have hcz188_0 : w186.cell? ⟨gb119, 0, none⟩ = some (.int .i64 0) := (blk_cell BK119.out 0).trans rfl; have hcz188_1 : w186.cell? ⟨gb119, 1, none⟩ = some (.int .i64 0) := (blk_cell BK119.out 1).trans rfl; have hfz188_0 := blk_frozen BK119.out 0; have hfz188_1 := blk_frozen BK119.out 1))
 refine bodyPost_ret (results_list (rs := [.tmp 2, .cell 3 30, .tmp 4]) rfl (by simp) (.tmp (.cell gb119 30 #[.int .i64 0, .int .i64 0] (0, 0) _ rfl (by (with_reducible repeat (first | refine blk_drewN ?_ _ | refine blk_drew ?_ | refine blk_alloc ?_ _)); refine blk_put (cs := #[.int .i64 0, .int .i64 0]) ?_ 1 _ rfl; (with_reducible repeat (first | refine blk_drewN ?_ _ | refine blk_drew ?_ | refine blk_alloc ?_ _)); refine blk_put (cs := #[.int .i64 0, .int .i64 0]) ?_ 0 _ rfl; (with_reducible repeat (first | refine blk_drewN ?_ _ | refine blk_drew ?_ | refine blk_alloc ?_ _)); exact BK119.out) Try.underlying30 rfl (by kernel_rfl) (.tmp .nil)))) rfl ?_
 exact ⟨_, by first | rfl | (simp [errW_none, errW_some] <;> rfl) | (simp [*, errW_none, errW_some] <;> rfl), by (with_reducible repeat (first | apply Kd.S_alloc | apply Kd.S_drewN | apply Kd.S_drew)); exact Kd.S_mono (Kd.S_far (p := ⟨gb119, 1, none⟩) (Kd.S_far (p := ⟨gb119, 0, none⟩) (Kd.S_types HO131.out BK119.out (by decide)) (fun _ hk => hk.2) (.int .i64 0)) (fun _ hk => hk.2) (.int .i64 0)) (fun _ hk => trivial), by repeat (first | (with_reducible first | exact HB.out | apply below_alloc | apply pw_below_drewN | apply below_drew1 | refine below_set ?_ GE119.out | refine below_set ?_ GE127.out | refine below_set ?_ GE128.out) | exact HB.out)⟩ }
 {
 rw [if_neg c181] at H
 exact absurd H (by simp) }}
 {
 rw [if_neg c180] at H
 have c180b0 : decide (0 < (x129002_1.length : Int)) = false := decide_eq_false c180
 have c180b1 : decide (0 < x129002_1.length) = false := decide_eq_false (by omega)
 clear c180
 simp only [Option.some.injEq, Prod.mk.injEq] at H
 obtain ⟨rfl, rfl, rfl, rfl⟩ := H
 have hnb189 := NB128_119.out
 have hnc189 := NB119_128.out
 have hnb190 := NB128_127.out
 have hnc190 := NB127_128.out
 have hcz191_0 : wr.cell? ⟨gb128, 0, none⟩ = some (.bool x129000_1) := (blk_cell BK128.out 0).trans rfl
 have hcz191_1 : wr.cell? ⟨gb128, 1, none⟩ = some (.int .i64 x129001_1) := (blk_cell BK128.out 1).trans rfl
 have hcz191_2 : wr.cell? ⟨gb128, 2, none⟩ = some (u129002) := (blk_cell BK128.out 2).trans rfl
 have hfz191_0 := blk_frozen BK128.out 0
 have hfz191_1 := blk_frozen BK128.out 1
 have hfz191_2 := blk_frozen BK128.out 2
 obtain ⟨Ao192, co192, eo192⟩ := Kd.R_slice HO_129002.out
 subst eo192
 have hnb193 := NB119_127.out
 have hnc193 := NB127_119.out
 have hcz194_0 : wr.cell? ⟨gb119, 0, none⟩ = some (.int .i64 0) := (blk_cell BK119.out 0).trans rfl
 have hcz194_1 : wr.cell? ⟨gb119, 1, none⟩ = some (.int .i64 0) := (blk_cell BK119.out 1).trans rfl
 have hfz194_0 := blk_frozen BK119.out 0
 have hfz194_1 := blk_frozen BK119.out 1
 go_wp2
 refine bodyPost_ret (results_list (rs := [.tmp 2, .cell 3 30, .tmp 4]) rfl (by simp) (.tmp (.cell gb119 30 #[.int .i64 0, .int .i64 0] (0, 0) _ rfl (by (with_reducible repeat (first | refine blk_drewN ?_ _ | refine blk_drew ?_ | refine blk_alloc ?_ _)); refine blk_put (cs := #[.int .i64 0, .int .i64 0]) ?_ 1 _ rfl; (with_reducible repeat (first | refine blk_drewN ?_ _ | refine blk_drew ?_ | refine blk_alloc ?_ _)); refine blk_put (cs := #[.int .i64 0, .int .i64 0]) ?_ 0 _ rfl; (with_reducible repeat (first | refine blk_drewN ?_ _ | refine blk_drew ?_ | refine blk_alloc ?_ _)); exact BK119.out) Try.underlying30 rfl (by kernel_rfl) (.tmp .nil)))) rfl ?_
 exact ⟨_, by first | rfl | (simp [errW_none, errW_some] <;> rfl) | (simp [*, errW_none, errW_some] <;> rfl), by (with_reducible repeat (first | apply Kd.S_alloc | apply Kd.S_drewN | apply Kd.S_drew)); exact Kd.S_mono (Kd.S_far (p := ⟨gb119, 1, none⟩) (Kd.S_far (p := ⟨gb119, 0, none⟩) (Kd.S_types HO_8.out BK119.out (by decide)) (fun _ hk => hk.2) (.int .i64 0)) (fun _ hk => hk.2) (.int .i64 0)) (fun _ hk => trivial), by repeat (first | (with_reducible first | exact HB.out | apply below_alloc | apply pw_below_drewN | apply below_drew1 | refine below_set ?_ GE119.out | refine below_set ?_ GE127.out | refine below_set ?_ GE128.out) | exact HB.out)⟩ }}))}
 {
 rw [if_neg c6] at H
 have c6b0 : (t122 == 0) = false := beq_eq_false_iff_ne.mpr c6
 have c6b1 : (t122 != 0) = true := bne_iff_ne.mpr c6
 replace H := Option.bind_eq_some_iff.mp H
 obtain ⟨⟨t125, t126⟩, A1950, H⟩ := H
 replace H : (some (([] : List (S45)), t125, t126, t122)) = some (r1, r2, r3, r4) := H
 have A195 := Aside0.mk A1950
 clear A1950
 simp only [Option.some.injEq, Prod.mk.injEq] at H
 obtain ⟨rfl, rfl, rfl, rfl⟩ := H
 go_enter Try.func13, Try.ntmps13
 go_wp2_with (first | ((with_reducible refine gate_dst (N := 3) rfl ?_); refine box_event ?hg (N := 3) ?hd (cs := #[.int .i64 0, .int .i64 0]) (t := 30) ?hr ?_; (case hd => rfl); (case hg => rfl); (case hr => first | (go_simp; done) | (go_simp; rfl)); intro gb119 hg w196 hbox hb; have n0_ := Aside0.mk (below_step (by repeat (first | (with_reducible first | exact HB.out | apply below_alloc | apply pw_below_drewN | apply below_drew1) | exact HB.out)) hb); have n1_ := Aside0.mk (hbox); have n2_ := Aside0.mk ((by rw [hg]; exact (below_size (by repeat (first | (with_reducible first | exact HB.out | apply below_alloc | apply pw_below_drewN | apply below_drew1) | exact HB.out))) : w.heap.size ≤ gb119)); have n3_ := Aside0.mk ((by rw [hg]; exact (below_size (by repeat (first | (with_reducible first | exact HB.out | apply below_alloc | apply pw_below_drewN | apply below_drew1) | exact HB.out))) : w.heap.size ≤ gb119)); clear HB; have HB := n0_; have BK119 := n1_; have GW119 := n2_; have GE119 := n3_; clear n0_ n1_ n2_ n3_; clear hb hbox hg) | ((with_reducible refine gate_callee (f := 26) rfl ?_); refine goesL_ (some 21) rfl rfl Try.func26 (by kernel_rfl) rfl #[.string a0] rfl (by (try simp only [List.map_toArray, List.map_cons, List.map_nil]); first | done | rfl | (simp only [List.length_drop, List.length_take]; rfl)) ?_; (with_reducible refine (hearsayref08_kinds.calls a0 t120 t121 t122 _ A5.out).mono ?_); rintro e w197 ⟨v123, rfl, ho0, hb⟩; refine ⟨_, rfl, ?_⟩; have n0_ := Aside0.mk (Kd.R_lower ho0 (below_size (by repeat (first | (with_reducible first | exact HB.out | apply below_alloc | apply pw_below_drewN | apply below_drew1 | refine below_set ?_ GE119.out) | exact HB.out)))); have n1_ := Aside0.mk (blk_below (g := gb119) (o := .cells #[.int .i64 0, .int .i64 0] 30 (0, 0)) (by (with_reducible repeat (first | refine blk_drewN ?_ _ | refine blk_drew ?_ | refine blk_alloc ?_ _)); exact BK119.out) hb); have n2_ := Aside0.mk (below_step (by repeat (first | (with_reducible first | exact HB.out | apply below_alloc | apply pw_below_drewN | apply below_drew1 | refine below_set ?_ GE119.out) | exact HB.out)) hb); clear BK119; clear HB; have HO124 := n0_; have BK119 := n1_; have HB := n2_; clear n0_ n1_ n2_; (try clear hb); (try clear hb2); (try clear hk); (try clear hi); (try clear ho0)) | ((with_reducible refine gate_callee (f := 27) rfl ?_); refine goesL_ (some 29) rfl rfl Try.func27 (by kernel_rfl) rfl #[.string a0, .int .i64 t121] rfl (by (try simp only [List.map_toArray, List.map_cons, List.map_nil]); first | done | rfl | (simp only [List.length_drop, List.length_take]; rfl)) ?_; (with_reducible refine (hearsayref08_SpotOf.calls k a0 t121 t125 t126 _ A195.out).mono ?_); rintro e w198 ⟨rfl, hb⟩; refine ⟨_, rfl, ?_⟩; have n0_ := Aside0.mk (Kd.R_below (by (with_reducible repeat (first | apply Kd.R_alloc | apply Kd.R_drewN | apply Kd.R_drew)); exact HO124.out) hb); have n1_ := Aside0.mk (blk_below (g := gb119) (o := .cells #[.int .i64 0, .int .i64 0] 30 (0, 0)) (by (with_reducible repeat (first | refine blk_drewN ?_ _ | refine blk_drew ?_ | refine blk_alloc ?_ _)); exact BK119.out) hb); have n2_ := Aside0.mk (below_step (by repeat (first | (with_reducible first | exact HB.out | apply below_alloc | apply pw_below_drewN | apply below_drew1 | refine below_set ?_ GE119.out) | exact HB.out)) hb); clear HO124; clear BK119; clear HB; have HO124 := n0_; have BK119 := n1_; have HB := n2_; clear n0_ n1_ n2_; (try clear hb); (try clear hb2); (try clear hk); (try clear hi); have hcz199_0 : w198.cell? ⟨gb119, 0, none⟩ = some (.int .i64 0) := (blk_cell BK119.out 0).trans rfl; have hcz199_1 : w198.cell? ⟨gb119, 1, none⟩ = some (.int .i64 0) := (blk_cell BK119.out 1).trans rfl; have hfz199_0 := blk_frozen BK119.out 0; have hfz199_1 := blk_frozen BK119.out 1))
 refine bodyPost_ret (results_list (rs := [.tmp 2, .cell 3 30, .tmp 4]) rfl (by simp) (.tmp (.cell gb119 30 #[.int .i64 t125, .int .i64 t126] (0, 0) _ rfl (by (with_reducible repeat (first | refine blk_drewN ?_ _ | refine blk_drew ?_ | refine blk_alloc ?_ _)); refine blk_put (cs := #[.int .i64 t125, .int .i64 0]) ?_ 1 _ rfl; (with_reducible repeat (first | refine blk_drewN ?_ _ | refine blk_drew ?_ | refine blk_alloc ?_ _)); refine blk_put (cs := #[.int .i64 0, .int .i64 0]) ?_ 0 _ rfl; (with_reducible repeat (first | refine blk_drewN ?_ _ | refine blk_drew ?_ | refine blk_alloc ?_ _)); exact BK119.out) Try.underlying30 rfl (by kernel_rfl) (.tmp .nil)))) rfl ?_
 exact ⟨_, by first | rfl | (simp [errW_none, errW_some] <;> rfl) | (simp [*, errW_none, errW_some] <;> rfl), by first | exact Kd.S_nil _ _ _ _ _ | exact Kd.N_nil _ _ _ _ _ | exact Kd.V_nil _ _ _ _ _ | exact Kd.Q_nil _ _ _ _ _ | exact Kd.R_nil _ _ _ _ _, by repeat (first | (with_reducible first | exact HB.out | apply below_alloc | apply pw_below_drewN | apply below_drew1 | refine below_set ?_ GE119.out) | exact HB.out)⟩ }}
end Go.Proofs.Ytafminohaofjnaa.Print
