-- Written by a program of this session, built on the kit's print (it is not the print's own text).
import Derived.Test.YtafminohaofjnaaKinds
import Derived.Test.YtafminohaofjnaaF21
import Derived.Test.YtafminohaofjnaaF15
import Derived.Test.YtafminohaofjnaaF20
import Derived.Test.YtafminohaofjnaaXEntries
import Derived.Test.YtafminohaofjnaaF6D
import Derived.Test.YtafminohaofjnaaXBits
namespace Go.Proofs.Ytafminohaofjnaa.Print
open Go.RowKit Go.Proofs.YtafminohaofjnaaW.PrintWords Go.Proofs.YtafminohaofjnaaW.PrintLast Go.Proofs.YtafminohaofjnaaW.PrintMore
attribute [local go_sem] max2_int min2_int max_two min_two max_three min_three max_four min_four   -- for this text's walks alone
set_option linter.unusedVariables false
set_option linter.unusedSimpArgs false

def hearsaylaw08_TokenPlaces.T11 : Bool × List (List Nat × List Nat) := (true, [([], []), ([], []), ([0, 1], [0, 1]), ([2], [2]), ([3], [3]), ([4], [4]), ([5], [5]), ([6], [6]), ([6], [6]), ([7, 8, 6], [6, 7, 8]), ([9, 6], [6, 9]), ([10, 6], [6, 10]), ([6], [6]), ([12, 6], [6, 12]), ([11, 13, 6], [6, 11, 13]), ([6, 14], [6, 14]), ([15, 6], [15]), ([16], [16]), ([16], [16]), ([17, 18, 16], [16, 17, 18]), ([19, 16], [16, 19]), ([20, 16], [16, 20]), ([21, 16], [16, 21]), ([22, 16], [16, 22]), ([16, 23], [16, 23]), ([24, 16], [24]), ([25], [25]), ([25], [25]), ([25], [25]), ([27, 28, 25], [25, 27, 28]), ([29, 25], [25, 29]), ([30, 25], [25, 30]), ([31, 25], [25, 31]), ([26, 32, 25], [25, 26, 32]), ([33, 25], [25, 33]), ([25], [25]), ([35, 25], [25, 35]), ([34, 36, 25], [25, 34, 36]), ([25, 37], [25, 37]), ([38, 25], [38]), ([39], [39]), ([39], [39]), ([40, 41, 39], [39, 40, 41]), ([42, 39], [39, 42]), ([43, 39], [39, 43]), ([39], [39]), ([39], [39]), ([39], [39]), ([39], [39]), ([47, 48, 39], [39, 47, 48]), ([49, 39], [39, 49]), ([50, 39], [39, 50]), ([51, 39], [39, 51]), ([46, 52, 39], [39, 46, 52]), ([53, 39], [39, 53]), ([45, 54, 39], [39, 45, 54]), ([55, 39, 39], [39, 55]), ([44, 56, 39], [39, 44, 56]), ([39, 57], [39, 57])])
def hearsaylaw08_TokenPlaces.B11 : List Nat := [0, 0, 3, 7, 15, 31, 63, 127, 127, 511, 1023, 2047, 127, 4223, 16383, 32767, 65535, 131071, 131071, 524287, 1048575, 2097151, 4194303, 8388607, 16777215, 33554431, 67108863, 67108863, 67108863, 469762047, 1006632959, 2080374783, 4227858431, 8589934591, 17179869183, 67108863, 34426847231, 137438953471, 274877906943, 549755813887, 1099511627775, 1099511627775, 4398046511103, 8796093022207, 17592186044415, 1099511627775, 1099511627775, 1099511627775, 1099511627775, 423311976693759, 986261930115071, 2112161836957695, 4363961650642943, 8937930022191103, 17945129276932095, 35994712158502911, 72023509177466879, 144115188075855871, 288230376151711743]
theorem hearsaylaw08_TokenPlaces.tab11 : rtab .any (opsOf Try.f6 11) = hearsaylaw08_TokenPlaces.T11 := by kernel_rfl
theorem hearsaylaw08_TokenPlaces.bits11 : waitsOk hearsaylaw08_TokenPlaces.T11.2 hearsaylaw08_TokenPlaces.B11 = true := by kernel_rfl
def hearsaylaw08_TokenPlaces.T20 : Bool × List (List Nat × List Nat) := (true, [([], []), ([0], [0]), ([], []), ([], []), ([2, 3], [2, 3]), ([4], [4]), ([5], [5]), ([1, 6], [1, 6]), ([7], [7]), ([8], [8]), ([9, 8], [8, 9]), ([8], [8]), ([11, 8], [8, 11]), ([10, 12, 8], [8, 10, 12]), ([8, 13], [8, 13]), ([14, 8], [14]), ([15], [15]), ([16, 15], [15, 16]), ([17, 15], [15, 17]), ([15, 18], [15, 18]), ([19, 15], [19]), ([20], [20]), ([21, 20], [20, 21]), ([22, 20], [20, 22]), ([20, 23], [20, 23])])
def hearsaylaw08_TokenPlaces.B20 : List Nat := [0, 1, 0, 0, 12, 28, 60, 127, 255, 511, 1023, 511, 2559, 8191, 16383, 32767, 65535, 131071, 262143, 524287, 1048575, 2097151, 4194303, 8388607, 16777215]
theorem hearsaylaw08_TokenPlaces.tab20 : rtab .any (opsOf Try.f6 20) = hearsaylaw08_TokenPlaces.T20 := by kernel_rfl
theorem hearsaylaw08_TokenPlaces.bits20 : waitsOk hearsaylaw08_TokenPlaces.T20.2 hearsaylaw08_TokenPlaces.B20 = true := by kernel_rfl
def hearsaylaw08_TokenPlaces.T22 : Bool × List (List Nat × List Nat) := (true, [([], []), ([], []), ([1], [1]), ([2], [2]), ([0, 3], [0, 3]), ([4], [4]), ([], []), ([6], [6]), ([5, 7], [5, 7]), ([8], [8]), ([9, 0, 1, 2, 3, 4, 5, 6, 7, 8, 9], [9])])
def hearsaylaw08_TokenPlaces.B22 : List Nat := [0, 0, 2, 6, 15, 31, 0, 64, 255, 511, 1023]
theorem hearsaylaw08_TokenPlaces.tab22 : rtab .any (opsOf Try.f6 22) = hearsaylaw08_TokenPlaces.T22 := by kernel_rfl
theorem hearsaylaw08_TokenPlaces.bits22 : waitsOk hearsaylaw08_TokenPlaces.T22.2 hearsaylaw08_TokenPlaces.B22 = true := by kernel_rfl
set_option maxHeartbeats 40000000 in
set_option maxRecDepth 100000 in
theorem hearsaylaw08_TokenPlaces.calls (k : Nat) (a0 : ByteArray) (r : Bool) (w : World) (h : hearsaylaw08_TokenPlaces.f k a0 = some r) :
    Calls Try.prog 6 #[.string a0] w fun e w' => e = .returned (.bool r) ∧ Below w.heap.size w w' := by
 have hu30 := Try.underlying30
 have hu23 := Try.underlying23
 have HB := Aside0.mk (Below.refl w.heap.size w)
 have H : (if (a0.size : Int) > 20000 then (some true) else ((token_Entries.f a0).bind fun bt246 => (if bt246.2.2.2 = 0 then ((hearsaylaw08_places.f k a0).bind fun t254 => (hearsaylaw08_TokenPlaces.l0 k a0 bt246.1 t254 0 0)) else (if (bt246.1.length : Int) = 0 then ((hearsaylaw08_reads.f).bind fun t253 => (some t253)) else (some false))))) = some r := h
 clear h
 by_cases c2 : (a0.size : Int) > 20000
 {
 rw [if_pos c2] at H
 have c2b0 : decide (20000 < (a0.size : Int)) = true := decide_eq_true c2
 have c2b1 : decide (20000 < a0.size) = true := decide_eq_true (by omega)
 clear c2
 obtain rfl := Option.some.inj H
 go_enter Try.func6, Try.ntmps6
 go_wp2
 go_ret
 exact ⟨by first | rfl | (simp [errW_none, errW_some] <;> rfl) | (simp [*, errW_none, errW_some] <;> rfl), by repeat (first | (with_reducible first | exact HB.out | apply below_alloc | apply pw_below_drewN | apply below_drew1) | exact HB.out)⟩ }
 { as_aux_lemma => (
 rw [if_neg c2] at H
 have c2b0 : decide (20000 < (a0.size : Int)) = false := decide_eq_false c2
 have c2b1 : decide (20000 < a0.size) = false := decide_eq_false (by omega)
 clear c2
 replace H := Option.bind_eq_some_iff.mp H
 obtain ⟨⟨t246, t249, t250, t251⟩, A30, H⟩ := H
 replace H : (if t251 = 0 then ((hearsaylaw08_places.f k a0).bind fun t254 => (hearsaylaw08_TokenPlaces.l0 k a0 t246 t254 0 0)) else (if (t246.length : Int) = 0 then ((hearsaylaw08_reads.f).bind fun t253 => (some t253)) else (some false))) = some r := H
 have A3 := Aside0.mk A30
 clear A30
 by_cases c4 : t251 = 0
 { as_aux_lemma => (
 rw [if_pos c4] at H
 have c4b0 : (t251 == 0) = true := beq_iff_eq.mpr c4
 have c4b1 : (t251 != 0) = false := bne_eq_false_iff_eq.mpr c4
 clear c4
 replace H := Option.bind_eq_some_iff.mp H
 obtain ⟨t254, A50, H⟩ := H
 replace H : (hearsaylaw08_TokenPlaces.l0 k a0 t246 t254 0 0) = some r := H
 have A5 := Aside0.mk A50
 clear A50
 have H' := Aside0.mk H
 clear H
 go_enter Try.func6, Try.ntmps6
 go_wp2_with (first | ((with_reducible refine gate_callee (f := 12) rfl ?_); refine goesL_ (some 18) rfl rfl Try.func12 (by kernel_rfl) rfl #[.string a0] rfl (by (try simp only [List.map_toArray, List.map_cons, List.map_nil]); first | done | rfl | (simp only [List.length_drop, List.length_take]; rfl)) ?_; (with_reducible refine (token_Entries.calls a0 t246 t249 t250 t251 _ A3.out).mono ?_); rintro e w6 ⟨v247, rfl, ho0, hb⟩; refine ⟨_, rfl, ?_⟩; have n0_ := Aside0.mk (Kd.S_lower ho0 (below_size (by repeat (first | (with_reducible first | exact HB.out | apply below_alloc | apply pw_below_drewN | apply below_drew1) | exact HB.out)))); have n1_ := Aside0.mk (below_step (by repeat (first | (with_reducible first | exact HB.out | apply below_alloc | apply pw_below_drewN | apply below_drew1) | exact HB.out)) hb); clear HB; have HO248 := n0_; have HB := n1_; clear n0_ n1_; (try clear hb); (try clear hb2); (try clear hk); (try clear hi); (try clear ho0)) | ((with_reducible refine gate_dst (N := 4) rfl ?_); (try (refine gate_guard (by rfl) ?_; dsimp only)); refine box_event ?hg (N := 4) ?hd (cs := #[.int .i64 0, .int .i64 0]) (t := 30) ?hr ?_; (case hd => rfl); (case hg => rfl); (case hr => first | (go_simp; done) | (go_simp; rfl)); intro gb252 hg w7 hbox hb; have n0_ := Aside0.mk (Kd.S_below (by (with_reducible repeat (first | apply Kd.S_alloc | apply Kd.S_drewN | apply Kd.S_drew)); exact HO248.out) hb); have n1_ := Aside0.mk (below_step (by repeat (first | (with_reducible first | exact HB.out | apply below_alloc | apply pw_below_drewN | apply below_drew1) | exact HB.out)) hb); have n2_ := Aside0.mk (hbox); have n3_ := Aside0.mk ((by rw [hg]; exact (below_size (by repeat (first | (with_reducible first | exact HB.out | apply below_alloc | apply pw_below_drewN | apply below_drew1) | exact HB.out))) : w.heap.size ≤ gb252)); have n4_ := Aside0.mk ((by rw [hg]; exact (below_size (by repeat (first | (with_reducible first | exact HB.out | apply below_alloc | apply pw_below_drewN | apply below_drew1) | exact HB.out))) : w.heap.size ≤ gb252)); clear HO248; clear HB; have HO248 := n0_; have HB := n1_; have BK252 := n2_; have GW252 := n3_; have GE252 := n4_; clear n0_ n1_ n2_ n3_ n4_; clear hb hbox hg; have hcz8_0 : w7.cell? ⟨gb252, 0, none⟩ = some (.int .i64 0) := (blk_cell BK252.out 0).trans rfl; have hcz8_1 : w7.cell? ⟨gb252, 1, none⟩ = some (.int .i64 0) := (blk_cell BK252.out 1).trans rfl; have hfz8_0 := blk_frozen BK252.out 0; have hfz8_1 := blk_frozen BK252.out 1) | ((with_reducible refine gate_callee (f := 20) rfl ?_); refine goesL_ (some 31) rfl rfl Try.func20 (by kernel_rfl) rfl #[.string a0] rfl (by (try simp only [List.map_toArray, List.map_cons, List.map_nil]); first | done | rfl | (simp only [List.length_drop, List.length_take]; rfl)) ?_; (with_reducible refine (hearsaylaw08_places.calls k a0 t254 _ A5.out).mono ?_); rintro e w9 ⟨v255, rfl, ho0, hb⟩; refine ⟨_, rfl, ?_⟩; have n0_ := Aside0.mk (Kd.S_below (by (with_reducible repeat (first | apply Kd.S_alloc | apply Kd.S_drewN | apply Kd.S_drew)); exact (Kd.S_mono (Kd.S_far (p := ⟨gb252, 1, none⟩) (Kd.S_far (p := ⟨gb252, 0, none⟩) (Kd.S_types HO248.out BK252.out (by decide)) (fun _ hk => hk.2) (.int .i64 t249)) (fun _ hk => hk.2) (.int .i64 t250)) (fun _ h_ => h_.1))) hb); have n1_ := Aside0.mk (Kd.R_lower ho0 (below_size (by repeat (first | (with_reducible first | exact HB.out | apply below_alloc | apply pw_below_drewN | apply below_drew1 | refine below_set ?_ GE252.out) | exact HB.out)))); have n2_ := Aside0.mk (blk_below (g := gb252) (o := .cells #[.int .i64 t249, .int .i64 t250] 30 (0, 0)) (by (with_reducible repeat (first | refine blk_drewN ?_ _ | refine blk_drew ?_ | refine blk_alloc ?_ _)); refine blk_put (cs := #[.int .i64 t249, .int .i64 0]) ?_ 1 _ rfl; (with_reducible repeat (first | refine blk_drewN ?_ _ | refine blk_drew ?_ | refine blk_alloc ?_ _)); refine blk_put (cs := #[.int .i64 0, .int .i64 0]) ?_ 0 _ rfl; (with_reducible repeat (first | refine blk_drewN ?_ _ | refine blk_drew ?_ | refine blk_alloc ?_ _)); exact BK252.out) hb); have n3_ := Aside0.mk (below_step (by repeat (first | (with_reducible first | exact HB.out | apply below_alloc | apply pw_below_drewN | apply below_drew1 | refine below_set ?_ GE252.out) | exact HB.out)) hb); clear HO248; clear BK252; clear HB; have HO248 := n0_; have HO256 := n1_; have BK252 := n2_; have HB := n3_; clear n0_ n1_ n2_ n3_; (try clear hb); (try clear hb2); (try clear hk); (try clear hi); (try clear ho0)))
 go_loopg [7, 8] k (fun kq v7 v8 w' => ∃ (x7_1 : Int) (x8_1 : Int), v7 = .int .i64 x7_1 ∧ v8 = .int .i64 x8_1 ∧ Aside0 (hearsaylaw08_TokenPlaces.l0 kq a0 t246 t254 x7_1 x8_1 = some r) ∧ Aside0 (kq ≤ k) ∧ Aside0 (Kd.S k45 45 w' w.heap.size (fun _ => True) v247 t246) ∧ Aside0 (Kd.R (Kd.int .i64) 3 w' w.heap.size (fun _ => True) v255 t254) ∧ Aside0 (w'.heap[gb252]? = some (.cells #[.int .i64 t249, .int .i64 t250] 30 (0, 0))) ∧ Aside0 (Below w.heap.size w w'))
 case atStart => exact ⟨(0), (0), (by first | rfl | (simp; done) | (simp [*]; done)), (by first | rfl | (simp; done) | (simp [*]; done)), H', ⟨Nat.le_refl _⟩, ⟨by (with_reducible repeat (first | apply Kd.S_alloc | apply Kd.S_drewN | apply Kd.S_drew)); exact HO248.out⟩, ⟨by (with_reducible repeat (first | apply Kd.R_alloc | apply Kd.R_drewN | apply Kd.R_drew)); exact HO256.out⟩, ⟨by (with_reducible repeat (first | refine blk_drewN ?_ _ | refine blk_drew ?_ | refine blk_alloc ?_ _)); exact BK252.out⟩, ⟨by repeat (first | (with_reducible first | exact HB.out | apply below_alloc | apply pw_below_drewN | apply below_drew1 | refine below_set ?_ GE252.out) | exact HB.out)⟩⟩
 case round => (as_aux_lemma => (
 clear H'
 try clear c1
 try clear c2
 try clear c2b0
 try clear c2b1
 try clear p2
 try clear c4
 try clear c4b0
 try clear c4b1
 try clear c6
 try clear hcz8_0
 try clear hcz8_1
 try clear hfz8_0
 try clear hfz8_1
 obtain ⟨x7_1, x8_1, rfl, rfl, HA, HK1, HO_3, HO_6, BK252, HB⟩ := hrel
 cases gk with
 | zero => exact absurd HA.out (by simp [hearsaylaw08_TokenPlaces.l0])
 | succ k1 => (
 have H := HA.out
 clear HA
 simp only [hearsaylaw08_TokenPlaces.l0] at H
 by_cases c10 : x8_1 < (t246.length : Int)
 { as_aux_lemma => (
 rw [if_pos c10] at H
 have c10b0 : decide (x8_1 < (t246.length : Int)) = true := decide_eq_true c10
 clear c10
 have HC11 := Aside0.mk H
 clear H
 obtain ⟨Ao12, co12, eo12⟩ := Kd.S_slice HO_3.out
 subst eo12
 go_upto_region 11 with (fail)
 go_cut [96] (fun v96 wc => ∃ (kq : Nat) (x96_10 : Bool), v96 = .bool x96_10 ∧ Aside0 (hearsaylaw08_TokenPlaces.j1 kq a0 t246 t254 x7_1 x8_1 x96_10 = some r) ∧ Aside0 (kq ≤ k1) ∧ Aside0 (Kd.S k45 45 wc w.heap.size (fun _ => True) (.slice Ao12 t246.length co12) t246) ∧ Aside0 (Kd.R (Kd.int .i64) 3 wc w.heap.size (fun _ => True) v255 t254) ∧ Aside0 (wc.heap[gb252]? = some (.cells #[.int .i64 t249, .int .i64 t250] 30 (0, 0))) ∧ Aside0 (Below w.heap.size w wc))
 case first => (as_aux_lemma => (
 have H := HC11.out
 clear HC11
 by_cases c13 : 0 ≤ x8_1
 { as_aux_lemma => (
 rw [if_pos c13] at H
 have c13b0 : decide (0 ≤ x8_1) = true := decide_eq_true c13
 clear c13
 (first | rw [c13b0] | (simp only [i64_w, i32_w]; rw [c13b0]) | skip)
 by_cases c14 : ((rd_T45 t246 x8_1).f1) < 1
 { as_aux_lemma => (
 rw [if_pos c14] at H
 have c14b0 : decide (((rd_T45 t246 x8_1).f1) < 1) = true := decide_eq_true c14
 clear c14
 have H' := Aside0.mk H
 clear H
 try go_wp2
 have n0_ := Aside0.mk (Kd.S_drew HO_3.out)
 have n1_ := Aside0.mk (Kd.R_drew HO_6.out)
 have n2_ := Aside0.mk (blk_drew BK252.out)
 have n3_ := Aside0.mk (below_drew1 HB.out)
 clear HO_3
 clear HO_6
 clear BK252
 clear HB
 have HO_3 := n0_
 have HO_6 := n1_
 have BK252 := n2_
 have HB := n3_
 clear n0_ n1_ n2_ n3_
 have p258 : 0 ≤ (x8_1 : Int) := of_decide_eq_true (by first | (with_reducible assumption) | assumption)
 have q258 : x8_1 < (t246.length : Int) := of_decide_eq_true (by first | (with_reducible assumption) | assumption)
 obtain ⟨ad258, A258_2, c258_2, e258, hx258_0, hx258_1, hx258_2, hl258_2, hi258_2⟩ := at_T45 (Kd.S_reads' HO_3.out).2.2 x8_1 p258 q258
 cases e258
 obtain ⟨ce258, hce258, hMe258, hcc258⟩ := Kd.S_get HO_3.out z45 x8_1 p258 (by first | exact q258 | exact of_decide_eq_true (by first | (with_reducible assumption) | assumption) | (have e_ := (Kd.S_reads' HO_3.out).1; omega))
 obtain ⟨ve258_2, rfl, ge258_2⟩ := k45_openM hMe258
 have hv258_2 := hcc258 2 _ rfl
 rw [add_field _ _ 2 (by omega)] at hv258_2
 replace hv258_2 := Option.some.inj (hv258_2.symm.trans hx258_2)
 rw [hv258_2] at ge258_2
 have HL258_2 := Aside0.mk (show Kd.R k23 23 _ _ _ _ ((rd_T45 t246 x8_1).f2) from ge258_2)
 clear hv258_2 ge258_2
 clear hcc258 hce258
 have HR258_2 := Aside0.mk hi258_2
 have HC258_2 := Aside0.mk hl258_2
 clear hi258_2 hl258_2
 replace p258 := eq_true p258
 replace q258 := eq_true q258
 refine start_ (n := 59) (S := fun w' => w'.cell? (ad258.add ((x8_1).toNat * 3)) = some (.bool ((rd_T45 t246 x8_1).f0)) ∧ w'.cell? ⟨(ad258.add ((x8_1).toNat * 3)).block, (ad258.add ((x8_1).toNat * 3)).off + 1, none⟩ = some (.int .i64 ((rd_T45 t246 x8_1).f1)) ∧ w'.cell? ⟨(ad258.add ((x8_1).toNat * 3)).block, (ad258.add ((x8_1).toNat * 3)).off + 2, none⟩ = some (.slice A258_2 ((rd_T45 t246 x8_1).f2).length c258_2)) (ds := []) (bm_ 59 0) (by kernel_rfl) rfl rfl ⟨hx258_0, hx258_1, hx258_2⟩ (fun hHeld => ?_); refine with_tabW hearsaylaw08_TokenPlaces.tab11 hearsaylaw08_TokenPlaces.bits11 (fun HT_ HW_ => ?_)
 generalize wr.drew = w15 at HO_3 HO_6 BK252 HB HL258_2 HR258_2 hx258_0 hx258_1 hx258_2 hHeld ⊢
 refine pure_ (i := 0) (N := some 38) (v := ?_) (a' := ?_) (bm_ 59 1) rfl rfl (any_of HT_.out (by kernel_rfl)) (fun _ _ _ h => h) (Or.inl ⟨by rfl, ?_⟩) ?_ ?_
 rotate_left
 {
 intro w'
 go_simp
 with_reducible rfl }
 rotate_left
 {
 simp only [Act.put, sA_, s0_, sS_, i64_w, i32_w]
 rfl }
 refine pure_ (i := 1) (N := some 39) (v := ?_) (a' := ?_) (bm_ 59 3) rfl rfl (any_of HT_.out (by kernel_rfl)) (fun _ _ _ h => h) (Or.inl ⟨by rfl, ?_⟩) ?_ ?_
 rotate_left
 {
 intro w'
 go_simp
 with_reducible rfl }
 rotate_left
 {
 simp only [Act.put, sA_, s0_, sS_, i64_w, i32_w]
 rfl }
 refine pure_ (i := 2) (N := some 40) (v := ?_) (a' := ?_) (bm_ 59 7) rfl rfl (any_of HT_.out (by kernel_rfl)) (fun _ _ _ h => h) (Or.inl ⟨by rfl, ?_⟩) ?_ ?_
 rotate_left
 {
 intro w'
 go_simp
 with_reducible rfl }
 rotate_left
 {
 simp only [Act.put, sA_, s0_, sS_, i64_w, i32_w]
 rfl }
 refine pure_ (i := 3) (N := some 41) (v := ?_) (a' := ?_) (bm_ 59 15) rfl rfl (any_of HT_.out (by kernel_rfl)) (fun _ _ _ h => h) (Or.inl ⟨by rfl, ?_⟩) ?_ ?_
 rotate_left
 {
 intro w'
 go_simp
 with_reducible rfl }
 rotate_left
 {
 simp only [Act.put, sA_, s0_, sS_, i64_w, i32_w]
 rfl }
 refine take_ (i := 4) (N := some 42) (v := ?_) (a' := ?_) (bm_ 59 31) rfl rfl (take_ofW HT_.out HW_.out (by kernel_rfl)) (fun _ _ _ h => h) (Or.inl ⟨by rfl, ?_⟩) hHeld ?_ ?_
 rotate_left
 {
 rintro w' ⟨s0, s1, s2⟩
 go_simp
 with_reducible rfl }
 rotate_left
 {
 simp only [Act.put, sA_, s0_, sS_, i64_w, i32_w]
 rfl }
 refine pure_ (i := 5) (N := some 43) (v := ?_) (a' := ?_) (bm_ 59 63) rfl rfl (any_of HT_.out (by kernel_rfl)) (fun _ _ _ h => h) (Or.inl ⟨by rfl, ?_⟩) ?_ ?_
 rotate_left
 {
 intro w'
 go_simp
 with_reducible rfl }
 rotate_left
 {
 simp only [Act.put, sA_, s0_, sS_, i64_w, i32_w]
 rfl }
 refine pure_ (i := 6) (N := some 44) (v := ?_) (a' := ?_) (bm_ 59 127) rfl rfl (any_of HT_.out (by kernel_rfl)) (fun _ _ _ h => h) (Or.inl ⟨by rfl, ?_⟩) ?_ ?_
 rotate_left
 {
 intro w'
 go_simp
 with_reducible rfl }
 rotate_left
 {
 simp only [Act.put, sA_, s0_, sS_, i64_w, i32_w]
 rfl }
 refine pure_ (i := 7) (N := some 45) (v := undef) (a' := ?_) (bm_ 59 255) rfl rfl (any_of HT_.out (by kernel_rfl)) (fun _ _ _ h => h) (Or.inr ⟨by rfl, rfl⟩) ?_ ?_
 rotate_left
 {
 simp only [Act.put, sA_, s0_, sS_, i64_w, i32_w]
 rfl }
 refine pure_ (i := 8) (N := some 46) (v := undef) (a' := ?_) (bm_ 59 511) rfl rfl (any_of HT_.out (by kernel_rfl)) (fun _ _ _ h => h) (Or.inr ⟨by rfl, rfl⟩) ?_ ?_
 rotate_left
 {
 simp only [Act.put, sA_, s0_, sS_, i64_w, i32_w]
 rfl }
 refine pure_ (i := 9) (N := some 47) (v := undef) (a' := ?_) (bm_ 59 1023) rfl rfl (any_of HT_.out (by kernel_rfl)) (fun _ _ _ h => h) (Or.inr ⟨by rfl, rfl⟩) ?_ ?_
 rotate_left
 {
 simp only [Act.put, sA_, s0_, sS_, i64_w, i32_w]
 rfl }
 refine pure_ (i := 10) (N := some 48) (v := undef) (a' := ?_) (bm_ 59 2047) rfl rfl (any_of HT_.out (by kernel_rfl)) (fun _ _ _ h => h) (Or.inr ⟨by rfl, rfl⟩) ?_ ?_
 rotate_left
 {
 simp only [Act.put, sA_, s0_, sS_, i64_w, i32_w]
 rfl }
 refine pure_ (i := 11) (N := some 49) (v := undef) (a' := ?_) (bm_ 59 4095) rfl rfl (any_of HT_.out (by kernel_rfl)) (fun _ _ _ h => h) (Or.inr ⟨by rfl, rfl⟩) ?_ ?_
 rotate_left
 {
 simp only [Act.put, sA_, s0_, sS_, i64_w, i32_w]
 rfl }
 refine pure_ (i := 12) (N := some 50) (v := undef) (a' := ?_) (bm_ 59 8191) rfl rfl (any_of HT_.out (by kernel_rfl)) (fun _ _ _ h => h) (Or.inr ⟨by rfl, rfl⟩) ?_ ?_
 rotate_left
 {
 simp only [Act.put, sA_, s0_, sS_, i64_w, i32_w]
 rfl }
 refine pure_ (i := 13) (N := some 51) (v := undef) (a' := ?_) (bm_ 59 16383) rfl rfl (any_of HT_.out (by kernel_rfl)) (fun _ _ _ h => h) (Or.inr ⟨by rfl, rfl⟩) ?_ ?_
 rotate_left
 {
 simp only [Act.put, sA_, s0_, sS_, i64_w, i32_w]
 rfl }
 refine pure_ (i := 14) (N := some 52) (v := undef) (a' := ?_) (bm_ 59 32767) rfl rfl (any_of HT_.out (by kernel_rfl)) (fun _ _ _ h => h) (Or.inr ⟨by rfl, rfl⟩) ?_ ?_
 rotate_left
 {
 simp only [Act.put, sA_, s0_, sS_, i64_w, i32_w]
 rfl }
 refine pure_ (i := 15) (N := some 53) (v := ?_) (a' := ?_) (bm_ 59 65535) rfl rfl (any_of HT_.out (by kernel_rfl)) (fun _ _ _ h => h) (Or.inl ⟨by rfl, ?_⟩) ?_ ?_
 rotate_left
 {
 intro w'
 go_simp
 with_reducible rfl }
 rotate_left
 {
 simp only [Act.put, sA_, s0_, sS_, i64_w, i32_w]
 rfl }
 refine pure_ (i := 16) (N := some 54) (v := ?_) (a' := ?_) (bm_ 59 131071) rfl rfl (any_of HT_.out (by kernel_rfl)) (fun _ _ _ h => h) (Or.inl ⟨by rfl, ?_⟩) ?_ ?_
 rotate_left
 {
 intro w'
 go_simp
 with_reducible rfl }
 rotate_left
 {
 simp only [Act.put, sA_, s0_, sS_, i64_w, i32_w]
 rfl }
 refine pure_ (i := 17) (N := some 55) (v := undef) (a' := ?_) (bm_ 59 262143) rfl rfl (any_of HT_.out (by kernel_rfl)) (fun _ _ _ h => h) (Or.inr ⟨by rfl, rfl⟩) ?_ ?_
 rotate_left
 {
 simp only [Act.put, sA_, s0_, sS_, i64_w, i32_w]
 rfl }
 refine pure_ (i := 18) (N := some 56) (v := undef) (a' := ?_) (bm_ 59 524287) rfl rfl (any_of HT_.out (by kernel_rfl)) (fun _ _ _ h => h) (Or.inr ⟨by rfl, rfl⟩) ?_ ?_
 rotate_left
 {
 simp only [Act.put, sA_, s0_, sS_, i64_w, i32_w]
 rfl }
 refine pure_ (i := 19) (N := some 57) (v := undef) (a' := ?_) (bm_ 59 1048575) rfl rfl (any_of HT_.out (by kernel_rfl)) (fun _ _ _ h => h) (Or.inr ⟨by rfl, rfl⟩) ?_ ?_
 rotate_left
 {
 simp only [Act.put, sA_, s0_, sS_, i64_w, i32_w]
 rfl }
 refine pure_ (i := 20) (N := some 58) (v := undef) (a' := ?_) (bm_ 59 2097151) rfl rfl (any_of HT_.out (by kernel_rfl)) (fun _ _ _ h => h) (Or.inr ⟨by rfl, rfl⟩) ?_ ?_
 rotate_left
 {
 simp only [Act.put, sA_, s0_, sS_, i64_w, i32_w]
 rfl }
 refine pure_ (i := 21) (N := some 59) (v := undef) (a' := ?_) (bm_ 59 4194303) rfl rfl (any_of HT_.out (by kernel_rfl)) (fun _ _ _ h => h) (Or.inr ⟨by rfl, rfl⟩) ?_ ?_
 rotate_left
 {
 simp only [Act.put, sA_, s0_, sS_, i64_w, i32_w]
 rfl }
 refine pure_ (i := 22) (N := some 60) (v := undef) (a' := ?_) (bm_ 59 8388607) rfl rfl (any_of HT_.out (by kernel_rfl)) (fun _ _ _ h => h) (Or.inr ⟨by rfl, rfl⟩) ?_ ?_
 rotate_left
 {
 simp only [Act.put, sA_, s0_, sS_, i64_w, i32_w]
 rfl }
 refine pure_ (i := 23) (N := some 61) (v := undef) (a' := ?_) (bm_ 59 16777215) rfl rfl (any_of HT_.out (by kernel_rfl)) (fun _ _ _ h => h) (Or.inr ⟨by rfl, rfl⟩) ?_ ?_
 rotate_left
 {
 simp only [Act.put, sA_, s0_, sS_, i64_w, i32_w]
 rfl }
 refine pure_ (i := 24) (N := some 62) (v := ?_) (a' := ?_) (bm_ 59 33554431) rfl rfl (any_of HT_.out (by kernel_rfl)) (fun _ _ _ h => h) (Or.inl ⟨by rfl, ?_⟩) ?_ ?_
 rotate_left
 {
 intro w'
 go_simp
 with_reducible rfl }
 rotate_left
 {
 simp only [Act.put, sA_, s0_, sS_, i64_w, i32_w]
 rfl }
 refine pure_ (i := 25) (N := some 63) (v := ?_) (a' := ?_) (bm_ 59 67108863) rfl rfl (any_of HT_.out (by kernel_rfl)) (fun _ _ _ h => h) (Or.inl ⟨by rfl, ?_⟩) ?_ ?_
 rotate_left
 {
 intro w'
 go_simp
 with_reducible rfl }
 rotate_left
 {
 simp only [Act.put, sA_, s0_, sS_, i64_w, i32_w]
 rfl }
 refine pure_ (i := 26) (N := some 64) (v := undef) (a' := ?_) (bm_ 59 134217727) rfl rfl (any_of HT_.out (by kernel_rfl)) (fun _ _ _ h => h) (Or.inr ⟨by rfl, rfl⟩) ?_ ?_
 rotate_left
 {
 simp only [Act.put, sA_, s0_, sS_, i64_w, i32_w]
 rfl }
 refine pure_ (i := 27) (N := some 65) (v := undef) (a' := ?_) (bm_ 59 268435455) rfl rfl (any_of HT_.out (by kernel_rfl)) (fun _ _ _ h => h) (Or.inr ⟨by rfl, rfl⟩) ?_ ?_
 rotate_left
 {
 simp only [Act.put, sA_, s0_, sS_, i64_w, i32_w]
 rfl }
 refine pure_ (i := 28) (N := some 66) (v := undef) (a' := ?_) (bm_ 59 536870911) rfl rfl (any_of HT_.out (by kernel_rfl)) (fun _ _ _ h => h) (Or.inr ⟨by rfl, rfl⟩) ?_ ?_
 rotate_left
 {
 simp only [Act.put, sA_, s0_, sS_, i64_w, i32_w]
 rfl }
 refine pure_ (i := 29) (N := some 67) (v := undef) (a' := ?_) (bm_ 59 1073741823) rfl rfl (any_of HT_.out (by kernel_rfl)) (fun _ _ _ h => h) (Or.inr ⟨by rfl, rfl⟩) ?_ ?_
 rotate_left
 {
 simp only [Act.put, sA_, s0_, sS_, i64_w, i32_w]
 rfl }
 refine pure_ (i := 30) (N := some 68) (v := undef) (a' := ?_) (bm_ 59 2147483647) rfl rfl (any_of HT_.out (by kernel_rfl)) (fun _ _ _ h => h) (Or.inr ⟨by rfl, rfl⟩) ?_ ?_
 rotate_left
 {
 simp only [Act.put, sA_, s0_, sS_, i64_w, i32_w]
 rfl }
 refine pure_ (i := 31) (N := some 69) (v := undef) (a' := ?_) (bm_ 59 4294967295) rfl rfl (any_of HT_.out (by kernel_rfl)) (fun _ _ _ h => h) (Or.inr ⟨by rfl, rfl⟩) ?_ ?_
 rotate_left
 {
 simp only [Act.put, sA_, s0_, sS_, i64_w, i32_w]
 rfl }
 refine pure_ (i := 32) (N := some 70) (v := undef) (a' := ?_) (bm_ 59 8589934591) rfl rfl (any_of HT_.out (by kernel_rfl)) (fun _ _ _ h => h) (Or.inr ⟨by rfl, rfl⟩) ?_ ?_
 rotate_left
 {
 simp only [Act.put, sA_, s0_, sS_, i64_w, i32_w]
 rfl }
 refine pure_ (i := 33) (N := some 71) (v := undef) (a' := ?_) (bm_ 59 17179869183) rfl rfl (any_of HT_.out (by kernel_rfl)) (fun _ _ _ h => h) (Or.inr ⟨by rfl, rfl⟩) ?_ ?_
 rotate_left
 {
 simp only [Act.put, sA_, s0_, sS_, i64_w, i32_w]
 rfl }
 refine pure_ (i := 34) (N := some 72) (v := undef) (a' := ?_) (bm_ 59 34359738367) rfl rfl (any_of HT_.out (by kernel_rfl)) (fun _ _ _ h => h) (Or.inr ⟨by rfl, rfl⟩) ?_ ?_
 rotate_left
 {
 simp only [Act.put, sA_, s0_, sS_, i64_w, i32_w]
 rfl }
 refine pure_ (i := 35) (N := some 73) (v := undef) (a' := ?_) (bm_ 59 68719476735) rfl rfl (any_of HT_.out (by kernel_rfl)) (fun _ _ _ h => h) (Or.inr ⟨by rfl, rfl⟩) ?_ ?_
 rotate_left
 {
 simp only [Act.put, sA_, s0_, sS_, i64_w, i32_w]
 rfl }
 refine pure_ (i := 36) (N := some 74) (v := undef) (a' := ?_) (bm_ 59 137438953471) rfl rfl (any_of HT_.out (by kernel_rfl)) (fun _ _ _ h => h) (Or.inr ⟨by rfl, rfl⟩) ?_ ?_
 rotate_left
 {
 simp only [Act.put, sA_, s0_, sS_, i64_w, i32_w]
 rfl }
 refine pure_ (i := 37) (N := some 75) (v := undef) (a' := ?_) (bm_ 59 274877906943) rfl rfl (any_of HT_.out (by kernel_rfl)) (fun _ _ _ h => h) (Or.inr ⟨by rfl, rfl⟩) ?_ ?_
 rotate_left
 {
 simp only [Act.put, sA_, s0_, sS_, i64_w, i32_w]
 rfl }
 refine pure_ (i := 38) (N := some 76) (v := ?_) (a' := ?_) (bm_ 59 549755813887) rfl rfl (any_of HT_.out (by kernel_rfl)) (fun _ _ _ h => h) (Or.inl ⟨by rfl, ?_⟩) ?_ ?_
 rotate_left
 {
 intro w'
 go_simp
 with_reducible rfl }
 rotate_left
 {
 simp only [Act.put, sA_, s0_, sS_, i64_w, i32_w]
 rfl }
 refine pure_ (i := 39) (N := some 77) (v := ?_) (a' := ?_) (bm_ 59 1099511627775) rfl rfl (any_of HT_.out (by kernel_rfl)) (fun _ _ _ h => h) (Or.inl ⟨by rfl, ?_⟩) ?_ ?_
 rotate_left
 {
 intro w'
 go_simp
 with_reducible rfl }
 rotate_left
 {
 simp only [Act.put, sA_, s0_, sS_, i64_w, i32_w]
 rfl }
 refine pure_ (i := 40) (N := some 78) (v := undef) (a' := ?_) (bm_ 59 2199023255551) rfl rfl (any_of HT_.out (by kernel_rfl)) (fun _ _ _ h => h) (Or.inr ⟨by rfl, rfl⟩) ?_ ?_
 rotate_left
 {
 simp only [Act.put, sA_, s0_, sS_, i64_w, i32_w]
 rfl }
 refine pure_ (i := 41) (N := some 79) (v := undef) (a' := ?_) (bm_ 59 4398046511103) rfl rfl (any_of HT_.out (by kernel_rfl)) (fun _ _ _ h => h) (Or.inr ⟨by rfl, rfl⟩) ?_ ?_
 rotate_left
 {
 simp only [Act.put, sA_, s0_, sS_, i64_w, i32_w]
 rfl }
 refine pure_ (i := 42) (N := some 80) (v := undef) (a' := ?_) (bm_ 59 8796093022207) rfl rfl (any_of HT_.out (by kernel_rfl)) (fun _ _ _ h => h) (Or.inr ⟨by rfl, rfl⟩) ?_ ?_
 rotate_left
 {
 simp only [Act.put, sA_, s0_, sS_, i64_w, i32_w]
 rfl }
 refine pure_ (i := 43) (N := some 81) (v := undef) (a' := ?_) (bm_ 59 17592186044415) rfl rfl (any_of HT_.out (by kernel_rfl)) (fun _ _ _ h => h) (Or.inr ⟨by rfl, rfl⟩) ?_ ?_
 rotate_left
 {
 simp only [Act.put, sA_, s0_, sS_, i64_w, i32_w]
 rfl }
 refine pure_ (i := 44) (N := some 82) (v := undef) (a' := ?_) (bm_ 59 35184372088831) rfl rfl (any_of HT_.out (by kernel_rfl)) (fun _ _ _ h => h) (Or.inr ⟨by rfl, rfl⟩) ?_ ?_
 rotate_left
 {
 simp only [Act.put, sA_, s0_, sS_, i64_w, i32_w]
 rfl }
 refine pure_ (i := 45) (N := some 83) (v := undef) (a' := ?_) (bm_ 59 70368744177663) rfl rfl (any_of HT_.out (by kernel_rfl)) (fun _ _ _ h => h) (Or.inr ⟨by rfl, rfl⟩) ?_ ?_
 rotate_left
 {
 simp only [Act.put, sA_, s0_, sS_, i64_w, i32_w]
 rfl }
 refine pure_ (i := 46) (N := some 84) (v := undef) (a' := ?_) (bm_ 59 140737488355327) rfl rfl (any_of HT_.out (by kernel_rfl)) (fun _ _ _ h => h) (Or.inr ⟨by rfl, rfl⟩) ?_ ?_
 rotate_left
 {
 simp only [Act.put, sA_, s0_, sS_, i64_w, i32_w]
 rfl }
 refine pure_ (i := 47) (N := some 85) (v := undef) (a' := ?_) (bm_ 59 281474976710655) rfl rfl (any_of HT_.out (by kernel_rfl)) (fun _ _ _ h => h) (Or.inr ⟨by rfl, rfl⟩) ?_ ?_
 rotate_left
 {
 simp only [Act.put, sA_, s0_, sS_, i64_w, i32_w]
 rfl }
 refine pure_ (i := 48) (N := some 86) (v := undef) (a' := ?_) (bm_ 59 562949953421311) rfl rfl (any_of HT_.out (by kernel_rfl)) (fun _ _ _ h => h) (Or.inr ⟨by rfl, rfl⟩) ?_ ?_
 rotate_left
 {
 simp only [Act.put, sA_, s0_, sS_, i64_w, i32_w]
 rfl }
 refine pure_ (i := 49) (N := some 87) (v := undef) (a' := ?_) (bm_ 59 1125899906842623) rfl rfl (any_of HT_.out (by kernel_rfl)) (fun _ _ _ h => h) (Or.inr ⟨by rfl, rfl⟩) ?_ ?_
 rotate_left
 {
 simp only [Act.put, sA_, s0_, sS_, i64_w, i32_w]
 rfl }
 refine pure_ (i := 50) (N := some 88) (v := undef) (a' := ?_) (bm_ 59 2251799813685247) rfl rfl (any_of HT_.out (by kernel_rfl)) (fun _ _ _ h => h) (Or.inr ⟨by rfl, rfl⟩) ?_ ?_
 rotate_left
 {
 simp only [Act.put, sA_, s0_, sS_, i64_w, i32_w]
 rfl }
 refine pure_ (i := 51) (N := some 89) (v := undef) (a' := ?_) (bm_ 59 4503599627370495) rfl rfl (any_of HT_.out (by kernel_rfl)) (fun _ _ _ h => h) (Or.inr ⟨by rfl, rfl⟩) ?_ ?_
 rotate_left
 {
 simp only [Act.put, sA_, s0_, sS_, i64_w, i32_w]
 rfl }
 refine pure_ (i := 52) (N := some 90) (v := undef) (a' := ?_) (bm_ 59 9007199254740991) rfl rfl (any_of HT_.out (by kernel_rfl)) (fun _ _ _ h => h) (Or.inr ⟨by rfl, rfl⟩) ?_ ?_
 rotate_left
 {
 simp only [Act.put, sA_, s0_, sS_, i64_w, i32_w]
 rfl }
 refine pure_ (i := 53) (N := some 91) (v := undef) (a' := ?_) (bm_ 59 18014398509481983) rfl rfl (any_of HT_.out (by kernel_rfl)) (fun _ _ _ h => h) (Or.inr ⟨by rfl, rfl⟩) ?_ ?_
 rotate_left
 {
 simp only [Act.put, sA_, s0_, sS_, i64_w, i32_w]
 rfl }
 refine pure_ (i := 54) (N := some 92) (v := undef) (a' := ?_) (bm_ 59 36028797018963967) rfl rfl (any_of HT_.out (by kernel_rfl)) (fun _ _ _ h => h) (Or.inr ⟨by rfl, rfl⟩) ?_ ?_
 rotate_left
 {
 simp only [Act.put, sA_, s0_, sS_, i64_w, i32_w]
 rfl }
 refine pure_ (i := 55) (N := some 93) (v := undef) (a' := ?_) (bm_ 59 72057594037927935) rfl rfl (any_of HT_.out (by kernel_rfl)) (fun _ _ _ h => h) (Or.inr ⟨by rfl, rfl⟩) ?_ ?_
 rotate_left
 {
 simp only [Act.put, sA_, s0_, sS_, i64_w, i32_w]
 rfl }
 refine pure_ (i := 56) (N := some 94) (v := undef) (a' := ?_) (bm_ 59 144115188075855871) rfl rfl (any_of HT_.out (by kernel_rfl)) (fun _ _ _ h => h) (Or.inr ⟨by rfl, rfl⟩) ?_ ?_
 rotate_left
 {
 simp only [Act.put, sA_, s0_, sS_, i64_w, i32_w]
 rfl }
 refine pure_ (i := 57) (N := some 95) (v := undef) (a' := ?_) (bm_ 59 288230376151711743) rfl rfl (any_of HT_.out (by kernel_rfl)) (fun _ _ _ h => h) (Or.inr ⟨by rfl, rfl⟩) ?_ ?_
 rotate_left
 {
 simp only [Act.put, sA_, s0_, sS_, i64_w, i32_w]
 rfl }
 refine pure_ (i := 58) (N := some 96) (v := ?_) (a' := ?_) (bm_ 59 576460752303423487) rfl rfl (any_of HT_.out (by kernel_rfl)) (fun _ _ _ h => h) (Or.inl ⟨by rfl, ?_⟩) ?_ ?_
 rotate_left
 {
 intro w'
 go_simp
 with_reducible rfl }
 rotate_left
 {
 simp only [Act.put, sA_, s0_, sS_, i64_w, i32_w]
 rfl }
 refine done_ (done_of HT_.out (by kernel_rfl)) ?_
 try go_wp2
 go_meet
 case rel => exact ⟨_, (true), (by first | rfl | (simp; done) | (simp [*]; done)), H', ⟨by have := HK1.out; first | omega | exact Nat.le_refl _⟩, ⟨by (with_reducible repeat (first | apply Kd.S_alloc | apply Kd.S_drewN | apply Kd.S_drew)); exact HO_3.out⟩, ⟨by (with_reducible repeat (first | apply Kd.R_alloc | apply Kd.R_drewN | apply Kd.R_drew)); exact HO_6.out⟩, ⟨by (with_reducible repeat (first | refine blk_drewN ?_ _ | refine blk_drew ?_ | refine blk_alloc ?_ _)); exact BK252.out⟩, ⟨by repeat (first | (with_reducible first | exact HB.out | apply below_alloc | apply pw_below_drewN | apply below_drew1 | refine below_set ?_ GE252.out) | exact HB.out)⟩⟩ )}
 { as_aux_lemma => (
 rw [if_neg c14] at H
 have c14b0 : decide (((rd_T45 t246 x8_1).f1) < 1) = false := decide_eq_false c14
 clear c14
 by_cases c16 : ((rd_T45 t246 x8_1).f1) > (t254.length : Int)
 { as_aux_lemma => (
 rw [if_pos c16] at H
 have c16b0 : decide ((t254.length : Int) < ((rd_T45 t246 x8_1).f1)) = true := decide_eq_true c16
 clear c16
 have H' := Aside0.mk H
 clear H
 try go_wp2
 have n0_ := Aside0.mk (Kd.S_drew HO_3.out)
 have n1_ := Aside0.mk (Kd.R_drew HO_6.out)
 have n2_ := Aside0.mk (blk_drew BK252.out)
 have n3_ := Aside0.mk (below_drew1 HB.out)
 clear HO_3
 clear HO_6
 clear BK252
 clear HB
 have HO_3 := n0_
 have HO_6 := n1_
 have BK252 := n2_
 have HB := n3_
 clear n0_ n1_ n2_ n3_
 have p258 : 0 ≤ (x8_1 : Int) := of_decide_eq_true (by first | (with_reducible assumption) | assumption)
 have q258 : x8_1 < (t246.length : Int) := of_decide_eq_true (by first | (with_reducible assumption) | assumption)
 obtain ⟨ad258, A258_2, c258_2, e258, hx258_0, hx258_1, hx258_2, hl258_2, hi258_2⟩ := at_T45 (Kd.S_reads' HO_3.out).2.2 x8_1 p258 q258
 cases e258
 obtain ⟨ce258, hce258, hMe258, hcc258⟩ := Kd.S_get HO_3.out z45 x8_1 p258 (by first | exact q258 | exact of_decide_eq_true (by first | (with_reducible assumption) | assumption) | (have e_ := (Kd.S_reads' HO_3.out).1; omega))
 obtain ⟨ve258_2, rfl, ge258_2⟩ := k45_openM hMe258
 have hv258_2 := hcc258 2 _ rfl
 rw [add_field _ _ 2 (by omega)] at hv258_2
 replace hv258_2 := Option.some.inj (hv258_2.symm.trans hx258_2)
 rw [hv258_2] at ge258_2
 have HL258_2 := Aside0.mk (show Kd.R k23 23 _ _ _ _ ((rd_T45 t246 x8_1).f2) from ge258_2)
 clear hv258_2 ge258_2
 clear hcc258 hce258
 have HR258_2 := Aside0.mk hi258_2
 have HC258_2 := Aside0.mk hl258_2
 clear hi258_2 hl258_2
 replace p258 := eq_true p258
 replace q258 := eq_true q258
 have p259 : 0 ≤ (x8_1 : Int) := of_decide_eq_true (by first | (with_reducible assumption) | assumption)
 have q259 : x8_1 < (t246.length : Int) := of_decide_eq_true (by first | (with_reducible assumption) | assumption)
 obtain ⟨ad259, A259_2, c259_2, e259, hx259_0, hx259_1, hx259_2, hl259_2, hi259_2⟩ := at_T45 (Kd.S_reads' HO_3.out).2.2 x8_1 p259 q259
 obtain rfl : ad258 = ad259 := (by injection e259)
 obtain ⟨ce259, hce259, hMe259, hcc259⟩ := Kd.S_get HO_3.out z45 x8_1 p259 (by first | exact q259 | exact of_decide_eq_true (by first | (with_reducible assumption) | assumption) | (have e_ := (Kd.S_reads' HO_3.out).1; omega))
 obtain ⟨ve259_2, rfl, ge259_2⟩ := k45_openM hMe259
 have hv259_2 := hcc259 2 _ rfl
 rw [add_field _ _ 2 (by omega)] at hv259_2
 replace hv259_2 := Option.some.inj (hv259_2.symm.trans hx259_2)
 rw [hv259_2] at ge259_2
 have HL259_2 := Aside0.mk (show Kd.R k23 23 _ _ _ _ ((rd_T45 t246 x8_1).f2) from ge259_2)
 clear hv259_2 ge259_2
 clear hcc259 hce259
 have HR259_2 := Aside0.mk hi259_2
 have HC259_2 := Aside0.mk hl259_2
 clear hi259_2 hl259_2
 replace p259 := eq_true p259
 replace q259 := eq_true q259
 have ea_ := Option.some.inj (hx258_2.symm.trans hx259_2)
 injection ea_ with ea_ en_ ec_
 subst ea_
 subst ec_
 clear en_
 obtain ⟨Ao18, co18, eo18⟩ := Kd.R_slice HO_6.out
 (first | subst eo18 | (injection eo18 with f1_ f2_ f3_; have f4_ := f1_.symm; have f5_ := f3_.symm; clear f1_ f2_ f3_; subst f4_; subst f5_))
 refine start_ (n := 59) (S := fun w' => w'.cell? (ad258.add ((x8_1).toNat * 3)) = some (.bool ((rd_T45 t246 x8_1).f0)) ∧ w'.cell? ⟨(ad258.add ((x8_1).toNat * 3)).block, (ad258.add ((x8_1).toNat * 3)).off + 1, none⟩ = some (.int .i64 ((rd_T45 t246 x8_1).f1)) ∧ w'.cell? ⟨(ad258.add ((x8_1).toNat * 3)).block, (ad258.add ((x8_1).toNat * 3)).off + 2, none⟩ = some (.slice A258_2 ((rd_T45 t246 x8_1).f2).length c258_2) ∧ w'.cell? (ad258.add ((x8_1).toNat * 3)) = some (.bool ((rd_T45 t246 x8_1).f0)) ∧ w'.cell? ⟨(ad258.add ((x8_1).toNat * 3)).block, (ad258.add ((x8_1).toNat * 3)).off + 1, none⟩ = some (.int .i64 ((rd_T45 t246 x8_1).f1)) ∧ w'.cell? ⟨(ad258.add ((x8_1).toNat * 3)).block, (ad258.add ((x8_1).toNat * 3)).off + 2, none⟩ = some (.slice A258_2 ((rd_T45 t246 x8_1).f2).length c258_2)) (ds := []) (bm_ 59 0) (by kernel_rfl) rfl rfl ⟨hx258_0, hx258_1, hx258_2, hx259_0, hx259_1, hx259_2⟩ (fun hHeld => ?_); refine with_tabW hearsaylaw08_TokenPlaces.tab11 hearsaylaw08_TokenPlaces.bits11 (fun HT_ HW_ => ?_)
 generalize wr.drew = w17 at HO_3 HO_6 BK252 HB HL258_2 HL259_2 HR258_2 HR259_2 hx258_0 hx258_1 hx258_2 hx259_0 hx259_1 hx259_2 hHeld ⊢
 refine pure_ (i := 0) (N := some 38) (v := ?_) (a' := ?_) (bm_ 59 1) rfl rfl (any_of HT_.out (by kernel_rfl)) (fun _ _ _ h => h) (Or.inl ⟨by rfl, ?_⟩) ?_ ?_
 rotate_left
 {
 intro w'
 go_simp
 with_reducible rfl }
 rotate_left
 {
 simp only [Act.put, sA_, s0_, sS_, i64_w, i32_w]
 rfl }
 refine pure_ (i := 1) (N := some 39) (v := ?_) (a' := ?_) (bm_ 59 3) rfl rfl (any_of HT_.out (by kernel_rfl)) (fun _ _ _ h => h) (Or.inl ⟨by rfl, ?_⟩) ?_ ?_
 rotate_left
 {
 intro w'
 go_simp
 with_reducible rfl }
 rotate_left
 {
 simp only [Act.put, sA_, s0_, sS_, i64_w, i32_w]
 rfl }
 refine pure_ (i := 2) (N := some 40) (v := ?_) (a' := ?_) (bm_ 59 7) rfl rfl (any_of HT_.out (by kernel_rfl)) (fun _ _ _ h => h) (Or.inl ⟨by rfl, ?_⟩) ?_ ?_
 rotate_left
 {
 intro w'
 go_simp
 with_reducible rfl }
 rotate_left
 {
 simp only [Act.put, sA_, s0_, sS_, i64_w, i32_w]
 rfl }
 refine pure_ (i := 3) (N := some 41) (v := ?_) (a' := ?_) (bm_ 59 15) rfl rfl (any_of HT_.out (by kernel_rfl)) (fun _ _ _ h => h) (Or.inl ⟨by rfl, ?_⟩) ?_ ?_
 rotate_left
 {
 intro w'
 go_simp
 with_reducible rfl }
 rotate_left
 {
 simp only [Act.put, sA_, s0_, sS_, i64_w, i32_w]
 rfl }
 refine take_ (i := 4) (N := some 42) (v := ?_) (a' := ?_) (bm_ 59 31) rfl rfl (take_ofW HT_.out HW_.out (by kernel_rfl)) (fun _ _ _ h => h) (Or.inl ⟨by rfl, ?_⟩) hHeld ?_ ?_
 rotate_left
 {
 rintro w' ⟨s0, s1, s2, s3, s4, s5⟩
 go_simp
 with_reducible rfl }
 rotate_left
 {
 simp only [Act.put, sA_, s0_, sS_, i64_w, i32_w]
 rfl }
 refine pure_ (i := 5) (N := some 43) (v := ?_) (a' := ?_) (bm_ 59 63) rfl rfl (any_of HT_.out (by kernel_rfl)) (fun _ _ _ h => h) (Or.inl ⟨by rfl, ?_⟩) ?_ ?_
 rotate_left
 {
 intro w'
 go_simp
 with_reducible rfl }
 rotate_left
 {
 simp only [Act.put, sA_, s0_, sS_, i64_w, i32_w]
 rfl }
 refine pure_ (i := 6) (N := some 44) (v := ?_) (a' := ?_) (bm_ 59 127) rfl rfl (any_of HT_.out (by kernel_rfl)) (fun _ _ _ h => h) (Or.inl ⟨by rfl, ?_⟩) ?_ ?_
 rotate_left
 {
 intro w'
 go_simp
 with_reducible rfl }
 rotate_left
 {
 simp only [Act.put, sA_, s0_, sS_, i64_w, i32_w]
 rfl }
 refine pure_ (i := 7) (N := some 45) (v := ?_) (a' := ?_) (bm_ 59 255) rfl rfl (any_of HT_.out (by kernel_rfl)) (fun _ _ _ h => h) (Or.inl ⟨by rfl, ?_⟩) ?_ ?_
 rotate_left
 {
 intro w'
 go_simp
 with_reducible rfl }
 rotate_left
 {
 simp only [Act.put, sA_, s0_, sS_, i64_w, i32_w]
 rfl }
 refine pure_ (i := 8) (N := some 46) (v := ?_) (a' := ?_) (bm_ 59 511) rfl rfl (any_of HT_.out (by kernel_rfl)) (fun _ _ _ h => h) (Or.inl ⟨by rfl, ?_⟩) ?_ ?_
 rotate_left
 {
 intro w'
 go_simp
 with_reducible rfl }
 rotate_left
 {
 simp only [Act.put, sA_, s0_, sS_, i64_w, i32_w]
 rfl }
 refine pure_ (i := 9) (N := some 47) (v := ?_) (a' := ?_) (bm_ 59 1023) rfl rfl (any_of HT_.out (by kernel_rfl)) (fun _ _ _ h => h) (Or.inl ⟨by rfl, ?_⟩) ?_ ?_
 rotate_left
 {
 intro w'
 go_simp
 with_reducible rfl }
 rotate_left
 {
 simp only [Act.put, sA_, s0_, sS_, i64_w, i32_w]
 rfl }
 refine pure_ (i := 10) (N := some 48) (v := ?_) (a' := ?_) (bm_ 59 2047) rfl rfl (any_of HT_.out (by kernel_rfl)) (fun _ _ _ h => h) (Or.inl ⟨by rfl, ?_⟩) ?_ ?_
 rotate_left
 {
 intro w'
 go_simp
 with_reducible rfl }
 rotate_left
 {
 simp only [Act.put, sA_, s0_, sS_, i64_w, i32_w]
 rfl }
 refine pure_ (i := 12) (N := some 50) (v := ?_) (a' := ?_) (bm_ 59 6143) rfl rfl (any_of HT_.out (by kernel_rfl)) (fun _ _ _ h => h) (Or.inl ⟨by rfl, ?_⟩) ?_ ?_
 rotate_left
 {
 intro w'
 go_simp
 with_reducible rfl }
 rotate_left
 {
 simp only [Act.put, sA_, s0_, sS_, i64_w, i32_w]
 rfl }
 refine pure_ (i := 13) (N := some 51) (v := ?_) (a' := ?_) (bm_ 59 14335) rfl rfl (any_of HT_.out (by kernel_rfl)) (fun _ _ _ h => h) (Or.inl ⟨by rfl, ?_⟩) ?_ ?_
 rotate_left
 {
 intro w'
 go_simp
 with_reducible rfl }
 rotate_left
 {
 simp only [Act.put, sA_, s0_, sS_, i64_w, i32_w]
 rfl }
 refine take_ (i := 11) (N := some 49) (v := ?_) (a' := ?_) (bm_ 59 16383) rfl rfl (take_ofW HT_.out HW_.out (by kernel_rfl)) (fun _ _ _ h => h) (Or.inl ⟨by rfl, ?_⟩) hHeld ?_ ?_
 rotate_left
 {
 rintro w' ⟨s0, s1, s2, s3, s4, s5⟩
 go_simp
 with_reducible rfl }
 rotate_left
 {
 simp only [Act.put, sA_, s0_, sS_, i64_w, i32_w]
 rfl }
 refine pure_ (i := 14) (N := some 52) (v := ?_) (a' := ?_) (bm_ 59 32767) rfl rfl (any_of HT_.out (by kernel_rfl)) (fun _ _ _ h => h) (Or.inl ⟨by rfl, ?_⟩) ?_ ?_
 rotate_left
 {
 intro w'
 go_simp
 with_reducible rfl }
 rotate_left
 {
 simp only [Act.put, sA_, s0_, sS_, i64_w, i32_w]
 rfl }
 refine pure_ (i := 15) (N := some 53) (v := ?_) (a' := ?_) (bm_ 59 65535) rfl rfl (any_of HT_.out (by kernel_rfl)) (fun _ _ _ h => h) (Or.inl ⟨by rfl, ?_⟩) ?_ ?_
 rotate_left
 {
 intro w'
 go_simp
 with_reducible rfl }
 rotate_left
 {
 simp only [Act.put, sA_, s0_, sS_, i64_w, i32_w]
 rfl }
 refine pure_ (i := 16) (N := some 54) (v := ?_) (a' := ?_) (bm_ 59 131071) rfl rfl (any_of HT_.out (by kernel_rfl)) (fun _ _ _ h => h) (Or.inl ⟨by rfl, ?_⟩) ?_ ?_
 rotate_left
 {
 intro w'
 go_simp
 with_reducible rfl }
 rotate_left
 {
 simp only [Act.put, sA_, s0_, sS_, i64_w, i32_w]
 rfl }
 refine pure_ (i := 17) (N := some 55) (v := undef) (a' := ?_) (bm_ 59 262143) rfl rfl (any_of HT_.out (by kernel_rfl)) (fun _ _ _ h => h) (Or.inr ⟨by rfl, rfl⟩) ?_ ?_
 rotate_left
 {
 simp only [Act.put, sA_, s0_, sS_, i64_w, i32_w]
 rfl }
 refine pure_ (i := 18) (N := some 56) (v := undef) (a' := ?_) (bm_ 59 524287) rfl rfl (any_of HT_.out (by kernel_rfl)) (fun _ _ _ h => h) (Or.inr ⟨by rfl, rfl⟩) ?_ ?_
 rotate_left
 {
 simp only [Act.put, sA_, s0_, sS_, i64_w, i32_w]
 rfl }
 refine pure_ (i := 19) (N := some 57) (v := undef) (a' := ?_) (bm_ 59 1048575) rfl rfl (any_of HT_.out (by kernel_rfl)) (fun _ _ _ h => h) (Or.inr ⟨by rfl, rfl⟩) ?_ ?_
 rotate_left
 {
 simp only [Act.put, sA_, s0_, sS_, i64_w, i32_w]
 rfl }
 refine pure_ (i := 20) (N := some 58) (v := undef) (a' := ?_) (bm_ 59 2097151) rfl rfl (any_of HT_.out (by kernel_rfl)) (fun _ _ _ h => h) (Or.inr ⟨by rfl, rfl⟩) ?_ ?_
 rotate_left
 {
 simp only [Act.put, sA_, s0_, sS_, i64_w, i32_w]
 rfl }
 refine pure_ (i := 21) (N := some 59) (v := undef) (a' := ?_) (bm_ 59 4194303) rfl rfl (any_of HT_.out (by kernel_rfl)) (fun _ _ _ h => h) (Or.inr ⟨by rfl, rfl⟩) ?_ ?_
 rotate_left
 {
 simp only [Act.put, sA_, s0_, sS_, i64_w, i32_w]
 rfl }
 refine pure_ (i := 22) (N := some 60) (v := undef) (a' := ?_) (bm_ 59 8388607) rfl rfl (any_of HT_.out (by kernel_rfl)) (fun _ _ _ h => h) (Or.inr ⟨by rfl, rfl⟩) ?_ ?_
 rotate_left
 {
 simp only [Act.put, sA_, s0_, sS_, i64_w, i32_w]
 rfl }
 refine pure_ (i := 23) (N := some 61) (v := undef) (a' := ?_) (bm_ 59 16777215) rfl rfl (any_of HT_.out (by kernel_rfl)) (fun _ _ _ h => h) (Or.inr ⟨by rfl, rfl⟩) ?_ ?_
 rotate_left
 {
 simp only [Act.put, sA_, s0_, sS_, i64_w, i32_w]
 rfl }
 refine pure_ (i := 24) (N := some 62) (v := ?_) (a' := ?_) (bm_ 59 33554431) rfl rfl (any_of HT_.out (by kernel_rfl)) (fun _ _ _ h => h) (Or.inl ⟨by rfl, ?_⟩) ?_ ?_
 rotate_left
 {
 intro w'
 go_simp
 with_reducible rfl }
 rotate_left
 {
 simp only [Act.put, sA_, s0_, sS_, i64_w, i32_w]
 rfl }
 refine pure_ (i := 25) (N := some 63) (v := ?_) (a' := ?_) (bm_ 59 67108863) rfl rfl (any_of HT_.out (by kernel_rfl)) (fun _ _ _ h => h) (Or.inl ⟨by rfl, ?_⟩) ?_ ?_
 rotate_left
 {
 intro w'
 go_simp
 with_reducible rfl }
 rotate_left
 {
 simp only [Act.put, sA_, s0_, sS_, i64_w, i32_w]
 rfl }
 refine pure_ (i := 26) (N := some 64) (v := undef) (a' := ?_) (bm_ 59 134217727) rfl rfl (any_of HT_.out (by kernel_rfl)) (fun _ _ _ h => h) (Or.inr ⟨by rfl, rfl⟩) ?_ ?_
 rotate_left
 {
 simp only [Act.put, sA_, s0_, sS_, i64_w, i32_w]
 rfl }
 refine pure_ (i := 27) (N := some 65) (v := undef) (a' := ?_) (bm_ 59 268435455) rfl rfl (any_of HT_.out (by kernel_rfl)) (fun _ _ _ h => h) (Or.inr ⟨by rfl, rfl⟩) ?_ ?_
 rotate_left
 {
 simp only [Act.put, sA_, s0_, sS_, i64_w, i32_w]
 rfl }
 refine pure_ (i := 28) (N := some 66) (v := undef) (a' := ?_) (bm_ 59 536870911) rfl rfl (any_of HT_.out (by kernel_rfl)) (fun _ _ _ h => h) (Or.inr ⟨by rfl, rfl⟩) ?_ ?_
 rotate_left
 {
 simp only [Act.put, sA_, s0_, sS_, i64_w, i32_w]
 rfl }
 refine pure_ (i := 29) (N := some 67) (v := undef) (a' := ?_) (bm_ 59 1073741823) rfl rfl (any_of HT_.out (by kernel_rfl)) (fun _ _ _ h => h) (Or.inr ⟨by rfl, rfl⟩) ?_ ?_
 rotate_left
 {
 simp only [Act.put, sA_, s0_, sS_, i64_w, i32_w]
 rfl }
 refine pure_ (i := 30) (N := some 68) (v := undef) (a' := ?_) (bm_ 59 2147483647) rfl rfl (any_of HT_.out (by kernel_rfl)) (fun _ _ _ h => h) (Or.inr ⟨by rfl, rfl⟩) ?_ ?_
 rotate_left
 {
 simp only [Act.put, sA_, s0_, sS_, i64_w, i32_w]
 rfl }
 refine pure_ (i := 31) (N := some 69) (v := undef) (a' := ?_) (bm_ 59 4294967295) rfl rfl (any_of HT_.out (by kernel_rfl)) (fun _ _ _ h => h) (Or.inr ⟨by rfl, rfl⟩) ?_ ?_
 rotate_left
 {
 simp only [Act.put, sA_, s0_, sS_, i64_w, i32_w]
 rfl }
 refine pure_ (i := 32) (N := some 70) (v := undef) (a' := ?_) (bm_ 59 8589934591) rfl rfl (any_of HT_.out (by kernel_rfl)) (fun _ _ _ h => h) (Or.inr ⟨by rfl, rfl⟩) ?_ ?_
 rotate_left
 {
 simp only [Act.put, sA_, s0_, sS_, i64_w, i32_w]
 rfl }
 refine pure_ (i := 33) (N := some 71) (v := undef) (a' := ?_) (bm_ 59 17179869183) rfl rfl (any_of HT_.out (by kernel_rfl)) (fun _ _ _ h => h) (Or.inr ⟨by rfl, rfl⟩) ?_ ?_
 rotate_left
 {
 simp only [Act.put, sA_, s0_, sS_, i64_w, i32_w]
 rfl }
 refine pure_ (i := 34) (N := some 72) (v := undef) (a' := ?_) (bm_ 59 34359738367) rfl rfl (any_of HT_.out (by kernel_rfl)) (fun _ _ _ h => h) (Or.inr ⟨by rfl, rfl⟩) ?_ ?_
 rotate_left
 {
 simp only [Act.put, sA_, s0_, sS_, i64_w, i32_w]
 rfl }
 refine pure_ (i := 35) (N := some 73) (v := undef) (a' := ?_) (bm_ 59 68719476735) rfl rfl (any_of HT_.out (by kernel_rfl)) (fun _ _ _ h => h) (Or.inr ⟨by rfl, rfl⟩) ?_ ?_
 rotate_left
 {
 simp only [Act.put, sA_, s0_, sS_, i64_w, i32_w]
 rfl }
 refine pure_ (i := 36) (N := some 74) (v := undef) (a' := ?_) (bm_ 59 137438953471) rfl rfl (any_of HT_.out (by kernel_rfl)) (fun _ _ _ h => h) (Or.inr ⟨by rfl, rfl⟩) ?_ ?_
 rotate_left
 {
 simp only [Act.put, sA_, s0_, sS_, i64_w, i32_w]
 rfl }
 refine pure_ (i := 37) (N := some 75) (v := undef) (a' := ?_) (bm_ 59 274877906943) rfl rfl (any_of HT_.out (by kernel_rfl)) (fun _ _ _ h => h) (Or.inr ⟨by rfl, rfl⟩) ?_ ?_
 rotate_left
 {
 simp only [Act.put, sA_, s0_, sS_, i64_w, i32_w]
 rfl }
 refine pure_ (i := 38) (N := some 76) (v := ?_) (a' := ?_) (bm_ 59 549755813887) rfl rfl (any_of HT_.out (by kernel_rfl)) (fun _ _ _ h => h) (Or.inl ⟨by rfl, ?_⟩) ?_ ?_
 rotate_left
 {
 intro w'
 go_simp
 with_reducible rfl }
 rotate_left
 {
 simp only [Act.put, sA_, s0_, sS_, i64_w, i32_w]
 rfl }
 refine pure_ (i := 39) (N := some 77) (v := ?_) (a' := ?_) (bm_ 59 1099511627775) rfl rfl (any_of HT_.out (by kernel_rfl)) (fun _ _ _ h => h) (Or.inl ⟨by rfl, ?_⟩) ?_ ?_
 rotate_left
 {
 intro w'
 go_simp
 with_reducible rfl }
 rotate_left
 {
 simp only [Act.put, sA_, s0_, sS_, i64_w, i32_w]
 rfl }
 refine pure_ (i := 40) (N := some 78) (v := undef) (a' := ?_) (bm_ 59 2199023255551) rfl rfl (any_of HT_.out (by kernel_rfl)) (fun _ _ _ h => h) (Or.inr ⟨by rfl, rfl⟩) ?_ ?_
 rotate_left
 {
 simp only [Act.put, sA_, s0_, sS_, i64_w, i32_w]
 rfl }
 refine pure_ (i := 41) (N := some 79) (v := undef) (a' := ?_) (bm_ 59 4398046511103) rfl rfl (any_of HT_.out (by kernel_rfl)) (fun _ _ _ h => h) (Or.inr ⟨by rfl, rfl⟩) ?_ ?_
 rotate_left
 {
 simp only [Act.put, sA_, s0_, sS_, i64_w, i32_w]
 rfl }
 refine pure_ (i := 42) (N := some 80) (v := undef) (a' := ?_) (bm_ 59 8796093022207) rfl rfl (any_of HT_.out (by kernel_rfl)) (fun _ _ _ h => h) (Or.inr ⟨by rfl, rfl⟩) ?_ ?_
 rotate_left
 {
 simp only [Act.put, sA_, s0_, sS_, i64_w, i32_w]
 rfl }
 refine pure_ (i := 43) (N := some 81) (v := undef) (a' := ?_) (bm_ 59 17592186044415) rfl rfl (any_of HT_.out (by kernel_rfl)) (fun _ _ _ h => h) (Or.inr ⟨by rfl, rfl⟩) ?_ ?_
 rotate_left
 {
 simp only [Act.put, sA_, s0_, sS_, i64_w, i32_w]
 rfl }
 refine pure_ (i := 44) (N := some 82) (v := undef) (a' := ?_) (bm_ 59 35184372088831) rfl rfl (any_of HT_.out (by kernel_rfl)) (fun _ _ _ h => h) (Or.inr ⟨by rfl, rfl⟩) ?_ ?_
 rotate_left
 {
 simp only [Act.put, sA_, s0_, sS_, i64_w, i32_w]
 rfl }
 refine pure_ (i := 45) (N := some 83) (v := undef) (a' := ?_) (bm_ 59 70368744177663) rfl rfl (any_of HT_.out (by kernel_rfl)) (fun _ _ _ h => h) (Or.inr ⟨by rfl, rfl⟩) ?_ ?_
 rotate_left
 {
 simp only [Act.put, sA_, s0_, sS_, i64_w, i32_w]
 rfl }
 refine pure_ (i := 46) (N := some 84) (v := undef) (a' := ?_) (bm_ 59 140737488355327) rfl rfl (any_of HT_.out (by kernel_rfl)) (fun _ _ _ h => h) (Or.inr ⟨by rfl, rfl⟩) ?_ ?_
 rotate_left
 {
 simp only [Act.put, sA_, s0_, sS_, i64_w, i32_w]
 rfl }
 refine pure_ (i := 47) (N := some 85) (v := undef) (a' := ?_) (bm_ 59 281474976710655) rfl rfl (any_of HT_.out (by kernel_rfl)) (fun _ _ _ h => h) (Or.inr ⟨by rfl, rfl⟩) ?_ ?_
 rotate_left
 {
 simp only [Act.put, sA_, s0_, sS_, i64_w, i32_w]
 rfl }
 refine pure_ (i := 48) (N := some 86) (v := undef) (a' := ?_) (bm_ 59 562949953421311) rfl rfl (any_of HT_.out (by kernel_rfl)) (fun _ _ _ h => h) (Or.inr ⟨by rfl, rfl⟩) ?_ ?_
 rotate_left
 {
 simp only [Act.put, sA_, s0_, sS_, i64_w, i32_w]
 rfl }
 refine pure_ (i := 49) (N := some 87) (v := undef) (a' := ?_) (bm_ 59 1125899906842623) rfl rfl (any_of HT_.out (by kernel_rfl)) (fun _ _ _ h => h) (Or.inr ⟨by rfl, rfl⟩) ?_ ?_
 rotate_left
 {
 simp only [Act.put, sA_, s0_, sS_, i64_w, i32_w]
 rfl }
 refine pure_ (i := 50) (N := some 88) (v := undef) (a' := ?_) (bm_ 59 2251799813685247) rfl rfl (any_of HT_.out (by kernel_rfl)) (fun _ _ _ h => h) (Or.inr ⟨by rfl, rfl⟩) ?_ ?_
 rotate_left
 {
 simp only [Act.put, sA_, s0_, sS_, i64_w, i32_w]
 rfl }
 refine pure_ (i := 51) (N := some 89) (v := undef) (a' := ?_) (bm_ 59 4503599627370495) rfl rfl (any_of HT_.out (by kernel_rfl)) (fun _ _ _ h => h) (Or.inr ⟨by rfl, rfl⟩) ?_ ?_
 rotate_left
 {
 simp only [Act.put, sA_, s0_, sS_, i64_w, i32_w]
 rfl }
 refine pure_ (i := 52) (N := some 90) (v := undef) (a' := ?_) (bm_ 59 9007199254740991) rfl rfl (any_of HT_.out (by kernel_rfl)) (fun _ _ _ h => h) (Or.inr ⟨by rfl, rfl⟩) ?_ ?_
 rotate_left
 {
 simp only [Act.put, sA_, s0_, sS_, i64_w, i32_w]
 rfl }
 refine pure_ (i := 53) (N := some 91) (v := undef) (a' := ?_) (bm_ 59 18014398509481983) rfl rfl (any_of HT_.out (by kernel_rfl)) (fun _ _ _ h => h) (Or.inr ⟨by rfl, rfl⟩) ?_ ?_
 rotate_left
 {
 simp only [Act.put, sA_, s0_, sS_, i64_w, i32_w]
 rfl }
 refine pure_ (i := 54) (N := some 92) (v := undef) (a' := ?_) (bm_ 59 36028797018963967) rfl rfl (any_of HT_.out (by kernel_rfl)) (fun _ _ _ h => h) (Or.inr ⟨by rfl, rfl⟩) ?_ ?_
 rotate_left
 {
 simp only [Act.put, sA_, s0_, sS_, i64_w, i32_w]
 rfl }
 refine pure_ (i := 55) (N := some 93) (v := undef) (a' := ?_) (bm_ 59 72057594037927935) rfl rfl (any_of HT_.out (by kernel_rfl)) (fun _ _ _ h => h) (Or.inr ⟨by rfl, rfl⟩) ?_ ?_
 rotate_left
 {
 simp only [Act.put, sA_, s0_, sS_, i64_w, i32_w]
 rfl }
 refine pure_ (i := 56) (N := some 94) (v := undef) (a' := ?_) (bm_ 59 144115188075855871) rfl rfl (any_of HT_.out (by kernel_rfl)) (fun _ _ _ h => h) (Or.inr ⟨by rfl, rfl⟩) ?_ ?_
 rotate_left
 {
 simp only [Act.put, sA_, s0_, sS_, i64_w, i32_w]
 rfl }
 refine pure_ (i := 57) (N := some 95) (v := undef) (a' := ?_) (bm_ 59 288230376151711743) rfl rfl (any_of HT_.out (by kernel_rfl)) (fun _ _ _ h => h) (Or.inr ⟨by rfl, rfl⟩) ?_ ?_
 rotate_left
 {
 simp only [Act.put, sA_, s0_, sS_, i64_w, i32_w]
 rfl }
 refine pure_ (i := 58) (N := some 96) (v := ?_) (a' := ?_) (bm_ 59 576460752303423487) rfl rfl (any_of HT_.out (by kernel_rfl)) (fun _ _ _ h => h) (Or.inl ⟨by rfl, ?_⟩) ?_ ?_
 rotate_left
 {
 intro w'
 go_simp
 with_reducible rfl }
 rotate_left
 {
 simp only [Act.put, sA_, s0_, sS_, i64_w, i32_w]
 rfl }
 refine done_ (done_of HT_.out (by kernel_rfl)) ?_
 try go_wp2
 go_meet
 case rel => exact ⟨_, (true), (by first | rfl | (simp; done) | (simp [*]; done)), H', ⟨by have := HK1.out; first | omega | exact Nat.le_refl _⟩, ⟨by (with_reducible repeat (first | apply Kd.S_alloc | apply Kd.S_drewN | apply Kd.S_drew)); exact HO_3.out⟩, ⟨by (with_reducible repeat (first | apply Kd.R_alloc | apply Kd.R_drewN | apply Kd.R_drew)); exact HO_6.out⟩, ⟨by (with_reducible repeat (first | refine blk_drewN ?_ _ | refine blk_drew ?_ | refine blk_alloc ?_ _)); exact BK252.out⟩, ⟨by repeat (first | (with_reducible first | exact HB.out | apply below_alloc | apply pw_below_drewN | apply below_drew1 | refine below_set ?_ GE252.out) | exact HB.out)⟩⟩ )}
 { as_aux_lemma => (
 rw [if_neg c16] at H
 have c16b0 : decide ((t254.length : Int) < ((rd_T45 t246 x8_1).f1)) = false := decide_eq_false c16
 clear c16
 by_cases c19 : (((rd_T45 t246 x8_1).f2).length : Int) = 0
 { as_aux_lemma => (
 rw [if_pos c19] at H
 have c19b0 : ((((rd_T45 t246 x8_1).f2).length : Int) == 0) = true := beq_iff_eq.mpr c19
 have c19b1 : ((((rd_T45 t246 x8_1).f2).length : Int) != 0) = false := bne_eq_false_iff_eq.mpr c19
 clear c19
 have H' := Aside0.mk H
 clear H
 try go_wp2
 have n0_ := Aside0.mk (Kd.S_drew HO_3.out)
 have n1_ := Aside0.mk (Kd.R_drew HO_6.out)
 have n2_ := Aside0.mk (blk_drew BK252.out)
 have n3_ := Aside0.mk (below_drew1 HB.out)
 clear HO_3
 clear HO_6
 clear BK252
 clear HB
 have HO_3 := n0_
 have HO_6 := n1_
 have BK252 := n2_
 have HB := n3_
 clear n0_ n1_ n2_ n3_
 have p258 : 0 ≤ (x8_1 : Int) := of_decide_eq_true (by first | (with_reducible assumption) | assumption)
 have q258 : x8_1 < (t246.length : Int) := of_decide_eq_true (by first | (with_reducible assumption) | assumption)
 obtain ⟨ad258, A258_2, c258_2, e258, hx258_0, hx258_1, hx258_2, hl258_2, hi258_2⟩ := at_T45 (Kd.S_reads' HO_3.out).2.2 x8_1 p258 q258
 cases e258
 obtain ⟨ce258, hce258, hMe258, hcc258⟩ := Kd.S_get HO_3.out z45 x8_1 p258 (by first | exact q258 | exact of_decide_eq_true (by first | (with_reducible assumption) | assumption) | (have e_ := (Kd.S_reads' HO_3.out).1; omega))
 obtain ⟨ve258_2, rfl, ge258_2⟩ := k45_openM hMe258
 have hv258_2 := hcc258 2 _ rfl
 rw [add_field _ _ 2 (by omega)] at hv258_2
 replace hv258_2 := Option.some.inj (hv258_2.symm.trans hx258_2)
 rw [hv258_2] at ge258_2
 have HL258_2 := Aside0.mk (show Kd.R k23 23 _ _ _ _ ((rd_T45 t246 x8_1).f2) from ge258_2)
 clear hv258_2 ge258_2
 clear hcc258 hce258
 have HR258_2 := Aside0.mk hi258_2
 have HC258_2 := Aside0.mk hl258_2
 clear hi258_2 hl258_2
 replace p258 := eq_true p258
 replace q258 := eq_true q258
 have p259 : 0 ≤ (x8_1 : Int) := of_decide_eq_true (by first | (with_reducible assumption) | assumption)
 have q259 : x8_1 < (t246.length : Int) := of_decide_eq_true (by first | (with_reducible assumption) | assumption)
 obtain ⟨ad259, A259_2, c259_2, e259, hx259_0, hx259_1, hx259_2, hl259_2, hi259_2⟩ := at_T45 (Kd.S_reads' HO_3.out).2.2 x8_1 p259 q259
 obtain rfl : ad258 = ad259 := (by injection e259)
 obtain ⟨ce259, hce259, hMe259, hcc259⟩ := Kd.S_get HO_3.out z45 x8_1 p259 (by first | exact q259 | exact of_decide_eq_true (by first | (with_reducible assumption) | assumption) | (have e_ := (Kd.S_reads' HO_3.out).1; omega))
 obtain ⟨ve259_2, rfl, ge259_2⟩ := k45_openM hMe259
 have hv259_2 := hcc259 2 _ rfl
 rw [add_field _ _ 2 (by omega)] at hv259_2
 replace hv259_2 := Option.some.inj (hv259_2.symm.trans hx259_2)
 rw [hv259_2] at ge259_2
 have HL259_2 := Aside0.mk (show Kd.R k23 23 _ _ _ _ ((rd_T45 t246 x8_1).f2) from ge259_2)
 clear hv259_2 ge259_2
 clear hcc259 hce259
 have HR259_2 := Aside0.mk hi259_2
 have HC259_2 := Aside0.mk hl259_2
 clear hi259_2 hl259_2
 replace p259 := eq_true p259
 replace q259 := eq_true q259
 have ea_ := Option.some.inj (hx258_2.symm.trans hx259_2)
 injection ea_ with ea_ en_ ec_
 subst ea_
 subst ec_
 clear en_
 obtain ⟨Ao21, co21, eo21⟩ := Kd.R_slice HO_6.out
 (first | subst eo21 | (injection eo21 with f1_ f2_ f3_; have f4_ := f1_.symm; have f5_ := f3_.symm; clear f1_ f2_ f3_; subst f4_; subst f5_))
 have p260 : 0 ≤ (x8_1 : Int) := of_decide_eq_true (by first | (with_reducible assumption) | assumption)
 have q260 : x8_1 < (t246.length : Int) := of_decide_eq_true (by first | (with_reducible assumption) | assumption)
 obtain ⟨ad260, A260_2, c260_2, e260, hx260_0, hx260_1, hx260_2, hl260_2, hi260_2⟩ := at_T45 (Kd.S_reads' HO_3.out).2.2 x8_1 p260 q260
 obtain rfl : ad258 = ad260 := (by injection e260)
 obtain ⟨ce260, hce260, hMe260, hcc260⟩ := Kd.S_get HO_3.out z45 x8_1 p260 (by first | exact q260 | exact of_decide_eq_true (by first | (with_reducible assumption) | assumption) | (have e_ := (Kd.S_reads' HO_3.out).1; omega))
 obtain ⟨ve260_2, rfl, ge260_2⟩ := k45_openM hMe260
 have hv260_2 := hcc260 2 _ rfl
 rw [add_field _ _ 2 (by omega)] at hv260_2
 replace hv260_2 := Option.some.inj (hv260_2.symm.trans hx260_2)
 rw [hv260_2] at ge260_2
 have HL260_2 := Aside0.mk (show Kd.R k23 23 _ _ _ _ ((rd_T45 t246 x8_1).f2) from ge260_2)
 clear hv260_2 ge260_2
 clear hcc260 hce260
 have HR260_2 := Aside0.mk hi260_2
 have HC260_2 := Aside0.mk hl260_2
 clear hi260_2 hl260_2
 replace p260 := eq_true p260
 replace q260 := eq_true q260
 have ea_ := Option.some.inj (hx258_2.symm.trans hx260_2)
 injection ea_ with ea_ en_ ec_
 subst ea_
 subst ec_
 clear en_
 refine start_ (n := 59) (S := fun w' => w'.cell? (ad258.add ((x8_1).toNat * 3)) = some (.bool ((rd_T45 t246 x8_1).f0)) ∧ w'.cell? ⟨(ad258.add ((x8_1).toNat * 3)).block, (ad258.add ((x8_1).toNat * 3)).off + 1, none⟩ = some (.int .i64 ((rd_T45 t246 x8_1).f1)) ∧ w'.cell? ⟨(ad258.add ((x8_1).toNat * 3)).block, (ad258.add ((x8_1).toNat * 3)).off + 2, none⟩ = some (.slice A258_2 ((rd_T45 t246 x8_1).f2).length c258_2) ∧ w'.cell? (ad258.add ((x8_1).toNat * 3)) = some (.bool ((rd_T45 t246 x8_1).f0)) ∧ w'.cell? ⟨(ad258.add ((x8_1).toNat * 3)).block, (ad258.add ((x8_1).toNat * 3)).off + 1, none⟩ = some (.int .i64 ((rd_T45 t246 x8_1).f1)) ∧ w'.cell? ⟨(ad258.add ((x8_1).toNat * 3)).block, (ad258.add ((x8_1).toNat * 3)).off + 2, none⟩ = some (.slice A258_2 ((rd_T45 t246 x8_1).f2).length c258_2) ∧ w'.cell? (ad258.add ((x8_1).toNat * 3)) = some (.bool ((rd_T45 t246 x8_1).f0)) ∧ w'.cell? ⟨(ad258.add ((x8_1).toNat * 3)).block, (ad258.add ((x8_1).toNat * 3)).off + 1, none⟩ = some (.int .i64 ((rd_T45 t246 x8_1).f1)) ∧ w'.cell? ⟨(ad258.add ((x8_1).toNat * 3)).block, (ad258.add ((x8_1).toNat * 3)).off + 2, none⟩ = some (.slice A258_2 ((rd_T45 t246 x8_1).f2).length c258_2)) (ds := []) (bm_ 59 0) (by kernel_rfl) rfl rfl ⟨hx258_0, hx258_1, hx258_2, hx259_0, hx259_1, hx259_2, hx260_0, hx260_1, hx260_2⟩ (fun hHeld => ?_); refine with_tabW hearsaylaw08_TokenPlaces.tab11 hearsaylaw08_TokenPlaces.bits11 (fun HT_ HW_ => ?_)
 generalize wr.drew = w20 at HO_3 HO_6 BK252 HB HL258_2 HL259_2 HL260_2 HR258_2 HR259_2 HR260_2 hx258_0 hx258_1 hx258_2 hx259_0 hx259_1 hx259_2 hx260_0 hx260_1 hx260_2 hHeld ⊢
 refine pure_ (i := 0) (N := some 38) (v := ?_) (a' := ?_) (bm_ 59 1) rfl rfl (any_of HT_.out (by kernel_rfl)) (fun _ _ _ h => h) (Or.inl ⟨by rfl, ?_⟩) ?_ ?_
 rotate_left
 {
 intro w'
 go_simp
 with_reducible rfl }
 rotate_left
 {
 simp only [Act.put, sA_, s0_, sS_, i64_w, i32_w]
 rfl }
 refine pure_ (i := 1) (N := some 39) (v := ?_) (a' := ?_) (bm_ 59 3) rfl rfl (any_of HT_.out (by kernel_rfl)) (fun _ _ _ h => h) (Or.inl ⟨by rfl, ?_⟩) ?_ ?_
 rotate_left
 {
 intro w'
 go_simp
 with_reducible rfl }
 rotate_left
 {
 simp only [Act.put, sA_, s0_, sS_, i64_w, i32_w]
 rfl }
 refine pure_ (i := 2) (N := some 40) (v := ?_) (a' := ?_) (bm_ 59 7) rfl rfl (any_of HT_.out (by kernel_rfl)) (fun _ _ _ h => h) (Or.inl ⟨by rfl, ?_⟩) ?_ ?_
 rotate_left
 {
 intro w'
 go_simp
 with_reducible rfl }
 rotate_left
 {
 simp only [Act.put, sA_, s0_, sS_, i64_w, i32_w]
 rfl }
 refine pure_ (i := 3) (N := some 41) (v := ?_) (a' := ?_) (bm_ 59 15) rfl rfl (any_of HT_.out (by kernel_rfl)) (fun _ _ _ h => h) (Or.inl ⟨by rfl, ?_⟩) ?_ ?_
 rotate_left
 {
 intro w'
 go_simp
 with_reducible rfl }
 rotate_left
 {
 simp only [Act.put, sA_, s0_, sS_, i64_w, i32_w]
 rfl }
 refine take_ (i := 4) (N := some 42) (v := ?_) (a' := ?_) (bm_ 59 31) rfl rfl (take_ofW HT_.out HW_.out (by kernel_rfl)) (fun _ _ _ h => h) (Or.inl ⟨by rfl, ?_⟩) hHeld ?_ ?_
 rotate_left
 {
 rintro w' ⟨s0, s1, s2, s3, s4, s5, s6, s7, s8⟩
 go_simp
 with_reducible rfl }
 rotate_left
 {
 simp only [Act.put, sA_, s0_, sS_, i64_w, i32_w]
 rfl }
 refine pure_ (i := 5) (N := some 43) (v := ?_) (a' := ?_) (bm_ 59 63) rfl rfl (any_of HT_.out (by kernel_rfl)) (fun _ _ _ h => h) (Or.inl ⟨by rfl, ?_⟩) ?_ ?_
 rotate_left
 {
 intro w'
 go_simp
 with_reducible rfl }
 rotate_left
 {
 simp only [Act.put, sA_, s0_, sS_, i64_w, i32_w]
 rfl }
 refine pure_ (i := 6) (N := some 44) (v := ?_) (a' := ?_) (bm_ 59 127) rfl rfl (any_of HT_.out (by kernel_rfl)) (fun _ _ _ h => h) (Or.inl ⟨by rfl, ?_⟩) ?_ ?_
 rotate_left
 {
 intro w'
 go_simp
 with_reducible rfl }
 rotate_left
 {
 simp only [Act.put, sA_, s0_, sS_, i64_w, i32_w]
 rfl }
 refine pure_ (i := 7) (N := some 45) (v := ?_) (a' := ?_) (bm_ 59 255) rfl rfl (any_of HT_.out (by kernel_rfl)) (fun _ _ _ h => h) (Or.inl ⟨by rfl, ?_⟩) ?_ ?_
 rotate_left
 {
 intro w'
 go_simp
 with_reducible rfl }
 rotate_left
 {
 simp only [Act.put, sA_, s0_, sS_, i64_w, i32_w]
 rfl }
 refine pure_ (i := 8) (N := some 46) (v := ?_) (a' := ?_) (bm_ 59 511) rfl rfl (any_of HT_.out (by kernel_rfl)) (fun _ _ _ h => h) (Or.inl ⟨by rfl, ?_⟩) ?_ ?_
 rotate_left
 {
 intro w'
 go_simp
 with_reducible rfl }
 rotate_left
 {
 simp only [Act.put, sA_, s0_, sS_, i64_w, i32_w]
 rfl }
 refine pure_ (i := 9) (N := some 47) (v := ?_) (a' := ?_) (bm_ 59 1023) rfl rfl (any_of HT_.out (by kernel_rfl)) (fun _ _ _ h => h) (Or.inl ⟨by rfl, ?_⟩) ?_ ?_
 rotate_left
 {
 intro w'
 go_simp
 with_reducible rfl }
 rotate_left
 {
 simp only [Act.put, sA_, s0_, sS_, i64_w, i32_w]
 rfl }
 refine pure_ (i := 10) (N := some 48) (v := ?_) (a' := ?_) (bm_ 59 2047) rfl rfl (any_of HT_.out (by kernel_rfl)) (fun _ _ _ h => h) (Or.inl ⟨by rfl, ?_⟩) ?_ ?_
 rotate_left
 {
 intro w'
 go_simp
 with_reducible rfl }
 rotate_left
 {
 simp only [Act.put, sA_, s0_, sS_, i64_w, i32_w]
 rfl }
 refine pure_ (i := 12) (N := some 50) (v := ?_) (a' := ?_) (bm_ 59 6143) rfl rfl (any_of HT_.out (by kernel_rfl)) (fun _ _ _ h => h) (Or.inl ⟨by rfl, ?_⟩) ?_ ?_
 rotate_left
 {
 intro w'
 go_simp
 with_reducible rfl }
 rotate_left
 {
 simp only [Act.put, sA_, s0_, sS_, i64_w, i32_w]
 rfl }
 refine pure_ (i := 13) (N := some 51) (v := ?_) (a' := ?_) (bm_ 59 14335) rfl rfl (any_of HT_.out (by kernel_rfl)) (fun _ _ _ h => h) (Or.inl ⟨by rfl, ?_⟩) ?_ ?_
 rotate_left
 {
 intro w'
 go_simp
 with_reducible rfl }
 rotate_left
 {
 simp only [Act.put, sA_, s0_, sS_, i64_w, i32_w]
 rfl }
 refine take_ (i := 11) (N := some 49) (v := ?_) (a' := ?_) (bm_ 59 16383) rfl rfl (take_ofW HT_.out HW_.out (by kernel_rfl)) (fun _ _ _ h => h) (Or.inl ⟨by rfl, ?_⟩) hHeld ?_ ?_
 rotate_left
 {
 rintro w' ⟨s0, s1, s2, s3, s4, s5, s6, s7, s8⟩
 go_simp
 with_reducible rfl }
 rotate_left
 {
 simp only [Act.put, sA_, s0_, sS_, i64_w, i32_w]
 rfl }
 refine pure_ (i := 14) (N := some 52) (v := ?_) (a' := ?_) (bm_ 59 32767) rfl rfl (any_of HT_.out (by kernel_rfl)) (fun _ _ _ h => h) (Or.inl ⟨by rfl, ?_⟩) ?_ ?_
 rotate_left
 {
 intro w'
 go_simp
 with_reducible rfl }
 rotate_left
 {
 simp only [Act.put, sA_, s0_, sS_, i64_w, i32_w]
 rfl }
 refine pure_ (i := 15) (N := some 53) (v := ?_) (a' := ?_) (bm_ 59 65535) rfl rfl (any_of HT_.out (by kernel_rfl)) (fun _ _ _ h => h) (Or.inl ⟨by rfl, ?_⟩) ?_ ?_
 rotate_left
 {
 intro w'
 go_simp
 with_reducible rfl }
 rotate_left
 {
 simp only [Act.put, sA_, s0_, sS_, i64_w, i32_w]
 rfl }
 refine pure_ (i := 16) (N := some 54) (v := ?_) (a' := ?_) (bm_ 59 131071) rfl rfl (any_of HT_.out (by kernel_rfl)) (fun _ _ _ h => h) (Or.inl ⟨by rfl, ?_⟩) ?_ ?_
 rotate_left
 {
 intro w'
 go_simp
 with_reducible rfl }
 rotate_left
 {
 simp only [Act.put, sA_, s0_, sS_, i64_w, i32_w]
 rfl }
 refine pure_ (i := 17) (N := some 55) (v := ?_) (a' := ?_) (bm_ 59 262143) rfl rfl (any_of HT_.out (by kernel_rfl)) (fun _ _ _ h => h) (Or.inl ⟨by rfl, ?_⟩) ?_ ?_
 rotate_left
 {
 intro w'
 go_simp
 with_reducible rfl }
 rotate_left
 {
 simp only [Act.put, sA_, s0_, sS_, i64_w, i32_w]
 rfl }
 refine pure_ (i := 18) (N := some 56) (v := ?_) (a' := ?_) (bm_ 59 524287) rfl rfl (any_of HT_.out (by kernel_rfl)) (fun _ _ _ h => h) (Or.inl ⟨by rfl, ?_⟩) ?_ ?_
 rotate_left
 {
 intro w'
 go_simp
 with_reducible rfl }
 rotate_left
 {
 simp only [Act.put, sA_, s0_, sS_, i64_w, i32_w]
 rfl }
 refine pure_ (i := 19) (N := some 57) (v := ?_) (a' := ?_) (bm_ 59 1048575) rfl rfl (any_of HT_.out (by kernel_rfl)) (fun _ _ _ h => h) (Or.inl ⟨by rfl, ?_⟩) ?_ ?_
 rotate_left
 {
 intro w'
 go_simp
 with_reducible rfl }
 rotate_left
 {
 simp only [Act.put, sA_, s0_, sS_, i64_w, i32_w]
 rfl }
 refine pure_ (i := 20) (N := some 58) (v := ?_) (a' := ?_) (bm_ 59 2097151) rfl rfl (any_of HT_.out (by kernel_rfl)) (fun _ _ _ h => h) (Or.inl ⟨by rfl, ?_⟩) ?_ ?_
 rotate_left
 {
 intro w'
 go_simp
 with_reducible rfl }
 rotate_left
 {
 simp only [Act.put, sA_, s0_, sS_, i64_w, i32_w]
 rfl }
 refine take_ (i := 21) (N := some 59) (v := ?_) (a' := ?_) (bm_ 59 4194303) rfl rfl (take_ofW HT_.out HW_.out (by kernel_rfl)) (fun _ _ _ h => h) (Or.inl ⟨by rfl, ?_⟩) hHeld ?_ ?_
 rotate_left
 {
 rintro w' ⟨s0, s1, s2, s3, s4, s5, s6, s7, s8⟩
 go_simp
 with_reducible rfl }
 rotate_left
 {
 simp only [Act.put, sA_, s0_, sS_, i64_w, i32_w]
 rfl }
 refine pure_ (i := 22) (N := some 60) (v := ?_) (a' := ?_) (bm_ 59 8388607) rfl rfl (any_of HT_.out (by kernel_rfl)) (fun _ _ _ h => h) (Or.inl ⟨by rfl, ?_⟩) ?_ ?_
 rotate_left
 {
 intro w'
 go_simp
 with_reducible rfl }
 rotate_left
 {
 simp only [Act.put, sA_, s0_, sS_, i64_w, i32_w]
 rfl }
 refine pure_ (i := 23) (N := some 61) (v := ?_) (a' := ?_) (bm_ 59 16777215) rfl rfl (any_of HT_.out (by kernel_rfl)) (fun _ _ _ h => h) (Or.inl ⟨by rfl, ?_⟩) ?_ ?_
 rotate_left
 {
 intro w'
 go_simp
 with_reducible rfl }
 rotate_left
 {
 simp only [Act.put, sA_, s0_, sS_, i64_w, i32_w]
 rfl }
 refine pure_ (i := 24) (N := some 62) (v := ?_) (a' := ?_) (bm_ 59 33554431) rfl rfl (any_of HT_.out (by kernel_rfl)) (fun _ _ _ h => h) (Or.inl ⟨by rfl, ?_⟩) ?_ ?_
 rotate_left
 {
 intro w'
 go_simp
 with_reducible rfl }
 rotate_left
 {
 simp only [Act.put, sA_, s0_, sS_, i64_w, i32_w]
 rfl }
 refine pure_ (i := 25) (N := some 63) (v := ?_) (a' := ?_) (bm_ 59 67108863) rfl rfl (any_of HT_.out (by kernel_rfl)) (fun _ _ _ h => h) (Or.inl ⟨by rfl, ?_⟩) ?_ ?_
 rotate_left
 {
 intro w'
 go_simp
 with_reducible rfl }
 rotate_left
 {
 simp only [Act.put, sA_, s0_, sS_, i64_w, i32_w]
 rfl }
 refine pure_ (i := 26) (N := some 64) (v := undef) (a' := ?_) (bm_ 59 134217727) rfl rfl (any_of HT_.out (by kernel_rfl)) (fun _ _ _ h => h) (Or.inr ⟨by rfl, rfl⟩) ?_ ?_
 rotate_left
 {
 simp only [Act.put, sA_, s0_, sS_, i64_w, i32_w]
 rfl }
 refine pure_ (i := 27) (N := some 65) (v := undef) (a' := ?_) (bm_ 59 268435455) rfl rfl (any_of HT_.out (by kernel_rfl)) (fun _ _ _ h => h) (Or.inr ⟨by rfl, rfl⟩) ?_ ?_
 rotate_left
 {
 simp only [Act.put, sA_, s0_, sS_, i64_w, i32_w]
 rfl }
 refine pure_ (i := 28) (N := some 66) (v := undef) (a' := ?_) (bm_ 59 536870911) rfl rfl (any_of HT_.out (by kernel_rfl)) (fun _ _ _ h => h) (Or.inr ⟨by rfl, rfl⟩) ?_ ?_
 rotate_left
 {
 simp only [Act.put, sA_, s0_, sS_, i64_w, i32_w]
 rfl }
 refine pure_ (i := 29) (N := some 67) (v := undef) (a' := ?_) (bm_ 59 1073741823) rfl rfl (any_of HT_.out (by kernel_rfl)) (fun _ _ _ h => h) (Or.inr ⟨by rfl, rfl⟩) ?_ ?_
 rotate_left
 {
 simp only [Act.put, sA_, s0_, sS_, i64_w, i32_w]
 rfl }
 refine pure_ (i := 30) (N := some 68) (v := undef) (a' := ?_) (bm_ 59 2147483647) rfl rfl (any_of HT_.out (by kernel_rfl)) (fun _ _ _ h => h) (Or.inr ⟨by rfl, rfl⟩) ?_ ?_
 rotate_left
 {
 simp only [Act.put, sA_, s0_, sS_, i64_w, i32_w]
 rfl }
 refine pure_ (i := 31) (N := some 69) (v := undef) (a' := ?_) (bm_ 59 4294967295) rfl rfl (any_of HT_.out (by kernel_rfl)) (fun _ _ _ h => h) (Or.inr ⟨by rfl, rfl⟩) ?_ ?_
 rotate_left
 {
 simp only [Act.put, sA_, s0_, sS_, i64_w, i32_w]
 rfl }
 refine pure_ (i := 32) (N := some 70) (v := undef) (a' := ?_) (bm_ 59 8589934591) rfl rfl (any_of HT_.out (by kernel_rfl)) (fun _ _ _ h => h) (Or.inr ⟨by rfl, rfl⟩) ?_ ?_
 rotate_left
 {
 simp only [Act.put, sA_, s0_, sS_, i64_w, i32_w]
 rfl }
 refine pure_ (i := 33) (N := some 71) (v := undef) (a' := ?_) (bm_ 59 17179869183) rfl rfl (any_of HT_.out (by kernel_rfl)) (fun _ _ _ h => h) (Or.inr ⟨by rfl, rfl⟩) ?_ ?_
 rotate_left
 {
 simp only [Act.put, sA_, s0_, sS_, i64_w, i32_w]
 rfl }
 refine pure_ (i := 34) (N := some 72) (v := undef) (a' := ?_) (bm_ 59 34359738367) rfl rfl (any_of HT_.out (by kernel_rfl)) (fun _ _ _ h => h) (Or.inr ⟨by rfl, rfl⟩) ?_ ?_
 rotate_left
 {
 simp only [Act.put, sA_, s0_, sS_, i64_w, i32_w]
 rfl }
 refine pure_ (i := 35) (N := some 73) (v := undef) (a' := ?_) (bm_ 59 68719476735) rfl rfl (any_of HT_.out (by kernel_rfl)) (fun _ _ _ h => h) (Or.inr ⟨by rfl, rfl⟩) ?_ ?_
 rotate_left
 {
 simp only [Act.put, sA_, s0_, sS_, i64_w, i32_w]
 rfl }
 refine pure_ (i := 36) (N := some 74) (v := undef) (a' := ?_) (bm_ 59 137438953471) rfl rfl (any_of HT_.out (by kernel_rfl)) (fun _ _ _ h => h) (Or.inr ⟨by rfl, rfl⟩) ?_ ?_
 rotate_left
 {
 simp only [Act.put, sA_, s0_, sS_, i64_w, i32_w]
 rfl }
 refine pure_ (i := 37) (N := some 75) (v := undef) (a' := ?_) (bm_ 59 274877906943) rfl rfl (any_of HT_.out (by kernel_rfl)) (fun _ _ _ h => h) (Or.inr ⟨by rfl, rfl⟩) ?_ ?_
 rotate_left
 {
 simp only [Act.put, sA_, s0_, sS_, i64_w, i32_w]
 rfl }
 refine pure_ (i := 38) (N := some 76) (v := ?_) (a' := ?_) (bm_ 59 549755813887) rfl rfl (any_of HT_.out (by kernel_rfl)) (fun _ _ _ h => h) (Or.inl ⟨by rfl, ?_⟩) ?_ ?_
 rotate_left
 {
 intro w'
 go_simp
 with_reducible rfl }
 rotate_left
 {
 simp only [Act.put, sA_, s0_, sS_, i64_w, i32_w]
 rfl }
 refine pure_ (i := 39) (N := some 77) (v := ?_) (a' := ?_) (bm_ 59 1099511627775) rfl rfl (any_of HT_.out (by kernel_rfl)) (fun _ _ _ h => h) (Or.inl ⟨by rfl, ?_⟩) ?_ ?_
 rotate_left
 {
 intro w'
 go_simp
 with_reducible rfl }
 rotate_left
 {
 simp only [Act.put, sA_, s0_, sS_, i64_w, i32_w]
 rfl }
 refine pure_ (i := 40) (N := some 78) (v := undef) (a' := ?_) (bm_ 59 2199023255551) rfl rfl (any_of HT_.out (by kernel_rfl)) (fun _ _ _ h => h) (Or.inr ⟨by rfl, rfl⟩) ?_ ?_
 rotate_left
 {
 simp only [Act.put, sA_, s0_, sS_, i64_w, i32_w]
 rfl }
 refine pure_ (i := 41) (N := some 79) (v := undef) (a' := ?_) (bm_ 59 4398046511103) rfl rfl (any_of HT_.out (by kernel_rfl)) (fun _ _ _ h => h) (Or.inr ⟨by rfl, rfl⟩) ?_ ?_
 rotate_left
 {
 simp only [Act.put, sA_, s0_, sS_, i64_w, i32_w]
 rfl }
 refine pure_ (i := 42) (N := some 80) (v := undef) (a' := ?_) (bm_ 59 8796093022207) rfl rfl (any_of HT_.out (by kernel_rfl)) (fun _ _ _ h => h) (Or.inr ⟨by rfl, rfl⟩) ?_ ?_
 rotate_left
 {
 simp only [Act.put, sA_, s0_, sS_, i64_w, i32_w]
 rfl }
 refine pure_ (i := 43) (N := some 81) (v := undef) (a' := ?_) (bm_ 59 17592186044415) rfl rfl (any_of HT_.out (by kernel_rfl)) (fun _ _ _ h => h) (Or.inr ⟨by rfl, rfl⟩) ?_ ?_
 rotate_left
 {
 simp only [Act.put, sA_, s0_, sS_, i64_w, i32_w]
 rfl }
 refine pure_ (i := 44) (N := some 82) (v := undef) (a' := ?_) (bm_ 59 35184372088831) rfl rfl (any_of HT_.out (by kernel_rfl)) (fun _ _ _ h => h) (Or.inr ⟨by rfl, rfl⟩) ?_ ?_
 rotate_left
 {
 simp only [Act.put, sA_, s0_, sS_, i64_w, i32_w]
 rfl }
 refine pure_ (i := 45) (N := some 83) (v := undef) (a' := ?_) (bm_ 59 70368744177663) rfl rfl (any_of HT_.out (by kernel_rfl)) (fun _ _ _ h => h) (Or.inr ⟨by rfl, rfl⟩) ?_ ?_
 rotate_left
 {
 simp only [Act.put, sA_, s0_, sS_, i64_w, i32_w]
 rfl }
 refine pure_ (i := 46) (N := some 84) (v := undef) (a' := ?_) (bm_ 59 140737488355327) rfl rfl (any_of HT_.out (by kernel_rfl)) (fun _ _ _ h => h) (Or.inr ⟨by rfl, rfl⟩) ?_ ?_
 rotate_left
 {
 simp only [Act.put, sA_, s0_, sS_, i64_w, i32_w]
 rfl }
 refine pure_ (i := 47) (N := some 85) (v := undef) (a' := ?_) (bm_ 59 281474976710655) rfl rfl (any_of HT_.out (by kernel_rfl)) (fun _ _ _ h => h) (Or.inr ⟨by rfl, rfl⟩) ?_ ?_
 rotate_left
 {
 simp only [Act.put, sA_, s0_, sS_, i64_w, i32_w]
 rfl }
 refine pure_ (i := 48) (N := some 86) (v := undef) (a' := ?_) (bm_ 59 562949953421311) rfl rfl (any_of HT_.out (by kernel_rfl)) (fun _ _ _ h => h) (Or.inr ⟨by rfl, rfl⟩) ?_ ?_
 rotate_left
 {
 simp only [Act.put, sA_, s0_, sS_, i64_w, i32_w]
 rfl }
 refine pure_ (i := 49) (N := some 87) (v := undef) (a' := ?_) (bm_ 59 1125899906842623) rfl rfl (any_of HT_.out (by kernel_rfl)) (fun _ _ _ h => h) (Or.inr ⟨by rfl, rfl⟩) ?_ ?_
 rotate_left
 {
 simp only [Act.put, sA_, s0_, sS_, i64_w, i32_w]
 rfl }
 refine pure_ (i := 50) (N := some 88) (v := undef) (a' := ?_) (bm_ 59 2251799813685247) rfl rfl (any_of HT_.out (by kernel_rfl)) (fun _ _ _ h => h) (Or.inr ⟨by rfl, rfl⟩) ?_ ?_
 rotate_left
 {
 simp only [Act.put, sA_, s0_, sS_, i64_w, i32_w]
 rfl }
 refine pure_ (i := 51) (N := some 89) (v := undef) (a' := ?_) (bm_ 59 4503599627370495) rfl rfl (any_of HT_.out (by kernel_rfl)) (fun _ _ _ h => h) (Or.inr ⟨by rfl, rfl⟩) ?_ ?_
 rotate_left
 {
 simp only [Act.put, sA_, s0_, sS_, i64_w, i32_w]
 rfl }
 refine pure_ (i := 52) (N := some 90) (v := undef) (a' := ?_) (bm_ 59 9007199254740991) rfl rfl (any_of HT_.out (by kernel_rfl)) (fun _ _ _ h => h) (Or.inr ⟨by rfl, rfl⟩) ?_ ?_
 rotate_left
 {
 simp only [Act.put, sA_, s0_, sS_, i64_w, i32_w]
 rfl }
 refine pure_ (i := 53) (N := some 91) (v := undef) (a' := ?_) (bm_ 59 18014398509481983) rfl rfl (any_of HT_.out (by kernel_rfl)) (fun _ _ _ h => h) (Or.inr ⟨by rfl, rfl⟩) ?_ ?_
 rotate_left
 {
 simp only [Act.put, sA_, s0_, sS_, i64_w, i32_w]
 rfl }
 refine pure_ (i := 54) (N := some 92) (v := undef) (a' := ?_) (bm_ 59 36028797018963967) rfl rfl (any_of HT_.out (by kernel_rfl)) (fun _ _ _ h => h) (Or.inr ⟨by rfl, rfl⟩) ?_ ?_
 rotate_left
 {
 simp only [Act.put, sA_, s0_, sS_, i64_w, i32_w]
 rfl }
 refine pure_ (i := 55) (N := some 93) (v := undef) (a' := ?_) (bm_ 59 72057594037927935) rfl rfl (any_of HT_.out (by kernel_rfl)) (fun _ _ _ h => h) (Or.inr ⟨by rfl, rfl⟩) ?_ ?_
 rotate_left
 {
 simp only [Act.put, sA_, s0_, sS_, i64_w, i32_w]
 rfl }
 refine pure_ (i := 56) (N := some 94) (v := undef) (a' := ?_) (bm_ 59 144115188075855871) rfl rfl (any_of HT_.out (by kernel_rfl)) (fun _ _ _ h => h) (Or.inr ⟨by rfl, rfl⟩) ?_ ?_
 rotate_left
 {
 simp only [Act.put, sA_, s0_, sS_, i64_w, i32_w]
 rfl }
 refine pure_ (i := 57) (N := some 95) (v := undef) (a' := ?_) (bm_ 59 288230376151711743) rfl rfl (any_of HT_.out (by kernel_rfl)) (fun _ _ _ h => h) (Or.inr ⟨by rfl, rfl⟩) ?_ ?_
 rotate_left
 {
 simp only [Act.put, sA_, s0_, sS_, i64_w, i32_w]
 rfl }
 refine pure_ (i := 58) (N := some 96) (v := ?_) (a' := ?_) (bm_ 59 576460752303423487) rfl rfl (any_of HT_.out (by kernel_rfl)) (fun _ _ _ h => h) (Or.inl ⟨by rfl, ?_⟩) ?_ ?_
 rotate_left
 {
 intro w'
 go_simp
 with_reducible rfl }
 rotate_left
 {
 simp only [Act.put, sA_, s0_, sS_, i64_w, i32_w]
 rfl }
 refine done_ (done_of HT_.out (by kernel_rfl)) ?_
 try go_wp2
 go_meet
 case rel => exact ⟨_, (true), (by first | rfl | (simp; done) | (simp [*]; done)), H', ⟨by have := HK1.out; first | omega | exact Nat.le_refl _⟩, ⟨by (with_reducible repeat (first | apply Kd.S_alloc | apply Kd.S_drewN | apply Kd.S_drew)); exact HO_3.out⟩, ⟨by (with_reducible repeat (first | apply Kd.R_alloc | apply Kd.R_drewN | apply Kd.R_drew)); exact HO_6.out⟩, ⟨by (with_reducible repeat (first | refine blk_drewN ?_ _ | refine blk_drew ?_ | refine blk_alloc ?_ _)); exact BK252.out⟩, ⟨by repeat (first | (with_reducible first | exact HB.out | apply below_alloc | apply pw_below_drewN | apply below_drew1 | refine below_set ?_ GE252.out) | exact HB.out)⟩⟩ )}
 { as_aux_lemma => (
 rw [if_neg c19] at H
 have c19b0 : ((((rd_T45 t246 x8_1).f2).length : Int) == 0) = false := beq_eq_false_iff_ne.mpr c19
 have c19b1 : ((((rd_T45 t246 x8_1).f2).length : Int) != 0) = true := bne_iff_ne.mpr c19
 have c19b2 : ¬ (((rd_T45 t246 x8_1).f2) = []) := fun h_ => c19 (by rw [h_]; rfl)
 obtain ⟨ji22, hji22⟩ : ∃ j_ : Int, (wrap64 (((rd_T45 t246 x8_1).f1) - 1)) = j_ := ⟨_, rfl⟩
 replace H : (if 0 ≤ (ji22) then (if (ji22) < (t254.length : Int) then (if (rd t254 (ji22)) ≥ (a0.size : Int) then (hearsaylaw08_TokenPlaces.j1 k1 a0 t246 t254 x7_1 x8_1 true) else (if 0 ≤ (rd t254 (ji22)) then (if (rd t254 (ji22)) < (a0.size : Int) then ((hearsayref08_Blank.f (bt a0 (rd t254 (ji22)))).bind fun t266 => (hearsaylaw08_TokenPlaces.j1 k1 a0 t246 t254 x7_1 x8_1 (((rd_T45 t246 x8_1).f0) != t266))) else (none)) else (none))) else (none)) else (none)) = some r := by first | (rw [hji22] at H; exact H) | (simp only [hji22] at H ⊢; exact H)
 have hji22w : (IntKind.i64.wrap (((rd_T45 t246 x8_1).f1) - 1)) = ji22 := (i64_w _).trans hji22
 by_cases c23 : 0 ≤ (ji22)
 { as_aux_lemma => (
 rw [if_pos c23] at H
 have c23b0 : decide (0 ≤ (ji22)) = true := decide_eq_true c23
 clear c23
 by_cases c24 : (ji22) < (t254.length : Int)
 { as_aux_lemma => (
 rw [if_pos c24] at H
 have c24b0 : decide ((ji22) < (t254.length : Int)) = true := decide_eq_true c24
 clear c24
 by_cases c25 : (rd t254 (ji22)) ≥ (a0.size : Int)
 { as_aux_lemma => (
 rw [if_pos c25] at H
 have c25b0 : decide ((a0.size : Int) ≤ (rd t254 (ji22))) = true := decide_eq_true c25
 clear c25
 have H' := Aside0.mk H
 clear H
 try go_wp2
 have n0_ := Aside0.mk (Kd.S_drew HO_3.out)
 have n1_ := Aside0.mk (Kd.R_drew HO_6.out)
 have n2_ := Aside0.mk (blk_drew BK252.out)
 have n3_ := Aside0.mk (below_drew1 HB.out)
 clear HO_3
 clear HO_6
 clear BK252
 clear HB
 have HO_3 := n0_
 have HO_6 := n1_
 have BK252 := n2_
 have HB := n3_
 clear n0_ n1_ n2_ n3_
 have p258 : 0 ≤ (x8_1 : Int) := of_decide_eq_true (by first | (with_reducible assumption) | assumption)
 have q258 : x8_1 < (t246.length : Int) := of_decide_eq_true (by first | (with_reducible assumption) | assumption)
 obtain ⟨ad258, A258_2, c258_2, e258, hx258_0, hx258_1, hx258_2, hl258_2, hi258_2⟩ := at_T45 (Kd.S_reads' HO_3.out).2.2 x8_1 p258 q258
 cases e258
 obtain ⟨ce258, hce258, hMe258, hcc258⟩ := Kd.S_get HO_3.out z45 x8_1 p258 (by first | exact q258 | exact of_decide_eq_true (by first | (with_reducible assumption) | assumption) | (have e_ := (Kd.S_reads' HO_3.out).1; omega))
 obtain ⟨ve258_2, rfl, ge258_2⟩ := k45_openM hMe258
 have hv258_2 := hcc258 2 _ rfl
 rw [add_field _ _ 2 (by omega)] at hv258_2
 replace hv258_2 := Option.some.inj (hv258_2.symm.trans hx258_2)
 rw [hv258_2] at ge258_2
 have HL258_2 := Aside0.mk (show Kd.R k23 23 _ _ _ _ ((rd_T45 t246 x8_1).f2) from ge258_2)
 clear hv258_2 ge258_2
 clear hcc258 hce258
 have HR258_2 := Aside0.mk hi258_2
 have HC258_2 := Aside0.mk hl258_2
 clear hi258_2 hl258_2
 replace p258 := eq_true p258
 replace q258 := eq_true q258
 have p259 : 0 ≤ (x8_1 : Int) := of_decide_eq_true (by first | (with_reducible assumption) | assumption)
 have q259 : x8_1 < (t246.length : Int) := of_decide_eq_true (by first | (with_reducible assumption) | assumption)
 obtain ⟨ad259, A259_2, c259_2, e259, hx259_0, hx259_1, hx259_2, hl259_2, hi259_2⟩ := at_T45 (Kd.S_reads' HO_3.out).2.2 x8_1 p259 q259
 obtain rfl : ad258 = ad259 := (by injection e259)
 obtain ⟨ce259, hce259, hMe259, hcc259⟩ := Kd.S_get HO_3.out z45 x8_1 p259 (by first | exact q259 | exact of_decide_eq_true (by first | (with_reducible assumption) | assumption) | (have e_ := (Kd.S_reads' HO_3.out).1; omega))
 obtain ⟨ve259_2, rfl, ge259_2⟩ := k45_openM hMe259
 have hv259_2 := hcc259 2 _ rfl
 rw [add_field _ _ 2 (by omega)] at hv259_2
 replace hv259_2 := Option.some.inj (hv259_2.symm.trans hx259_2)
 rw [hv259_2] at ge259_2
 have HL259_2 := Aside0.mk (show Kd.R k23 23 _ _ _ _ ((rd_T45 t246 x8_1).f2) from ge259_2)
 clear hv259_2 ge259_2
 clear hcc259 hce259
 have HR259_2 := Aside0.mk hi259_2
 have HC259_2 := Aside0.mk hl259_2
 clear hi259_2 hl259_2
 replace p259 := eq_true p259
 replace q259 := eq_true q259
 have ea_ := Option.some.inj (hx258_2.symm.trans hx259_2)
 injection ea_ with ea_ en_ ec_
 subst ea_
 subst ec_
 clear en_
 obtain ⟨Ao27, co27, eo27⟩ := Kd.R_slice HO_6.out
 (first | subst eo27 | (injection eo27 with f1_ f2_ f3_; have f4_ := f1_.symm; have f5_ := f3_.symm; clear f1_ f2_ f3_; subst f4_; subst f5_))
 have p260 : 0 ≤ (x8_1 : Int) := of_decide_eq_true (by first | (with_reducible assumption) | assumption)
 have q260 : x8_1 < (t246.length : Int) := of_decide_eq_true (by first | (with_reducible assumption) | assumption)
 obtain ⟨ad260, A260_2, c260_2, e260, hx260_0, hx260_1, hx260_2, hl260_2, hi260_2⟩ := at_T45 (Kd.S_reads' HO_3.out).2.2 x8_1 p260 q260
 obtain rfl : ad258 = ad260 := (by injection e260)
 obtain ⟨ce260, hce260, hMe260, hcc260⟩ := Kd.S_get HO_3.out z45 x8_1 p260 (by first | exact q260 | exact of_decide_eq_true (by first | (with_reducible assumption) | assumption) | (have e_ := (Kd.S_reads' HO_3.out).1; omega))
 obtain ⟨ve260_2, rfl, ge260_2⟩ := k45_openM hMe260
 have hv260_2 := hcc260 2 _ rfl
 rw [add_field _ _ 2 (by omega)] at hv260_2
 replace hv260_2 := Option.some.inj (hv260_2.symm.trans hx260_2)
 rw [hv260_2] at ge260_2
 have HL260_2 := Aside0.mk (show Kd.R k23 23 _ _ _ _ ((rd_T45 t246 x8_1).f2) from ge260_2)
 clear hv260_2 ge260_2
 clear hcc260 hce260
 have HR260_2 := Aside0.mk hi260_2
 have HC260_2 := Aside0.mk hl260_2
 clear hi260_2 hl260_2
 replace p260 := eq_true p260
 replace q260 := eq_true q260
 have ea_ := Option.some.inj (hx258_2.symm.trans hx260_2)
 injection ea_ with ea_ en_ ec_
 subst ea_
 subst ec_
 clear en_
 have p261 : 0 ≤ (x8_1 : Int) := of_decide_eq_true (by first | (with_reducible assumption) | assumption)
 have q261 : x8_1 < (t246.length : Int) := of_decide_eq_true (by first | (with_reducible assumption) | assumption)
 obtain ⟨ad261, A261_2, c261_2, e261, hx261_0, hx261_1, hx261_2, hl261_2, hi261_2⟩ := at_T45 (Kd.S_reads' HO_3.out).2.2 x8_1 p261 q261
 obtain rfl : ad258 = ad261 := (by injection e261)
 obtain ⟨ce261, hce261, hMe261, hcc261⟩ := Kd.S_get HO_3.out z45 x8_1 p261 (by first | exact q261 | exact of_decide_eq_true (by first | (with_reducible assumption) | assumption) | (have e_ := (Kd.S_reads' HO_3.out).1; omega))
 obtain ⟨ve261_2, rfl, ge261_2⟩ := k45_openM hMe261
 have hv261_2 := hcc261 2 _ rfl
 rw [add_field _ _ 2 (by omega)] at hv261_2
 replace hv261_2 := Option.some.inj (hv261_2.symm.trans hx261_2)
 rw [hv261_2] at ge261_2
 have HL261_2 := Aside0.mk (show Kd.R k23 23 _ _ _ _ ((rd_T45 t246 x8_1).f2) from ge261_2)
 clear hv261_2 ge261_2
 clear hcc261 hce261
 have HR261_2 := Aside0.mk hi261_2
 have HC261_2 := Aside0.mk hl261_2
 clear hi261_2 hl261_2
 replace p261 := eq_true p261
 replace q261 := eq_true q261
 have ea_ := Option.some.inj (hx258_2.symm.trans hx261_2)
 injection ea_ with ea_ en_ ec_
 subst ea_
 subst ec_
 clear en_
 have p262 : 0 ≤ ((ji22) : Int) := of_decide_eq_true (by first | (with_reducible assumption) | assumption)
 have q262 : (ji22) < (t254.length : Int) := of_decide_eq_true (by first | (with_reducible assumption) | assumption)
 obtain ⟨ad262, e262, hx262_0⟩ := Kd.at_int (Kd.R_reads' HO_6.out).2.2 (ji22) p262 q262
 cases e262
 replace p262 := eq_true p262
 replace q262 := eq_true q262
 refine start_ (n := 59) (S := fun w' => w'.cell? (ad258.add ((x8_1).toNat * 3)) = some (.bool ((rd_T45 t246 x8_1).f0)) ∧ w'.cell? ⟨(ad258.add ((x8_1).toNat * 3)).block, (ad258.add ((x8_1).toNat * 3)).off + 1, none⟩ = some (.int .i64 ((rd_T45 t246 x8_1).f1)) ∧ w'.cell? ⟨(ad258.add ((x8_1).toNat * 3)).block, (ad258.add ((x8_1).toNat * 3)).off + 2, none⟩ = some (.slice A258_2 ((rd_T45 t246 x8_1).f2).length c258_2) ∧ w'.cell? (ad258.add ((x8_1).toNat * 3)) = some (.bool ((rd_T45 t246 x8_1).f0)) ∧ w'.cell? ⟨(ad258.add ((x8_1).toNat * 3)).block, (ad258.add ((x8_1).toNat * 3)).off + 1, none⟩ = some (.int .i64 ((rd_T45 t246 x8_1).f1)) ∧ w'.cell? ⟨(ad258.add ((x8_1).toNat * 3)).block, (ad258.add ((x8_1).toNat * 3)).off + 2, none⟩ = some (.slice A258_2 ((rd_T45 t246 x8_1).f2).length c258_2) ∧ w'.cell? (ad258.add ((x8_1).toNat * 3)) = some (.bool ((rd_T45 t246 x8_1).f0)) ∧ w'.cell? ⟨(ad258.add ((x8_1).toNat * 3)).block, (ad258.add ((x8_1).toNat * 3)).off + 1, none⟩ = some (.int .i64 ((rd_T45 t246 x8_1).f1)) ∧ w'.cell? ⟨(ad258.add ((x8_1).toNat * 3)).block, (ad258.add ((x8_1).toNat * 3)).off + 2, none⟩ = some (.slice A258_2 ((rd_T45 t246 x8_1).f2).length c258_2) ∧ w'.cell? (ad258.add ((x8_1).toNat * 3)) = some (.bool ((rd_T45 t246 x8_1).f0)) ∧ w'.cell? ⟨(ad258.add ((x8_1).toNat * 3)).block, (ad258.add ((x8_1).toNat * 3)).off + 1, none⟩ = some (.int .i64 ((rd_T45 t246 x8_1).f1)) ∧ w'.cell? ⟨(ad258.add ((x8_1).toNat * 3)).block, (ad258.add ((x8_1).toNat * 3)).off + 2, none⟩ = some (.slice A258_2 ((rd_T45 t246 x8_1).f2).length c258_2) ∧ w'.cell? (ad262.add ((ji22)).toNat) = some (.int .i64 (rd t254 (ji22)))) (ds := []) (bm_ 59 0) (by kernel_rfl) rfl rfl ⟨hx258_0, hx258_1, hx258_2, hx259_0, hx259_1, hx259_2, hx260_0, hx260_1, hx260_2, hx261_0, hx261_1, hx261_2, hx262_0⟩ (fun hHeld => ?_); refine with_tabW hearsaylaw08_TokenPlaces.tab11 hearsaylaw08_TokenPlaces.bits11 (fun HT_ HW_ => ?_)
 generalize wr.drew = w26 at HO_3 HO_6 BK252 HB HL258_2 HL259_2 HL260_2 HL261_2 HR258_2 HR259_2 HR260_2 HR261_2 hx258_0 hx258_1 hx258_2 hx259_0 hx259_1 hx259_2 hx260_0 hx260_1 hx260_2 hx261_0 hx261_1 hx261_2 hx262_0 hHeld ⊢
 refine pure_ (i := 0) (N := some 38) (v := ?_) (a' := ?_) (bm_ 59 1) rfl rfl (any_of HT_.out (by kernel_rfl)) (fun _ _ _ h => h) (Or.inl ⟨by rfl, ?_⟩) ?_ ?_
 rotate_left
 {
 intro w'
 go_simp
 with_reducible rfl }
 rotate_left
 {
 simp only [Act.put, sA_, s0_, sS_, i64_w, i32_w]
 rfl }
 refine pure_ (i := 1) (N := some 39) (v := ?_) (a' := ?_) (bm_ 59 3) rfl rfl (any_of HT_.out (by kernel_rfl)) (fun _ _ _ h => h) (Or.inl ⟨by rfl, ?_⟩) ?_ ?_
 rotate_left
 {
 intro w'
 go_simp
 with_reducible rfl }
 rotate_left
 {
 simp only [Act.put, sA_, s0_, sS_, i64_w, i32_w]
 rfl }
 refine pure_ (i := 2) (N := some 40) (v := ?_) (a' := ?_) (bm_ 59 7) rfl rfl (any_of HT_.out (by kernel_rfl)) (fun _ _ _ h => h) (Or.inl ⟨by rfl, ?_⟩) ?_ ?_
 rotate_left
 {
 intro w'
 go_simp
 with_reducible rfl }
 rotate_left
 {
 simp only [Act.put, sA_, s0_, sS_, i64_w, i32_w]
 rfl }
 refine pure_ (i := 3) (N := some 41) (v := ?_) (a' := ?_) (bm_ 59 15) rfl rfl (any_of HT_.out (by kernel_rfl)) (fun _ _ _ h => h) (Or.inl ⟨by rfl, ?_⟩) ?_ ?_
 rotate_left
 {
 intro w'
 go_simp
 with_reducible rfl }
 rotate_left
 {
 simp only [Act.put, sA_, s0_, sS_, i64_w, i32_w]
 rfl }
 refine take_ (i := 4) (N := some 42) (v := ?_) (a' := ?_) (bm_ 59 31) rfl rfl (take_ofW HT_.out HW_.out (by kernel_rfl)) (fun _ _ _ h => h) (Or.inl ⟨by rfl, ?_⟩) hHeld ?_ ?_
 rotate_left
 {
 rintro w' ⟨s0, s1, s2, s3, s4, s5, s6, s7, s8, s9, s10, s11, s12⟩
 go_simp
 with_reducible rfl }
 rotate_left
 {
 simp only [Act.put, sA_, s0_, sS_, i64_w, i32_w]
 rfl }
 refine pure_ (i := 5) (N := some 43) (v := ?_) (a' := ?_) (bm_ 59 63) rfl rfl (any_of HT_.out (by kernel_rfl)) (fun _ _ _ h => h) (Or.inl ⟨by rfl, ?_⟩) ?_ ?_
 rotate_left
 {
 intro w'
 go_simp
 with_reducible rfl }
 rotate_left
 {
 simp only [Act.put, sA_, s0_, sS_, i64_w, i32_w]
 rfl }
 refine pure_ (i := 6) (N := some 44) (v := ?_) (a' := ?_) (bm_ 59 127) rfl rfl (any_of HT_.out (by kernel_rfl)) (fun _ _ _ h => h) (Or.inl ⟨by rfl, ?_⟩) ?_ ?_
 rotate_left
 {
 intro w'
 go_simp
 with_reducible rfl }
 rotate_left
 {
 simp only [Act.put, sA_, s0_, sS_, i64_w, i32_w]
 rfl }
 refine pure_ (i := 7) (N := some 45) (v := ?_) (a' := ?_) (bm_ 59 255) rfl rfl (any_of HT_.out (by kernel_rfl)) (fun _ _ _ h => h) (Or.inl ⟨by rfl, ?_⟩) ?_ ?_
 rotate_left
 {
 intro w'
 go_simp
 with_reducible rfl }
 rotate_left
 {
 simp only [Act.put, sA_, s0_, sS_, i64_w, i32_w]
 rfl }
 refine pure_ (i := 8) (N := some 46) (v := ?_) (a' := ?_) (bm_ 59 511) rfl rfl (any_of HT_.out (by kernel_rfl)) (fun _ _ _ h => h) (Or.inl ⟨by rfl, ?_⟩) ?_ ?_
 rotate_left
 {
 intro w'
 go_simp
 with_reducible rfl }
 rotate_left
 {
 simp only [Act.put, sA_, s0_, sS_, i64_w, i32_w]
 rfl }
 refine pure_ (i := 9) (N := some 47) (v := ?_) (a' := ?_) (bm_ 59 1023) rfl rfl (any_of HT_.out (by kernel_rfl)) (fun _ _ _ h => h) (Or.inl ⟨by rfl, ?_⟩) ?_ ?_
 rotate_left
 {
 intro w'
 go_simp
 with_reducible rfl }
 rotate_left
 {
 simp only [Act.put, sA_, s0_, sS_, i64_w, i32_w]
 rfl }
 refine pure_ (i := 10) (N := some 48) (v := ?_) (a' := ?_) (bm_ 59 2047) rfl rfl (any_of HT_.out (by kernel_rfl)) (fun _ _ _ h => h) (Or.inl ⟨by rfl, ?_⟩) ?_ ?_
 rotate_left
 {
 intro w'
 go_simp
 with_reducible rfl }
 rotate_left
 {
 simp only [Act.put, sA_, s0_, sS_, i64_w, i32_w]
 rfl }
 refine pure_ (i := 12) (N := some 50) (v := ?_) (a' := ?_) (bm_ 59 6143) rfl rfl (any_of HT_.out (by kernel_rfl)) (fun _ _ _ h => h) (Or.inl ⟨by rfl, ?_⟩) ?_ ?_
 rotate_left
 {
 intro w'
 go_simp
 with_reducible rfl }
 rotate_left
 {
 simp only [Act.put, sA_, s0_, sS_, i64_w, i32_w]
 rfl }
 refine pure_ (i := 13) (N := some 51) (v := ?_) (a' := ?_) (bm_ 59 14335) rfl rfl (any_of HT_.out (by kernel_rfl)) (fun _ _ _ h => h) (Or.inl ⟨by rfl, ?_⟩) ?_ ?_
 rotate_left
 {
 intro w'
 go_simp
 with_reducible rfl }
 rotate_left
 {
 simp only [Act.put, sA_, s0_, sS_, i64_w, i32_w]
 rfl }
 refine take_ (i := 11) (N := some 49) (v := ?_) (a' := ?_) (bm_ 59 16383) rfl rfl (take_ofW HT_.out HW_.out (by kernel_rfl)) (fun _ _ _ h => h) (Or.inl ⟨by rfl, ?_⟩) hHeld ?_ ?_
 rotate_left
 {
 rintro w' ⟨s0, s1, s2, s3, s4, s5, s6, s7, s8, s9, s10, s11, s12⟩
 go_simp
 with_reducible rfl }
 rotate_left
 {
 simp only [Act.put, sA_, s0_, sS_, i64_w, i32_w]
 rfl }
 refine pure_ (i := 14) (N := some 52) (v := ?_) (a' := ?_) (bm_ 59 32767) rfl rfl (any_of HT_.out (by kernel_rfl)) (fun _ _ _ h => h) (Or.inl ⟨by rfl, ?_⟩) ?_ ?_
 rotate_left
 {
 intro w'
 go_simp
 with_reducible rfl }
 rotate_left
 {
 simp only [Act.put, sA_, s0_, sS_, i64_w, i32_w]
 rfl }
 refine pure_ (i := 15) (N := some 53) (v := ?_) (a' := ?_) (bm_ 59 65535) rfl rfl (any_of HT_.out (by kernel_rfl)) (fun _ _ _ h => h) (Or.inl ⟨by rfl, ?_⟩) ?_ ?_
 rotate_left
 {
 intro w'
 go_simp
 with_reducible rfl }
 rotate_left
 {
 simp only [Act.put, sA_, s0_, sS_, i64_w, i32_w]
 rfl }
 refine pure_ (i := 16) (N := some 54) (v := ?_) (a' := ?_) (bm_ 59 131071) rfl rfl (any_of HT_.out (by kernel_rfl)) (fun _ _ _ h => h) (Or.inl ⟨by rfl, ?_⟩) ?_ ?_
 rotate_left
 {
 intro w'
 go_simp
 with_reducible rfl }
 rotate_left
 {
 simp only [Act.put, sA_, s0_, sS_, i64_w, i32_w]
 rfl }
 refine pure_ (i := 17) (N := some 55) (v := ?_) (a' := ?_) (bm_ 59 262143) rfl rfl (any_of HT_.out (by kernel_rfl)) (fun _ _ _ h => h) (Or.inl ⟨by rfl, ?_⟩) ?_ ?_
 rotate_left
 {
 intro w'
 go_simp
 with_reducible rfl }
 rotate_left
 {
 simp only [Act.put, sA_, s0_, sS_, i64_w, i32_w]
 rfl }
 refine pure_ (i := 18) (N := some 56) (v := ?_) (a' := ?_) (bm_ 59 524287) rfl rfl (any_of HT_.out (by kernel_rfl)) (fun _ _ _ h => h) (Or.inl ⟨by rfl, ?_⟩) ?_ ?_
 rotate_left
 {
 intro w'
 go_simp
 with_reducible rfl }
 rotate_left
 {
 simp only [Act.put, sA_, s0_, sS_, i64_w, i32_w]
 rfl }
 refine pure_ (i := 19) (N := some 57) (v := ?_) (a' := ?_) (bm_ 59 1048575) rfl rfl (any_of HT_.out (by kernel_rfl)) (fun _ _ _ h => h) (Or.inl ⟨by rfl, ?_⟩) ?_ ?_
 rotate_left
 {
 intro w'
 go_simp
 with_reducible rfl }
 rotate_left
 {
 simp only [Act.put, sA_, s0_, sS_, i64_w, i32_w]
 rfl }
 refine pure_ (i := 20) (N := some 58) (v := ?_) (a' := ?_) (bm_ 59 2097151) rfl rfl (any_of HT_.out (by kernel_rfl)) (fun _ _ _ h => h) (Or.inl ⟨by rfl, ?_⟩) ?_ ?_
 rotate_left
 {
 intro w'
 go_simp
 with_reducible rfl }
 rotate_left
 {
 simp only [Act.put, sA_, s0_, sS_, i64_w, i32_w]
 rfl }
 refine take_ (i := 21) (N := some 59) (v := ?_) (a' := ?_) (bm_ 59 4194303) rfl rfl (take_ofW HT_.out HW_.out (by kernel_rfl)) (fun _ _ _ h => h) (Or.inl ⟨by rfl, ?_⟩) hHeld ?_ ?_
 rotate_left
 {
 rintro w' ⟨s0, s1, s2, s3, s4, s5, s6, s7, s8, s9, s10, s11, s12⟩
 go_simp
 with_reducible rfl }
 rotate_left
 {
 simp only [Act.put, sA_, s0_, sS_, i64_w, i32_w]
 rfl }
 refine pure_ (i := 22) (N := some 60) (v := ?_) (a' := ?_) (bm_ 59 8388607) rfl rfl (any_of HT_.out (by kernel_rfl)) (fun _ _ _ h => h) (Or.inl ⟨by rfl, ?_⟩) ?_ ?_
 rotate_left
 {
 intro w'
 go_simp
 with_reducible rfl }
 rotate_left
 {
 simp only [Act.put, sA_, s0_, sS_, i64_w, i32_w]
 rfl }
 refine pure_ (i := 23) (N := some 61) (v := ?_) (a' := ?_) (bm_ 59 16777215) rfl rfl (any_of HT_.out (by kernel_rfl)) (fun _ _ _ h => h) (Or.inl ⟨by rfl, ?_⟩) ?_ ?_
 rotate_left
 {
 intro w'
 go_simp
 with_reducible rfl }
 rotate_left
 {
 simp only [Act.put, sA_, s0_, sS_, i64_w, i32_w]
 rfl }
 refine pure_ (i := 24) (N := some 62) (v := ?_) (a' := ?_) (bm_ 59 33554431) rfl rfl (any_of HT_.out (by kernel_rfl)) (fun _ _ _ h => h) (Or.inl ⟨by rfl, ?_⟩) ?_ ?_
 rotate_left
 {
 intro w'
 go_simp
 with_reducible rfl }
 rotate_left
 {
 simp only [Act.put, sA_, s0_, sS_, i64_w, i32_w]
 rfl }
 refine pure_ (i := 25) (N := some 63) (v := ?_) (a' := ?_) (bm_ 59 67108863) rfl rfl (any_of HT_.out (by kernel_rfl)) (fun _ _ _ h => h) (Or.inl ⟨by rfl, ?_⟩) ?_ ?_
 rotate_left
 {
 intro w'
 go_simp
 with_reducible rfl }
 rotate_left
 {
 simp only [Act.put, sA_, s0_, sS_, i64_w, i32_w]
 rfl }
 refine pure_ (i := 26) (N := some 64) (v := ?_) (a' := ?_) (bm_ 59 134217727) rfl rfl (any_of HT_.out (by kernel_rfl)) (fun _ _ _ h => h) (Or.inl ⟨by rfl, ?_⟩) ?_ ?_
 rotate_left
 {
 intro w'
 go_simp
 with_reducible rfl }
 rotate_left
 {
 simp only [Act.put, sA_, s0_, sS_, i64_w, i32_w]
 rfl }
 refine pure_ (i := 27) (N := some 65) (v := ?_) (a' := ?_) (bm_ 59 268435455) rfl rfl (any_of HT_.out (by kernel_rfl)) (fun _ _ _ h => h) (Or.inl ⟨by rfl, ?_⟩) ?_ ?_
 rotate_left
 {
 intro w'
 go_simp
 with_reducible rfl }
 rotate_left
 {
 simp only [Act.put, sA_, s0_, sS_, i64_w, i32_w]
 rfl }
 refine pure_ (i := 28) (N := some 66) (v := ?_) (a' := ?_) (bm_ 59 536870911) rfl rfl (any_of HT_.out (by kernel_rfl)) (fun _ _ _ h => h) (Or.inl ⟨by rfl, ?_⟩) ?_ ?_
 rotate_left
 {
 intro w'
 go_simp
 with_reducible rfl }
 rotate_left
 {
 simp only [Act.put, sA_, s0_, sS_, i64_w, i32_w]
 rfl }
 refine pure_ (i := 29) (N := some 67) (v := ?_) (a' := ?_) (bm_ 59 1073741823) rfl rfl (any_of HT_.out (by kernel_rfl)) (fun _ _ _ h => h) (Or.inl ⟨by rfl, ?_⟩) ?_ ?_
 rotate_left
 {
 intro w'
 go_simp
 with_reducible rfl }
 rotate_left
 {
 simp only [Act.put, sA_, s0_, sS_, i64_w, i32_w]
 rfl }
 refine pure_ (i := 30) (N := some 68) (v := ?_) (a' := ?_) (bm_ 59 2147483647) rfl rfl (any_of HT_.out (by kernel_rfl)) (fun _ _ _ h => h) (Or.inl ⟨by rfl, ?_⟩) ?_ ?_
 rotate_left
 {
 intro w'
 go_simp
 with_reducible rfl }
 rotate_left
 {
 simp only [Act.put, sA_, s0_, sS_, i64_w, i32_w]
 rfl }
 refine pure_ (i := 35) (N := some 73) (v := ?_) (a' := ?_) (bm_ 59 36507222015) rfl rfl (any_of HT_.out (by kernel_rfl)) (fun _ _ _ h => h) (Or.inl ⟨by rfl, ?_⟩) ?_ ?_
 rotate_left
 {
 intro w'
 go_simp
 with_reducible rfl }
 rotate_left
 {
 simp only [Act.put, sA_, s0_, sS_, i64_w, i32_w]
 rfl }
 refine pure_ (i := 36) (N := some 74) (v := ?_) (a' := ?_) (bm_ 59 105226698751) rfl rfl (any_of HT_.out (by kernel_rfl)) (fun _ _ _ h => h) (Or.inl ⟨by rfl, ?_⟩) ?_ ?_
 rotate_left
 {
 intro w'
 go_simp
 with_reducible rfl }
 rotate_left
 {
 simp only [Act.put, sA_, s0_, sS_, i64_w, i32_w]
 rfl }
 refine take_ (i := 31) (N := some 69) (v := ?_) (a' := ?_) (bm_ 59 107374182399) rfl rfl (take_ofW HT_.out HW_.out (by kernel_rfl)) (fun _ _ _ h => h) (Or.inl ⟨by rfl, ?_⟩) hHeld ?_ ?_
 rotate_left
 {
 rintro w' ⟨s0, s1, s2, s3, s4, s5, s6, s7, s8, s9, s10, s11, s12⟩
 go_simp
 with_reducible rfl }
 rotate_left
 {
 simp only [Act.put, sA_, s0_, sS_, i64_w, i32_w]
 rfl }
 refine pure_ (i := 32) (N := some 70) (v := ?_) (a' := ?_) (bm_ 59 111669149695) rfl rfl (any_of HT_.out (by kernel_rfl)) (fun _ _ _ h => h) (Or.inl ⟨by rfl, ?_⟩) ?_ ?_
 rotate_left
 {
 intro w'
 go_simp
 with_reducible rfl }
 rotate_left
 {
 simp only [Act.put, sA_, s0_, sS_, i64_w, i32_w]
 rfl }
 refine pure_ (i := 33) (N := some 71) (v := ?_) (a' := ?_) (bm_ 59 120259084287) rfl rfl (any_of HT_.out (by kernel_rfl)) (fun _ _ _ h => h) (Or.inl ⟨by rfl, ?_⟩) ?_ ?_
 rotate_left
 {
 intro w'
 go_simp
 with_reducible rfl }
 rotate_left
 {
 simp only [Act.put, sA_, s0_, sS_, i64_w, i32_w]
 rfl }
 refine take_ (i := 34) (N := some 72) (v := ?_) (a' := ?_) (bm_ 59 137438953471) rfl rfl (take_ofW HT_.out HW_.out (by kernel_rfl)) (fun _ _ _ h => h) (Or.inl ⟨by rfl, ?_⟩) hHeld ?_ ?_
 rotate_left
 {
 rintro w' ⟨s0, s1, s2, s3, s4, s5, s6, s7, s8, s9, s10, s11, s12⟩
 go_simp
 with_reducible rfl }
 rotate_left
 {
 simp only [Act.put, sA_, s0_, sS_, i64_w, i32_w]
 rfl }
 refine pure_ (i := 37) (N := some 75) (v := ?_) (a' := ?_) (bm_ 59 274877906943) rfl rfl (any_of HT_.out (by kernel_rfl)) (fun _ _ _ h => h) (Or.inl ⟨by rfl, ?_⟩) ?_ ?_
 rotate_left
 {
 intro w'
 go_simp
 with_reducible rfl }
 rotate_left
 {
 simp only [Act.put, sA_, s0_, sS_, i64_w, i32_w]
 rfl }
 refine pure_ (i := 38) (N := some 76) (v := ?_) (a' := ?_) (bm_ 59 549755813887) rfl rfl (any_of HT_.out (by kernel_rfl)) (fun _ _ _ h => h) (Or.inl ⟨by rfl, ?_⟩) ?_ ?_
 rotate_left
 {
 intro w'
 go_simp
 with_reducible rfl }
 rotate_left
 {
 simp only [Act.put, sA_, s0_, sS_, i64_w, i32_w]
 rfl }
 refine pure_ (i := 39) (N := some 77) (v := ?_) (a' := ?_) (bm_ 59 1099511627775) rfl rfl (any_of HT_.out (by kernel_rfl)) (fun _ _ _ h => h) (Or.inl ⟨by rfl, ?_⟩) ?_ ?_
 rotate_left
 {
 intro w'
 go_simp
 with_reducible rfl }
 rotate_left
 {
 simp only [Act.put, sA_, s0_, sS_, i64_w, i32_w]
 rfl }
 refine pure_ (i := 40) (N := some 78) (v := undef) (a' := ?_) (bm_ 59 2199023255551) rfl rfl (any_of HT_.out (by kernel_rfl)) (fun _ _ _ h => h) (Or.inr ⟨by rfl, rfl⟩) ?_ ?_
 rotate_left
 {
 simp only [Act.put, sA_, s0_, sS_, i64_w, i32_w]
 rfl }
 refine pure_ (i := 41) (N := some 79) (v := undef) (a' := ?_) (bm_ 59 4398046511103) rfl rfl (any_of HT_.out (by kernel_rfl)) (fun _ _ _ h => h) (Or.inr ⟨by rfl, rfl⟩) ?_ ?_
 rotate_left
 {
 simp only [Act.put, sA_, s0_, sS_, i64_w, i32_w]
 rfl }
 refine pure_ (i := 42) (N := some 80) (v := undef) (a' := ?_) (bm_ 59 8796093022207) rfl rfl (any_of HT_.out (by kernel_rfl)) (fun _ _ _ h => h) (Or.inr ⟨by rfl, rfl⟩) ?_ ?_
 rotate_left
 {
 simp only [Act.put, sA_, s0_, sS_, i64_w, i32_w]
 rfl }
 refine pure_ (i := 43) (N := some 81) (v := undef) (a' := ?_) (bm_ 59 17592186044415) rfl rfl (any_of HT_.out (by kernel_rfl)) (fun _ _ _ h => h) (Or.inr ⟨by rfl, rfl⟩) ?_ ?_
 rotate_left
 {
 simp only [Act.put, sA_, s0_, sS_, i64_w, i32_w]
 rfl }
 refine pure_ (i := 44) (N := some 82) (v := undef) (a' := ?_) (bm_ 59 35184372088831) rfl rfl (any_of HT_.out (by kernel_rfl)) (fun _ _ _ h => h) (Or.inr ⟨by rfl, rfl⟩) ?_ ?_
 rotate_left
 {
 simp only [Act.put, sA_, s0_, sS_, i64_w, i32_w]
 rfl }
 refine pure_ (i := 45) (N := some 83) (v := undef) (a' := ?_) (bm_ 59 70368744177663) rfl rfl (any_of HT_.out (by kernel_rfl)) (fun _ _ _ h => h) (Or.inr ⟨by rfl, rfl⟩) ?_ ?_
 rotate_left
 {
 simp only [Act.put, sA_, s0_, sS_, i64_w, i32_w]
 rfl }
 refine pure_ (i := 46) (N := some 84) (v := undef) (a' := ?_) (bm_ 59 140737488355327) rfl rfl (any_of HT_.out (by kernel_rfl)) (fun _ _ _ h => h) (Or.inr ⟨by rfl, rfl⟩) ?_ ?_
 rotate_left
 {
 simp only [Act.put, sA_, s0_, sS_, i64_w, i32_w]
 rfl }
 refine pure_ (i := 47) (N := some 85) (v := undef) (a' := ?_) (bm_ 59 281474976710655) rfl rfl (any_of HT_.out (by kernel_rfl)) (fun _ _ _ h => h) (Or.inr ⟨by rfl, rfl⟩) ?_ ?_
 rotate_left
 {
 simp only [Act.put, sA_, s0_, sS_, i64_w, i32_w]
 rfl }
 refine pure_ (i := 48) (N := some 86) (v := undef) (a' := ?_) (bm_ 59 562949953421311) rfl rfl (any_of HT_.out (by kernel_rfl)) (fun _ _ _ h => h) (Or.inr ⟨by rfl, rfl⟩) ?_ ?_
 rotate_left
 {
 simp only [Act.put, sA_, s0_, sS_, i64_w, i32_w]
 rfl }
 refine pure_ (i := 49) (N := some 87) (v := undef) (a' := ?_) (bm_ 59 1125899906842623) rfl rfl (any_of HT_.out (by kernel_rfl)) (fun _ _ _ h => h) (Or.inr ⟨by rfl, rfl⟩) ?_ ?_
 rotate_left
 {
 simp only [Act.put, sA_, s0_, sS_, i64_w, i32_w]
 rfl }
 refine pure_ (i := 50) (N := some 88) (v := undef) (a' := ?_) (bm_ 59 2251799813685247) rfl rfl (any_of HT_.out (by kernel_rfl)) (fun _ _ _ h => h) (Or.inr ⟨by rfl, rfl⟩) ?_ ?_
 rotate_left
 {
 simp only [Act.put, sA_, s0_, sS_, i64_w, i32_w]
 rfl }
 refine pure_ (i := 51) (N := some 89) (v := undef) (a' := ?_) (bm_ 59 4503599627370495) rfl rfl (any_of HT_.out (by kernel_rfl)) (fun _ _ _ h => h) (Or.inr ⟨by rfl, rfl⟩) ?_ ?_
 rotate_left
 {
 simp only [Act.put, sA_, s0_, sS_, i64_w, i32_w]
 rfl }
 refine pure_ (i := 52) (N := some 90) (v := undef) (a' := ?_) (bm_ 59 9007199254740991) rfl rfl (any_of HT_.out (by kernel_rfl)) (fun _ _ _ h => h) (Or.inr ⟨by rfl, rfl⟩) ?_ ?_
 rotate_left
 {
 simp only [Act.put, sA_, s0_, sS_, i64_w, i32_w]
 rfl }
 refine pure_ (i := 53) (N := some 91) (v := undef) (a' := ?_) (bm_ 59 18014398509481983) rfl rfl (any_of HT_.out (by kernel_rfl)) (fun _ _ _ h => h) (Or.inr ⟨by rfl, rfl⟩) ?_ ?_
 rotate_left
 {
 simp only [Act.put, sA_, s0_, sS_, i64_w, i32_w]
 rfl }
 refine pure_ (i := 54) (N := some 92) (v := undef) (a' := ?_) (bm_ 59 36028797018963967) rfl rfl (any_of HT_.out (by kernel_rfl)) (fun _ _ _ h => h) (Or.inr ⟨by rfl, rfl⟩) ?_ ?_
 rotate_left
 {
 simp only [Act.put, sA_, s0_, sS_, i64_w, i32_w]
 rfl }
 refine pure_ (i := 55) (N := some 93) (v := undef) (a' := ?_) (bm_ 59 72057594037927935) rfl rfl (any_of HT_.out (by kernel_rfl)) (fun _ _ _ h => h) (Or.inr ⟨by rfl, rfl⟩) ?_ ?_
 rotate_left
 {
 simp only [Act.put, sA_, s0_, sS_, i64_w, i32_w]
 rfl }
 refine pure_ (i := 56) (N := some 94) (v := undef) (a' := ?_) (bm_ 59 144115188075855871) rfl rfl (any_of HT_.out (by kernel_rfl)) (fun _ _ _ h => h) (Or.inr ⟨by rfl, rfl⟩) ?_ ?_
 rotate_left
 {
 simp only [Act.put, sA_, s0_, sS_, i64_w, i32_w]
 rfl }
 refine pure_ (i := 57) (N := some 95) (v := undef) (a' := ?_) (bm_ 59 288230376151711743) rfl rfl (any_of HT_.out (by kernel_rfl)) (fun _ _ _ h => h) (Or.inr ⟨by rfl, rfl⟩) ?_ ?_
 rotate_left
 {
 simp only [Act.put, sA_, s0_, sS_, i64_w, i32_w]
 rfl }
 refine pure_ (i := 58) (N := some 96) (v := ?_) (a' := ?_) (bm_ 59 576460752303423487) rfl rfl (any_of HT_.out (by kernel_rfl)) (fun _ _ _ h => h) (Or.inl ⟨by rfl, ?_⟩) ?_ ?_
 rotate_left
 {
 intro w'
 go_simp
 with_reducible rfl }
 rotate_left
 {
 simp only [Act.put, sA_, s0_, sS_, i64_w, i32_w]
 rfl }
 refine done_ (done_of HT_.out (by kernel_rfl)) ?_
 try go_wp2
 go_meet
 case rel => exact ⟨_, (true), (by first | rfl | (simp; done) | (simp [*]; done)), H', ⟨by have := HK1.out; first | omega | exact Nat.le_refl _⟩, ⟨by (with_reducible repeat (first | apply Kd.S_alloc | apply Kd.S_drewN | apply Kd.S_drew)); exact HO_3.out⟩, ⟨by (with_reducible repeat (first | apply Kd.R_alloc | apply Kd.R_drewN | apply Kd.R_drew)); exact HO_6.out⟩, ⟨by (with_reducible repeat (first | refine blk_drewN ?_ _ | refine blk_drew ?_ | refine blk_alloc ?_ _)); exact BK252.out⟩, ⟨by repeat (first | (with_reducible first | exact HB.out | apply below_alloc | apply pw_below_drewN | apply below_drew1 | refine below_set ?_ GE252.out) | exact HB.out)⟩⟩ )}
 { as_aux_lemma => (
 rw [if_neg c25] at H
 have c25b0 : decide ((a0.size : Int) ≤ (rd t254 (ji22))) = false := decide_eq_false c25
 clear c25
 by_cases c28 : 0 ≤ (rd t254 (ji22))
 { as_aux_lemma => (
 rw [if_pos c28] at H
 have c28b0 : decide (0 ≤ (rd t254 (ji22))) = true := decide_eq_true c28
 clear c28
 by_cases c29 : (rd t254 (ji22)) < (a0.size : Int)
 { as_aux_lemma => (
 rw [if_pos c29] at H
 have c29b0 : decide ((rd t254 (ji22)) < (a0.size : Int)) = true := decide_eq_true c29
 clear c29
 replace H := Option.bind_eq_some_iff.mp H
 obtain ⟨t266, A310, H⟩ := H
 replace H : (hearsaylaw08_TokenPlaces.j1 k1 a0 t246 t254 x7_1 x8_1 (((rd_T45 t246 x8_1).f0) != t266)) = some r := H
 have A31 := Aside0.mk A310
 clear A310
 have H' := Aside0.mk H
 clear H
 try go_wp2
 have n0_ := Aside0.mk (Kd.S_drew HO_3.out)
 have n1_ := Aside0.mk (Kd.R_drew HO_6.out)
 have n2_ := Aside0.mk (blk_drew BK252.out)
 have n3_ := Aside0.mk (below_drew1 HB.out)
 clear HO_3
 clear HO_6
 clear BK252
 clear HB
 have HO_3 := n0_
 have HO_6 := n1_
 have BK252 := n2_
 have HB := n3_
 clear n0_ n1_ n2_ n3_
 have p258 : 0 ≤ (x8_1 : Int) := of_decide_eq_true (by first | (with_reducible assumption) | assumption)
 have q258 : x8_1 < (t246.length : Int) := of_decide_eq_true (by first | (with_reducible assumption) | assumption)
 obtain ⟨ad258, A258_2, c258_2, e258, hx258_0, hx258_1, hx258_2, hl258_2, hi258_2⟩ := at_T45 (Kd.S_reads' HO_3.out).2.2 x8_1 p258 q258
 cases e258
 obtain ⟨ce258, hce258, hMe258, hcc258⟩ := Kd.S_get HO_3.out z45 x8_1 p258 (by first | exact q258 | exact of_decide_eq_true (by first | (with_reducible assumption) | assumption) | (have e_ := (Kd.S_reads' HO_3.out).1; omega))
 obtain ⟨ve258_2, rfl, ge258_2⟩ := k45_openM hMe258
 have hv258_2 := hcc258 2 _ rfl
 rw [add_field _ _ 2 (by omega)] at hv258_2
 replace hv258_2 := Option.some.inj (hv258_2.symm.trans hx258_2)
 rw [hv258_2] at ge258_2
 have HL258_2 := Aside0.mk (show Kd.R k23 23 _ _ _ _ ((rd_T45 t246 x8_1).f2) from ge258_2)
 clear hv258_2 ge258_2
 clear hcc258 hce258
 have HR258_2 := Aside0.mk hi258_2
 have HC258_2 := Aside0.mk hl258_2
 clear hi258_2 hl258_2
 replace p258 := eq_true p258
 replace q258 := eq_true q258
 have p259 : 0 ≤ (x8_1 : Int) := of_decide_eq_true (by first | (with_reducible assumption) | assumption)
 have q259 : x8_1 < (t246.length : Int) := of_decide_eq_true (by first | (with_reducible assumption) | assumption)
 obtain ⟨ad259, A259_2, c259_2, e259, hx259_0, hx259_1, hx259_2, hl259_2, hi259_2⟩ := at_T45 (Kd.S_reads' HO_3.out).2.2 x8_1 p259 q259
 obtain rfl : ad258 = ad259 := (by injection e259)
 obtain ⟨ce259, hce259, hMe259, hcc259⟩ := Kd.S_get HO_3.out z45 x8_1 p259 (by first | exact q259 | exact of_decide_eq_true (by first | (with_reducible assumption) | assumption) | (have e_ := (Kd.S_reads' HO_3.out).1; omega))
 obtain ⟨ve259_2, rfl, ge259_2⟩ := k45_openM hMe259
 have hv259_2 := hcc259 2 _ rfl
 rw [add_field _ _ 2 (by omega)] at hv259_2
 replace hv259_2 := Option.some.inj (hv259_2.symm.trans hx259_2)
 rw [hv259_2] at ge259_2
 have HL259_2 := Aside0.mk (show Kd.R k23 23 _ _ _ _ ((rd_T45 t246 x8_1).f2) from ge259_2)
 clear hv259_2 ge259_2
 clear hcc259 hce259
 have HR259_2 := Aside0.mk hi259_2
 have HC259_2 := Aside0.mk hl259_2
 clear hi259_2 hl259_2
 replace p259 := eq_true p259
 replace q259 := eq_true q259
 have ea_ := Option.some.inj (hx258_2.symm.trans hx259_2)
 injection ea_ with ea_ en_ ec_
 subst ea_
 subst ec_
 clear en_
 obtain ⟨Ao33, co33, eo33⟩ := Kd.R_slice HO_6.out
 (first | subst eo33 | (injection eo33 with f1_ f2_ f3_; have f4_ := f1_.symm; have f5_ := f3_.symm; clear f1_ f2_ f3_; subst f4_; subst f5_))
 have p260 : 0 ≤ (x8_1 : Int) := of_decide_eq_true (by first | (with_reducible assumption) | assumption)
 have q260 : x8_1 < (t246.length : Int) := of_decide_eq_true (by first | (with_reducible assumption) | assumption)
 obtain ⟨ad260, A260_2, c260_2, e260, hx260_0, hx260_1, hx260_2, hl260_2, hi260_2⟩ := at_T45 (Kd.S_reads' HO_3.out).2.2 x8_1 p260 q260
 obtain rfl : ad258 = ad260 := (by injection e260)
 obtain ⟨ce260, hce260, hMe260, hcc260⟩ := Kd.S_get HO_3.out z45 x8_1 p260 (by first | exact q260 | exact of_decide_eq_true (by first | (with_reducible assumption) | assumption) | (have e_ := (Kd.S_reads' HO_3.out).1; omega))
 obtain ⟨ve260_2, rfl, ge260_2⟩ := k45_openM hMe260
 have hv260_2 := hcc260 2 _ rfl
 rw [add_field _ _ 2 (by omega)] at hv260_2
 replace hv260_2 := Option.some.inj (hv260_2.symm.trans hx260_2)
 rw [hv260_2] at ge260_2
 have HL260_2 := Aside0.mk (show Kd.R k23 23 _ _ _ _ ((rd_T45 t246 x8_1).f2) from ge260_2)
 clear hv260_2 ge260_2
 clear hcc260 hce260
 have HR260_2 := Aside0.mk hi260_2
 have HC260_2 := Aside0.mk hl260_2
 clear hi260_2 hl260_2
 replace p260 := eq_true p260
 replace q260 := eq_true q260
 have ea_ := Option.some.inj (hx258_2.symm.trans hx260_2)
 injection ea_ with ea_ en_ ec_
 subst ea_
 subst ec_
 clear en_
 have p261 : 0 ≤ (x8_1 : Int) := of_decide_eq_true (by first | (with_reducible assumption) | assumption)
 have q261 : x8_1 < (t246.length : Int) := of_decide_eq_true (by first | (with_reducible assumption) | assumption)
 obtain ⟨ad261, A261_2, c261_2, e261, hx261_0, hx261_1, hx261_2, hl261_2, hi261_2⟩ := at_T45 (Kd.S_reads' HO_3.out).2.2 x8_1 p261 q261
 obtain rfl : ad258 = ad261 := (by injection e261)
 obtain ⟨ce261, hce261, hMe261, hcc261⟩ := Kd.S_get HO_3.out z45 x8_1 p261 (by first | exact q261 | exact of_decide_eq_true (by first | (with_reducible assumption) | assumption) | (have e_ := (Kd.S_reads' HO_3.out).1; omega))
 obtain ⟨ve261_2, rfl, ge261_2⟩ := k45_openM hMe261
 have hv261_2 := hcc261 2 _ rfl
 rw [add_field _ _ 2 (by omega)] at hv261_2
 replace hv261_2 := Option.some.inj (hv261_2.symm.trans hx261_2)
 rw [hv261_2] at ge261_2
 have HL261_2 := Aside0.mk (show Kd.R k23 23 _ _ _ _ ((rd_T45 t246 x8_1).f2) from ge261_2)
 clear hv261_2 ge261_2
 clear hcc261 hce261
 have HR261_2 := Aside0.mk hi261_2
 have HC261_2 := Aside0.mk hl261_2
 clear hi261_2 hl261_2
 replace p261 := eq_true p261
 replace q261 := eq_true q261
 have ea_ := Option.some.inj (hx258_2.symm.trans hx261_2)
 injection ea_ with ea_ en_ ec_
 subst ea_
 subst ec_
 clear en_
 have p262 : 0 ≤ ((ji22) : Int) := of_decide_eq_true (by first | (with_reducible assumption) | assumption)
 have q262 : (ji22) < (t254.length : Int) := of_decide_eq_true (by first | (with_reducible assumption) | assumption)
 obtain ⟨ad262, e262, hx262_0⟩ := Kd.at_int (Kd.R_reads' HO_6.out).2.2 (ji22) p262 q262
 cases e262
 replace p262 := eq_true p262
 replace q262 := eq_true q262
 have p263 : 0 ≤ (x8_1 : Int) := of_decide_eq_true (by first | (with_reducible assumption) | assumption)
 have q263 : x8_1 < (t246.length : Int) := of_decide_eq_true (by first | (with_reducible assumption) | assumption)
 obtain ⟨ad263, A263_2, c263_2, e263, hx263_0, hx263_1, hx263_2, hl263_2, hi263_2⟩ := at_T45 (Kd.S_reads' HO_3.out).2.2 x8_1 p263 q263
 obtain rfl : ad258 = ad263 := (by injection e263)
 obtain ⟨ce263, hce263, hMe263, hcc263⟩ := Kd.S_get HO_3.out z45 x8_1 p263 (by first | exact q263 | exact of_decide_eq_true (by first | (with_reducible assumption) | assumption) | (have e_ := (Kd.S_reads' HO_3.out).1; omega))
 obtain ⟨ve263_2, rfl, ge263_2⟩ := k45_openM hMe263
 have hv263_2 := hcc263 2 _ rfl
 rw [add_field _ _ 2 (by omega)] at hv263_2
 replace hv263_2 := Option.some.inj (hv263_2.symm.trans hx263_2)
 rw [hv263_2] at ge263_2
 have HL263_2 := Aside0.mk (show Kd.R k23 23 _ _ _ _ ((rd_T45 t246 x8_1).f2) from ge263_2)
 clear hv263_2 ge263_2
 clear hcc263 hce263
 have HR263_2 := Aside0.mk hi263_2
 have HC263_2 := Aside0.mk hl263_2
 clear hi263_2 hl263_2
 replace p263 := eq_true p263
 replace q263 := eq_true q263
 have ea_ := Option.some.inj (hx258_2.symm.trans hx263_2)
 injection ea_ with ea_ en_ ec_
 subst ea_
 subst ec_
 clear en_
 have p264 : 0 ≤ (x8_1 : Int) := of_decide_eq_true (by first | (with_reducible assumption) | assumption)
 have q264 : x8_1 < (t246.length : Int) := of_decide_eq_true (by first | (with_reducible assumption) | assumption)
 obtain ⟨ad264, A264_2, c264_2, e264, hx264_0, hx264_1, hx264_2, hl264_2, hi264_2⟩ := at_T45 (Kd.S_reads' HO_3.out).2.2 x8_1 p264 q264
 obtain rfl : ad258 = ad264 := (by injection e264)
 obtain ⟨ce264, hce264, hMe264, hcc264⟩ := Kd.S_get HO_3.out z45 x8_1 p264 (by first | exact q264 | exact of_decide_eq_true (by first | (with_reducible assumption) | assumption) | (have e_ := (Kd.S_reads' HO_3.out).1; omega))
 obtain ⟨ve264_2, rfl, ge264_2⟩ := k45_openM hMe264
 have hv264_2 := hcc264 2 _ rfl
 rw [add_field _ _ 2 (by omega)] at hv264_2
 replace hv264_2 := Option.some.inj (hv264_2.symm.trans hx264_2)
 rw [hv264_2] at ge264_2
 have HL264_2 := Aside0.mk (show Kd.R k23 23 _ _ _ _ ((rd_T45 t246 x8_1).f2) from ge264_2)
 clear hv264_2 ge264_2
 clear hcc264 hce264
 have HR264_2 := Aside0.mk hi264_2
 have HC264_2 := Aside0.mk hl264_2
 clear hi264_2 hl264_2
 replace p264 := eq_true p264
 replace q264 := eq_true q264
 have ea_ := Option.some.inj (hx258_2.symm.trans hx264_2)
 injection ea_ with ea_ en_ ec_
 subst ea_
 subst ec_
 clear en_
 have p265 : 0 ≤ ((ji22) : Int) := of_decide_eq_true (by first | (with_reducible assumption) | assumption)
 have q265 : (ji22) < (t254.length : Int) := of_decide_eq_true (by first | (with_reducible assumption) | assumption)
 obtain ⟨ad265, e265, hx265_0⟩ := Kd.at_int (Kd.R_reads' HO_6.out).2.2 (ji22) p265 q265
 obtain rfl : ad262 = ad265 := (by injection e265)
 replace p265 := eq_true p265
 replace q265 := eq_true q265
 have p30 : 0 ≤ ((rd t254 (ji22)) : Int) := of_decide_eq_true (by first | (with_reducible assumption) | assumption)
 have q30 : (rd t254 (ji22)) < (a0.size : Int) := of_decide_eq_true (by first | (with_reducible assumption) | assumption)
 have hx30 := bt_at a0 (rd t254 (ji22))
 replace p30 := eq_true p30
 replace q30 := eq_true q30
 refine start_ (n := 59) (S := fun w' => w'.cell? (ad258.add ((x8_1).toNat * 3)) = some (.bool ((rd_T45 t246 x8_1).f0)) ∧ w'.cell? ⟨(ad258.add ((x8_1).toNat * 3)).block, (ad258.add ((x8_1).toNat * 3)).off + 1, none⟩ = some (.int .i64 ((rd_T45 t246 x8_1).f1)) ∧ w'.cell? ⟨(ad258.add ((x8_1).toNat * 3)).block, (ad258.add ((x8_1).toNat * 3)).off + 2, none⟩ = some (.slice A258_2 ((rd_T45 t246 x8_1).f2).length c258_2) ∧ w'.cell? (ad258.add ((x8_1).toNat * 3)) = some (.bool ((rd_T45 t246 x8_1).f0)) ∧ w'.cell? ⟨(ad258.add ((x8_1).toNat * 3)).block, (ad258.add ((x8_1).toNat * 3)).off + 1, none⟩ = some (.int .i64 ((rd_T45 t246 x8_1).f1)) ∧ w'.cell? ⟨(ad258.add ((x8_1).toNat * 3)).block, (ad258.add ((x8_1).toNat * 3)).off + 2, none⟩ = some (.slice A258_2 ((rd_T45 t246 x8_1).f2).length c258_2) ∧ w'.cell? (ad258.add ((x8_1).toNat * 3)) = some (.bool ((rd_T45 t246 x8_1).f0)) ∧ w'.cell? ⟨(ad258.add ((x8_1).toNat * 3)).block, (ad258.add ((x8_1).toNat * 3)).off + 1, none⟩ = some (.int .i64 ((rd_T45 t246 x8_1).f1)) ∧ w'.cell? ⟨(ad258.add ((x8_1).toNat * 3)).block, (ad258.add ((x8_1).toNat * 3)).off + 2, none⟩ = some (.slice A258_2 ((rd_T45 t246 x8_1).f2).length c258_2) ∧ w'.cell? (ad258.add ((x8_1).toNat * 3)) = some (.bool ((rd_T45 t246 x8_1).f0)) ∧ w'.cell? ⟨(ad258.add ((x8_1).toNat * 3)).block, (ad258.add ((x8_1).toNat * 3)).off + 1, none⟩ = some (.int .i64 ((rd_T45 t246 x8_1).f1)) ∧ w'.cell? ⟨(ad258.add ((x8_1).toNat * 3)).block, (ad258.add ((x8_1).toNat * 3)).off + 2, none⟩ = some (.slice A258_2 ((rd_T45 t246 x8_1).f2).length c258_2) ∧ w'.cell? (ad262.add ((ji22)).toNat) = some (.int .i64 (rd t254 (ji22))) ∧ w'.cell? (ad258.add ((x8_1).toNat * 3)) = some (.bool ((rd_T45 t246 x8_1).f0)) ∧ w'.cell? ⟨(ad258.add ((x8_1).toNat * 3)).block, (ad258.add ((x8_1).toNat * 3)).off + 1, none⟩ = some (.int .i64 ((rd_T45 t246 x8_1).f1)) ∧ w'.cell? ⟨(ad258.add ((x8_1).toNat * 3)).block, (ad258.add ((x8_1).toNat * 3)).off + 2, none⟩ = some (.slice A258_2 ((rd_T45 t246 x8_1).f2).length c258_2) ∧ w'.cell? (ad258.add ((x8_1).toNat * 3)) = some (.bool ((rd_T45 t246 x8_1).f0)) ∧ w'.cell? ⟨(ad258.add ((x8_1).toNat * 3)).block, (ad258.add ((x8_1).toNat * 3)).off + 1, none⟩ = some (.int .i64 ((rd_T45 t246 x8_1).f1)) ∧ w'.cell? ⟨(ad258.add ((x8_1).toNat * 3)).block, (ad258.add ((x8_1).toNat * 3)).off + 2, none⟩ = some (.slice A258_2 ((rd_T45 t246 x8_1).f2).length c258_2) ∧ w'.cell? (ad262.add ((ji22)).toNat) = some (.int .i64 (rd t254 (ji22)))) (ds := []) (bm_ 59 0) (by kernel_rfl) rfl rfl ⟨hx258_0, hx258_1, hx258_2, hx259_0, hx259_1, hx259_2, hx260_0, hx260_1, hx260_2, hx261_0, hx261_1, hx261_2, hx262_0, hx263_0, hx263_1, hx263_2, hx264_0, hx264_1, hx264_2, hx265_0⟩ (fun hHeld => ?_); refine with_tabW hearsaylaw08_TokenPlaces.tab11 hearsaylaw08_TokenPlaces.bits11 (fun HT_ HW_ => ?_)
 generalize wr.drew = w32 at HO_3 HO_6 BK252 HB HL258_2 HL259_2 HL260_2 HL261_2 HL263_2 HL264_2 HR258_2 HR259_2 HR260_2 HR261_2 HR263_2 HR264_2 hx258_0 hx258_1 hx258_2 hx259_0 hx259_1 hx259_2 hx260_0 hx260_1 hx260_2 hx261_0 hx261_1 hx261_2 hx262_0 hx263_0 hx263_1 hx263_2 hx264_0 hx264_1 hx264_2 hx265_0 hHeld ⊢
 refine pure_ (i := 0) (N := some 38) (v := ?_) (a' := ?_) (bm_ 59 1) rfl rfl (any_of HT_.out (by kernel_rfl)) (fun _ _ _ h => h) (Or.inl ⟨by rfl, ?_⟩) ?_ ?_
 rotate_left
 {
 intro w'
 go_simp
 with_reducible rfl }
 rotate_left
 {
 simp only [Act.put, sA_, s0_, sS_, i64_w, i32_w]
 rfl }
 refine pure_ (i := 1) (N := some 39) (v := ?_) (a' := ?_) (bm_ 59 3) rfl rfl (any_of HT_.out (by kernel_rfl)) (fun _ _ _ h => h) (Or.inl ⟨by rfl, ?_⟩) ?_ ?_
 rotate_left
 {
 intro w'
 go_simp
 with_reducible rfl }
 rotate_left
 {
 simp only [Act.put, sA_, s0_, sS_, i64_w, i32_w]
 rfl }
 refine pure_ (i := 2) (N := some 40) (v := ?_) (a' := ?_) (bm_ 59 7) rfl rfl (any_of HT_.out (by kernel_rfl)) (fun _ _ _ h => h) (Or.inl ⟨by rfl, ?_⟩) ?_ ?_
 rotate_left
 {
 intro w'
 go_simp
 with_reducible rfl }
 rotate_left
 {
 simp only [Act.put, sA_, s0_, sS_, i64_w, i32_w]
 rfl }
 refine pure_ (i := 3) (N := some 41) (v := ?_) (a' := ?_) (bm_ 59 15) rfl rfl (any_of HT_.out (by kernel_rfl)) (fun _ _ _ h => h) (Or.inl ⟨by rfl, ?_⟩) ?_ ?_
 rotate_left
 {
 intro w'
 go_simp
 with_reducible rfl }
 rotate_left
 {
 simp only [Act.put, sA_, s0_, sS_, i64_w, i32_w]
 rfl }
 refine take_ (i := 4) (N := some 42) (v := ?_) (a' := ?_) (bm_ 59 31) rfl rfl (take_ofW HT_.out HW_.out (by kernel_rfl)) (fun _ _ _ h => h) (Or.inl ⟨by rfl, ?_⟩) hHeld ?_ ?_
 rotate_left
 {
 rintro w' ⟨s0, s1, s2, s3, s4, s5, s6, s7, s8, s9, s10, s11, s12, s13, s14, s15, s16, s17, s18, s19⟩
 go_simp
 with_reducible rfl }
 rotate_left
 {
 simp only [Act.put, sA_, s0_, sS_, i64_w, i32_w]
 rfl }
 refine pure_ (i := 5) (N := some 43) (v := ?_) (a' := ?_) (bm_ 59 63) rfl rfl (any_of HT_.out (by kernel_rfl)) (fun _ _ _ h => h) (Or.inl ⟨by rfl, ?_⟩) ?_ ?_
 rotate_left
 {
 intro w'
 go_simp
 with_reducible rfl }
 rotate_left
 {
 simp only [Act.put, sA_, s0_, sS_, i64_w, i32_w]
 rfl }
 refine pure_ (i := 6) (N := some 44) (v := ?_) (a' := ?_) (bm_ 59 127) rfl rfl (any_of HT_.out (by kernel_rfl)) (fun _ _ _ h => h) (Or.inl ⟨by rfl, ?_⟩) ?_ ?_
 rotate_left
 {
 intro w'
 go_simp
 with_reducible rfl }
 rotate_left
 {
 simp only [Act.put, sA_, s0_, sS_, i64_w, i32_w]
 rfl }
 refine pure_ (i := 7) (N := some 45) (v := ?_) (a' := ?_) (bm_ 59 255) rfl rfl (any_of HT_.out (by kernel_rfl)) (fun _ _ _ h => h) (Or.inl ⟨by rfl, ?_⟩) ?_ ?_
 rotate_left
 {
 intro w'
 go_simp
 with_reducible rfl }
 rotate_left
 {
 simp only [Act.put, sA_, s0_, sS_, i64_w, i32_w]
 rfl }
 refine pure_ (i := 8) (N := some 46) (v := ?_) (a' := ?_) (bm_ 59 511) rfl rfl (any_of HT_.out (by kernel_rfl)) (fun _ _ _ h => h) (Or.inl ⟨by rfl, ?_⟩) ?_ ?_
 rotate_left
 {
 intro w'
 go_simp
 with_reducible rfl }
 rotate_left
 {
 simp only [Act.put, sA_, s0_, sS_, i64_w, i32_w]
 rfl }
 refine pure_ (i := 9) (N := some 47) (v := ?_) (a' := ?_) (bm_ 59 1023) rfl rfl (any_of HT_.out (by kernel_rfl)) (fun _ _ _ h => h) (Or.inl ⟨by rfl, ?_⟩) ?_ ?_
 rotate_left
 {
 intro w'
 go_simp
 with_reducible rfl }
 rotate_left
 {
 simp only [Act.put, sA_, s0_, sS_, i64_w, i32_w]
 rfl }
 refine pure_ (i := 10) (N := some 48) (v := ?_) (a' := ?_) (bm_ 59 2047) rfl rfl (any_of HT_.out (by kernel_rfl)) (fun _ _ _ h => h) (Or.inl ⟨by rfl, ?_⟩) ?_ ?_
 rotate_left
 {
 intro w'
 go_simp
 with_reducible rfl }
 rotate_left
 {
 simp only [Act.put, sA_, s0_, sS_, i64_w, i32_w]
 rfl }
 refine pure_ (i := 12) (N := some 50) (v := ?_) (a' := ?_) (bm_ 59 6143) rfl rfl (any_of HT_.out (by kernel_rfl)) (fun _ _ _ h => h) (Or.inl ⟨by rfl, ?_⟩) ?_ ?_
 rotate_left
 {
 intro w'
 go_simp
 with_reducible rfl }
 rotate_left
 {
 simp only [Act.put, sA_, s0_, sS_, i64_w, i32_w]
 rfl }
 refine pure_ (i := 13) (N := some 51) (v := ?_) (a' := ?_) (bm_ 59 14335) rfl rfl (any_of HT_.out (by kernel_rfl)) (fun _ _ _ h => h) (Or.inl ⟨by rfl, ?_⟩) ?_ ?_
 rotate_left
 {
 intro w'
 go_simp
 with_reducible rfl }
 rotate_left
 {
 simp only [Act.put, sA_, s0_, sS_, i64_w, i32_w]
 rfl }
 refine take_ (i := 11) (N := some 49) (v := ?_) (a' := ?_) (bm_ 59 16383) rfl rfl (take_ofW HT_.out HW_.out (by kernel_rfl)) (fun _ _ _ h => h) (Or.inl ⟨by rfl, ?_⟩) hHeld ?_ ?_
 rotate_left
 {
 rintro w' ⟨s0, s1, s2, s3, s4, s5, s6, s7, s8, s9, s10, s11, s12, s13, s14, s15, s16, s17, s18, s19⟩
 go_simp
 with_reducible rfl }
 rotate_left
 {
 simp only [Act.put, sA_, s0_, sS_, i64_w, i32_w]
 rfl }
 refine pure_ (i := 14) (N := some 52) (v := ?_) (a' := ?_) (bm_ 59 32767) rfl rfl (any_of HT_.out (by kernel_rfl)) (fun _ _ _ h => h) (Or.inl ⟨by rfl, ?_⟩) ?_ ?_
 rotate_left
 {
 intro w'
 go_simp
 with_reducible rfl }
 rotate_left
 {
 simp only [Act.put, sA_, s0_, sS_, i64_w, i32_w]
 rfl }
 refine pure_ (i := 15) (N := some 53) (v := ?_) (a' := ?_) (bm_ 59 65535) rfl rfl (any_of HT_.out (by kernel_rfl)) (fun _ _ _ h => h) (Or.inl ⟨by rfl, ?_⟩) ?_ ?_
 rotate_left
 {
 intro w'
 go_simp
 with_reducible rfl }
 rotate_left
 {
 simp only [Act.put, sA_, s0_, sS_, i64_w, i32_w]
 rfl }
 refine pure_ (i := 16) (N := some 54) (v := ?_) (a' := ?_) (bm_ 59 131071) rfl rfl (any_of HT_.out (by kernel_rfl)) (fun _ _ _ h => h) (Or.inl ⟨by rfl, ?_⟩) ?_ ?_
 rotate_left
 {
 intro w'
 go_simp
 with_reducible rfl }
 rotate_left
 {
 simp only [Act.put, sA_, s0_, sS_, i64_w, i32_w]
 rfl }
 refine pure_ (i := 17) (N := some 55) (v := ?_) (a' := ?_) (bm_ 59 262143) rfl rfl (any_of HT_.out (by kernel_rfl)) (fun _ _ _ h => h) (Or.inl ⟨by rfl, ?_⟩) ?_ ?_
 rotate_left
 {
 intro w'
 go_simp
 with_reducible rfl }
 rotate_left
 {
 simp only [Act.put, sA_, s0_, sS_, i64_w, i32_w]
 rfl }
 refine pure_ (i := 18) (N := some 56) (v := ?_) (a' := ?_) (bm_ 59 524287) rfl rfl (any_of HT_.out (by kernel_rfl)) (fun _ _ _ h => h) (Or.inl ⟨by rfl, ?_⟩) ?_ ?_
 rotate_left
 {
 intro w'
 go_simp
 with_reducible rfl }
 rotate_left
 {
 simp only [Act.put, sA_, s0_, sS_, i64_w, i32_w]
 rfl }
 refine pure_ (i := 19) (N := some 57) (v := ?_) (a' := ?_) (bm_ 59 1048575) rfl rfl (any_of HT_.out (by kernel_rfl)) (fun _ _ _ h => h) (Or.inl ⟨by rfl, ?_⟩) ?_ ?_
 rotate_left
 {
 intro w'
 go_simp
 with_reducible rfl }
 rotate_left
 {
 simp only [Act.put, sA_, s0_, sS_, i64_w, i32_w]
 rfl }
 refine pure_ (i := 20) (N := some 58) (v := ?_) (a' := ?_) (bm_ 59 2097151) rfl rfl (any_of HT_.out (by kernel_rfl)) (fun _ _ _ h => h) (Or.inl ⟨by rfl, ?_⟩) ?_ ?_
 rotate_left
 {
 intro w'
 go_simp
 with_reducible rfl }
 rotate_left
 {
 simp only [Act.put, sA_, s0_, sS_, i64_w, i32_w]
 rfl }
 refine take_ (i := 21) (N := some 59) (v := ?_) (a' := ?_) (bm_ 59 4194303) rfl rfl (take_ofW HT_.out HW_.out (by kernel_rfl)) (fun _ _ _ h => h) (Or.inl ⟨by rfl, ?_⟩) hHeld ?_ ?_
 rotate_left
 {
 rintro w' ⟨s0, s1, s2, s3, s4, s5, s6, s7, s8, s9, s10, s11, s12, s13, s14, s15, s16, s17, s18, s19⟩
 go_simp
 with_reducible rfl }
 rotate_left
 {
 simp only [Act.put, sA_, s0_, sS_, i64_w, i32_w]
 rfl }
 refine pure_ (i := 22) (N := some 60) (v := ?_) (a' := ?_) (bm_ 59 8388607) rfl rfl (any_of HT_.out (by kernel_rfl)) (fun _ _ _ h => h) (Or.inl ⟨by rfl, ?_⟩) ?_ ?_
 rotate_left
 {
 intro w'
 go_simp
 with_reducible rfl }
 rotate_left
 {
 simp only [Act.put, sA_, s0_, sS_, i64_w, i32_w]
 rfl }
 refine pure_ (i := 23) (N := some 61) (v := ?_) (a' := ?_) (bm_ 59 16777215) rfl rfl (any_of HT_.out (by kernel_rfl)) (fun _ _ _ h => h) (Or.inl ⟨by rfl, ?_⟩) ?_ ?_
 rotate_left
 {
 intro w'
 go_simp
 with_reducible rfl }
 rotate_left
 {
 simp only [Act.put, sA_, s0_, sS_, i64_w, i32_w]
 rfl }
 refine pure_ (i := 24) (N := some 62) (v := ?_) (a' := ?_) (bm_ 59 33554431) rfl rfl (any_of HT_.out (by kernel_rfl)) (fun _ _ _ h => h) (Or.inl ⟨by rfl, ?_⟩) ?_ ?_
 rotate_left
 {
 intro w'
 go_simp
 with_reducible rfl }
 rotate_left
 {
 simp only [Act.put, sA_, s0_, sS_, i64_w, i32_w]
 rfl }
 refine pure_ (i := 25) (N := some 63) (v := ?_) (a' := ?_) (bm_ 59 67108863) rfl rfl (any_of HT_.out (by kernel_rfl)) (fun _ _ _ h => h) (Or.inl ⟨by rfl, ?_⟩) ?_ ?_
 rotate_left
 {
 intro w'
 go_simp
 with_reducible rfl }
 rotate_left
 {
 simp only [Act.put, sA_, s0_, sS_, i64_w, i32_w]
 rfl }
 refine pure_ (i := 26) (N := some 64) (v := ?_) (a' := ?_) (bm_ 59 134217727) rfl rfl (any_of HT_.out (by kernel_rfl)) (fun _ _ _ h => h) (Or.inl ⟨by rfl, ?_⟩) ?_ ?_
 rotate_left
 {
 intro w'
 go_simp
 with_reducible rfl }
 rotate_left
 {
 simp only [Act.put, sA_, s0_, sS_, i64_w, i32_w]
 rfl }
 refine pure_ (i := 27) (N := some 65) (v := ?_) (a' := ?_) (bm_ 59 268435455) rfl rfl (any_of HT_.out (by kernel_rfl)) (fun _ _ _ h => h) (Or.inl ⟨by rfl, ?_⟩) ?_ ?_
 rotate_left
 {
 intro w'
 go_simp
 with_reducible rfl }
 rotate_left
 {
 simp only [Act.put, sA_, s0_, sS_, i64_w, i32_w]
 rfl }
 refine pure_ (i := 28) (N := some 66) (v := ?_) (a' := ?_) (bm_ 59 536870911) rfl rfl (any_of HT_.out (by kernel_rfl)) (fun _ _ _ h => h) (Or.inl ⟨by rfl, ?_⟩) ?_ ?_
 rotate_left
 {
 intro w'
 go_simp
 with_reducible rfl }
 rotate_left
 {
 simp only [Act.put, sA_, s0_, sS_, i64_w, i32_w]
 rfl }
 refine pure_ (i := 29) (N := some 67) (v := ?_) (a' := ?_) (bm_ 59 1073741823) rfl rfl (any_of HT_.out (by kernel_rfl)) (fun _ _ _ h => h) (Or.inl ⟨by rfl, ?_⟩) ?_ ?_
 rotate_left
 {
 intro w'
 go_simp
 with_reducible rfl }
 rotate_left
 {
 simp only [Act.put, sA_, s0_, sS_, i64_w, i32_w]
 rfl }
 refine pure_ (i := 30) (N := some 68) (v := ?_) (a' := ?_) (bm_ 59 2147483647) rfl rfl (any_of HT_.out (by kernel_rfl)) (fun _ _ _ h => h) (Or.inl ⟨by rfl, ?_⟩) ?_ ?_
 rotate_left
 {
 intro w'
 go_simp
 with_reducible rfl }
 rotate_left
 {
 simp only [Act.put, sA_, s0_, sS_, i64_w, i32_w]
 rfl }
 refine pure_ (i := 35) (N := some 73) (v := ?_) (a' := ?_) (bm_ 59 36507222015) rfl rfl (any_of HT_.out (by kernel_rfl)) (fun _ _ _ h => h) (Or.inl ⟨by rfl, ?_⟩) ?_ ?_
 rotate_left
 {
 intro w'
 go_simp
 with_reducible rfl }
 rotate_left
 {
 simp only [Act.put, sA_, s0_, sS_, i64_w, i32_w]
 rfl }
 refine pure_ (i := 36) (N := some 74) (v := ?_) (a' := ?_) (bm_ 59 105226698751) rfl rfl (any_of HT_.out (by kernel_rfl)) (fun _ _ _ h => h) (Or.inl ⟨by rfl, ?_⟩) ?_ ?_
 rotate_left
 {
 intro w'
 go_simp
 with_reducible rfl }
 rotate_left
 {
 simp only [Act.put, sA_, s0_, sS_, i64_w, i32_w]
 rfl }
 refine take_ (i := 31) (N := some 69) (v := ?_) (a' := ?_) (bm_ 59 107374182399) rfl rfl (take_ofW HT_.out HW_.out (by kernel_rfl)) (fun _ _ _ h => h) (Or.inl ⟨by rfl, ?_⟩) hHeld ?_ ?_
 rotate_left
 {
 rintro w' ⟨s0, s1, s2, s3, s4, s5, s6, s7, s8, s9, s10, s11, s12, s13, s14, s15, s16, s17, s18, s19⟩
 go_simp
 with_reducible rfl }
 rotate_left
 {
 simp only [Act.put, sA_, s0_, sS_, i64_w, i32_w]
 rfl }
 refine pure_ (i := 32) (N := some 70) (v := ?_) (a' := ?_) (bm_ 59 111669149695) rfl rfl (any_of HT_.out (by kernel_rfl)) (fun _ _ _ h => h) (Or.inl ⟨by rfl, ?_⟩) ?_ ?_
 rotate_left
 {
 intro w'
 go_simp
 with_reducible rfl }
 rotate_left
 {
 simp only [Act.put, sA_, s0_, sS_, i64_w, i32_w]
 rfl }
 refine pure_ (i := 33) (N := some 71) (v := ?_) (a' := ?_) (bm_ 59 120259084287) rfl rfl (any_of HT_.out (by kernel_rfl)) (fun _ _ _ h => h) (Or.inl ⟨by rfl, ?_⟩) ?_ ?_
 rotate_left
 {
 intro w'
 go_simp
 with_reducible rfl }
 rotate_left
 {
 simp only [Act.put, sA_, s0_, sS_, i64_w, i32_w]
 rfl }
 refine take_ (i := 34) (N := some 72) (v := ?_) (a' := ?_) (bm_ 59 137438953471) rfl rfl (take_ofW HT_.out HW_.out (by kernel_rfl)) (fun _ _ _ h => h) (Or.inl ⟨by rfl, ?_⟩) hHeld ?_ ?_
 rotate_left
 {
 rintro w' ⟨s0, s1, s2, s3, s4, s5, s6, s7, s8, s9, s10, s11, s12, s13, s14, s15, s16, s17, s18, s19⟩
 go_simp
 with_reducible rfl }
 rotate_left
 {
 simp only [Act.put, sA_, s0_, sS_, i64_w, i32_w]
 rfl }
 refine pure_ (i := 37) (N := some 75) (v := ?_) (a' := ?_) (bm_ 59 274877906943) rfl rfl (any_of HT_.out (by kernel_rfl)) (fun _ _ _ h => h) (Or.inl ⟨by rfl, ?_⟩) ?_ ?_
 rotate_left
 {
 intro w'
 go_simp
 with_reducible rfl }
 rotate_left
 {
 simp only [Act.put, sA_, s0_, sS_, i64_w, i32_w]
 rfl }
 refine pure_ (i := 38) (N := some 76) (v := ?_) (a' := ?_) (bm_ 59 549755813887) rfl rfl (any_of HT_.out (by kernel_rfl)) (fun _ _ _ h => h) (Or.inl ⟨by rfl, ?_⟩) ?_ ?_
 rotate_left
 {
 intro w'
 go_simp
 with_reducible rfl }
 rotate_left
 {
 simp only [Act.put, sA_, s0_, sS_, i64_w, i32_w]
 rfl }
 refine pure_ (i := 39) (N := some 77) (v := ?_) (a' := ?_) (bm_ 59 1099511627775) rfl rfl (any_of HT_.out (by kernel_rfl)) (fun _ _ _ h => h) (Or.inl ⟨by rfl, ?_⟩) ?_ ?_
 rotate_left
 {
 intro w'
 go_simp
 with_reducible rfl }
 rotate_left
 {
 simp only [Act.put, sA_, s0_, sS_, i64_w, i32_w]
 rfl }
 refine pure_ (i := 40) (N := some 78) (v := ?_) (a' := ?_) (bm_ 59 2199023255551) rfl rfl (any_of HT_.out (by kernel_rfl)) (fun _ _ _ h => h) (Or.inl ⟨by rfl, ?_⟩) ?_ ?_
 rotate_left
 {
 intro w'
 go_simp
 with_reducible rfl }
 rotate_left
 {
 simp only [Act.put, sA_, s0_, sS_, i64_w, i32_w]
 rfl }
 refine pure_ (i := 41) (N := some 79) (v := ?_) (a' := ?_) (bm_ 59 4398046511103) rfl rfl (any_of HT_.out (by kernel_rfl)) (fun _ _ _ h => h) (Or.inl ⟨by rfl, ?_⟩) ?_ ?_
 rotate_left
 {
 intro w'
 go_simp
 with_reducible rfl }
 rotate_left
 {
 simp only [Act.put, sA_, s0_, sS_, i64_w, i32_w]
 rfl }
 refine pure_ (i := 42) (N := some 80) (v := ?_) (a' := ?_) (bm_ 59 8796093022207) rfl rfl (any_of HT_.out (by kernel_rfl)) (fun _ _ _ h => h) (Or.inl ⟨by rfl, ?_⟩) ?_ ?_
 rotate_left
 {
 intro w'
 go_simp
 with_reducible rfl }
 rotate_left
 {
 simp only [Act.put, sA_, s0_, sS_, i64_w, i32_w]
 rfl }
 refine pure_ (i := 43) (N := some 81) (v := ?_) (a' := ?_) (bm_ 59 17592186044415) rfl rfl (any_of HT_.out (by kernel_rfl)) (fun _ _ _ h => h) (Or.inl ⟨by rfl, ?_⟩) ?_ ?_
 rotate_left
 {
 intro w'
 go_simp
 with_reducible rfl }
 rotate_left
 {
 simp only [Act.put, sA_, s0_, sS_, i64_w, i32_w]
 rfl }
 refine pure_ (i := 45) (N := some 83) (v := ?_) (a' := ?_) (bm_ 59 52776558133247) rfl rfl (any_of HT_.out (by kernel_rfl)) (fun _ _ _ h => h) (Or.inl ⟨by rfl, ?_⟩) ?_ ?_
 rotate_left
 {
 intro w'
 go_simp
 with_reducible rfl }
 rotate_left
 {
 simp only [Act.put, sA_, s0_, sS_, i64_w, i32_w]
 rfl }
 refine pure_ (i := 46) (N := some 84) (v := ?_) (a' := ?_) (bm_ 59 123145302310911) rfl rfl (any_of HT_.out (by kernel_rfl)) (fun _ _ _ h => h) (Or.inl ⟨by rfl, ?_⟩) ?_ ?_
 rotate_left
 {
 intro w'
 go_simp
 with_reducible rfl }
 rotate_left
 {
 simp only [Act.put, sA_, s0_, sS_, i64_w, i32_w]
 rfl }
 refine pure_ (i := 47) (N := some 85) (v := ?_) (a' := ?_) (bm_ 59 263882790666239) rfl rfl (any_of HT_.out (by kernel_rfl)) (fun _ _ _ h => h) (Or.inl ⟨by rfl, ?_⟩) ?_ ?_
 rotate_left
 {
 intro w'
 go_simp
 with_reducible rfl }
 rotate_left
 {
 simp only [Act.put, sA_, s0_, sS_, i64_w, i32_w]
 rfl }
 refine pure_ (i := 48) (N := some 86) (v := ?_) (a' := ?_) (bm_ 59 545357767376895) rfl rfl (any_of HT_.out (by kernel_rfl)) (fun _ _ _ h => h) (Or.inl ⟨by rfl, ?_⟩) ?_ ?_
 rotate_left
 {
 intro w'
 go_simp
 with_reducible rfl }
 rotate_left
 {
 simp only [Act.put, sA_, s0_, sS_, i64_w, i32_w]
 rfl }
 refine pure_ (i := 49) (N := some 87) (v := ?_) (a' := ?_) (bm_ 59 1108307720798207) rfl rfl (any_of HT_.out (by kernel_rfl)) (fun _ _ _ h => h) (Or.inl ⟨by rfl, ?_⟩) ?_ ?_
 rotate_left
 {
 intro w'
 go_simp
 with_reducible rfl }
 rotate_left
 {
 simp only [Act.put, sA_, s0_, sS_, i64_w, i32_w]
 rfl }
 refine pure_ (i := 50) (N := some 88) (v := ?_) (a' := ?_) (bm_ 59 2234207627640831) rfl rfl (any_of HT_.out (by kernel_rfl)) (fun _ _ _ h => h) (Or.inl ⟨by rfl, ?_⟩) ?_ ?_
 rotate_left
 {
 intro w'
 go_simp
 with_reducible rfl }
 rotate_left
 {
 simp only [Act.put, sA_, s0_, sS_, i64_w, i32_w]
 rfl }
 refine take_ (i := 44) (N := some 82) (v := ?_) (a' := ?_) (bm_ 59 2251799813685247) rfl rfl (take_ofW HT_.out HW_.out (by kernel_rfl)) (fun _ _ _ h => h) (Or.inl ⟨by rfl, ?_⟩) hHeld ?_ ?_
 rotate_left
 {
 rintro w' ⟨s0, s1, s2, s3, s4, s5, s6, s7, s8, s9, s10, s11, s12, s13, s14, s15, s16, s17, s18, s19⟩
 go_simp
 with_reducible rfl }
 rotate_left
 {
 simp only [Act.put, sA_, s0_, sS_, i64_w, i32_w]
 rfl }
 refine take_ (i := 51) (N := some 89) (v := ?_) (a' := ?_) (bm_ 59 4503599627370495) rfl rfl (take_ofW HT_.out HW_.out (by kernel_rfl)) (fun _ _ _ h => h) (Or.inl ⟨by rfl, ?_⟩) hHeld ?_ ?_
 rotate_left
 {
 rintro w' ⟨s0, s1, s2, s3, s4, s5, s6, s7, s8, s9, s10, s11, s12, s13, s14, s15, s16, s17, s18, s19⟩
 go_simp
 with_reducible rfl }
 rotate_left
 {
 simp only [Act.put, sA_, s0_, sS_, i64_w, i32_w]
 rfl }
 refine pure_ (i := 52) (N := some 90) (v := ?_) (a' := ?_) (bm_ 59 9007199254740991) rfl rfl (any_of HT_.out (by kernel_rfl)) (fun _ _ _ h => h) (Or.inl ⟨by rfl, ?_⟩) ?_ ?_
 rotate_left
 {
 intro w'
 go_simp
 with_reducible rfl }
 rotate_left
 {
 simp only [Act.put, sA_, s0_, sS_, i64_w, i32_w]
 rfl }
 refine pure_ (i := 53) (N := some 91) (v := ?_) (a' := ?_) (bm_ 59 18014398509481983) rfl rfl (any_of HT_.out (by kernel_rfl)) (fun _ _ _ h => h) (Or.inl ⟨by rfl, ?_⟩) ?_ ?_
 rotate_left
 {
 intro w'
 go_simp
 with_reducible rfl }
 rotate_left
 {
 simp only [Act.put, sA_, s0_, sS_, i64_w, i32_w]
 rfl }
 refine take_ (i := 54) (N := some 92) (v := ?_) (a' := ?_) (bm_ 59 36028797018963967) rfl rfl (take_ofW HT_.out HW_.out (by kernel_rfl)) (fun _ _ _ h => h) (Or.inl ⟨by rfl, ?_⟩) hHeld ?_ ?_
 rotate_left
 {
 rintro w' ⟨s0, s1, s2, s3, s4, s5, s6, s7, s8, s9, s10, s11, s12, s13, s14, s15, s16, s17, s18, s19⟩
 go_simp
 with_reducible rfl }
 rotate_left
 {
 simp only [Act.put, sA_, s0_, sS_, i64_w, i32_w]
 rfl }
 refine take_ (i := 55) (N := some 93) (v := ?_) (a' := ?_) (bm_ 59 72057594037927935) rfl rfl (take_ofW HT_.out HW_.out (by kernel_rfl)) (fun _ _ _ h => h) (Or.inl ⟨by rfl, ?_⟩) hHeld ?_ ?_
 rotate_left
 {
 rintro w' ⟨s0, s1, s2, s3, s4, s5, s6, s7, s8, s9, s10, s11, s12, s13, s14, s15, s16, s17, s18, s19⟩
 go_simp
 with_reducible rfl }
 rotate_left
 {
 simp only [Act.put, sA_, s0_, sS_, i64_w, i32_w]
 rfl }
 refine one_ (i := 56) (N := some 94) (bm_ 59 144115188075855871) rfl rfl (one_of HT_.out (by kernel_rfl)) (by decide) (fun K hK => ?_)
 refine goes_ Try.func21 (by kernel_rfl) rfl #[.int .u8 (bt a0 (rd t254 (ji22)))] (by rfl) rfl rfl (by (try simp only [List.map_toArray, List.map_cons, List.map_nil]); first | done | (simp only [hji22]; rfl) | rfl | (simp only [List.length_drop, List.length_take]; rfl)) ?_
 with_reducible refine (hearsayref08_Blank.calls (bt a0 (rd t254 (ji22))) t266 _ A31.out).mono ?_
 rintro e w' ⟨rfl, ⟨nd, rfl⟩⟩
 refine ⟨_, rfl, ?_⟩
 refine hK.out _ _ ⟨hHeld.1, hHeld.2.1, hHeld.2.2.1, hHeld.2.2.2.1, hHeld.2.2.2.2.1, hHeld.2.2.2.2.2.1, hHeld.2.2.2.2.2.2.1, hHeld.2.2.2.2.2.2.2.1, hHeld.2.2.2.2.2.2.2.2.1, hHeld.2.2.2.2.2.2.2.2.2.1, hHeld.2.2.2.2.2.2.2.2.2.2.1, hHeld.2.2.2.2.2.2.2.2.2.2.2.1, hHeld.2.2.2.2.2.2.2.2.2.2.2.2.1, hHeld.2.2.2.2.2.2.2.2.2.2.2.2.2.1, hHeld.2.2.2.2.2.2.2.2.2.2.2.2.2.2.1, hHeld.2.2.2.2.2.2.2.2.2.2.2.2.2.2.2.1, hHeld.2.2.2.2.2.2.2.2.2.2.2.2.2.2.2.2.1, hHeld.2.2.2.2.2.2.2.2.2.2.2.2.2.2.2.2.2.1, hHeld.2.2.2.2.2.2.2.2.2.2.2.2.2.2.2.2.2.2.1, hHeld.2.2.2.2.2.2.2.2.2.2.2.2.2.2.2.2.2.2.2⟩ (fun hHeld => ?_)
 clear hK K
 refine norm_ (a' := ?_) ?_ ?_
 rotate_left
 {
 show Act.put _ (some 94) _ = _
 simp only [Act.put, sA_, s0_, sS_, i64_w, i32_w]
 rfl }
 refine pure_ (i := 57) (N := some 95) (v := ?_) (a' := ?_) (bm_ 59 288230376151711743) rfl rfl (any_of HT_.out (by kernel_rfl)) (fun _ _ _ h => h) (Or.inl ⟨by rfl, ?_⟩) ?_ ?_
 rotate_left
 {
 intro w'
 go_simp
 with_reducible rfl }
 rotate_left
 {
 simp only [Act.put, sA_, s0_, sS_, i64_w, i32_w]
 rfl }
 refine pure_ (i := 58) (N := some 96) (v := ?_) (a' := ?_) (bm_ 59 576460752303423487) rfl rfl (any_of HT_.out (by kernel_rfl)) (fun _ _ _ h => h) (Or.inl ⟨by rfl, ?_⟩) ?_ ?_
 rotate_left
 {
 intro w'
 go_simp
 with_reducible rfl }
 rotate_left
 {
 simp only [Act.put, sA_, s0_, sS_, i64_w, i32_w]
 rfl }
 refine done_ (done_of HT_.out (by kernel_rfl)) ?_
 try go_wp2
 go_meet
 case rel => exact ⟨_, ((((rd_T45 t246 x8_1).f0) != t266)), (by first | rfl | (simp; done) | (simp [*]; done)), H', ⟨by have := HK1.out; first | omega | exact Nat.le_refl _⟩, ⟨by (with_reducible repeat (first | apply Kd.S_alloc | apply Kd.S_drewN | apply Kd.S_drew)); exact HO_3.out⟩, ⟨by (with_reducible repeat (first | apply Kd.R_alloc | apply Kd.R_drewN | apply Kd.R_drew)); exact HO_6.out⟩, ⟨by (with_reducible repeat (first | refine blk_drewN ?_ _ | refine blk_drew ?_ | refine blk_alloc ?_ _)); exact BK252.out⟩, ⟨by repeat (first | (with_reducible first | exact HB.out | apply below_alloc | apply pw_below_drewN | apply below_drew1 | refine below_set ?_ GE252.out) | exact HB.out)⟩⟩ )}
 {
 rw [if_neg c29] at H
 exact absurd H (by simp) })}
 {
 rw [if_neg c28] at H
 exact absurd H (by simp) })})}
 {
 rw [if_neg c24] at H
 exact absurd H (by simp) })}
 {
 rw [if_neg c23] at H
 exact absurd H (by simp) })})})})}
 {
 rw [if_neg c13] at H
 exact absurd H (by simp) }))
 case rest => (as_aux_lemma => (
 clear HC11
 try clear c1
 try clear c2
 try clear p2
 try clear q2
 try clear hx2
 try clear p3
 try clear q3
 try clear hx3
 try clear c13
 try clear c21
 try clear c23
 try clear c24
 try clear c25
 try clear hx25
 try clear c26
 try clear p26
 try clear q26
 try clear hx26
 try clear c28
 try clear c29
 try clear p30
 try clear q30
 try clear hx30
 try clear hx258_0
 try clear hx258_1
 try clear hx258_2
 try clear hx259_0
 try clear hx259_1
 try clear hx259_2
 try clear hx260_0
 try clear hx260_1
 try clear hx260_2
 try clear hx261_0
 try clear hx261_1
 try clear hx261_2
 try clear hx262_0
 try clear hx263_0
 try clear hx263_1
 try clear hx263_2
 try clear hx264_0
 try clear hx264_1
 try clear hx264_2
 try clear hx265_0
 try clear p260
 try clear p261
 try clear p262
 try clear p263
 try clear p264
 try clear p265
 try clear p30
 try clear q260
 try clear q261
 try clear q262
 try clear q263
 try clear q264
 try clear q265
 try clear q30
 obtain ⟨kq, x96_10, rfl, HA, HJ10, HO_3, HO_6, BK252, HB⟩ := hcut
 cases kq with
 | zero => exact absurd HA.out (by simp [hearsaylaw08_TokenPlaces.j1])
 | succ kj10 => (
 have H := HA.out
 clear HA
 simp only [hearsaylaw08_TokenPlaces.j1] at H
 by_cases c34 : x96_10 = true
 {
 subst c34
 have H1 : (some false) = some r := by rw [if_pos rfl] at H; exact H
 clear H
 have H := H1
 clear H1
 obtain rfl := Option.some.inj H
 go_wp2
 go_ret
 exact ⟨by first | rfl | (simp [errW_none, errW_some] <;> rfl) | (simp [*, errW_none, errW_some] <;> rfl), by repeat (first | (with_reducible first | exact HB.out | apply below_alloc | apply pw_below_drewN | apply below_drew1 | refine below_set ?_ GE252.out) | exact HB.out)⟩ }
 { as_aux_lemma => (
 replace c34 := Bool.eq_false_iff.mpr c34
 subst c34
 have H1 : (hearsaylaw08_TokenPlaces.l1 kj10 a0 t246 t254 x7_1 x8_1 0) = some r := by rw [if_neg (show ¬ (false = true) by decide)] at H; exact H
 clear H
 have H := H1
 clear H1
 have H' := Aside0.mk H
 clear H
 go_wp2
 go_loopg [7, 9] kj10 (fun kq v7 v9 w' => ∃ (x7_3 : Int) (x9_3 : Int), v7 = .int .i64 x7_3 ∧ v9 = .int .i64 x9_3 ∧ Aside0 (hearsaylaw08_TokenPlaces.l1 kq a0 t246 t254 x7_3 x8_1 x9_3 = some r) ∧ Aside0 (kq ≤ kj10) ∧ Aside0 (Kd.S k45 45 w' w.heap.size (fun _ => True) (.slice Ao12 t246.length co12) t246) ∧ Aside0 (Kd.R (Kd.int .i64) 3 w' w.heap.size (fun _ => True) v255 t254) ∧ Aside0 (w'.heap[gb252]? = some (.cells #[.int .i64 t249, .int .i64 t250] 30 (0, 0))) ∧ Aside0 (Below w.heap.size w w'))
 case atStart => exact ⟨(x7_1), (0), (by first | rfl | (simp; done) | (simp [*]; done)), (by first | rfl | (simp; done) | (simp [*]; done)), H', ⟨Nat.le_refl _⟩, ⟨by (with_reducible repeat (first | apply Kd.S_alloc | apply Kd.S_drewN | apply Kd.S_drew)); exact HO_3.out⟩, ⟨by (with_reducible repeat (first | apply Kd.R_alloc | apply Kd.R_drewN | apply Kd.R_drew)); exact HO_6.out⟩, ⟨by (with_reducible repeat (first | refine blk_drewN ?_ _ | refine blk_drew ?_ | refine blk_alloc ?_ _)); exact BK252.out⟩, ⟨by repeat (first | (with_reducible first | exact HB.out | apply below_alloc | apply pw_below_drewN | apply below_drew1 | refine below_set ?_ GE252.out) | exact HB.out)⟩⟩
 case round => (as_aux_lemma => (
 clear H'
 try clear c1
 try clear c2
 try clear p2
 try clear q2
 try clear hx2
 try clear c3
 try clear p3
 try clear q3
 try clear hx3
 try clear c13
 try clear c21
 try clear c23
 try clear c24
 try clear c25
 try clear hx25
 try clear c26
 try clear p26
 try clear q26
 try clear hx26
 try clear c28
 try clear c29
 try clear p30
 try clear q30
 try clear hx30
 try clear c34
 try clear hx258_0
 try clear hx258_1
 try clear hx258_2
 try clear hx259_0
 try clear hx259_1
 try clear hx259_2
 try clear hx260_0
 try clear hx260_1
 try clear hx260_2
 try clear hx261_0
 try clear hx261_1
 try clear hx261_2
 try clear hx262_0
 try clear hx263_0
 try clear hx263_1
 try clear hx263_2
 try clear hx264_0
 try clear hx264_1
 try clear hx264_2
 try clear hx265_0
 try clear p2
 try clear p26
 try clear p260
 try clear p261
 try clear p262
 try clear p263
 try clear p264
 try clear p265
 try clear p3
 try clear p30
 try clear q2
 try clear q26
 try clear q260
 try clear q261
 try clear q262
 try clear q263
 try clear q264
 try clear q265
 try clear q3
 try clear q30
 obtain ⟨x7_3, x9_3, rfl, rfl, HA, HK3, HO_3, HO_6, BK252, HB⟩ := hrel
 cases gk with
 | zero => exact absurd HA.out (by simp [hearsaylaw08_TokenPlaces.l1])
 | succ k3 => (
 have H := HA.out
 clear HA
 simp only [hearsaylaw08_TokenPlaces.l1] at H
 by_cases c35 : 0 ≤ x8_1
 { as_aux_lemma => (
 rw [if_pos c35] at H
 have c35b0 : decide (0 ≤ x8_1) = true := decide_eq_true c35
 clear c35
 by_cases c36 : x8_1 < (t246.length : Int)
 { as_aux_lemma => (
 rw [if_pos c36] at H
 have c36b0 : decide (x8_1 < (t246.length : Int)) = true := decide_eq_true c36
 clear c36
 by_cases c37 : x9_3 < (((rd_T45 t246 x8_1).f2).length : Int)
 { as_aux_lemma => (
 rw [if_pos c37] at H
 have c37b0 : decide (x9_3 < (((rd_T45 t246 x8_1).f2).length : Int)) = true := decide_eq_true c37
 clear c37
 by_cases c38 : 0 ≤ x9_3
 { as_aux_lemma => (
 rw [if_pos c38] at H
 have c38b0 : decide (0 ≤ x9_3) = true := decide_eq_true c38
 clear c38
 have HC39 := Aside0.mk H
 clear H
 have p267 : 0 ≤ (x8_1 : Int) := of_decide_eq_true (by first | (with_reducible assumption) | assumption)
 have q267 : x8_1 < (t246.length : Int) := of_decide_eq_true (by first | (with_reducible assumption) | assumption)
 obtain ⟨ad267, A267_2, c267_2, e267, hx267_0, hx267_1, hx267_2, hl267_2, hi267_2⟩ := at_T45 (Kd.S_reads' HO_3.out).2.2 x8_1 p267 q267
 cases e267
 obtain ⟨ce267, hce267, hMe267, hcc267⟩ := Kd.S_get HO_3.out z45 x8_1 p267 (by first | exact q267 | exact of_decide_eq_true (by first | (with_reducible assumption) | assumption) | (have e_ := (Kd.S_reads' HO_3.out).1; omega))
 obtain ⟨ve267_2, rfl, ge267_2⟩ := k45_openM hMe267
 have hv267_2 := hcc267 2 _ rfl
 rw [add_field _ _ 2 (by omega)] at hv267_2
 replace hv267_2 := Option.some.inj (hv267_2.symm.trans hx267_2)
 rw [hv267_2] at ge267_2
 have HL267_2 := Aside0.mk (show Kd.R k23 23 _ _ _ _ ((rd_T45 t246 x8_1).f2) from ge267_2)
 clear hv267_2 ge267_2
 clear hcc267 hce267
 have HR267_2 := Aside0.mk hi267_2
 have HC267_2 := Aside0.mk hl267_2
 clear hi267_2 hl267_2
 replace p267 := eq_true p267
 replace q267 := eq_true q267
 have p268 : 0 ≤ (x8_1 : Int) := of_decide_eq_true (by first | (with_reducible assumption) | assumption)
 have q268 : x8_1 < (t246.length : Int) := of_decide_eq_true (by first | (with_reducible assumption) | assumption)
 obtain ⟨ad268, A268_2, c268_2, e268, hx268_0, hx268_1, hx268_2, hl268_2, hi268_2⟩ := at_T45 (Kd.S_reads' HO_3.out).2.2 x8_1 p268 q268
 obtain rfl : ad267 = ad268 := (by injection e268)
 obtain ⟨ce268, hce268, hMe268, hcc268⟩ := Kd.S_get HO_3.out z45 x8_1 p268 (by first | exact q268 | exact of_decide_eq_true (by first | (with_reducible assumption) | assumption) | (have e_ := (Kd.S_reads' HO_3.out).1; omega))
 obtain ⟨ve268_2, rfl, ge268_2⟩ := k45_openM hMe268
 have hv268_2 := hcc268 2 _ rfl
 rw [add_field _ _ 2 (by omega)] at hv268_2
 replace hv268_2 := Option.some.inj (hv268_2.symm.trans hx268_2)
 rw [hv268_2] at ge268_2
 have HL268_2 := Aside0.mk (show Kd.R k23 23 _ _ _ _ ((rd_T45 t246 x8_1).f2) from ge268_2)
 clear hv268_2 ge268_2
 clear hcc268 hce268
 have HR268_2 := Aside0.mk hi268_2
 have HC268_2 := Aside0.mk hl268_2
 clear hi268_2 hl268_2
 replace p268 := eq_true p268
 replace q268 := eq_true q268
 have ea_ := Option.some.inj (hx267_2.symm.trans hx268_2)
 injection ea_ with ea_ en_ ec_
 subst ea_
 subst ec_
 clear en_
 have p269 : 0 ≤ (x9_3 : Int) := of_decide_eq_true (by first | (with_reducible assumption) | assumption)
 have q269 : x9_3 < (((rd_T45 t246 x8_1).f2).length : Int) := of_decide_eq_true (by first | (with_reducible assumption) | assumption)
 obtain ⟨ad269, e269, hx269_0, hx269_1, hx269_2, hx269_3⟩ := at_T23 (by repeat (first | (with_reducible exact HR268_2.out) | (with_reducible refine Kd.C_alloc ?_ _) | (with_reducible refine Kd.C_drewN ?_ _) | (with_reducible refine Kd.C_drew ?_) | exact HR268_2.out)) x9_3 p269 q269
 cases e269
 replace p269 := eq_true p269
 replace q269 := eq_true q269
 go_upto_if 118 with (first | ((with_reducible refine gate_dst (N := 10) rfl ?_); (try (refine gate_guard (by rfl) ?_; dsimp only)); refine box_event ?hg (N := 10) ?hd (cs := #[.string (⟨#[]⟩ : ByteArray), .bool false, .int .i64 0, .int .i64 0]) (t := 23) ?hr ?_; (case hd => rfl); (case hg => rfl); (case hr => first | (go_simp; done) | (go_simp; rfl)); intro gb270 hg w40 hbox hb; have n0_ := Aside0.mk (Kd.S_below (Kd.S_elderB (by (with_reducible repeat (first | apply Kd.S_alloc | apply Kd.S_drewN | apply Kd.S_drew)); exact HO_3.out) gb270 (Nat.le_of_eq hg.symm)) hb); have n1_ := Aside0.mk (Kd.R_below (by (with_reducible repeat (first | apply Kd.R_alloc | apply Kd.R_drewN | apply Kd.R_drew)); exact HO_6.out) hb); have n2_ := Aside0.mk (Kd.R_below (Kd.R_elderB (by (with_reducible repeat (first | apply Kd.R_alloc | apply Kd.R_drewN | apply Kd.R_drew)); exact HL267_2.out) gb270 (Nat.le_of_eq hg.symm)) hb); have n3_ := Aside0.mk (Kd.R_below (Kd.R_elderB (by (with_reducible repeat (first | apply Kd.R_alloc | apply Kd.R_drewN | apply Kd.R_drew)); exact HL268_2.out) gb270 (Nat.le_of_eq hg.symm)) hb); have n4_ := Aside0.mk (blk_below (g := gb252) (o := .cells #[.int .i64 t249, .int .i64 t250] 30 (0, 0)) (by (with_reducible repeat (first | refine blk_drewN ?_ _ | refine blk_drew ?_ | refine blk_alloc ?_ _)); exact BK252.out) hb); have n5_ := Aside0.mk (Kd.C_below (by repeat (first | (with_reducible exact HR267_2.out) | (with_reducible refine Kd.C_alloc ?_ _) | (with_reducible refine Kd.C_drewN ?_ _) | (with_reducible refine Kd.C_drew ?_) | exact HR267_2.out)) hb); have n6_ := Aside0.mk (Kd.C_below (by repeat (first | (with_reducible exact HR268_2.out) | (with_reducible refine Kd.C_alloc ?_ _) | (with_reducible refine Kd.C_drewN ?_ _) | (with_reducible refine Kd.C_drew ?_) | exact HR268_2.out)) hb); have n7_ := Aside0.mk (below_step (by repeat (first | (with_reducible first | exact HB.out | apply below_alloc | apply pw_below_drewN | apply below_drew1 | refine below_set ?_ GE252.out) | exact HB.out)) hb); have n8_ := Aside0.mk (hbox); have n9_ := Aside0.mk ((by rw [hg]; exact (below_size (by repeat (first | (with_reducible first | exact HB.out | apply below_alloc | apply pw_below_drewN | apply below_drew1 | refine below_set ?_ GE252.out) | exact HB.out))) : w.heap.size ≤ gb270)); have n10_ := Aside0.mk ((by rw [hg]; exact (below_size (by repeat (first | (with_reducible first | exact HB.out | apply below_alloc | apply pw_below_drewN | apply below_drew1 | refine below_set ?_ GE252.out) | exact HB.out))) : w.heap.size ≤ gb270)); have n11_ := Aside0.mk ((by rw [hg]; exact Nat.ne_of_lt (blk_lt (g := gb252) (o := .cells #[.int .i64 t249, .int .i64 t250] 30 (0, 0)) (by (with_reducible repeat (first | refine blk_drewN ?_ _ | refine blk_drew ?_ | refine blk_alloc ?_ _)); exact BK252.out)) : gb252 ≠ gb270)); have n12_ := Aside0.mk ((by rw [hg]; exact Nat.ne_of_gt (blk_lt (g := gb252) (o := .cells #[.int .i64 t249, .int .i64 t250] 30 (0, 0)) (by (with_reducible repeat (first | refine blk_drewN ?_ _ | refine blk_drew ?_ | refine blk_alloc ?_ _)); exact BK252.out)) : gb270 ≠ gb252)); clear HO_3; clear HO_6; clear HL267_2; clear HL268_2; clear BK252; clear HR267_2; clear HR268_2; clear HB; have HO_3 := n0_; have HO_6 := n1_; have HL267_2 := n2_; have HL268_2 := n3_; have BK252 := n4_; have HR267_2 := n5_; have HR268_2 := n6_; have HB := n7_; have BK270 := n8_; have GW270 := n9_; have GE270 := n10_; have NB252_270 := n11_; have NB270_252 := n12_; clear n0_ n1_ n2_ n3_ n4_ n5_ n6_ n7_ n8_ n9_ n10_ n11_ n12_; clear hb hbox hg; have hnb41 := NB270_252.out; have hnc41 := NB252_270.out; have hcz42_0 : w40.cell? ⟨gb270, 0, none⟩ = some (.string (⟨#[]⟩ : ByteArray)) := (blk_cell BK270.out 0).trans rfl; have hcz42_1 : w40.cell? ⟨gb270, 1, none⟩ = some (.bool false) := (blk_cell BK270.out 1).trans rfl; have hcz42_2 : w40.cell? ⟨gb270, 2, none⟩ = some (.int .i64 0) := (blk_cell BK270.out 2).trans rfl; have hcz42_3 : w40.cell? ⟨gb270, 3, none⟩ = some (.int .i64 0) := (blk_cell BK270.out 3).trans rfl; have hfz42_0 := blk_frozen BK270.out 0; have hfz42_1 := blk_frozen BK270.out 1; have hfz42_2 := blk_frozen BK270.out 2; have hfz42_3 := blk_frozen BK270.out 3))
 (try simp only [Act.put, List.setIfInBounds_toArray, List.set_cons_zero, List.set_cons_succ])
 go_cut [11] (fun v11 wc => ∃ (kq : Nat) (x11_38 : ByteArray), v11 = .string x11_38 ∧ Aside0 (hearsaylaw08_TokenPlaces.j3 kq a0 t246 t254 x7_3 x8_1 x9_3 x11_38 ((rd_T23 ((rd_T45 t246 x8_1).f2) x9_3).f0) ((rd_T23 ((rd_T45 t246 x8_1).f2) x9_3).f1) ((rd_T23 ((rd_T45 t246 x8_1).f2) x9_3).f2) ((rd_T23 ((rd_T45 t246 x8_1).f2) x9_3).f3) = some r) ∧ Aside0 (kq ≤ k3) ∧ Aside0 (Kd.S k45 45 wc w.heap.size (fun k_ => k_ ≠ gb270) (.slice (some ad267) t246.length co12) t246) ∧ Aside0 (Kd.R (Kd.int .i64) 3 wc w.heap.size (fun _ => True) v255 t254) ∧ Aside0 (wc.heap[gb252]? = some (.cells #[.int .i64 t249, .int .i64 t250] 30 (0, 0))) ∧ Aside0 (wc.heap[gb270]? = some (.cells #[.string ((rd_T23 ((rd_T45 t246 x8_1).f2) x9_3).f0), .bool ((rd_T23 ((rd_T45 t246 x8_1).f2) x9_3).f1), .int .i64 ((rd_T23 ((rd_T45 t246 x8_1).f2) x9_3).f2), .int .i64 ((rd_T23 ((rd_T45 t246 x8_1).f2) x9_3).f3)] 23 (0, 0))) ∧ Aside0 (Kd.C k23 wc (some ad269) ((rd_T45 t246 x8_1).f2).length ((rd_T45 t246 x8_1).f2)) ∧ Aside0 (Kd.C k23 wc (some ad269) ((rd_T45 t246 x8_1).f2).length ((rd_T45 t246 x8_1).f2)) ∧ Aside0 (Below w.heap.size w wc))
 case first => (
 have H := HC39.out
 clear HC39
 obtain ⟨bq43, hbq43⟩ : ∃ b_ : Bool, b_ = ((rd_T23 ((rd_T45 t246 x8_1).f2) x9_3).f1) := ⟨_, rfl⟩
 replace H : (if bq43 = true then (if 1 + ((rd_T23 ((rd_T45 t246 x8_1).f2) x9_3).f0).size ≤ 9223372036854775807 then (if ((⟨#[34]⟩ : ByteArray) ++ ((rd_T23 ((rd_T45 t246 x8_1).f2) x9_3).f0)).size + 1 ≤ 9223372036854775807 then (hearsaylaw08_TokenPlaces.j3 k3 a0 t246 t254 x7_3 x8_1 x9_3 (((⟨#[34]⟩ : ByteArray) ++ ((rd_T23 ((rd_T45 t246 x8_1).f2) x9_3).f0)) ++ (⟨#[34]⟩ : ByteArray)) ((rd_T23 ((rd_T45 t246 x8_1).f2) x9_3).f0) bq43 ((rd_T23 ((rd_T45 t246 x8_1).f2) x9_3).f2) ((rd_T23 ((rd_T45 t246 x8_1).f2) x9_3).f3)) else (none)) else (none)) else (hearsaylaw08_TokenPlaces.j3 k3 a0 t246 t254 x7_3 x8_1 x9_3 ((rd_T23 ((rd_T45 t246 x8_1).f2) x9_3).f0) ((rd_T23 ((rd_T45 t246 x8_1).f2) x9_3).f0) bq43 ((rd_T23 ((rd_T45 t246 x8_1).f2) x9_3).f2) ((rd_T23 ((rd_T45 t246 x8_1).f2) x9_3).f3))) = some r := by rw [← hbq43] at H; exact H
 have Nbq43 := Aside0.mk hbq43
 clear hbq43
 (try rw [← Nbq43.out])
 by_cases c44 : bq43 = true
 {
 subst c44
 have H1 : (if 1 + ((rd_T23 ((rd_T45 t246 x8_1).f2) x9_3).f0).size ≤ 9223372036854775807 then (if ((⟨#[34]⟩ : ByteArray) ++ ((rd_T23 ((rd_T45 t246 x8_1).f2) x9_3).f0)).size + 1 ≤ 9223372036854775807 then (hearsaylaw08_TokenPlaces.j3 k3 a0 t246 t254 x7_3 x8_1 x9_3 (((⟨#[34]⟩ : ByteArray) ++ ((rd_T23 ((rd_T45 t246 x8_1).f2) x9_3).f0)) ++ (⟨#[34]⟩ : ByteArray)) ((rd_T23 ((rd_T45 t246 x8_1).f2) x9_3).f0) true ((rd_T23 ((rd_T45 t246 x8_1).f2) x9_3).f2) ((rd_T23 ((rd_T45 t246 x8_1).f2) x9_3).f3)) else (none)) else (none)) = some r := by rw [if_pos rfl] at H; exact H
 clear H
 have H := H1
 clear H1
 by_cases c45 : 1 + ((rd_T23 ((rd_T45 t246 x8_1).f2) x9_3).f0).size ≤ 9223372036854775807
 {
 rw [if_pos c45] at H
 have c45b0 := eq_true c45
 have c45b1 : decide (1 + ((rd_T23 ((rd_T45 t246 x8_1).f2) x9_3).f0).size ≤ 9223372036854775807) = true := decide_eq_true c45
 try have c45b2 : (9223372036854775807 < 1 + ((rd_T23 ((rd_T45 t246 x8_1).f2) x9_3).f0).size) = False := eq_false (Nat.not_lt.2 c45)
 by_cases c46 : ((⟨#[34]⟩ : ByteArray) ++ ((rd_T23 ((rd_T45 t246 x8_1).f2) x9_3).f0)).size + 1 ≤ 9223372036854775807
 {
 rw [if_pos c46] at H
 have c46b0 := eq_true c46
 have c46b1 : decide (((⟨#[34]⟩ : ByteArray) ++ ((rd_T23 ((rd_T45 t246 x8_1).f2) x9_3).f0)).size + 1 ≤ 9223372036854775807) = true := decide_eq_true c46
 try have c46b2 : (9223372036854775807 < ((⟨#[34]⟩ : ByteArray) ++ ((rd_T23 ((rd_T45 t246 x8_1).f2) x9_3).f0)).size + 1) = False := eq_false (Nat.not_lt.2 c46)
 try have c46b3 : (9223372036854775807 < 1 + ((rd_T23 ((rd_T45 t246 x8_1).f2) x9_3).f0).size + 1) = False := eq_false (by have h_ := c46; rw [ByteArray.size_append] at h_; exact Nat.not_lt.2 h_)
 have H' := Aside0.mk H
 clear H
 go_wp2
 go_meet
 case rel => (try rw [← Nbq43.out]); exact ⟨_, (((⟨#[34]⟩ : ByteArray) ++ ((rd_T23 ((rd_T45 t246 x8_1).f2) x9_3).f0)) ++ (⟨#[34]⟩ : ByteArray)), (by first | rfl | (simp; done) | (simp [*]; done)), H', ⟨by have := HK1.out; have := HJ10.out; have := HK3.out; first | omega | exact Nat.le_refl _⟩, ⟨by (with_reducible repeat (first | apply Kd.S_alloc | apply Kd.S_drewN | apply Kd.S_drew)); exact Kd.S_mono (Kd.S_far (p := ⟨gb270, 3, none⟩) (Kd.S_far (p := ⟨gb270, 2, none⟩) (Kd.S_far (p := ⟨gb270, 1, none⟩) (Kd.S_far (p := ⟨gb270, 0, none⟩) (Kd.S_mono HO_3.out (fun k_ hk => (⟨hk, hk.2⟩ : _ ∧ k_ ≠ gb270))) (fun _ hk => hk.2) (.string ((rd_T23 ((rd_T45 t246 x8_1).f2) x9_3).f0))) (fun _ hk => hk.2) (.bool (true))) (fun _ hk => hk.2) (.int .i64 ((rd_T23 ((rd_T45 t246 x8_1).f2) x9_3).f2))) (fun _ hk => hk.2) (.int .i64 ((rd_T23 ((rd_T45 t246 x8_1).f2) x9_3).f3))) (fun _ hk => hk.1.2)⟩, ⟨by (with_reducible repeat (first | apply Kd.R_alloc | apply Kd.R_drewN | apply Kd.R_drew)); exact Kd.R_mono (Kd.R_far (p := ⟨gb270, 3, none⟩) (Kd.R_far (p := ⟨gb270, 2, none⟩) (Kd.R_far (p := ⟨gb270, 1, none⟩) (Kd.R_far (p := ⟨gb270, 0, none⟩) (Kd.R_types HO_6.out BK270.out (by decide)) (fun _ hk => hk.2) (.string ((rd_T23 ((rd_T45 t246 x8_1).f2) x9_3).f0))) (fun _ hk => hk.2) (.bool (true))) (fun _ hk => hk.2) (.int .i64 ((rd_T23 ((rd_T45 t246 x8_1).f2) x9_3).f2))) (fun _ hk => hk.2) (.int .i64 ((rd_T23 ((rd_T45 t246 x8_1).f2) x9_3).f3))) (fun _ hk => trivial)⟩, ⟨by (with_reducible repeat (first | refine blk_drewN ?_ _ | refine blk_drew ?_ | refine blk_alloc ?_ _)); refine blk_far ?_ NB252_270.out _; (with_reducible repeat (first | refine blk_drewN ?_ _ | refine blk_drew ?_ | refine blk_alloc ?_ _)); refine blk_far ?_ NB252_270.out _; (with_reducible repeat (first | refine blk_drewN ?_ _ | refine blk_drew ?_ | refine blk_alloc ?_ _)); refine blk_far ?_ NB252_270.out _; (with_reducible repeat (first | refine blk_drewN ?_ _ | refine blk_drew ?_ | refine blk_alloc ?_ _)); refine blk_far ?_ NB252_270.out _; (with_reducible repeat (first | refine blk_drewN ?_ _ | refine blk_drew ?_ | refine blk_alloc ?_ _)); exact BK252.out⟩, ⟨by (with_reducible repeat (first | refine blk_drewN ?_ _ | refine blk_drew ?_ | refine blk_alloc ?_ _)); refine blk_put (cs := #[.string ((rd_T23 ((rd_T45 t246 x8_1).f2) x9_3).f0), .bool (true), .int .i64 ((rd_T23 ((rd_T45 t246 x8_1).f2) x9_3).f2), .int .i64 0]) ?_ 3 _ rfl; (with_reducible repeat (first | refine blk_drewN ?_ _ | refine blk_drew ?_ | refine blk_alloc ?_ _)); refine blk_put (cs := #[.string ((rd_T23 ((rd_T45 t246 x8_1).f2) x9_3).f0), .bool (true), .int .i64 0, .int .i64 0]) ?_ 2 _ rfl; (with_reducible repeat (first | refine blk_drewN ?_ _ | refine blk_drew ?_ | refine blk_alloc ?_ _)); refine blk_put (cs := #[.string ((rd_T23 ((rd_T45 t246 x8_1).f2) x9_3).f0), .bool false, .int .i64 0, .int .i64 0]) ?_ 1 _ rfl; (with_reducible repeat (first | refine blk_drewN ?_ _ | refine blk_drew ?_ | refine blk_alloc ?_ _)); refine blk_put (cs := #[.string (⟨#[]⟩ : ByteArray), .bool false, .int .i64 0, .int .i64 0]) ?_ 0 _ rfl; (with_reducible repeat (first | refine blk_drewN ?_ _ | refine blk_drew ?_ | refine blk_alloc ?_ _)); exact BK270.out⟩, ⟨(Kd.R_reads' (by (with_reducible repeat (first | apply Kd.R_alloc | apply Kd.R_drewN | apply Kd.R_drew)); exact (Kd.R_mono (Kd.R_far (p := ⟨gb270, 3, none⟩) (Kd.R_far (p := ⟨gb270, 2, none⟩) (Kd.R_far (p := ⟨gb270, 1, none⟩) (Kd.R_far (p := ⟨gb270, 0, none⟩) (Kd.R_mono HL267_2.out (fun k_ hk => (⟨hk, hk.2⟩ : _ ∧ k_ ≠ gb270))) (fun _ hk => hk.2) (.string ((rd_T23 ((rd_T45 t246 x8_1).f2) x9_3).f0))) (fun _ hk => hk.2) (.bool (true))) (fun _ hk => hk.2) (.int .i64 ((rd_T23 ((rd_T45 t246 x8_1).f2) x9_3).f2))) (fun _ hk => hk.2) (.int .i64 ((rd_T23 ((rd_T45 t246 x8_1).f2) x9_3).f3))) (fun _ h_ => h_.1)))).2.2⟩, ⟨(Kd.R_reads' (by (with_reducible repeat (first | apply Kd.R_alloc | apply Kd.R_drewN | apply Kd.R_drew)); exact (Kd.R_mono (Kd.R_far (p := ⟨gb270, 3, none⟩) (Kd.R_far (p := ⟨gb270, 2, none⟩) (Kd.R_far (p := ⟨gb270, 1, none⟩) (Kd.R_far (p := ⟨gb270, 0, none⟩) (Kd.R_mono HL268_2.out (fun k_ hk => (⟨hk, hk.2⟩ : _ ∧ k_ ≠ gb270))) (fun _ hk => hk.2) (.string ((rd_T23 ((rd_T45 t246 x8_1).f2) x9_3).f0))) (fun _ hk => hk.2) (.bool (true))) (fun _ hk => hk.2) (.int .i64 ((rd_T23 ((rd_T45 t246 x8_1).f2) x9_3).f2))) (fun _ hk => hk.2) (.int .i64 ((rd_T23 ((rd_T45 t246 x8_1).f2) x9_3).f3))) (fun _ h_ => h_.1)))).2.2⟩, ⟨by repeat (first | (with_reducible first | exact HB.out | apply below_alloc | apply pw_below_drewN | apply below_drew1 | refine below_set ?_ GE252.out | refine below_set ?_ GE270.out) | exact HB.out)⟩⟩ }
 {
 rw [if_neg c46] at H
 exact absurd H (by simp) }}
 {
 rw [if_neg c45] at H
 exact absurd H (by simp) }}
 {
 replace c44 := Bool.eq_false_iff.mpr c44
 subst c44
 have H1 : (hearsaylaw08_TokenPlaces.j3 k3 a0 t246 t254 x7_3 x8_1 x9_3 ((rd_T23 ((rd_T45 t246 x8_1).f2) x9_3).f0) ((rd_T23 ((rd_T45 t246 x8_1).f2) x9_3).f0) false ((rd_T23 ((rd_T45 t246 x8_1).f2) x9_3).f2) ((rd_T23 ((rd_T45 t246 x8_1).f2) x9_3).f3)) = some r := by rw [if_neg (show ¬ (false = true) by decide)] at H; exact H
 clear H
 have H := H1
 clear H1
 have H' := Aside0.mk H
 clear H
 go_wp2
 go_meet
 case rel => (try rw [← Nbq43.out]); exact ⟨_, ((rd_T23 ((rd_T45 t246 x8_1).f2) x9_3).f0), (by first | rfl | (simp; done) | (simp [*]; done)), H', ⟨by have := HK1.out; have := HJ10.out; have := HK3.out; first | omega | exact Nat.le_refl _⟩, ⟨by (with_reducible repeat (first | apply Kd.S_alloc | apply Kd.S_drewN | apply Kd.S_drew)); exact Kd.S_mono (Kd.S_far (p := ⟨gb270, 3, none⟩) (Kd.S_far (p := ⟨gb270, 2, none⟩) (Kd.S_far (p := ⟨gb270, 1, none⟩) (Kd.S_far (p := ⟨gb270, 0, none⟩) (Kd.S_mono HO_3.out (fun k_ hk => (⟨hk, hk.2⟩ : _ ∧ k_ ≠ gb270))) (fun _ hk => hk.2) (.string ((rd_T23 ((rd_T45 t246 x8_1).f2) x9_3).f0))) (fun _ hk => hk.2) (.bool (false))) (fun _ hk => hk.2) (.int .i64 ((rd_T23 ((rd_T45 t246 x8_1).f2) x9_3).f2))) (fun _ hk => hk.2) (.int .i64 ((rd_T23 ((rd_T45 t246 x8_1).f2) x9_3).f3))) (fun _ hk => hk.1.2)⟩, ⟨by (with_reducible repeat (first | apply Kd.R_alloc | apply Kd.R_drewN | apply Kd.R_drew)); exact Kd.R_mono (Kd.R_far (p := ⟨gb270, 3, none⟩) (Kd.R_far (p := ⟨gb270, 2, none⟩) (Kd.R_far (p := ⟨gb270, 1, none⟩) (Kd.R_far (p := ⟨gb270, 0, none⟩) (Kd.R_types HO_6.out BK270.out (by decide)) (fun _ hk => hk.2) (.string ((rd_T23 ((rd_T45 t246 x8_1).f2) x9_3).f0))) (fun _ hk => hk.2) (.bool (false))) (fun _ hk => hk.2) (.int .i64 ((rd_T23 ((rd_T45 t246 x8_1).f2) x9_3).f2))) (fun _ hk => hk.2) (.int .i64 ((rd_T23 ((rd_T45 t246 x8_1).f2) x9_3).f3))) (fun _ hk => trivial)⟩, ⟨by (with_reducible repeat (first | refine blk_drewN ?_ _ | refine blk_drew ?_ | refine blk_alloc ?_ _)); refine blk_far ?_ NB252_270.out _; (with_reducible repeat (first | refine blk_drewN ?_ _ | refine blk_drew ?_ | refine blk_alloc ?_ _)); refine blk_far ?_ NB252_270.out _; (with_reducible repeat (first | refine blk_drewN ?_ _ | refine blk_drew ?_ | refine blk_alloc ?_ _)); refine blk_far ?_ NB252_270.out _; (with_reducible repeat (first | refine blk_drewN ?_ _ | refine blk_drew ?_ | refine blk_alloc ?_ _)); refine blk_far ?_ NB252_270.out _; (with_reducible repeat (first | refine blk_drewN ?_ _ | refine blk_drew ?_ | refine blk_alloc ?_ _)); exact BK252.out⟩, ⟨by (with_reducible repeat (first | refine blk_drewN ?_ _ | refine blk_drew ?_ | refine blk_alloc ?_ _)); refine blk_put (cs := #[.string ((rd_T23 ((rd_T45 t246 x8_1).f2) x9_3).f0), .bool (false), .int .i64 ((rd_T23 ((rd_T45 t246 x8_1).f2) x9_3).f2), .int .i64 0]) ?_ 3 _ rfl; (with_reducible repeat (first | refine blk_drewN ?_ _ | refine blk_drew ?_ | refine blk_alloc ?_ _)); refine blk_put (cs := #[.string ((rd_T23 ((rd_T45 t246 x8_1).f2) x9_3).f0), .bool (false), .int .i64 0, .int .i64 0]) ?_ 2 _ rfl; (with_reducible repeat (first | refine blk_drewN ?_ _ | refine blk_drew ?_ | refine blk_alloc ?_ _)); refine blk_put (cs := #[.string ((rd_T23 ((rd_T45 t246 x8_1).f2) x9_3).f0), .bool false, .int .i64 0, .int .i64 0]) ?_ 1 _ rfl; (with_reducible repeat (first | refine blk_drewN ?_ _ | refine blk_drew ?_ | refine blk_alloc ?_ _)); refine blk_put (cs := #[.string (⟨#[]⟩ : ByteArray), .bool false, .int .i64 0, .int .i64 0]) ?_ 0 _ rfl; (with_reducible repeat (first | refine blk_drewN ?_ _ | refine blk_drew ?_ | refine blk_alloc ?_ _)); exact BK270.out⟩, ⟨(Kd.R_reads' (by (with_reducible repeat (first | apply Kd.R_alloc | apply Kd.R_drewN | apply Kd.R_drew)); exact (Kd.R_mono (Kd.R_far (p := ⟨gb270, 3, none⟩) (Kd.R_far (p := ⟨gb270, 2, none⟩) (Kd.R_far (p := ⟨gb270, 1, none⟩) (Kd.R_far (p := ⟨gb270, 0, none⟩) (Kd.R_mono HL267_2.out (fun k_ hk => (⟨hk, hk.2⟩ : _ ∧ k_ ≠ gb270))) (fun _ hk => hk.2) (.string ((rd_T23 ((rd_T45 t246 x8_1).f2) x9_3).f0))) (fun _ hk => hk.2) (.bool (false))) (fun _ hk => hk.2) (.int .i64 ((rd_T23 ((rd_T45 t246 x8_1).f2) x9_3).f2))) (fun _ hk => hk.2) (.int .i64 ((rd_T23 ((rd_T45 t246 x8_1).f2) x9_3).f3))) (fun _ h_ => h_.1)))).2.2⟩, ⟨(Kd.R_reads' (by (with_reducible repeat (first | apply Kd.R_alloc | apply Kd.R_drewN | apply Kd.R_drew)); exact (Kd.R_mono (Kd.R_far (p := ⟨gb270, 3, none⟩) (Kd.R_far (p := ⟨gb270, 2, none⟩) (Kd.R_far (p := ⟨gb270, 1, none⟩) (Kd.R_far (p := ⟨gb270, 0, none⟩) (Kd.R_mono HL268_2.out (fun k_ hk => (⟨hk, hk.2⟩ : _ ∧ k_ ≠ gb270))) (fun _ hk => hk.2) (.string ((rd_T23 ((rd_T45 t246 x8_1).f2) x9_3).f0))) (fun _ hk => hk.2) (.bool (false))) (fun _ hk => hk.2) (.int .i64 ((rd_T23 ((rd_T45 t246 x8_1).f2) x9_3).f2))) (fun _ hk => hk.2) (.int .i64 ((rd_T23 ((rd_T45 t246 x8_1).f2) x9_3).f3))) (fun _ h_ => h_.1)))).2.2⟩, ⟨by repeat (first | (with_reducible first | exact HB.out | apply below_alloc | apply pw_below_drewN | apply below_drew1 | refine below_set ?_ GE252.out | refine below_set ?_ GE270.out) | exact HB.out)⟩⟩ })
 case rest => (as_aux_lemma => (
 clear HC39
 try clear c1
 try clear c2
 try clear p2
 try clear q2
 try clear hx2
 try clear c3
 try clear p3
 try clear q3
 try clear hx3
 try clear c4
 try clear q4
 try clear c13
 try clear c21
 try clear c23
 try clear c24
 try clear c25
 try clear hx25
 try clear c26
 try clear p26
 try clear q26
 try clear hx26
 try clear c28
 try clear c29
 try clear p30
 try clear q30
 try clear hx30
 try clear c34
 try clear c35
 try clear c35b0
 try clear c36
 try clear c36b0
 try clear c37
 try clear c37b0
 try clear c38
 try clear c38b0
 try clear c41
 try clear q43
 try clear c44
 try clear c45
 try clear c45b0
 try clear c45b1
 try clear c45b2
 try clear c46
 try clear c46b0
 try clear c46b1
 try clear c46b2
 try clear hcz42_0
 try clear hcz42_1
 try clear hcz42_2
 try clear hcz42_3
 try clear hfz42_0
 try clear hfz42_1
 try clear hfz42_2
 try clear hfz42_3
 try clear hx258_0
 try clear hx258_1
 try clear hx258_2
 try clear hx259_0
 try clear hx259_1
 try clear hx259_2
 try clear hx260_0
 try clear hx260_1
 try clear hx260_2
 try clear hx261_0
 try clear hx261_1
 try clear hx261_2
 try clear hx262_0
 try clear hx263_0
 try clear hx263_1
 try clear hx263_2
 try clear hx264_0
 try clear hx264_1
 try clear hx264_2
 try clear hx265_0
 try clear hx267_0
 try clear hx267_1
 try clear hx267_2
 try clear hx268_0
 try clear hx268_1
 try clear hx268_2
 try clear hx269_0
 try clear hx269_1
 try clear hx269_2
 try clear hx269_3
 try clear p2
 try clear p26
 try clear p260
 try clear p261
 try clear p262
 try clear p263
 try clear p264
 try clear p265
 try clear p267
 try clear p268
 try clear p269
 try clear p3
 try clear p30
 try clear q2
 try clear q26
 try clear q260
 try clear q261
 try clear q262
 try clear q263
 try clear q264
 try clear q265
 try clear q267
 try clear q268
 try clear q269
 try clear q3
 try clear q30
 obtain ⟨kq, x11_38, rfl, HA, HJ38, HO_3, HO_6, BK252, BK270, HR267_2, HR268_2, HB⟩ := hcut
 cases kq with
 | zero => exact absurd HA.out (by simp [hearsaylaw08_TokenPlaces.j3])
 | succ kj38 => (
 have H := HA.out
 clear HA
 simp only [hearsaylaw08_TokenPlaces.j3] at H
 have HC47 := Aside0.mk H
 clear H
 go_upto_region 20 with (fail)
 go_cut [146] (fun v146 wc => ∃ (kq : Nat) (x146_46 : Bool), v146 = .bool x146_46 ∧ Aside0 (hearsaylaw08_TokenPlaces.j4 kq a0 t246 t254 x7_3 x8_1 x9_3 x11_38 x146_46 ((rd_T23 ((rd_T45 t246 x8_1).f2) x9_3).f0) ((rd_T23 ((rd_T45 t246 x8_1).f2) x9_3).f1) ((rd_T23 ((rd_T45 t246 x8_1).f2) x9_3).f2) ((rd_T23 ((rd_T45 t246 x8_1).f2) x9_3).f3) = some r) ∧ Aside0 (kq ≤ kj38) ∧ Aside0 (Kd.S k45 45 wc w.heap.size (fun k_ => k_ ≠ gb270) (.slice (some ad267) t246.length co12) t246) ∧ Aside0 (Kd.R (Kd.int .i64) 3 wc w.heap.size (fun _ => True) v255 t254) ∧ Aside0 (wc.heap[gb252]? = some (.cells #[.int .i64 t249, .int .i64 t250] 30 (0, 0))) ∧ Aside0 (wc.heap[gb270]? = some (.cells #[.string ((rd_T23 ((rd_T45 t246 x8_1).f2) x9_3).f0), .bool ((rd_T23 ((rd_T45 t246 x8_1).f2) x9_3).f1), .int .i64 ((rd_T23 ((rd_T45 t246 x8_1).f2) x9_3).f2), .int .i64 ((rd_T23 ((rd_T45 t246 x8_1).f2) x9_3).f3)] 23 (0, 0))) ∧ Aside0 (Kd.C k23 wc (some ad269) ((rd_T45 t246 x8_1).f2).length ((rd_T45 t246 x8_1).f2)) ∧ Aside0 (Kd.C k23 wc (some ad269) ((rd_T45 t246 x8_1).f2).length ((rd_T45 t246 x8_1).f2)) ∧ Aside0 (Below w.heap.size w wc))
 case first => (as_aux_lemma => (
 have H := HC47.out
 clear HC47
 by_cases c48 : 0 ≤ x8_1
 { as_aux_lemma => (
 rw [if_pos c48] at H
 have c48b0 : decide (0 ≤ x8_1) = true := decide_eq_true c48
 clear c48
 (first | rw [c48b0] | (simp only [i64_w, i32_w]; rw [c48b0]) | skip)
 by_cases c49 : x8_1 < (t246.length : Int)
 { as_aux_lemma => (
 rw [if_pos c49] at H
 have c49b0 : decide (x8_1 < (t246.length : Int)) = true := decide_eq_true c49
 clear c49
 by_cases c50 : ((rd_T23 ((rd_T45 t246 x8_1).f2) x9_3).f2) < ((rd_T45 t246 x8_1).f1)
 { as_aux_lemma => (
 rw [if_pos c50] at H
 have c50b0 : decide (((rd_T23 ((rd_T45 t246 x8_1).f2) x9_3).f2) < ((rd_T45 t246 x8_1).f1)) = true := decide_eq_true c50
 clear c50
 have H' := Aside0.mk H
 clear H
 try go_wp2
 have n0_ := Aside0.mk (Kd.S_drew HO_3.out)
 have n1_ := Aside0.mk (Kd.R_drew HO_6.out)
 have n2_ := Aside0.mk (blk_drew BK252.out)
 have n3_ := Aside0.mk (blk_drew BK270.out)
 have n4_ := Aside0.mk (Kd.C_drew HR267_2.out)
 have n5_ := Aside0.mk (Kd.C_drew HR268_2.out)
 have n6_ := Aside0.mk (below_drew1 HB.out)
 clear HO_3
 clear HO_6
 clear BK252
 clear BK270
 clear HR267_2
 clear HR268_2
 clear HB
 have HO_3 := n0_
 have HO_6 := n1_
 have BK252 := n2_
 have BK270 := n3_
 have HR267_2 := n4_
 have HR268_2 := n5_
 have HB := n6_
 clear n0_ n1_ n2_ n3_ n4_ n5_ n6_
 have p271 : 0 ≤ (x8_1 : Int) := of_decide_eq_true (by first | (with_reducible assumption) | assumption)
 have q271 : x8_1 < (t246.length : Int) := of_decide_eq_true (by first | (with_reducible assumption) | assumption)
 obtain ⟨ad271, A271_2, c271_2, e271, hx271_0, hx271_1, hx271_2, hl271_2, hi271_2⟩ := at_T45 (Kd.S_reads' HO_3.out).2.2 x8_1 p271 q271
 obtain rfl : ad267 = ad271 := (by injection e271)
 obtain ⟨ce271, hce271, hMe271, hcc271⟩ := Kd.S_get HO_3.out z45 x8_1 p271 (by first | exact q271 | exact of_decide_eq_true (by first | (with_reducible assumption) | assumption) | (have e_ := (Kd.S_reads' HO_3.out).1; omega))
 obtain ⟨ve271_2, rfl, ge271_2⟩ := k45_openM hMe271
 have hv271_2 := hcc271 2 _ rfl
 rw [add_field _ _ 2 (by omega)] at hv271_2
 replace hv271_2 := Option.some.inj (hv271_2.symm.trans hx271_2)
 rw [hv271_2] at ge271_2
 have HL271_2 := Aside0.mk (show Kd.R k23 23 _ _ _ _ ((rd_T45 t246 x8_1).f2) from ge271_2)
 clear hv271_2 ge271_2
 clear hcc271 hce271
 have HR271_2 := Aside0.mk hi271_2
 have HC271_2 := Aside0.mk hl271_2
 clear hi271_2 hl271_2
 replace p271 := eq_true p271
 replace q271 := eq_true q271
 refine start_ (n := 25) (S := fun w' => w'.cell? ⟨gb270, 0, none⟩ = some (.string ((rd_T23 ((rd_T45 t246 x8_1).f2) x9_3).f0)) ∧ w'.cell? ⟨gb270, 1, none⟩ = some (.bool ((rd_T23 ((rd_T45 t246 x8_1).f2) x9_3).f1)) ∧ w'.cell? ⟨gb270, 2, none⟩ = some (.int .i64 ((rd_T23 ((rd_T45 t246 x8_1).f2) x9_3).f2)) ∧ w'.cell? ⟨gb270, 3, none⟩ = some (.int .i64 ((rd_T23 ((rd_T45 t246 x8_1).f2) x9_3).f3)) ∧ w'.cell? (ad267.add ((x8_1).toNat * 3)) = some (.bool ((rd_T45 t246 x8_1).f0)) ∧ w'.cell? ⟨(ad267.add ((x8_1).toNat * 3)).block, (ad267.add ((x8_1).toNat * 3)).off + 1, none⟩ = some (.int .i64 ((rd_T45 t246 x8_1).f1)) ∧ w'.cell? ⟨(ad267.add ((x8_1).toNat * 3)).block, (ad267.add ((x8_1).toNat * 3)).off + 2, none⟩ = some (.slice A271_2 ((rd_T45 t246 x8_1).f2).length c271_2)) (ds := []) (bm_ 25 0) (by kernel_rfl) rfl rfl ⟨(blk_cell BK270.out 0).trans rfl, (blk_cell BK270.out 1).trans rfl, (blk_cell BK270.out 2).trans rfl, (blk_cell BK270.out 3).trans rfl, hx271_0, hx271_1, hx271_2⟩ (fun hHeld => ?_); refine with_tabW hearsaylaw08_TokenPlaces.tab20 hearsaylaw08_TokenPlaces.bits20 (fun HT_ HW_ => ?_)
 generalize wc.drew = w51 at HO_3 HO_6 BK252 BK270 HR267_2 HR268_2 HB HL271_2 HR271_2 hx271_0 hx271_1 hx271_2 hHeld ⊢
 refine pure_ (i := 0) (N := some 122) (v := ?_) (a' := ?_) (bm_ 25 1) rfl rfl (any_of HT_.out (by kernel_rfl)) (fun _ _ _ h => h) (Or.inl ⟨by rfl, ?_⟩) ?_ ?_
 rotate_left
 {
 intro w'
 go_simp
 with_reducible rfl }
 rotate_left
 {
 simp only [Act.put, sA_, s0_, sS_, i64_w, i32_w]
 rfl }
 refine pure_ (i := 2) (N := some 124) (v := ?_) (a' := ?_) (bm_ 25 5) rfl rfl (any_of HT_.out (by kernel_rfl)) (fun _ _ _ h => h) (Or.inl ⟨by rfl, ?_⟩) ?_ ?_
 rotate_left
 {
 intro w'
 go_simp
 with_reducible rfl }
 rotate_left
 {
 simp only [Act.put, sA_, s0_, sS_, i64_w, i32_w]
 rfl }
 refine pure_ (i := 3) (N := some 125) (v := ?_) (a' := ?_) (bm_ 25 13) rfl rfl (any_of HT_.out (by kernel_rfl)) (fun _ _ _ h => h) (Or.inl ⟨by rfl, ?_⟩) ?_ ?_
 rotate_left
 {
 intro w'
 go_simp
 with_reducible rfl }
 rotate_left
 {
 simp only [Act.put, sA_, s0_, sS_, i64_w, i32_w]
 rfl }
 refine pure_ (i := 4) (N := some 126) (v := ?_) (a' := ?_) (bm_ 25 29) rfl rfl (any_of HT_.out (by kernel_rfl)) (fun _ _ _ h => h) (Or.inl ⟨by rfl, ?_⟩) ?_ ?_
 rotate_left
 {
 intro w'
 go_simp
 with_reducible rfl }
 rotate_left
 {
 simp only [Act.put, sA_, s0_, sS_, i64_w, i32_w]
 rfl }
 refine pure_ (i := 5) (N := some 127) (v := ?_) (a' := ?_) (bm_ 25 61) rfl rfl (any_of HT_.out (by kernel_rfl)) (fun _ _ _ h => h) (Or.inl ⟨by rfl, ?_⟩) ?_ ?_
 rotate_left
 {
 intro w'
 go_simp
 with_reducible rfl }
 rotate_left
 {
 simp only [Act.put, sA_, s0_, sS_, i64_w, i32_w]
 rfl }
 refine take_ (i := 1) (N := some 123) (v := ?_) (a' := ?_) (bm_ 25 63) rfl rfl (take_ofW HT_.out HW_.out (by kernel_rfl)) (fun _ _ _ h => h) (Or.inl ⟨by rfl, ?_⟩) hHeld ?_ ?_
 rotate_left
 {
 rintro w' ⟨s0, s1, s2, s3, s4, s5, s6⟩
 go_simp
 with_reducible rfl }
 rotate_left
 {
 simp only [Act.put, sA_, s0_, sS_, i64_w, i32_w]
 rfl }
 refine take_ (i := 6) (N := some 128) (v := ?_) (a' := ?_) (bm_ 25 127) rfl rfl (take_ofW HT_.out HW_.out (by kernel_rfl)) (fun _ _ _ h => h) (Or.inl ⟨by rfl, ?_⟩) hHeld ?_ ?_
 rotate_left
 {
 rintro w' ⟨s0, s1, s2, s3, s4, s5, s6⟩
 go_simp
 with_reducible rfl }
 rotate_left
 {
 simp only [Act.put, sA_, s0_, sS_, i64_w, i32_w]
 rfl }
 refine pure_ (i := 7) (N := some 129) (v := ?_) (a' := ?_) (bm_ 25 255) rfl rfl (any_of HT_.out (by kernel_rfl)) (fun _ _ _ h => h) (Or.inl ⟨by rfl, ?_⟩) ?_ ?_
 rotate_left
 {
 intro w'
 go_simp
 with_reducible rfl }
 rotate_left
 {
 simp only [Act.put, sA_, s0_, sS_, i64_w, i32_w]
 rfl }
 refine pure_ (i := 8) (N := some 130) (v := ?_) (a' := ?_) (bm_ 25 511) rfl rfl (any_of HT_.out (by kernel_rfl)) (fun _ _ _ h => h) (Or.inl ⟨by rfl, ?_⟩) ?_ ?_
 rotate_left
 {
 intro w'
 go_simp
 with_reducible rfl }
 rotate_left
 {
 simp only [Act.put, sA_, s0_, sS_, i64_w, i32_w]
 rfl }
 refine pure_ (i := 9) (N := some 131) (v := undef) (a' := ?_) (bm_ 25 1023) rfl rfl (any_of HT_.out (by kernel_rfl)) (fun _ _ _ h => h) (Or.inr ⟨by rfl, rfl⟩) ?_ ?_
 rotate_left
 {
 simp only [Act.put, sA_, s0_, sS_, i64_w, i32_w]
 rfl }
 refine pure_ (i := 10) (N := some 132) (v := undef) (a' := ?_) (bm_ 25 2047) rfl rfl (any_of HT_.out (by kernel_rfl)) (fun _ _ _ h => h) (Or.inr ⟨by rfl, rfl⟩) ?_ ?_
 rotate_left
 {
 simp only [Act.put, sA_, s0_, sS_, i64_w, i32_w]
 rfl }
 refine pure_ (i := 11) (N := some 133) (v := undef) (a' := ?_) (bm_ 25 4095) rfl rfl (any_of HT_.out (by kernel_rfl)) (fun _ _ _ h => h) (Or.inr ⟨by rfl, rfl⟩) ?_ ?_
 rotate_left
 {
 simp only [Act.put, sA_, s0_, sS_, i64_w, i32_w]
 rfl }
 refine pure_ (i := 12) (N := some 134) (v := undef) (a' := ?_) (bm_ 25 8191) rfl rfl (any_of HT_.out (by kernel_rfl)) (fun _ _ _ h => h) (Or.inr ⟨by rfl, rfl⟩) ?_ ?_
 rotate_left
 {
 simp only [Act.put, sA_, s0_, sS_, i64_w, i32_w]
 rfl }
 refine pure_ (i := 13) (N := some 135) (v := undef) (a' := ?_) (bm_ 25 16383) rfl rfl (any_of HT_.out (by kernel_rfl)) (fun _ _ _ h => h) (Or.inr ⟨by rfl, rfl⟩) ?_ ?_
 rotate_left
 {
 simp only [Act.put, sA_, s0_, sS_, i64_w, i32_w]
 rfl }
 refine pure_ (i := 14) (N := some 136) (v := ?_) (a' := ?_) (bm_ 25 32767) rfl rfl (any_of HT_.out (by kernel_rfl)) (fun _ _ _ h => h) (Or.inl ⟨by rfl, ?_⟩) ?_ ?_
 rotate_left
 {
 intro w'
 go_simp
 with_reducible rfl }
 rotate_left
 {
 simp only [Act.put, sA_, s0_, sS_, i64_w, i32_w]
 rfl }
 refine pure_ (i := 15) (N := some 137) (v := ?_) (a' := ?_) (bm_ 25 65535) rfl rfl (any_of HT_.out (by kernel_rfl)) (fun _ _ _ h => h) (Or.inl ⟨by rfl, ?_⟩) ?_ ?_
 rotate_left
 {
 intro w'
 go_simp
 with_reducible rfl }
 rotate_left
 {
 simp only [Act.put, sA_, s0_, sS_, i64_w, i32_w]
 rfl }
 refine pure_ (i := 16) (N := some 138) (v := undef) (a' := ?_) (bm_ 25 131071) rfl rfl (any_of HT_.out (by kernel_rfl)) (fun _ _ _ h => h) (Or.inr ⟨by rfl, rfl⟩) ?_ ?_
 rotate_left
 {
 simp only [Act.put, sA_, s0_, sS_, i64_w, i32_w]
 rfl }
 refine pure_ (i := 17) (N := some 139) (v := undef) (a' := ?_) (bm_ 25 262143) rfl rfl (any_of HT_.out (by kernel_rfl)) (fun _ _ _ h => h) (Or.inr ⟨by rfl, rfl⟩) ?_ ?_
 rotate_left
 {
 simp only [Act.put, sA_, s0_, sS_, i64_w, i32_w]
 rfl }
 refine pure_ (i := 18) (N := some 140) (v := undef) (a' := ?_) (bm_ 25 524287) rfl rfl (any_of HT_.out (by kernel_rfl)) (fun _ _ _ h => h) (Or.inr ⟨by rfl, rfl⟩) ?_ ?_
 rotate_left
 {
 simp only [Act.put, sA_, s0_, sS_, i64_w, i32_w]
 rfl }
 refine pure_ (i := 19) (N := some 141) (v := ?_) (a' := ?_) (bm_ 25 1048575) rfl rfl (any_of HT_.out (by kernel_rfl)) (fun _ _ _ h => h) (Or.inl ⟨by rfl, ?_⟩) ?_ ?_
 rotate_left
 {
 intro w'
 go_simp
 with_reducible rfl }
 rotate_left
 {
 simp only [Act.put, sA_, s0_, sS_, i64_w, i32_w]
 rfl }
 refine pure_ (i := 20) (N := some 142) (v := ?_) (a' := ?_) (bm_ 25 2097151) rfl rfl (any_of HT_.out (by kernel_rfl)) (fun _ _ _ h => h) (Or.inl ⟨by rfl, ?_⟩) ?_ ?_
 rotate_left
 {
 intro w'
 go_simp
 with_reducible rfl }
 rotate_left
 {
 simp only [Act.put, sA_, s0_, sS_, i64_w, i32_w]
 rfl }
 refine pure_ (i := 21) (N := some 143) (v := undef) (a' := ?_) (bm_ 25 4194303) rfl rfl (any_of HT_.out (by kernel_rfl)) (fun _ _ _ h => h) (Or.inr ⟨by rfl, rfl⟩) ?_ ?_
 rotate_left
 {
 simp only [Act.put, sA_, s0_, sS_, i64_w, i32_w]
 rfl }
 refine pure_ (i := 22) (N := some 144) (v := undef) (a' := ?_) (bm_ 25 8388607) rfl rfl (any_of HT_.out (by kernel_rfl)) (fun _ _ _ h => h) (Or.inr ⟨by rfl, rfl⟩) ?_ ?_
 rotate_left
 {
 simp only [Act.put, sA_, s0_, sS_, i64_w, i32_w]
 rfl }
 refine pure_ (i := 23) (N := some 145) (v := undef) (a' := ?_) (bm_ 25 16777215) rfl rfl (any_of HT_.out (by kernel_rfl)) (fun _ _ _ h => h) (Or.inr ⟨by rfl, rfl⟩) ?_ ?_
 rotate_left
 {
 simp only [Act.put, sA_, s0_, sS_, i64_w, i32_w]
 rfl }
 refine pure_ (i := 24) (N := some 146) (v := ?_) (a' := ?_) (bm_ 25 33554431) rfl rfl (any_of HT_.out (by kernel_rfl)) (fun _ _ _ h => h) (Or.inl ⟨by rfl, ?_⟩) ?_ ?_
 rotate_left
 {
 intro w'
 go_simp
 with_reducible rfl }
 rotate_left
 {
 simp only [Act.put, sA_, s0_, sS_, i64_w, i32_w]
 rfl }
 refine done_ (done_of HT_.out (by kernel_rfl)) ?_
 try go_wp2
 go_meet
 case rel => exact ⟨_, (true), (by first | rfl | (simp; done) | (simp [*]; done)), H', ⟨by have := HK1.out; have := HJ10.out; have := HK3.out; have := HJ38.out; first | omega | exact Nat.le_refl _⟩, ⟨by (with_reducible repeat (first | apply Kd.S_alloc | apply Kd.S_drewN | apply Kd.S_drew)); exact HO_3.out⟩, ⟨by (with_reducible repeat (first | apply Kd.R_alloc | apply Kd.R_drewN | apply Kd.R_drew)); exact HO_6.out⟩, ⟨by (with_reducible repeat (first | refine blk_drewN ?_ _ | refine blk_drew ?_ | refine blk_alloc ?_ _)); exact BK252.out⟩, ⟨by (with_reducible repeat (first | refine blk_drewN ?_ _ | refine blk_drew ?_ | refine blk_alloc ?_ _)); exact BK270.out⟩, ⟨by repeat (first | (with_reducible exact HR267_2.out) | (with_reducible refine Kd.C_alloc ?_ _) | (with_reducible refine Kd.C_drewN ?_ _) | (with_reducible refine Kd.C_drew ?_) | exact HR267_2.out)⟩, ⟨by repeat (first | (with_reducible exact HR268_2.out) | (with_reducible refine Kd.C_alloc ?_ _) | (with_reducible refine Kd.C_drewN ?_ _) | (with_reducible refine Kd.C_drew ?_) | exact HR268_2.out)⟩, ⟨by repeat (first | (with_reducible first | exact HB.out | apply below_alloc | apply pw_below_drewN | apply below_drew1 | refine below_set ?_ GE252.out | refine below_set ?_ GE270.out) | exact HB.out)⟩⟩ )}
 { as_aux_lemma => (
 rw [if_neg c50] at H
 have c50b0 : decide (((rd_T23 ((rd_T45 t246 x8_1).f2) x9_3).f2) < ((rd_T45 t246 x8_1).f1)) = false := decide_eq_false c50
 clear c50
 by_cases c52 : ((rd_T23 ((rd_T45 t246 x8_1).f2) x9_3).f2) > (t254.length : Int)
 { as_aux_lemma => (
 rw [if_pos c52] at H
 have c52b0 : decide ((t254.length : Int) < ((rd_T23 ((rd_T45 t246 x8_1).f2) x9_3).f2)) = true := decide_eq_true c52
 clear c52
 have H' := Aside0.mk H
 clear H
 try go_wp2
 have n0_ := Aside0.mk (Kd.S_drew HO_3.out)
 have n1_ := Aside0.mk (Kd.R_drew HO_6.out)
 have n2_ := Aside0.mk (blk_drew BK252.out)
 have n3_ := Aside0.mk (blk_drew BK270.out)
 have n4_ := Aside0.mk (Kd.C_drew HR267_2.out)
 have n5_ := Aside0.mk (Kd.C_drew HR268_2.out)
 have n6_ := Aside0.mk (below_drew1 HB.out)
 clear HO_3
 clear HO_6
 clear BK252
 clear BK270
 clear HR267_2
 clear HR268_2
 clear HB
 have HO_3 := n0_
 have HO_6 := n1_
 have BK252 := n2_
 have BK270 := n3_
 have HR267_2 := n4_
 have HR268_2 := n5_
 have HB := n6_
 clear n0_ n1_ n2_ n3_ n4_ n5_ n6_
 have p271 : 0 ≤ (x8_1 : Int) := of_decide_eq_true (by first | (with_reducible assumption) | assumption)
 have q271 : x8_1 < (t246.length : Int) := of_decide_eq_true (by first | (with_reducible assumption) | assumption)
 obtain ⟨ad271, A271_2, c271_2, e271, hx271_0, hx271_1, hx271_2, hl271_2, hi271_2⟩ := at_T45 (Kd.S_reads' HO_3.out).2.2 x8_1 p271 q271
 obtain rfl : ad267 = ad271 := (by injection e271)
 obtain ⟨ce271, hce271, hMe271, hcc271⟩ := Kd.S_get HO_3.out z45 x8_1 p271 (by first | exact q271 | exact of_decide_eq_true (by first | (with_reducible assumption) | assumption) | (have e_ := (Kd.S_reads' HO_3.out).1; omega))
 obtain ⟨ve271_2, rfl, ge271_2⟩ := k45_openM hMe271
 have hv271_2 := hcc271 2 _ rfl
 rw [add_field _ _ 2 (by omega)] at hv271_2
 replace hv271_2 := Option.some.inj (hv271_2.symm.trans hx271_2)
 rw [hv271_2] at ge271_2
 have HL271_2 := Aside0.mk (show Kd.R k23 23 _ _ _ _ ((rd_T45 t246 x8_1).f2) from ge271_2)
 clear hv271_2 ge271_2
 clear hcc271 hce271
 have HR271_2 := Aside0.mk hi271_2
 have HC271_2 := Aside0.mk hl271_2
 clear hi271_2 hl271_2
 replace p271 := eq_true p271
 replace q271 := eq_true q271
 obtain ⟨Ao54, co54, eo54⟩ := Kd.R_slice HO_6.out
 (first | subst eo54 | (injection eo54 with f1_ f2_ f3_; have f4_ := f1_.symm; have f5_ := f3_.symm; clear f1_ f2_ f3_; subst f4_; subst f5_))
 refine start_ (n := 25) (S := fun w' => w'.cell? ⟨gb270, 0, none⟩ = some (.string ((rd_T23 ((rd_T45 t246 x8_1).f2) x9_3).f0)) ∧ w'.cell? ⟨gb270, 1, none⟩ = some (.bool ((rd_T23 ((rd_T45 t246 x8_1).f2) x9_3).f1)) ∧ w'.cell? ⟨gb270, 2, none⟩ = some (.int .i64 ((rd_T23 ((rd_T45 t246 x8_1).f2) x9_3).f2)) ∧ w'.cell? ⟨gb270, 3, none⟩ = some (.int .i64 ((rd_T23 ((rd_T45 t246 x8_1).f2) x9_3).f3)) ∧ w'.cell? (ad267.add ((x8_1).toNat * 3)) = some (.bool ((rd_T45 t246 x8_1).f0)) ∧ w'.cell? ⟨(ad267.add ((x8_1).toNat * 3)).block, (ad267.add ((x8_1).toNat * 3)).off + 1, none⟩ = some (.int .i64 ((rd_T45 t246 x8_1).f1)) ∧ w'.cell? ⟨(ad267.add ((x8_1).toNat * 3)).block, (ad267.add ((x8_1).toNat * 3)).off + 2, none⟩ = some (.slice A271_2 ((rd_T45 t246 x8_1).f2).length c271_2)) (ds := []) (bm_ 25 0) (by kernel_rfl) rfl rfl ⟨(blk_cell BK270.out 0).trans rfl, (blk_cell BK270.out 1).trans rfl, (blk_cell BK270.out 2).trans rfl, (blk_cell BK270.out 3).trans rfl, hx271_0, hx271_1, hx271_2⟩ (fun hHeld => ?_); refine with_tabW hearsaylaw08_TokenPlaces.tab20 hearsaylaw08_TokenPlaces.bits20 (fun HT_ HW_ => ?_)
 generalize wc.drew = w53 at HO_3 HO_6 BK252 BK270 HR267_2 HR268_2 HB HL271_2 HR271_2 hx271_0 hx271_1 hx271_2 hHeld ⊢
 refine pure_ (i := 0) (N := some 122) (v := ?_) (a' := ?_) (bm_ 25 1) rfl rfl (any_of HT_.out (by kernel_rfl)) (fun _ _ _ h => h) (Or.inl ⟨by rfl, ?_⟩) ?_ ?_
 rotate_left
 {
 intro w'
 go_simp
 with_reducible rfl }
 rotate_left
 {
 simp only [Act.put, sA_, s0_, sS_, i64_w, i32_w]
 rfl }
 refine pure_ (i := 2) (N := some 124) (v := ?_) (a' := ?_) (bm_ 25 5) rfl rfl (any_of HT_.out (by kernel_rfl)) (fun _ _ _ h => h) (Or.inl ⟨by rfl, ?_⟩) ?_ ?_
 rotate_left
 {
 intro w'
 go_simp
 with_reducible rfl }
 rotate_left
 {
 simp only [Act.put, sA_, s0_, sS_, i64_w, i32_w]
 rfl }
 refine pure_ (i := 3) (N := some 125) (v := ?_) (a' := ?_) (bm_ 25 13) rfl rfl (any_of HT_.out (by kernel_rfl)) (fun _ _ _ h => h) (Or.inl ⟨by rfl, ?_⟩) ?_ ?_
 rotate_left
 {
 intro w'
 go_simp
 with_reducible rfl }
 rotate_left
 {
 simp only [Act.put, sA_, s0_, sS_, i64_w, i32_w]
 rfl }
 refine pure_ (i := 4) (N := some 126) (v := ?_) (a' := ?_) (bm_ 25 29) rfl rfl (any_of HT_.out (by kernel_rfl)) (fun _ _ _ h => h) (Or.inl ⟨by rfl, ?_⟩) ?_ ?_
 rotate_left
 {
 intro w'
 go_simp
 with_reducible rfl }
 rotate_left
 {
 simp only [Act.put, sA_, s0_, sS_, i64_w, i32_w]
 rfl }
 refine pure_ (i := 5) (N := some 127) (v := ?_) (a' := ?_) (bm_ 25 61) rfl rfl (any_of HT_.out (by kernel_rfl)) (fun _ _ _ h => h) (Or.inl ⟨by rfl, ?_⟩) ?_ ?_
 rotate_left
 {
 intro w'
 go_simp
 with_reducible rfl }
 rotate_left
 {
 simp only [Act.put, sA_, s0_, sS_, i64_w, i32_w]
 rfl }
 refine take_ (i := 1) (N := some 123) (v := ?_) (a' := ?_) (bm_ 25 63) rfl rfl (take_ofW HT_.out HW_.out (by kernel_rfl)) (fun _ _ _ h => h) (Or.inl ⟨by rfl, ?_⟩) hHeld ?_ ?_
 rotate_left
 {
 rintro w' ⟨s0, s1, s2, s3, s4, s5, s6⟩
 go_simp
 with_reducible rfl }
 rotate_left
 {
 simp only [Act.put, sA_, s0_, sS_, i64_w, i32_w]
 rfl }
 refine take_ (i := 6) (N := some 128) (v := ?_) (a' := ?_) (bm_ 25 127) rfl rfl (take_ofW HT_.out HW_.out (by kernel_rfl)) (fun _ _ _ h => h) (Or.inl ⟨by rfl, ?_⟩) hHeld ?_ ?_
 rotate_left
 {
 rintro w' ⟨s0, s1, s2, s3, s4, s5, s6⟩
 go_simp
 with_reducible rfl }
 rotate_left
 {
 simp only [Act.put, sA_, s0_, sS_, i64_w, i32_w]
 rfl }
 refine pure_ (i := 7) (N := some 129) (v := ?_) (a' := ?_) (bm_ 25 255) rfl rfl (any_of HT_.out (by kernel_rfl)) (fun _ _ _ h => h) (Or.inl ⟨by rfl, ?_⟩) ?_ ?_
 rotate_left
 {
 intro w'
 go_simp
 with_reducible rfl }
 rotate_left
 {
 simp only [Act.put, sA_, s0_, sS_, i64_w, i32_w]
 rfl }
 refine pure_ (i := 8) (N := some 130) (v := ?_) (a' := ?_) (bm_ 25 511) rfl rfl (any_of HT_.out (by kernel_rfl)) (fun _ _ _ h => h) (Or.inl ⟨by rfl, ?_⟩) ?_ ?_
 rotate_left
 {
 intro w'
 go_simp
 with_reducible rfl }
 rotate_left
 {
 simp only [Act.put, sA_, s0_, sS_, i64_w, i32_w]
 rfl }
 refine pure_ (i := 9) (N := some 131) (v := ?_) (a' := ?_) (bm_ 25 1023) rfl rfl (any_of HT_.out (by kernel_rfl)) (fun _ _ _ h => h) (Or.inl ⟨by rfl, ?_⟩) ?_ ?_
 rotate_left
 {
 intro w'
 go_simp
 with_reducible rfl }
 rotate_left
 {
 simp only [Act.put, sA_, s0_, sS_, i64_w, i32_w]
 rfl }
 refine pure_ (i := 11) (N := some 133) (v := ?_) (a' := ?_) (bm_ 25 3071) rfl rfl (any_of HT_.out (by kernel_rfl)) (fun _ _ _ h => h) (Or.inl ⟨by rfl, ?_⟩) ?_ ?_
 rotate_left
 {
 intro w'
 go_simp
 with_reducible rfl }
 rotate_left
 {
 simp only [Act.put, sA_, s0_, sS_, i64_w, i32_w]
 rfl }
 refine pure_ (i := 12) (N := some 134) (v := ?_) (a' := ?_) (bm_ 25 7167) rfl rfl (any_of HT_.out (by kernel_rfl)) (fun _ _ _ h => h) (Or.inl ⟨by rfl, ?_⟩) ?_ ?_
 rotate_left
 {
 intro w'
 go_simp
 with_reducible rfl }
 rotate_left
 {
 simp only [Act.put, sA_, s0_, sS_, i64_w, i32_w]
 rfl }
 refine take_ (i := 10) (N := some 132) (v := ?_) (a' := ?_) (bm_ 25 8191) rfl rfl (take_ofW HT_.out HW_.out (by kernel_rfl)) (fun _ _ _ h => h) (Or.inl ⟨by rfl, ?_⟩) hHeld ?_ ?_
 rotate_left
 {
 rintro w' ⟨s0, s1, s2, s3, s4, s5, s6⟩
 go_simp
 with_reducible rfl }
 rotate_left
 {
 simp only [Act.put, sA_, s0_, sS_, i64_w, i32_w]
 rfl }
 refine pure_ (i := 13) (N := some 135) (v := ?_) (a' := ?_) (bm_ 25 16383) rfl rfl (any_of HT_.out (by kernel_rfl)) (fun _ _ _ h => h) (Or.inl ⟨by rfl, ?_⟩) ?_ ?_
 rotate_left
 {
 intro w'
 go_simp
 with_reducible rfl }
 rotate_left
 {
 simp only [Act.put, sA_, s0_, sS_, i64_w, i32_w]
 rfl }
 refine pure_ (i := 14) (N := some 136) (v := ?_) (a' := ?_) (bm_ 25 32767) rfl rfl (any_of HT_.out (by kernel_rfl)) (fun _ _ _ h => h) (Or.inl ⟨by rfl, ?_⟩) ?_ ?_
 rotate_left
 {
 intro w'
 go_simp
 with_reducible rfl }
 rotate_left
 {
 simp only [Act.put, sA_, s0_, sS_, i64_w, i32_w]
 rfl }
 refine pure_ (i := 15) (N := some 137) (v := ?_) (a' := ?_) (bm_ 25 65535) rfl rfl (any_of HT_.out (by kernel_rfl)) (fun _ _ _ h => h) (Or.inl ⟨by rfl, ?_⟩) ?_ ?_
 rotate_left
 {
 intro w'
 go_simp
 with_reducible rfl }
 rotate_left
 {
 simp only [Act.put, sA_, s0_, sS_, i64_w, i32_w]
 rfl }
 refine pure_ (i := 16) (N := some 138) (v := undef) (a' := ?_) (bm_ 25 131071) rfl rfl (any_of HT_.out (by kernel_rfl)) (fun _ _ _ h => h) (Or.inr ⟨by rfl, rfl⟩) ?_ ?_
 rotate_left
 {
 simp only [Act.put, sA_, s0_, sS_, i64_w, i32_w]
 rfl }
 refine pure_ (i := 17) (N := some 139) (v := undef) (a' := ?_) (bm_ 25 262143) rfl rfl (any_of HT_.out (by kernel_rfl)) (fun _ _ _ h => h) (Or.inr ⟨by rfl, rfl⟩) ?_ ?_
 rotate_left
 {
 simp only [Act.put, sA_, s0_, sS_, i64_w, i32_w]
 rfl }
 refine pure_ (i := 18) (N := some 140) (v := undef) (a' := ?_) (bm_ 25 524287) rfl rfl (any_of HT_.out (by kernel_rfl)) (fun _ _ _ h => h) (Or.inr ⟨by rfl, rfl⟩) ?_ ?_
 rotate_left
 {
 simp only [Act.put, sA_, s0_, sS_, i64_w, i32_w]
 rfl }
 refine pure_ (i := 19) (N := some 141) (v := ?_) (a' := ?_) (bm_ 25 1048575) rfl rfl (any_of HT_.out (by kernel_rfl)) (fun _ _ _ h => h) (Or.inl ⟨by rfl, ?_⟩) ?_ ?_
 rotate_left
 {
 intro w'
 go_simp
 with_reducible rfl }
 rotate_left
 {
 simp only [Act.put, sA_, s0_, sS_, i64_w, i32_w]
 rfl }
 refine pure_ (i := 20) (N := some 142) (v := ?_) (a' := ?_) (bm_ 25 2097151) rfl rfl (any_of HT_.out (by kernel_rfl)) (fun _ _ _ h => h) (Or.inl ⟨by rfl, ?_⟩) ?_ ?_
 rotate_left
 {
 intro w'
 go_simp
 with_reducible rfl }
 rotate_left
 {
 simp only [Act.put, sA_, s0_, sS_, i64_w, i32_w]
 rfl }
 refine pure_ (i := 21) (N := some 143) (v := undef) (a' := ?_) (bm_ 25 4194303) rfl rfl (any_of HT_.out (by kernel_rfl)) (fun _ _ _ h => h) (Or.inr ⟨by rfl, rfl⟩) ?_ ?_
 rotate_left
 {
 simp only [Act.put, sA_, s0_, sS_, i64_w, i32_w]
 rfl }
 refine pure_ (i := 22) (N := some 144) (v := undef) (a' := ?_) (bm_ 25 8388607) rfl rfl (any_of HT_.out (by kernel_rfl)) (fun _ _ _ h => h) (Or.inr ⟨by rfl, rfl⟩) ?_ ?_
 rotate_left
 {
 simp only [Act.put, sA_, s0_, sS_, i64_w, i32_w]
 rfl }
 refine pure_ (i := 23) (N := some 145) (v := undef) (a' := ?_) (bm_ 25 16777215) rfl rfl (any_of HT_.out (by kernel_rfl)) (fun _ _ _ h => h) (Or.inr ⟨by rfl, rfl⟩) ?_ ?_
 rotate_left
 {
 simp only [Act.put, sA_, s0_, sS_, i64_w, i32_w]
 rfl }
 refine pure_ (i := 24) (N := some 146) (v := ?_) (a' := ?_) (bm_ 25 33554431) rfl rfl (any_of HT_.out (by kernel_rfl)) (fun _ _ _ h => h) (Or.inl ⟨by rfl, ?_⟩) ?_ ?_
 rotate_left
 {
 intro w'
 go_simp
 with_reducible rfl }
 rotate_left
 {
 simp only [Act.put, sA_, s0_, sS_, i64_w, i32_w]
 rfl }
 refine done_ (done_of HT_.out (by kernel_rfl)) ?_
 try go_wp2
 go_meet
 case rel => exact ⟨_, (true), (by first | rfl | (simp; done) | (simp [*]; done)), H', ⟨by have := HK1.out; have := HJ10.out; have := HK3.out; have := HJ38.out; first | omega | exact Nat.le_refl _⟩, ⟨by (with_reducible repeat (first | apply Kd.S_alloc | apply Kd.S_drewN | apply Kd.S_drew)); exact HO_3.out⟩, ⟨by (with_reducible repeat (first | apply Kd.R_alloc | apply Kd.R_drewN | apply Kd.R_drew)); exact HO_6.out⟩, ⟨by (with_reducible repeat (first | refine blk_drewN ?_ _ | refine blk_drew ?_ | refine blk_alloc ?_ _)); exact BK252.out⟩, ⟨by (with_reducible repeat (first | refine blk_drewN ?_ _ | refine blk_drew ?_ | refine blk_alloc ?_ _)); exact BK270.out⟩, ⟨by repeat (first | (with_reducible exact HR267_2.out) | (with_reducible refine Kd.C_alloc ?_ _) | (with_reducible refine Kd.C_drewN ?_ _) | (with_reducible refine Kd.C_drew ?_) | exact HR267_2.out)⟩, ⟨by repeat (first | (with_reducible exact HR268_2.out) | (with_reducible refine Kd.C_alloc ?_ _) | (with_reducible refine Kd.C_drewN ?_ _) | (with_reducible refine Kd.C_drew ?_) | exact HR268_2.out)⟩, ⟨by repeat (first | (with_reducible first | exact HB.out | apply below_alloc | apply pw_below_drewN | apply below_drew1 | refine below_set ?_ GE252.out | refine below_set ?_ GE270.out) | exact HB.out)⟩⟩ )}
 { as_aux_lemma => (
 rw [if_neg c52] at H
 have c52b0 : decide ((t254.length : Int) < ((rd_T23 ((rd_T45 t246 x8_1).f2) x9_3).f2)) = false := decide_eq_false c52
 clear c52
 by_cases c55 : ((rd_T23 ((rd_T45 t246 x8_1).f2) x9_3).f3) < 1
 { as_aux_lemma => (
 rw [if_pos c55] at H
 have c55b0 : decide (((rd_T23 ((rd_T45 t246 x8_1).f2) x9_3).f3) < 1) = true := decide_eq_true c55
 clear c55
 have H' := Aside0.mk H
 clear H
 try go_wp2
 have n0_ := Aside0.mk (Kd.S_drew HO_3.out)
 have n1_ := Aside0.mk (Kd.R_drew HO_6.out)
 have n2_ := Aside0.mk (blk_drew BK252.out)
 have n3_ := Aside0.mk (blk_drew BK270.out)
 have n4_ := Aside0.mk (Kd.C_drew HR267_2.out)
 have n5_ := Aside0.mk (Kd.C_drew HR268_2.out)
 have n6_ := Aside0.mk (below_drew1 HB.out)
 clear HO_3
 clear HO_6
 clear BK252
 clear BK270
 clear HR267_2
 clear HR268_2
 clear HB
 have HO_3 := n0_
 have HO_6 := n1_
 have BK252 := n2_
 have BK270 := n3_
 have HR267_2 := n4_
 have HR268_2 := n5_
 have HB := n6_
 clear n0_ n1_ n2_ n3_ n4_ n5_ n6_
 have p271 : 0 ≤ (x8_1 : Int) := of_decide_eq_true (by first | (with_reducible assumption) | assumption)
 have q271 : x8_1 < (t246.length : Int) := of_decide_eq_true (by first | (with_reducible assumption) | assumption)
 obtain ⟨ad271, A271_2, c271_2, e271, hx271_0, hx271_1, hx271_2, hl271_2, hi271_2⟩ := at_T45 (Kd.S_reads' HO_3.out).2.2 x8_1 p271 q271
 obtain rfl : ad267 = ad271 := (by injection e271)
 obtain ⟨ce271, hce271, hMe271, hcc271⟩ := Kd.S_get HO_3.out z45 x8_1 p271 (by first | exact q271 | exact of_decide_eq_true (by first | (with_reducible assumption) | assumption) | (have e_ := (Kd.S_reads' HO_3.out).1; omega))
 obtain ⟨ve271_2, rfl, ge271_2⟩ := k45_openM hMe271
 have hv271_2 := hcc271 2 _ rfl
 rw [add_field _ _ 2 (by omega)] at hv271_2
 replace hv271_2 := Option.some.inj (hv271_2.symm.trans hx271_2)
 rw [hv271_2] at ge271_2
 have HL271_2 := Aside0.mk (show Kd.R k23 23 _ _ _ _ ((rd_T45 t246 x8_1).f2) from ge271_2)
 clear hv271_2 ge271_2
 clear hcc271 hce271
 have HR271_2 := Aside0.mk hi271_2
 have HC271_2 := Aside0.mk hl271_2
 clear hi271_2 hl271_2
 replace p271 := eq_true p271
 replace q271 := eq_true q271
 obtain ⟨Ao57, co57, eo57⟩ := Kd.R_slice HO_6.out
 (first | subst eo57 | (injection eo57 with f1_ f2_ f3_; have f4_ := f1_.symm; have f5_ := f3_.symm; clear f1_ f2_ f3_; subst f4_; subst f5_))
 refine start_ (n := 25) (S := fun w' => w'.cell? ⟨gb270, 0, none⟩ = some (.string ((rd_T23 ((rd_T45 t246 x8_1).f2) x9_3).f0)) ∧ w'.cell? ⟨gb270, 1, none⟩ = some (.bool ((rd_T23 ((rd_T45 t246 x8_1).f2) x9_3).f1)) ∧ w'.cell? ⟨gb270, 2, none⟩ = some (.int .i64 ((rd_T23 ((rd_T45 t246 x8_1).f2) x9_3).f2)) ∧ w'.cell? ⟨gb270, 3, none⟩ = some (.int .i64 ((rd_T23 ((rd_T45 t246 x8_1).f2) x9_3).f3)) ∧ w'.cell? (ad267.add ((x8_1).toNat * 3)) = some (.bool ((rd_T45 t246 x8_1).f0)) ∧ w'.cell? ⟨(ad267.add ((x8_1).toNat * 3)).block, (ad267.add ((x8_1).toNat * 3)).off + 1, none⟩ = some (.int .i64 ((rd_T45 t246 x8_1).f1)) ∧ w'.cell? ⟨(ad267.add ((x8_1).toNat * 3)).block, (ad267.add ((x8_1).toNat * 3)).off + 2, none⟩ = some (.slice A271_2 ((rd_T45 t246 x8_1).f2).length c271_2)) (ds := []) (bm_ 25 0) (by kernel_rfl) rfl rfl ⟨(blk_cell BK270.out 0).trans rfl, (blk_cell BK270.out 1).trans rfl, (blk_cell BK270.out 2).trans rfl, (blk_cell BK270.out 3).trans rfl, hx271_0, hx271_1, hx271_2⟩ (fun hHeld => ?_); refine with_tabW hearsaylaw08_TokenPlaces.tab20 hearsaylaw08_TokenPlaces.bits20 (fun HT_ HW_ => ?_)
 generalize wc.drew = w56 at HO_3 HO_6 BK252 BK270 HR267_2 HR268_2 HB HL271_2 HR271_2 hx271_0 hx271_1 hx271_2 hHeld ⊢
 refine pure_ (i := 0) (N := some 122) (v := ?_) (a' := ?_) (bm_ 25 1) rfl rfl (any_of HT_.out (by kernel_rfl)) (fun _ _ _ h => h) (Or.inl ⟨by rfl, ?_⟩) ?_ ?_
 rotate_left
 {
 intro w'
 go_simp
 with_reducible rfl }
 rotate_left
 {
 simp only [Act.put, sA_, s0_, sS_, i64_w, i32_w]
 rfl }
 refine pure_ (i := 2) (N := some 124) (v := ?_) (a' := ?_) (bm_ 25 5) rfl rfl (any_of HT_.out (by kernel_rfl)) (fun _ _ _ h => h) (Or.inl ⟨by rfl, ?_⟩) ?_ ?_
 rotate_left
 {
 intro w'
 go_simp
 with_reducible rfl }
 rotate_left
 {
 simp only [Act.put, sA_, s0_, sS_, i64_w, i32_w]
 rfl }
 refine pure_ (i := 3) (N := some 125) (v := ?_) (a' := ?_) (bm_ 25 13) rfl rfl (any_of HT_.out (by kernel_rfl)) (fun _ _ _ h => h) (Or.inl ⟨by rfl, ?_⟩) ?_ ?_
 rotate_left
 {
 intro w'
 go_simp
 with_reducible rfl }
 rotate_left
 {
 simp only [Act.put, sA_, s0_, sS_, i64_w, i32_w]
 rfl }
 refine pure_ (i := 4) (N := some 126) (v := ?_) (a' := ?_) (bm_ 25 29) rfl rfl (any_of HT_.out (by kernel_rfl)) (fun _ _ _ h => h) (Or.inl ⟨by rfl, ?_⟩) ?_ ?_
 rotate_left
 {
 intro w'
 go_simp
 with_reducible rfl }
 rotate_left
 {
 simp only [Act.put, sA_, s0_, sS_, i64_w, i32_w]
 rfl }
 refine pure_ (i := 5) (N := some 127) (v := ?_) (a' := ?_) (bm_ 25 61) rfl rfl (any_of HT_.out (by kernel_rfl)) (fun _ _ _ h => h) (Or.inl ⟨by rfl, ?_⟩) ?_ ?_
 rotate_left
 {
 intro w'
 go_simp
 with_reducible rfl }
 rotate_left
 {
 simp only [Act.put, sA_, s0_, sS_, i64_w, i32_w]
 rfl }
 refine take_ (i := 1) (N := some 123) (v := ?_) (a' := ?_) (bm_ 25 63) rfl rfl (take_ofW HT_.out HW_.out (by kernel_rfl)) (fun _ _ _ h => h) (Or.inl ⟨by rfl, ?_⟩) hHeld ?_ ?_
 rotate_left
 {
 rintro w' ⟨s0, s1, s2, s3, s4, s5, s6⟩
 go_simp
 with_reducible rfl }
 rotate_left
 {
 simp only [Act.put, sA_, s0_, sS_, i64_w, i32_w]
 rfl }
 refine take_ (i := 6) (N := some 128) (v := ?_) (a' := ?_) (bm_ 25 127) rfl rfl (take_ofW HT_.out HW_.out (by kernel_rfl)) (fun _ _ _ h => h) (Or.inl ⟨by rfl, ?_⟩) hHeld ?_ ?_
 rotate_left
 {
 rintro w' ⟨s0, s1, s2, s3, s4, s5, s6⟩
 go_simp
 with_reducible rfl }
 rotate_left
 {
 simp only [Act.put, sA_, s0_, sS_, i64_w, i32_w]
 rfl }
 refine pure_ (i := 7) (N := some 129) (v := ?_) (a' := ?_) (bm_ 25 255) rfl rfl (any_of HT_.out (by kernel_rfl)) (fun _ _ _ h => h) (Or.inl ⟨by rfl, ?_⟩) ?_ ?_
 rotate_left
 {
 intro w'
 go_simp
 with_reducible rfl }
 rotate_left
 {
 simp only [Act.put, sA_, s0_, sS_, i64_w, i32_w]
 rfl }
 refine pure_ (i := 8) (N := some 130) (v := ?_) (a' := ?_) (bm_ 25 511) rfl rfl (any_of HT_.out (by kernel_rfl)) (fun _ _ _ h => h) (Or.inl ⟨by rfl, ?_⟩) ?_ ?_
 rotate_left
 {
 intro w'
 go_simp
 with_reducible rfl }
 rotate_left
 {
 simp only [Act.put, sA_, s0_, sS_, i64_w, i32_w]
 rfl }
 refine pure_ (i := 9) (N := some 131) (v := ?_) (a' := ?_) (bm_ 25 1023) rfl rfl (any_of HT_.out (by kernel_rfl)) (fun _ _ _ h => h) (Or.inl ⟨by rfl, ?_⟩) ?_ ?_
 rotate_left
 {
 intro w'
 go_simp
 with_reducible rfl }
 rotate_left
 {
 simp only [Act.put, sA_, s0_, sS_, i64_w, i32_w]
 rfl }
 refine pure_ (i := 11) (N := some 133) (v := ?_) (a' := ?_) (bm_ 25 3071) rfl rfl (any_of HT_.out (by kernel_rfl)) (fun _ _ _ h => h) (Or.inl ⟨by rfl, ?_⟩) ?_ ?_
 rotate_left
 {
 intro w'
 go_simp
 with_reducible rfl }
 rotate_left
 {
 simp only [Act.put, sA_, s0_, sS_, i64_w, i32_w]
 rfl }
 refine pure_ (i := 12) (N := some 134) (v := ?_) (a' := ?_) (bm_ 25 7167) rfl rfl (any_of HT_.out (by kernel_rfl)) (fun _ _ _ h => h) (Or.inl ⟨by rfl, ?_⟩) ?_ ?_
 rotate_left
 {
 intro w'
 go_simp
 with_reducible rfl }
 rotate_left
 {
 simp only [Act.put, sA_, s0_, sS_, i64_w, i32_w]
 rfl }
 refine take_ (i := 10) (N := some 132) (v := ?_) (a' := ?_) (bm_ 25 8191) rfl rfl (take_ofW HT_.out HW_.out (by kernel_rfl)) (fun _ _ _ h => h) (Or.inl ⟨by rfl, ?_⟩) hHeld ?_ ?_
 rotate_left
 {
 rintro w' ⟨s0, s1, s2, s3, s4, s5, s6⟩
 go_simp
 with_reducible rfl }
 rotate_left
 {
 simp only [Act.put, sA_, s0_, sS_, i64_w, i32_w]
 rfl }
 refine pure_ (i := 13) (N := some 135) (v := ?_) (a' := ?_) (bm_ 25 16383) rfl rfl (any_of HT_.out (by kernel_rfl)) (fun _ _ _ h => h) (Or.inl ⟨by rfl, ?_⟩) ?_ ?_
 rotate_left
 {
 intro w'
 go_simp
 with_reducible rfl }
 rotate_left
 {
 simp only [Act.put, sA_, s0_, sS_, i64_w, i32_w]
 rfl }
 refine pure_ (i := 14) (N := some 136) (v := ?_) (a' := ?_) (bm_ 25 32767) rfl rfl (any_of HT_.out (by kernel_rfl)) (fun _ _ _ h => h) (Or.inl ⟨by rfl, ?_⟩) ?_ ?_
 rotate_left
 {
 intro w'
 go_simp
 with_reducible rfl }
 rotate_left
 {
 simp only [Act.put, sA_, s0_, sS_, i64_w, i32_w]
 rfl }
 refine pure_ (i := 15) (N := some 137) (v := ?_) (a' := ?_) (bm_ 25 65535) rfl rfl (any_of HT_.out (by kernel_rfl)) (fun _ _ _ h => h) (Or.inl ⟨by rfl, ?_⟩) ?_ ?_
 rotate_left
 {
 intro w'
 go_simp
 with_reducible rfl }
 rotate_left
 {
 simp only [Act.put, sA_, s0_, sS_, i64_w, i32_w]
 rfl }
 refine pure_ (i := 16) (N := some 138) (v := ?_) (a' := ?_) (bm_ 25 131071) rfl rfl (any_of HT_.out (by kernel_rfl)) (fun _ _ _ h => h) (Or.inl ⟨by rfl, ?_⟩) ?_ ?_
 rotate_left
 {
 intro w'
 go_simp
 with_reducible rfl }
 rotate_left
 {
 simp only [Act.put, sA_, s0_, sS_, i64_w, i32_w]
 rfl }
 refine take_ (i := 17) (N := some 139) (v := ?_) (a' := ?_) (bm_ 25 262143) rfl rfl (take_ofW HT_.out HW_.out (by kernel_rfl)) (fun _ _ _ h => h) (Or.inl ⟨by rfl, ?_⟩) hHeld ?_ ?_
 rotate_left
 {
 rintro w' ⟨s0, s1, s2, s3, s4, s5, s6⟩
 go_simp
 with_reducible rfl }
 rotate_left
 {
 simp only [Act.put, sA_, s0_, sS_, i64_w, i32_w]
 rfl }
 refine pure_ (i := 18) (N := some 140) (v := ?_) (a' := ?_) (bm_ 25 524287) rfl rfl (any_of HT_.out (by kernel_rfl)) (fun _ _ _ h => h) (Or.inl ⟨by rfl, ?_⟩) ?_ ?_
 rotate_left
 {
 intro w'
 go_simp
 with_reducible rfl }
 rotate_left
 {
 simp only [Act.put, sA_, s0_, sS_, i64_w, i32_w]
 rfl }
 refine pure_ (i := 19) (N := some 141) (v := ?_) (a' := ?_) (bm_ 25 1048575) rfl rfl (any_of HT_.out (by kernel_rfl)) (fun _ _ _ h => h) (Or.inl ⟨by rfl, ?_⟩) ?_ ?_
 rotate_left
 {
 intro w'
 go_simp
 with_reducible rfl }
 rotate_left
 {
 simp only [Act.put, sA_, s0_, sS_, i64_w, i32_w]
 rfl }
 refine pure_ (i := 20) (N := some 142) (v := ?_) (a' := ?_) (bm_ 25 2097151) rfl rfl (any_of HT_.out (by kernel_rfl)) (fun _ _ _ h => h) (Or.inl ⟨by rfl, ?_⟩) ?_ ?_
 rotate_left
 {
 intro w'
 go_simp
 with_reducible rfl }
 rotate_left
 {
 simp only [Act.put, sA_, s0_, sS_, i64_w, i32_w]
 rfl }
 refine pure_ (i := 21) (N := some 143) (v := undef) (a' := ?_) (bm_ 25 4194303) rfl rfl (any_of HT_.out (by kernel_rfl)) (fun _ _ _ h => h) (Or.inr ⟨by rfl, rfl⟩) ?_ ?_
 rotate_left
 {
 simp only [Act.put, sA_, s0_, sS_, i64_w, i32_w]
 rfl }
 refine pure_ (i := 22) (N := some 144) (v := undef) (a' := ?_) (bm_ 25 8388607) rfl rfl (any_of HT_.out (by kernel_rfl)) (fun _ _ _ h => h) (Or.inr ⟨by rfl, rfl⟩) ?_ ?_
 rotate_left
 {
 simp only [Act.put, sA_, s0_, sS_, i64_w, i32_w]
 rfl }
 refine pure_ (i := 23) (N := some 145) (v := undef) (a' := ?_) (bm_ 25 16777215) rfl rfl (any_of HT_.out (by kernel_rfl)) (fun _ _ _ h => h) (Or.inr ⟨by rfl, rfl⟩) ?_ ?_
 rotate_left
 {
 simp only [Act.put, sA_, s0_, sS_, i64_w, i32_w]
 rfl }
 refine pure_ (i := 24) (N := some 146) (v := ?_) (a' := ?_) (bm_ 25 33554431) rfl rfl (any_of HT_.out (by kernel_rfl)) (fun _ _ _ h => h) (Or.inl ⟨by rfl, ?_⟩) ?_ ?_
 rotate_left
 {
 intro w'
 go_simp
 with_reducible rfl }
 rotate_left
 {
 simp only [Act.put, sA_, s0_, sS_, i64_w, i32_w]
 rfl }
 refine done_ (done_of HT_.out (by kernel_rfl)) ?_
 try go_wp2
 go_meet
 case rel => exact ⟨_, (true), (by first | rfl | (simp; done) | (simp [*]; done)), H', ⟨by have := HK1.out; have := HJ10.out; have := HK3.out; have := HJ38.out; first | omega | exact Nat.le_refl _⟩, ⟨by (with_reducible repeat (first | apply Kd.S_alloc | apply Kd.S_drewN | apply Kd.S_drew)); exact HO_3.out⟩, ⟨by (with_reducible repeat (first | apply Kd.R_alloc | apply Kd.R_drewN | apply Kd.R_drew)); exact HO_6.out⟩, ⟨by (with_reducible repeat (first | refine blk_drewN ?_ _ | refine blk_drew ?_ | refine blk_alloc ?_ _)); exact BK252.out⟩, ⟨by (with_reducible repeat (first | refine blk_drewN ?_ _ | refine blk_drew ?_ | refine blk_alloc ?_ _)); exact BK270.out⟩, ⟨by repeat (first | (with_reducible exact HR267_2.out) | (with_reducible refine Kd.C_alloc ?_ _) | (with_reducible refine Kd.C_drewN ?_ _) | (with_reducible refine Kd.C_drew ?_) | exact HR267_2.out)⟩, ⟨by repeat (first | (with_reducible exact HR268_2.out) | (with_reducible refine Kd.C_alloc ?_ _) | (with_reducible refine Kd.C_drewN ?_ _) | (with_reducible refine Kd.C_drew ?_) | exact HR268_2.out)⟩, ⟨by repeat (first | (with_reducible first | exact HB.out | apply below_alloc | apply pw_below_drewN | apply below_drew1 | refine below_set ?_ GE252.out | refine below_set ?_ GE270.out) | exact HB.out)⟩⟩ )}
 { as_aux_lemma => (
 rw [if_neg c55] at H
 have c55b0 : decide (((rd_T23 ((rd_T45 t246 x8_1).f2) x9_3).f3) < 1) = false := decide_eq_false c55
 clear c55
 have H' := Aside0.mk H
 clear H
 try go_wp2
 have n0_ := Aside0.mk (Kd.S_drew HO_3.out)
 have n1_ := Aside0.mk (Kd.R_drew HO_6.out)
 have n2_ := Aside0.mk (blk_drew BK252.out)
 have n3_ := Aside0.mk (blk_drew BK270.out)
 have n4_ := Aside0.mk (Kd.C_drew HR267_2.out)
 have n5_ := Aside0.mk (Kd.C_drew HR268_2.out)
 have n6_ := Aside0.mk (below_drew1 HB.out)
 clear HO_3
 clear HO_6
 clear BK252
 clear BK270
 clear HR267_2
 clear HR268_2
 clear HB
 have HO_3 := n0_
 have HO_6 := n1_
 have BK252 := n2_
 have BK270 := n3_
 have HR267_2 := n4_
 have HR268_2 := n5_
 have HB := n6_
 clear n0_ n1_ n2_ n3_ n4_ n5_ n6_
 have p271 : 0 ≤ (x8_1 : Int) := of_decide_eq_true (by first | (with_reducible assumption) | assumption)
 have q271 : x8_1 < (t246.length : Int) := of_decide_eq_true (by first | (with_reducible assumption) | assumption)
 obtain ⟨ad271, A271_2, c271_2, e271, hx271_0, hx271_1, hx271_2, hl271_2, hi271_2⟩ := at_T45 (Kd.S_reads' HO_3.out).2.2 x8_1 p271 q271
 obtain rfl : ad267 = ad271 := (by injection e271)
 obtain ⟨ce271, hce271, hMe271, hcc271⟩ := Kd.S_get HO_3.out z45 x8_1 p271 (by first | exact q271 | exact of_decide_eq_true (by first | (with_reducible assumption) | assumption) | (have e_ := (Kd.S_reads' HO_3.out).1; omega))
 obtain ⟨ve271_2, rfl, ge271_2⟩ := k45_openM hMe271
 have hv271_2 := hcc271 2 _ rfl
 rw [add_field _ _ 2 (by omega)] at hv271_2
 replace hv271_2 := Option.some.inj (hv271_2.symm.trans hx271_2)
 rw [hv271_2] at ge271_2
 have HL271_2 := Aside0.mk (show Kd.R k23 23 _ _ _ _ ((rd_T45 t246 x8_1).f2) from ge271_2)
 clear hv271_2 ge271_2
 clear hcc271 hce271
 have HR271_2 := Aside0.mk hi271_2
 have HC271_2 := Aside0.mk hl271_2
 clear hi271_2 hl271_2
 replace p271 := eq_true p271
 replace q271 := eq_true q271
 obtain ⟨Ao59, co59, eo59⟩ := Kd.R_slice HO_6.out
 (first | subst eo59 | (injection eo59 with f1_ f2_ f3_; have f4_ := f1_.symm; have f5_ := f3_.symm; clear f1_ f2_ f3_; subst f4_; subst f5_))
 refine start_ (n := 25) (S := fun w' => w'.cell? ⟨gb270, 0, none⟩ = some (.string ((rd_T23 ((rd_T45 t246 x8_1).f2) x9_3).f0)) ∧ w'.cell? ⟨gb270, 1, none⟩ = some (.bool ((rd_T23 ((rd_T45 t246 x8_1).f2) x9_3).f1)) ∧ w'.cell? ⟨gb270, 2, none⟩ = some (.int .i64 ((rd_T23 ((rd_T45 t246 x8_1).f2) x9_3).f2)) ∧ w'.cell? ⟨gb270, 3, none⟩ = some (.int .i64 ((rd_T23 ((rd_T45 t246 x8_1).f2) x9_3).f3)) ∧ w'.cell? (ad267.add ((x8_1).toNat * 3)) = some (.bool ((rd_T45 t246 x8_1).f0)) ∧ w'.cell? ⟨(ad267.add ((x8_1).toNat * 3)).block, (ad267.add ((x8_1).toNat * 3)).off + 1, none⟩ = some (.int .i64 ((rd_T45 t246 x8_1).f1)) ∧ w'.cell? ⟨(ad267.add ((x8_1).toNat * 3)).block, (ad267.add ((x8_1).toNat * 3)).off + 2, none⟩ = some (.slice A271_2 ((rd_T45 t246 x8_1).f2).length c271_2)) (ds := []) (bm_ 25 0) (by kernel_rfl) rfl rfl ⟨(blk_cell BK270.out 0).trans rfl, (blk_cell BK270.out 1).trans rfl, (blk_cell BK270.out 2).trans rfl, (blk_cell BK270.out 3).trans rfl, hx271_0, hx271_1, hx271_2⟩ (fun hHeld => ?_); refine with_tabW hearsaylaw08_TokenPlaces.tab20 hearsaylaw08_TokenPlaces.bits20 (fun HT_ HW_ => ?_)
 generalize wc.drew = w58 at HO_3 HO_6 BK252 BK270 HR267_2 HR268_2 HB HL271_2 HR271_2 hx271_0 hx271_1 hx271_2 hHeld ⊢
 refine pure_ (i := 0) (N := some 122) (v := ?_) (a' := ?_) (bm_ 25 1) rfl rfl (any_of HT_.out (by kernel_rfl)) (fun _ _ _ h => h) (Or.inl ⟨by rfl, ?_⟩) ?_ ?_
 rotate_left
 {
 intro w'
 go_simp
 with_reducible rfl }
 rotate_left
 {
 simp only [Act.put, sA_, s0_, sS_, i64_w, i32_w]
 rfl }
 refine pure_ (i := 2) (N := some 124) (v := ?_) (a' := ?_) (bm_ 25 5) rfl rfl (any_of HT_.out (by kernel_rfl)) (fun _ _ _ h => h) (Or.inl ⟨by rfl, ?_⟩) ?_ ?_
 rotate_left
 {
 intro w'
 go_simp
 with_reducible rfl }
 rotate_left
 {
 simp only [Act.put, sA_, s0_, sS_, i64_w, i32_w]
 rfl }
 refine pure_ (i := 3) (N := some 125) (v := ?_) (a' := ?_) (bm_ 25 13) rfl rfl (any_of HT_.out (by kernel_rfl)) (fun _ _ _ h => h) (Or.inl ⟨by rfl, ?_⟩) ?_ ?_
 rotate_left
 {
 intro w'
 go_simp
 with_reducible rfl }
 rotate_left
 {
 simp only [Act.put, sA_, s0_, sS_, i64_w, i32_w]
 rfl }
 refine pure_ (i := 4) (N := some 126) (v := ?_) (a' := ?_) (bm_ 25 29) rfl rfl (any_of HT_.out (by kernel_rfl)) (fun _ _ _ h => h) (Or.inl ⟨by rfl, ?_⟩) ?_ ?_
 rotate_left
 {
 intro w'
 go_simp
 with_reducible rfl }
 rotate_left
 {
 simp only [Act.put, sA_, s0_, sS_, i64_w, i32_w]
 rfl }
 refine pure_ (i := 5) (N := some 127) (v := ?_) (a' := ?_) (bm_ 25 61) rfl rfl (any_of HT_.out (by kernel_rfl)) (fun _ _ _ h => h) (Or.inl ⟨by rfl, ?_⟩) ?_ ?_
 rotate_left
 {
 intro w'
 go_simp
 with_reducible rfl }
 rotate_left
 {
 simp only [Act.put, sA_, s0_, sS_, i64_w, i32_w]
 rfl }
 refine take_ (i := 1) (N := some 123) (v := ?_) (a' := ?_) (bm_ 25 63) rfl rfl (take_ofW HT_.out HW_.out (by kernel_rfl)) (fun _ _ _ h => h) (Or.inl ⟨by rfl, ?_⟩) hHeld ?_ ?_
 rotate_left
 {
 rintro w' ⟨s0, s1, s2, s3, s4, s5, s6⟩
 go_simp
 with_reducible rfl }
 rotate_left
 {
 simp only [Act.put, sA_, s0_, sS_, i64_w, i32_w]
 rfl }
 refine take_ (i := 6) (N := some 128) (v := ?_) (a' := ?_) (bm_ 25 127) rfl rfl (take_ofW HT_.out HW_.out (by kernel_rfl)) (fun _ _ _ h => h) (Or.inl ⟨by rfl, ?_⟩) hHeld ?_ ?_
 rotate_left
 {
 rintro w' ⟨s0, s1, s2, s3, s4, s5, s6⟩
 go_simp
 with_reducible rfl }
 rotate_left
 {
 simp only [Act.put, sA_, s0_, sS_, i64_w, i32_w]
 rfl }
 refine pure_ (i := 7) (N := some 129) (v := ?_) (a' := ?_) (bm_ 25 255) rfl rfl (any_of HT_.out (by kernel_rfl)) (fun _ _ _ h => h) (Or.inl ⟨by rfl, ?_⟩) ?_ ?_
 rotate_left
 {
 intro w'
 go_simp
 with_reducible rfl }
 rotate_left
 {
 simp only [Act.put, sA_, s0_, sS_, i64_w, i32_w]
 rfl }
 refine pure_ (i := 8) (N := some 130) (v := ?_) (a' := ?_) (bm_ 25 511) rfl rfl (any_of HT_.out (by kernel_rfl)) (fun _ _ _ h => h) (Or.inl ⟨by rfl, ?_⟩) ?_ ?_
 rotate_left
 {
 intro w'
 go_simp
 with_reducible rfl }
 rotate_left
 {
 simp only [Act.put, sA_, s0_, sS_, i64_w, i32_w]
 rfl }
 refine pure_ (i := 9) (N := some 131) (v := ?_) (a' := ?_) (bm_ 25 1023) rfl rfl (any_of HT_.out (by kernel_rfl)) (fun _ _ _ h => h) (Or.inl ⟨by rfl, ?_⟩) ?_ ?_
 rotate_left
 {
 intro w'
 go_simp
 with_reducible rfl }
 rotate_left
 {
 simp only [Act.put, sA_, s0_, sS_, i64_w, i32_w]
 rfl }
 refine pure_ (i := 11) (N := some 133) (v := ?_) (a' := ?_) (bm_ 25 3071) rfl rfl (any_of HT_.out (by kernel_rfl)) (fun _ _ _ h => h) (Or.inl ⟨by rfl, ?_⟩) ?_ ?_
 rotate_left
 {
 intro w'
 go_simp
 with_reducible rfl }
 rotate_left
 {
 simp only [Act.put, sA_, s0_, sS_, i64_w, i32_w]
 rfl }
 refine pure_ (i := 12) (N := some 134) (v := ?_) (a' := ?_) (bm_ 25 7167) rfl rfl (any_of HT_.out (by kernel_rfl)) (fun _ _ _ h => h) (Or.inl ⟨by rfl, ?_⟩) ?_ ?_
 rotate_left
 {
 intro w'
 go_simp
 with_reducible rfl }
 rotate_left
 {
 simp only [Act.put, sA_, s0_, sS_, i64_w, i32_w]
 rfl }
 refine take_ (i := 10) (N := some 132) (v := ?_) (a' := ?_) (bm_ 25 8191) rfl rfl (take_ofW HT_.out HW_.out (by kernel_rfl)) (fun _ _ _ h => h) (Or.inl ⟨by rfl, ?_⟩) hHeld ?_ ?_
 rotate_left
 {
 rintro w' ⟨s0, s1, s2, s3, s4, s5, s6⟩
 go_simp
 with_reducible rfl }
 rotate_left
 {
 simp only [Act.put, sA_, s0_, sS_, i64_w, i32_w]
 rfl }
 refine pure_ (i := 13) (N := some 135) (v := ?_) (a' := ?_) (bm_ 25 16383) rfl rfl (any_of HT_.out (by kernel_rfl)) (fun _ _ _ h => h) (Or.inl ⟨by rfl, ?_⟩) ?_ ?_
 rotate_left
 {
 intro w'
 go_simp
 with_reducible rfl }
 rotate_left
 {
 simp only [Act.put, sA_, s0_, sS_, i64_w, i32_w]
 rfl }
 refine pure_ (i := 14) (N := some 136) (v := ?_) (a' := ?_) (bm_ 25 32767) rfl rfl (any_of HT_.out (by kernel_rfl)) (fun _ _ _ h => h) (Or.inl ⟨by rfl, ?_⟩) ?_ ?_
 rotate_left
 {
 intro w'
 go_simp
 with_reducible rfl }
 rotate_left
 {
 simp only [Act.put, sA_, s0_, sS_, i64_w, i32_w]
 rfl }
 refine pure_ (i := 15) (N := some 137) (v := ?_) (a' := ?_) (bm_ 25 65535) rfl rfl (any_of HT_.out (by kernel_rfl)) (fun _ _ _ h => h) (Or.inl ⟨by rfl, ?_⟩) ?_ ?_
 rotate_left
 {
 intro w'
 go_simp
 with_reducible rfl }
 rotate_left
 {
 simp only [Act.put, sA_, s0_, sS_, i64_w, i32_w]
 rfl }
 refine pure_ (i := 16) (N := some 138) (v := ?_) (a' := ?_) (bm_ 25 131071) rfl rfl (any_of HT_.out (by kernel_rfl)) (fun _ _ _ h => h) (Or.inl ⟨by rfl, ?_⟩) ?_ ?_
 rotate_left
 {
 intro w'
 go_simp
 with_reducible rfl }
 rotate_left
 {
 simp only [Act.put, sA_, s0_, sS_, i64_w, i32_w]
 rfl }
 refine take_ (i := 17) (N := some 139) (v := ?_) (a' := ?_) (bm_ 25 262143) rfl rfl (take_ofW HT_.out HW_.out (by kernel_rfl)) (fun _ _ _ h => h) (Or.inl ⟨by rfl, ?_⟩) hHeld ?_ ?_
 rotate_left
 {
 rintro w' ⟨s0, s1, s2, s3, s4, s5, s6⟩
 go_simp
 with_reducible rfl }
 rotate_left
 {
 simp only [Act.put, sA_, s0_, sS_, i64_w, i32_w]
 rfl }
 refine pure_ (i := 18) (N := some 140) (v := ?_) (a' := ?_) (bm_ 25 524287) rfl rfl (any_of HT_.out (by kernel_rfl)) (fun _ _ _ h => h) (Or.inl ⟨by rfl, ?_⟩) ?_ ?_
 rotate_left
 {
 intro w'
 go_simp
 with_reducible rfl }
 rotate_left
 {
 simp only [Act.put, sA_, s0_, sS_, i64_w, i32_w]
 rfl }
 refine pure_ (i := 19) (N := some 141) (v := ?_) (a' := ?_) (bm_ 25 1048575) rfl rfl (any_of HT_.out (by kernel_rfl)) (fun _ _ _ h => h) (Or.inl ⟨by rfl, ?_⟩) ?_ ?_
 rotate_left
 {
 intro w'
 go_simp
 with_reducible rfl }
 rotate_left
 {
 simp only [Act.put, sA_, s0_, sS_, i64_w, i32_w]
 rfl }
 refine pure_ (i := 20) (N := some 142) (v := ?_) (a' := ?_) (bm_ 25 2097151) rfl rfl (any_of HT_.out (by kernel_rfl)) (fun _ _ _ h => h) (Or.inl ⟨by rfl, ?_⟩) ?_ ?_
 rotate_left
 {
 intro w'
 go_simp
 with_reducible rfl }
 rotate_left
 {
 simp only [Act.put, sA_, s0_, sS_, i64_w, i32_w]
 rfl }
 refine pure_ (i := 21) (N := some 143) (v := ?_) (a' := ?_) (bm_ 25 4194303) rfl rfl (any_of HT_.out (by kernel_rfl)) (fun _ _ _ h => h) (Or.inl ⟨by rfl, ?_⟩) ?_ ?_
 rotate_left
 {
 intro w'
 go_simp
 with_reducible rfl }
 rotate_left
 {
 simp only [Act.put, sA_, s0_, sS_, i64_w, i32_w]
 rfl }
 refine pure_ (i := 22) (N := some 144) (v := ?_) (a' := ?_) (bm_ 25 8388607) rfl rfl (any_of HT_.out (by kernel_rfl)) (fun _ _ _ h => h) (Or.inl ⟨by rfl, ?_⟩) ?_ ?_
 rotate_left
 {
 intro w'
 go_simp
 with_reducible rfl }
 rotate_left
 {
 simp only [Act.put, sA_, s0_, sS_, i64_w, i32_w]
 rfl }
 refine pure_ (i := 23) (N := some 145) (v := ?_) (a' := ?_) (bm_ 25 16777215) rfl rfl (any_of HT_.out (by kernel_rfl)) (fun _ _ _ h => h) (Or.inl ⟨by rfl, ?_⟩) ?_ ?_
 rotate_left
 {
 intro w'
 go_simp
 with_reducible rfl }
 rotate_left
 {
 simp only [Act.put, sA_, s0_, sS_, i64_w, i32_w]
 rfl }
 refine pure_ (i := 24) (N := some 146) (v := ?_) (a' := ?_) (bm_ 25 33554431) rfl rfl (any_of HT_.out (by kernel_rfl)) (fun _ _ _ h => h) (Or.inl ⟨by rfl, ?_⟩) ?_ ?_
 rotate_left
 {
 intro w'
 go_simp
 with_reducible rfl }
 rotate_left
 {
 simp only [Act.put, sA_, s0_, sS_, i64_w, i32_w]
 rfl }
 refine done_ (done_of HT_.out (by kernel_rfl)) ?_
 try go_wp2
 go_meet
 case rel => exact ⟨_, (((x11_38.size : Int) == 0)), (by first | rfl | (simp; done) | (simp [*]; done)), H', ⟨by have := HK1.out; have := HJ10.out; have := HK3.out; have := HJ38.out; first | omega | exact Nat.le_refl _⟩, ⟨by (with_reducible repeat (first | apply Kd.S_alloc | apply Kd.S_drewN | apply Kd.S_drew)); exact HO_3.out⟩, ⟨by (with_reducible repeat (first | apply Kd.R_alloc | apply Kd.R_drewN | apply Kd.R_drew)); exact HO_6.out⟩, ⟨by (with_reducible repeat (first | refine blk_drewN ?_ _ | refine blk_drew ?_ | refine blk_alloc ?_ _)); exact BK252.out⟩, ⟨by (with_reducible repeat (first | refine blk_drewN ?_ _ | refine blk_drew ?_ | refine blk_alloc ?_ _)); exact BK270.out⟩, ⟨by repeat (first | (with_reducible exact HR267_2.out) | (with_reducible refine Kd.C_alloc ?_ _) | (with_reducible refine Kd.C_drewN ?_ _) | (with_reducible refine Kd.C_drew ?_) | exact HR267_2.out)⟩, ⟨by repeat (first | (with_reducible exact HR268_2.out) | (with_reducible refine Kd.C_alloc ?_ _) | (with_reducible refine Kd.C_drewN ?_ _) | (with_reducible refine Kd.C_drew ?_) | exact HR268_2.out)⟩, ⟨by repeat (first | (with_reducible first | exact HB.out | apply below_alloc | apply pw_below_drewN | apply below_drew1 | refine below_set ?_ GE252.out | refine below_set ?_ GE270.out) | exact HB.out)⟩⟩ )})})})}
 {
 rw [if_neg c49] at H
 exact absurd H (by simp) })}
 {
 rw [if_neg c48] at H
 exact absurd H (by simp) }))
 case rest => (as_aux_lemma => (
 clear HC47
 try clear c2
 try clear p2
 try clear q2
 try clear hx2
 try clear c4
 try clear c5
 try clear c27
 try clear p27
 try clear q27
 try clear hx27
 try clear c48
 try clear c49
 try clear c52
 try clear c52b0
 try clear c55
 try clear c55b0
 try clear hx271_0
 try clear hx271_1
 try clear hx271_2
 try clear p271
 try clear q271
 obtain ⟨kq, x146_46, rfl, HA, HJ46, HO_3, HO_6, BK252, BK270, HR267_2, HR268_2, HB⟩ := hcut
 cases kq with
 | zero => exact absurd HA.out (by simp [hearsaylaw08_TokenPlaces.j4])
 | succ kj46 => (
 have H := HA.out
 clear HA
 simp only [hearsaylaw08_TokenPlaces.j4] at H
 by_cases c60 : x146_46 = true
 {
 subst c60
 have H1 : (some false) = some r := by rw [if_pos rfl] at H; exact H
 clear H
 have H := H1
 clear H1
 obtain rfl := Option.some.inj H
 go_wp2
 go_ret
 exact ⟨by first | rfl | (simp [errW_none, errW_some] <;> rfl) | (simp [*, errW_none, errW_some] <;> rfl), by repeat (first | (with_reducible first | exact HB.out | apply below_alloc | apply pw_below_drewN | apply below_drew1 | refine below_set ?_ GE252.out | refine below_set ?_ GE270.out) | exact HB.out)⟩ }
 { as_aux_lemma => (
 replace c60 := Bool.eq_false_iff.mpr c60
 subst c60
 have H1 : (if 0 ≤ (wrap64 (((rd_T23 ((rd_T45 t246 x8_1).f2) x9_3).f2) - 1)) then (if (wrap64 (((rd_T23 ((rd_T45 t246 x8_1).f2) x9_3).f2) - 1)) < (t254.length : Int) then (if (wrap64 ((wrap64 ((rd t254 (wrap64 (((rd_T23 ((rd_T45 t246 x8_1).f2) x9_3).f2) - 1))) + ((rd_T23 ((rd_T45 t246 x8_1).f2) x9_3).f3))) - 1)) < x7_3 then (some false) else (if (wrap64 ((wrap64 ((wrap64 ((rd t254 (wrap64 (((rd_T23 ((rd_T45 t246 x8_1).f2) x9_3).f2) - 1))) + ((rd_T23 ((rd_T45 t246 x8_1).f2) x9_3).f3))) - 1)) + (x11_38.size : Int))) > (a0.size : Int) then (some false) else (if 0 ≤ (wrap64 ((wrap64 ((rd t254 (wrap64 (((rd_T23 ((rd_T45 t246 x8_1).f2) x9_3).f2) - 1))) + ((rd_T23 ((rd_T45 t246 x8_1).f2) x9_3).f3))) - 1)) then (if (wrap64 ((wrap64 ((rd t254 (wrap64 (((rd_T23 ((rd_T45 t246 x8_1).f2) x9_3).f2) - 1))) + ((rd_T23 ((rd_T45 t246 x8_1).f2) x9_3).f3))) - 1)) ≤ (wrap64 ((wrap64 ((wrap64 ((rd t254 (wrap64 (((rd_T23 ((rd_T45 t246 x8_1).f2) x9_3).f2) - 1))) + ((rd_T23 ((rd_T45 t246 x8_1).f2) x9_3).f3))) - 1)) + (x11_38.size : Int))) then (if (wrap64 ((wrap64 ((wrap64 ((rd t254 (wrap64 (((rd_T23 ((rd_T45 t246 x8_1).f2) x9_3).f2) - 1))) + ((rd_T23 ((rd_T45 t246 x8_1).f2) x9_3).f3))) - 1)) + (x11_38.size : Int))) ≤ (a0.size : Int) then (if (a0.extract ((wrap64 ((wrap64 ((rd t254 (wrap64 (((rd_T23 ((rd_T45 t246 x8_1).f2) x9_3).f2) - 1))) + ((rd_T23 ((rd_T45 t246 x8_1).f2) x9_3).f3))) - 1)) : Int).toNat ((wrap64 ((wrap64 ((wrap64 ((rd t254 (wrap64 (((rd_T23 ((rd_T45 t246 x8_1).f2) x9_3).f2) - 1))) + ((rd_T23 ((rd_T45 t246 x8_1).f2) x9_3).f3))) - 1)) + (x11_38.size : Int))) : Int).toNat).toList = x11_38.toList then (hearsaylaw08_TokenPlaces.l1 kj46 a0 t246 t254 (wrap64 ((wrap64 ((wrap64 ((rd t254 (wrap64 (((rd_T23 ((rd_T45 t246 x8_1).f2) x9_3).f2) - 1))) + ((rd_T23 ((rd_T45 t246 x8_1).f2) x9_3).f3))) - 1)) + (x11_38.size : Int))) x8_1 (wrap64 (x9_3 + 1))) else (some false)) else (none)) else (none)) else (none)))) else (none)) else (none)) = some r := by rw [if_neg (show ¬ (false = true) by decide)] at H; exact H
 clear H
 have H := H1
 clear H1
 obtain ⟨ji61, hji61⟩ : ∃ j_ : Int, (wrap64 (((rd_T23 ((rd_T45 t246 x8_1).f2) x9_3).f2) - 1)) = j_ := ⟨_, rfl⟩
 replace H : (if 0 ≤ (ji61) then (if (ji61) < (t254.length : Int) then (if (wrap64 ((wrap64 ((rd t254 (ji61)) + ((rd_T23 ((rd_T45 t246 x8_1).f2) x9_3).f3))) - 1)) < x7_3 then (some false) else (if (wrap64 ((wrap64 ((wrap64 ((rd t254 (ji61)) + ((rd_T23 ((rd_T45 t246 x8_1).f2) x9_3).f3))) - 1)) + (x11_38.size : Int))) > (a0.size : Int) then (some false) else (if 0 ≤ (wrap64 ((wrap64 ((rd t254 (ji61)) + ((rd_T23 ((rd_T45 t246 x8_1).f2) x9_3).f3))) - 1)) then (if (wrap64 ((wrap64 ((rd t254 (ji61)) + ((rd_T23 ((rd_T45 t246 x8_1).f2) x9_3).f3))) - 1)) ≤ (wrap64 ((wrap64 ((wrap64 ((rd t254 (ji61)) + ((rd_T23 ((rd_T45 t246 x8_1).f2) x9_3).f3))) - 1)) + (x11_38.size : Int))) then (if (wrap64 ((wrap64 ((wrap64 ((rd t254 (ji61)) + ((rd_T23 ((rd_T45 t246 x8_1).f2) x9_3).f3))) - 1)) + (x11_38.size : Int))) ≤ (a0.size : Int) then (if (a0.extract ((wrap64 ((wrap64 ((rd t254 (ji61)) + ((rd_T23 ((rd_T45 t246 x8_1).f2) x9_3).f3))) - 1)) : Int).toNat ((wrap64 ((wrap64 ((wrap64 ((rd t254 (ji61)) + ((rd_T23 ((rd_T45 t246 x8_1).f2) x9_3).f3))) - 1)) + (x11_38.size : Int))) : Int).toNat).toList = x11_38.toList then (hearsaylaw08_TokenPlaces.l1 kj46 a0 t246 t254 (wrap64 ((wrap64 ((wrap64 ((rd t254 (ji61)) + ((rd_T23 ((rd_T45 t246 x8_1).f2) x9_3).f3))) - 1)) + (x11_38.size : Int))) x8_1 (wrap64 (x9_3 + 1))) else (some false)) else (none)) else (none)) else (none)))) else (none)) else (none)) = some r := by first | (rw [hji61] at H; exact H) | (simp only [hji61] at H ⊢; exact H)
 have hji61w : (IntKind.i64.wrap (((rd_T23 ((rd_T45 t246 x8_1).f2) x9_3).f2) - 1)) = ji61 := (i64_w _).trans hji61
 by_cases c62 : 0 ≤ (ji61)
 { as_aux_lemma => (
 rw [if_pos c62] at H
 have c62b0 : decide (0 ≤ (ji61)) = true := decide_eq_true c62
 clear c62
 by_cases c63 : (ji61) < (t254.length : Int)
 { as_aux_lemma => (
 rw [if_pos c63] at H
 have c63b0 : decide ((ji61) < (t254.length : Int)) = true := decide_eq_true c63
 clear c63
 by_cases c64 : (wrap64 ((wrap64 ((rd t254 (ji61)) + ((rd_T23 ((rd_T45 t246 x8_1).f2) x9_3).f3))) - 1)) < x7_3
 {
 rw [if_pos c64] at H
 have c64b0 : decide ((wrap64 ((wrap64 ((rd t254 (ji61)) + ((rd_T23 ((rd_T45 t246 x8_1).f2) x9_3).f3))) - 1)) < x7_3) = true := decide_eq_true c64
 clear c64
 obtain rfl := Option.some.inj H
 try go_wp2
 have n0_ := Aside0.mk (Kd.S_drew HO_3.out)
 have n1_ := Aside0.mk (Kd.R_drew HO_6.out)
 have n2_ := Aside0.mk (blk_drew BK252.out)
 have n3_ := Aside0.mk (blk_drew BK270.out)
 have n4_ := Aside0.mk (Kd.C_drew HR267_2.out)
 have n5_ := Aside0.mk (Kd.C_drew HR268_2.out)
 have n6_ := Aside0.mk (below_drew1 HB.out)
 clear HO_3
 clear HO_6
 clear BK252
 clear BK270
 clear HR267_2
 clear HR268_2
 clear HB
 have HO_3 := n0_
 have HO_6 := n1_
 have BK252 := n2_
 have BK270 := n3_
 have HR267_2 := n4_
 have HR268_2 := n5_
 have HB := n6_
 clear n0_ n1_ n2_ n3_ n4_ n5_ n6_
 obtain ⟨Ao66, co66, eo66⟩ := Kd.R_slice HO_6.out
 (first | subst eo66 | (injection eo66 with f1_ f2_ f3_; have f4_ := f1_.symm; have f5_ := f3_.symm; clear f1_ f2_ f3_; subst f4_; subst f5_))
 have p272 : 0 ≤ ((ji61) : Int) := of_decide_eq_true (by first | (with_reducible assumption) | assumption)
 have q272 : (ji61) < (t254.length : Int) := of_decide_eq_true (by first | (with_reducible assumption) | assumption)
 obtain ⟨ad272, e272, hx272_0⟩ := Kd.at_int (Kd.R_reads' HO_6.out).2.2 (ji61) p272 q272
 cases e272
 replace p272 := eq_true p272
 replace q272 := eq_true q272
 refine start_ (n := 11) (S := fun w' => w'.cell? ⟨gb270, 0, none⟩ = some (.string ((rd_T23 ((rd_T45 t246 x8_1).f2) x9_3).f0)) ∧ w'.cell? ⟨gb270, 1, none⟩ = some (.bool ((rd_T23 ((rd_T45 t246 x8_1).f2) x9_3).f1)) ∧ w'.cell? ⟨gb270, 2, none⟩ = some (.int .i64 ((rd_T23 ((rd_T45 t246 x8_1).f2) x9_3).f2)) ∧ w'.cell? ⟨gb270, 3, none⟩ = some (.int .i64 ((rd_T23 ((rd_T45 t246 x8_1).f2) x9_3).f3)) ∧ w'.cell? (ad272.add ((ji61)).toNat) = some (.int .i64 (rd t254 (ji61)))) (ds := []) (bm_ 11 0) (by kernel_rfl) rfl rfl ⟨(blk_cell BK270.out 0).trans rfl, (blk_cell BK270.out 1).trans rfl, (blk_cell BK270.out 2).trans rfl, (blk_cell BK270.out 3).trans rfl, hx272_0⟩ (fun hHeld => ?_); refine with_tabW hearsaylaw08_TokenPlaces.tab22 hearsaylaw08_TokenPlaces.bits22 (fun HT_ HW_ => ?_)
 generalize wc.drew = w65 at HO_3 HO_6 BK252 BK270 HR267_2 HR268_2 HB hx272_0 hHeld ⊢
 refine pure_ (i := 0) (N := some 147) (v := ?_) (a' := ?_) (bm_ 11 1) rfl rfl (any_of HT_.out (by kernel_rfl)) (fun _ _ _ h => h) (Or.inl ⟨by rfl, ?_⟩) ?_ ?_
 rotate_left
 {
 intro w'
 go_simp
 with_reducible rfl }
 rotate_left
 {
 simp only [Act.put, sA_, s0_, sS_, i64_w, i32_w]
 rfl }
 refine pure_ (i := 1) (N := some 148) (v := ?_) (a' := ?_) (bm_ 11 3) rfl rfl (any_of HT_.out (by kernel_rfl)) (fun _ _ _ h => h) (Or.inl ⟨by rfl, ?_⟩) ?_ ?_
 rotate_left
 {
 intro w'
 go_simp
 with_reducible rfl }
 rotate_left
 {
 simp only [Act.put, sA_, s0_, sS_, i64_w, i32_w]
 rfl }
 refine pure_ (i := 6) (N := some 153) (v := ?_) (a' := ?_) (bm_ 11 67) rfl rfl (any_of HT_.out (by kernel_rfl)) (fun _ _ _ h => h) (Or.inl ⟨by rfl, ?_⟩) ?_ ?_
 rotate_left
 {
 intro w'
 go_simp
 with_reducible rfl }
 rotate_left
 {
 simp only [Act.put, sA_, s0_, sS_, i64_w, i32_w]
 rfl }
 refine take_ (i := 2) (N := some 149) (v := ?_) (a' := ?_) (bm_ 11 71) rfl rfl (take_ofW HT_.out HW_.out (by kernel_rfl)) (fun _ _ _ h => h) (Or.inl ⟨by rfl, ?_⟩) hHeld ?_ ?_
 rotate_left
 {
 rintro w' ⟨s0, s1, s2, s3, s4⟩
 go_simp
 with_reducible rfl }
 rotate_left
 {
 simp only [Act.put, sA_, s0_, sS_, i64_w, i32_w]
 rfl }
 refine pure_ (i := 3) (N := some 150) (v := ?_) (a' := ?_) (bm_ 11 79) rfl rfl (any_of HT_.out (by kernel_rfl)) (fun _ _ _ h => h) (Or.inl ⟨by rfl, ?_⟩) ?_ ?_
 rotate_left
 {
 intro w'
 go_simp
 with_reducible rfl }
 rotate_left
 {
 simp only [Act.put, sA_, s0_, sS_, i64_w, i32_w]
 rfl }
 refine pure_ (i := 4) (N := some 151) (v := ?_) (a' := ?_) (bm_ 11 95) rfl rfl (any_of HT_.out (by kernel_rfl)) (fun _ _ _ h => h) (Or.inl ⟨by rfl, ?_⟩) ?_ ?_
 rotate_left
 {
 intro w'
 go_simp
 with_reducible rfl }
 rotate_left
 {
 simp only [Act.put, sA_, s0_, sS_, i64_w, i32_w]
 rfl }
 refine take_ (i := 5) (N := some 152) (v := ?_) (a' := ?_) (bm_ 11 127) rfl rfl (take_ofW HT_.out HW_.out (by kernel_rfl)) (fun _ _ _ h => h) (Or.inl ⟨by rfl, ?_⟩) hHeld ?_ ?_
 rotate_left
 {
 rintro w' ⟨s0, s1, s2, s3, s4⟩
 go_simp
 with_reducible rfl }
 rotate_left
 {
 simp only [Act.put, sA_, s0_, sS_, i64_w, i32_w]
 rfl }
 refine take_ (i := 7) (N := some 154) (v := ?_) (a' := ?_) (bm_ 11 255) rfl rfl (take_ofW HT_.out HW_.out (by kernel_rfl)) (fun _ _ _ h => h) (Or.inl ⟨by rfl, ?_⟩) hHeld ?_ ?_
 rotate_left
 {
 rintro w' ⟨s0, s1, s2, s3, s4⟩
 go_simp
 with_reducible rfl }
 rotate_left
 {
 simp only [Act.put, sA_, s0_, sS_, i64_w, i32_w]
 rfl }
 refine pure_ (i := 8) (N := some 155) (v := ?_) (a' := ?_) (bm_ 11 511) rfl rfl (any_of HT_.out (by kernel_rfl)) (fun _ _ _ h => h) (Or.inl ⟨by rfl, ?_⟩) ?_ ?_
 rotate_left
 {
 intro w'
 go_simp
 with_reducible rfl }
 rotate_left
 {
 simp only [Act.put, sA_, s0_, sS_, i64_w, i32_w]
 rfl }
 refine pure_ (i := 9) (N := some 156) (v := ?_) (a' := ?_) (bm_ 11 1023) rfl rfl (any_of HT_.out (by kernel_rfl)) (fun _ _ _ h => h) (Or.inl ⟨by rfl, ?_⟩) ?_ ?_
 rotate_left
 {
 intro w'
 go_simp
 with_reducible rfl }
 rotate_left
 {
 simp only [Act.put, sA_, s0_, sS_, i64_w, i32_w]
 rfl }
 refine pure_ (i := 10) (N := some 12) (v := ?_) (a' := ?_) (bm_ 11 2047) rfl rfl (any_of HT_.out (by kernel_rfl)) (fun _ _ _ h => h) (Or.inl ⟨by rfl, ?_⟩) ?_ ?_
 rotate_left
 {
 intro w'
 go_simp
 with_reducible rfl }
 rotate_left
 {
 simp only [Act.put, sA_, s0_, sS_, i64_w, i32_w]
 rfl }
 refine done_ (done_of HT_.out (by kernel_rfl)) ?_
 try go_wp2
 go_ret
 exact ⟨by first | rfl | (simp [errW_none, errW_some] <;> rfl) | (simp only [← hji61]; first | rfl | (simp [errW_none, errW_some] <;> rfl)) | (simp [*, errW_none, errW_some] <;> rfl), by repeat (first | (with_reducible first | exact HB.out | apply below_alloc | apply pw_below_drewN | apply below_drew1 | refine below_set ?_ GE252.out | refine below_set ?_ GE270.out) | exact HB.out)⟩ }
 { as_aux_lemma => (
 rw [if_neg c64] at H
 have c64b0 : decide ((wrap64 ((wrap64 ((rd t254 (ji61)) + ((rd_T23 ((rd_T45 t246 x8_1).f2) x9_3).f3))) - 1)) < x7_3) = false := decide_eq_false c64
 clear c64
 by_cases c67 : (wrap64 ((wrap64 ((wrap64 ((rd t254 (ji61)) + ((rd_T23 ((rd_T45 t246 x8_1).f2) x9_3).f3))) - 1)) + (x11_38.size : Int))) > (a0.size : Int)
 {
 rw [if_pos c67] at H
 have c67b0 : decide ((a0.size : Int) < (wrap64 ((wrap64 ((wrap64 ((rd t254 (ji61)) + ((rd_T23 ((rd_T45 t246 x8_1).f2) x9_3).f3))) - 1)) + (x11_38.size : Int)))) = true := decide_eq_true c67
 clear c67
 obtain rfl := Option.some.inj H
 try go_wp2
 have n0_ := Aside0.mk (Kd.S_drew HO_3.out)
 have n1_ := Aside0.mk (Kd.R_drew HO_6.out)
 have n2_ := Aside0.mk (blk_drew BK252.out)
 have n3_ := Aside0.mk (blk_drew BK270.out)
 have n4_ := Aside0.mk (Kd.C_drew HR267_2.out)
 have n5_ := Aside0.mk (Kd.C_drew HR268_2.out)
 have n6_ := Aside0.mk (below_drew1 HB.out)
 clear HO_3
 clear HO_6
 clear BK252
 clear BK270
 clear HR267_2
 clear HR268_2
 clear HB
 have HO_3 := n0_
 have HO_6 := n1_
 have BK252 := n2_
 have BK270 := n3_
 have HR267_2 := n4_
 have HR268_2 := n5_
 have HB := n6_
 clear n0_ n1_ n2_ n3_ n4_ n5_ n6_
 obtain ⟨Ao69, co69, eo69⟩ := Kd.R_slice HO_6.out
 (first | subst eo69 | (injection eo69 with f1_ f2_ f3_; have f4_ := f1_.symm; have f5_ := f3_.symm; clear f1_ f2_ f3_; subst f4_; subst f5_))
 have p272 : 0 ≤ ((ji61) : Int) := of_decide_eq_true (by first | (with_reducible assumption) | assumption)
 have q272 : (ji61) < (t254.length : Int) := of_decide_eq_true (by first | (with_reducible assumption) | assumption)
 obtain ⟨ad272, e272, hx272_0⟩ := Kd.at_int (Kd.R_reads' HO_6.out).2.2 (ji61) p272 q272
 cases e272
 replace p272 := eq_true p272
 replace q272 := eq_true q272
 refine start_ (n := 11) (S := fun w' => w'.cell? ⟨gb270, 0, none⟩ = some (.string ((rd_T23 ((rd_T45 t246 x8_1).f2) x9_3).f0)) ∧ w'.cell? ⟨gb270, 1, none⟩ = some (.bool ((rd_T23 ((rd_T45 t246 x8_1).f2) x9_3).f1)) ∧ w'.cell? ⟨gb270, 2, none⟩ = some (.int .i64 ((rd_T23 ((rd_T45 t246 x8_1).f2) x9_3).f2)) ∧ w'.cell? ⟨gb270, 3, none⟩ = some (.int .i64 ((rd_T23 ((rd_T45 t246 x8_1).f2) x9_3).f3)) ∧ w'.cell? (ad272.add ((ji61)).toNat) = some (.int .i64 (rd t254 (ji61)))) (ds := []) (bm_ 11 0) (by kernel_rfl) rfl rfl ⟨(blk_cell BK270.out 0).trans rfl, (blk_cell BK270.out 1).trans rfl, (blk_cell BK270.out 2).trans rfl, (blk_cell BK270.out 3).trans rfl, hx272_0⟩ (fun hHeld => ?_); refine with_tabW hearsaylaw08_TokenPlaces.tab22 hearsaylaw08_TokenPlaces.bits22 (fun HT_ HW_ => ?_)
 generalize wc.drew = w68 at HO_3 HO_6 BK252 BK270 HR267_2 HR268_2 HB hx272_0 hHeld ⊢
 refine pure_ (i := 0) (N := some 147) (v := ?_) (a' := ?_) (bm_ 11 1) rfl rfl (any_of HT_.out (by kernel_rfl)) (fun _ _ _ h => h) (Or.inl ⟨by rfl, ?_⟩) ?_ ?_
 rotate_left
 {
 intro w'
 go_simp
 with_reducible rfl }
 rotate_left
 {
 simp only [Act.put, sA_, s0_, sS_, i64_w, i32_w]
 rfl }
 refine pure_ (i := 1) (N := some 148) (v := ?_) (a' := ?_) (bm_ 11 3) rfl rfl (any_of HT_.out (by kernel_rfl)) (fun _ _ _ h => h) (Or.inl ⟨by rfl, ?_⟩) ?_ ?_
 rotate_left
 {
 intro w'
 go_simp
 with_reducible rfl }
 rotate_left
 {
 simp only [Act.put, sA_, s0_, sS_, i64_w, i32_w]
 rfl }
 refine pure_ (i := 6) (N := some 153) (v := ?_) (a' := ?_) (bm_ 11 67) rfl rfl (any_of HT_.out (by kernel_rfl)) (fun _ _ _ h => h) (Or.inl ⟨by rfl, ?_⟩) ?_ ?_
 rotate_left
 {
 intro w'
 go_simp
 with_reducible rfl }
 rotate_left
 {
 simp only [Act.put, sA_, s0_, sS_, i64_w, i32_w]
 rfl }
 refine take_ (i := 2) (N := some 149) (v := ?_) (a' := ?_) (bm_ 11 71) rfl rfl (take_ofW HT_.out HW_.out (by kernel_rfl)) (fun _ _ _ h => h) (Or.inl ⟨by rfl, ?_⟩) hHeld ?_ ?_
 rotate_left
 {
 rintro w' ⟨s0, s1, s2, s3, s4⟩
 go_simp
 with_reducible rfl }
 rotate_left
 {
 simp only [Act.put, sA_, s0_, sS_, i64_w, i32_w]
 rfl }
 refine pure_ (i := 3) (N := some 150) (v := ?_) (a' := ?_) (bm_ 11 79) rfl rfl (any_of HT_.out (by kernel_rfl)) (fun _ _ _ h => h) (Or.inl ⟨by rfl, ?_⟩) ?_ ?_
 rotate_left
 {
 intro w'
 go_simp
 with_reducible rfl }
 rotate_left
 {
 simp only [Act.put, sA_, s0_, sS_, i64_w, i32_w]
 rfl }
 refine pure_ (i := 4) (N := some 151) (v := ?_) (a' := ?_) (bm_ 11 95) rfl rfl (any_of HT_.out (by kernel_rfl)) (fun _ _ _ h => h) (Or.inl ⟨by rfl, ?_⟩) ?_ ?_
 rotate_left
 {
 intro w'
 go_simp
 with_reducible rfl }
 rotate_left
 {
 simp only [Act.put, sA_, s0_, sS_, i64_w, i32_w]
 rfl }
 refine take_ (i := 5) (N := some 152) (v := ?_) (a' := ?_) (bm_ 11 127) rfl rfl (take_ofW HT_.out HW_.out (by kernel_rfl)) (fun _ _ _ h => h) (Or.inl ⟨by rfl, ?_⟩) hHeld ?_ ?_
 rotate_left
 {
 rintro w' ⟨s0, s1, s2, s3, s4⟩
 go_simp
 with_reducible rfl }
 rotate_left
 {
 simp only [Act.put, sA_, s0_, sS_, i64_w, i32_w]
 rfl }
 refine take_ (i := 7) (N := some 154) (v := ?_) (a' := ?_) (bm_ 11 255) rfl rfl (take_ofW HT_.out HW_.out (by kernel_rfl)) (fun _ _ _ h => h) (Or.inl ⟨by rfl, ?_⟩) hHeld ?_ ?_
 rotate_left
 {
 rintro w' ⟨s0, s1, s2, s3, s4⟩
 go_simp
 with_reducible rfl }
 rotate_left
 {
 simp only [Act.put, sA_, s0_, sS_, i64_w, i32_w]
 rfl }
 refine pure_ (i := 8) (N := some 155) (v := ?_) (a' := ?_) (bm_ 11 511) rfl rfl (any_of HT_.out (by kernel_rfl)) (fun _ _ _ h => h) (Or.inl ⟨by rfl, ?_⟩) ?_ ?_
 rotate_left
 {
 intro w'
 go_simp
 with_reducible rfl }
 rotate_left
 {
 simp only [Act.put, sA_, s0_, sS_, i64_w, i32_w]
 rfl }
 refine pure_ (i := 9) (N := some 156) (v := ?_) (a' := ?_) (bm_ 11 1023) rfl rfl (any_of HT_.out (by kernel_rfl)) (fun _ _ _ h => h) (Or.inl ⟨by rfl, ?_⟩) ?_ ?_
 rotate_left
 {
 intro w'
 go_simp
 with_reducible rfl }
 rotate_left
 {
 simp only [Act.put, sA_, s0_, sS_, i64_w, i32_w]
 rfl }
 refine pure_ (i := 10) (N := some 12) (v := ?_) (a' := ?_) (bm_ 11 2047) rfl rfl (any_of HT_.out (by kernel_rfl)) (fun _ _ _ h => h) (Or.inl ⟨by rfl, ?_⟩) ?_ ?_
 rotate_left
 {
 intro w'
 go_simp
 with_reducible rfl }
 rotate_left
 {
 simp only [Act.put, sA_, s0_, sS_, i64_w, i32_w]
 rfl }
 refine done_ (done_of HT_.out (by kernel_rfl)) ?_
 try go_wp2
 go_ret
 exact ⟨by first | rfl | (simp [errW_none, errW_some] <;> rfl) | (simp only [← hji61]; first | rfl | (simp [errW_none, errW_some] <;> rfl)) | (simp [*, errW_none, errW_some] <;> rfl), by repeat (first | (with_reducible first | exact HB.out | apply below_alloc | apply pw_below_drewN | apply below_drew1 | refine below_set ?_ GE252.out | refine below_set ?_ GE270.out) | exact HB.out)⟩ }
 { as_aux_lemma => (
 rw [if_neg c67] at H
 have c67b0 : decide ((a0.size : Int) < (wrap64 ((wrap64 ((wrap64 ((rd t254 (ji61)) + ((rd_T23 ((rd_T45 t246 x8_1).f2) x9_3).f3))) - 1)) + (x11_38.size : Int)))) = false := decide_eq_false c67
 clear c67
 obtain ⟨ji70, hji70⟩ : ∃ j_ : Int, (wrap64 ((wrap64 ((rd t254 (ji61)) + ((rd_T23 ((rd_T45 t246 x8_1).f2) x9_3).f3))) - 1)) = j_ := ⟨_, rfl⟩
 replace H : (if 0 ≤ (ji70) then (if (ji70) ≤ (wrap64 ((ji70) + (x11_38.size : Int))) then (if (wrap64 ((ji70) + (x11_38.size : Int))) ≤ (a0.size : Int) then (if (a0.extract ((ji70) : Int).toNat ((wrap64 ((ji70) + (x11_38.size : Int))) : Int).toNat).toList = x11_38.toList then (hearsaylaw08_TokenPlaces.l1 kj46 a0 t246 t254 (wrap64 ((ji70) + (x11_38.size : Int))) x8_1 (wrap64 (x9_3 + 1))) else (some false)) else (none)) else (none)) else (none)) = some r := by first | (rw [hji70] at H; exact H) | (simp only [hji70] at H ⊢; exact H)
 (try rw [hji70] at c64b0)
 (try rw [hji70] at c67b0)
 have hji70w : (IntKind.i64.wrap ((wrap64 ((rd t254 (ji61)) + ((rd_T23 ((rd_T45 t246 x8_1).f2) x9_3).f3))) - 1)) = ji70 := (i64_w _).trans hji70
 by_cases c71 : 0 ≤ (ji70)
 { as_aux_lemma => (
 rw [if_pos c71] at H
 have c71b0 := eq_true c71
 have c71b1 : decide (0 ≤ (ji70)) = true := decide_eq_true c71
 clear c71
 by_cases c72 : (ji70) ≤ (wrap64 ((ji70) + (x11_38.size : Int)))
 { as_aux_lemma => (
 rw [if_pos c72] at H
 have c72b0 := eq_true c72
 have c72b1 : decide ((ji70) ≤ (wrap64 ((ji70) + (x11_38.size : Int)))) = true := decide_eq_true c72
 by_cases c73 : (wrap64 ((ji70) + (x11_38.size : Int))) ≤ (a0.size : Int)
 { as_aux_lemma => (
 rw [if_pos c73] at H
 have c73b0 := eq_true c73
 have c73b1 : decide ((wrap64 ((ji70) + (x11_38.size : Int))) ≤ (a0.size : Int)) = true := decide_eq_true c73
 by_cases c74 : (a0.extract ((ji70) : Int).toNat ((wrap64 ((ji70) + (x11_38.size : Int))) : Int).toNat).toList = x11_38.toList
 {
 rw [if_pos c74] at H
 have c74b0 : ((a0.extract ((ji70) : Int).toNat ((wrap64 ((ji70) + (x11_38.size : Int))) : Int).toNat).toList == x11_38.toList) = true := beq_iff_eq.mpr c74
 have c74b1 : ((a0.extract ((ji70) : Int).toNat ((wrap64 ((ji70) + (x11_38.size : Int))) : Int).toNat).toList != x11_38.toList) = false := bne_eq_false_iff_eq.mpr c74
 clear c74
 have H' := Aside0.mk H
 clear H
 try go_wp2
 have n0_ := Aside0.mk (Kd.S_drew HO_3.out)
 have n1_ := Aside0.mk (Kd.R_drew HO_6.out)
 have n2_ := Aside0.mk (blk_drew BK252.out)
 have n3_ := Aside0.mk (blk_drew BK270.out)
 have n4_ := Aside0.mk (Kd.C_drew HR267_2.out)
 have n5_ := Aside0.mk (Kd.C_drew HR268_2.out)
 have n6_ := Aside0.mk (below_drew1 HB.out)
 clear HO_3
 clear HO_6
 clear BK252
 clear BK270
 clear HR267_2
 clear HR268_2
 clear HB
 have HO_3 := n0_
 have HO_6 := n1_
 have BK252 := n2_
 have BK270 := n3_
 have HR267_2 := n4_
 have HR268_2 := n5_
 have HB := n6_
 clear n0_ n1_ n2_ n3_ n4_ n5_ n6_
 obtain ⟨Ao76, co76, eo76⟩ := Kd.R_slice HO_6.out
 (first | subst eo76 | (injection eo76 with f1_ f2_ f3_; have f4_ := f1_.symm; have f5_ := f3_.symm; clear f1_ f2_ f3_; subst f4_; subst f5_))
 have p272 : 0 ≤ ((ji61) : Int) := of_decide_eq_true (by first | (with_reducible assumption) | assumption)
 have q272 : (ji61) < (t254.length : Int) := of_decide_eq_true (by first | (with_reducible assumption) | assumption)
 obtain ⟨ad272, e272, hx272_0⟩ := Kd.at_int (Kd.R_reads' HO_6.out).2.2 (ji61) p272 q272
 cases e272
 replace p272 := eq_true p272
 replace q272 := eq_true q272
 refine start_ (n := 11) (S := fun w' => w'.cell? ⟨gb270, 0, none⟩ = some (.string ((rd_T23 ((rd_T45 t246 x8_1).f2) x9_3).f0)) ∧ w'.cell? ⟨gb270, 1, none⟩ = some (.bool ((rd_T23 ((rd_T45 t246 x8_1).f2) x9_3).f1)) ∧ w'.cell? ⟨gb270, 2, none⟩ = some (.int .i64 ((rd_T23 ((rd_T45 t246 x8_1).f2) x9_3).f2)) ∧ w'.cell? ⟨gb270, 3, none⟩ = some (.int .i64 ((rd_T23 ((rd_T45 t246 x8_1).f2) x9_3).f3)) ∧ w'.cell? (ad272.add ((ji61)).toNat) = some (.int .i64 (rd t254 (ji61)))) (ds := []) (bm_ 11 0) (by kernel_rfl) rfl rfl ⟨(blk_cell BK270.out 0).trans rfl, (blk_cell BK270.out 1).trans rfl, (blk_cell BK270.out 2).trans rfl, (blk_cell BK270.out 3).trans rfl, hx272_0⟩ (fun hHeld => ?_); refine with_tabW hearsaylaw08_TokenPlaces.tab22 hearsaylaw08_TokenPlaces.bits22 (fun HT_ HW_ => ?_)
 generalize wc.drew = w75 at HO_3 HO_6 BK252 BK270 HR267_2 HR268_2 HB hx272_0 hHeld ⊢
 refine pure_ (i := 0) (N := some 147) (v := ?_) (a' := ?_) (bm_ 11 1) rfl rfl (any_of HT_.out (by kernel_rfl)) (fun _ _ _ h => h) (Or.inl ⟨by rfl, ?_⟩) ?_ ?_
 rotate_left
 {
 intro w'
 go_simp
 with_reducible rfl }
 rotate_left
 {
 simp only [Act.put, sA_, s0_, sS_, i64_w, i32_w]
 rfl }
 refine pure_ (i := 1) (N := some 148) (v := ?_) (a' := ?_) (bm_ 11 3) rfl rfl (any_of HT_.out (by kernel_rfl)) (fun _ _ _ h => h) (Or.inl ⟨by rfl, ?_⟩) ?_ ?_
 rotate_left
 {
 intro w'
 go_simp
 with_reducible rfl }
 rotate_left
 {
 simp only [Act.put, sA_, s0_, sS_, i64_w, i32_w]
 rfl }
 refine pure_ (i := 6) (N := some 153) (v := ?_) (a' := ?_) (bm_ 11 67) rfl rfl (any_of HT_.out (by kernel_rfl)) (fun _ _ _ h => h) (Or.inl ⟨by rfl, ?_⟩) ?_ ?_
 rotate_left
 {
 intro w'
 go_simp
 with_reducible rfl }
 rotate_left
 {
 simp only [Act.put, sA_, s0_, sS_, i64_w, i32_w]
 rfl }
 refine take_ (i := 2) (N := some 149) (v := ?_) (a' := ?_) (bm_ 11 71) rfl rfl (take_ofW HT_.out HW_.out (by kernel_rfl)) (fun _ _ _ h => h) (Or.inl ⟨by rfl, ?_⟩) hHeld ?_ ?_
 rotate_left
 {
 rintro w' ⟨s0, s1, s2, s3, s4⟩
 go_simp
 with_reducible rfl }
 rotate_left
 {
 simp only [Act.put, sA_, s0_, sS_, i64_w, i32_w]
 rfl }
 refine pure_ (i := 3) (N := some 150) (v := ?_) (a' := ?_) (bm_ 11 79) rfl rfl (any_of HT_.out (by kernel_rfl)) (fun _ _ _ h => h) (Or.inl ⟨by rfl, ?_⟩) ?_ ?_
 rotate_left
 {
 intro w'
 go_simp
 with_reducible rfl }
 rotate_left
 {
 simp only [Act.put, sA_, s0_, sS_, i64_w, i32_w]
 rfl }
 refine pure_ (i := 4) (N := some 151) (v := ?_) (a' := ?_) (bm_ 11 95) rfl rfl (any_of HT_.out (by kernel_rfl)) (fun _ _ _ h => h) (Or.inl ⟨by rfl, ?_⟩) ?_ ?_
 rotate_left
 {
 intro w'
 go_simp
 with_reducible rfl }
 rotate_left
 {
 simp only [Act.put, sA_, s0_, sS_, i64_w, i32_w]
 rfl }
 refine take_ (i := 5) (N := some 152) (v := ?_) (a' := ?_) (bm_ 11 127) rfl rfl (take_ofW HT_.out HW_.out (by kernel_rfl)) (fun _ _ _ h => h) (Or.inl ⟨by rfl, ?_⟩) hHeld ?_ ?_
 rotate_left
 {
 rintro w' ⟨s0, s1, s2, s3, s4⟩
 go_simp
 with_reducible rfl }
 rotate_left
 {
 simp only [Act.put, sA_, s0_, sS_, i64_w, i32_w]
 rfl }
 refine take_ (i := 7) (N := some 154) (v := ?_) (a' := ?_) (bm_ 11 255) rfl rfl (take_ofW HT_.out HW_.out (by kernel_rfl)) (fun _ _ _ h => h) (Or.inl ⟨by rfl, ?_⟩) hHeld ?_ ?_
 rotate_left
 {
 rintro w' ⟨s0, s1, s2, s3, s4⟩
 go_simp
 with_reducible rfl }
 rotate_left
 {
 simp only [Act.put, sA_, s0_, sS_, i64_w, i32_w]
 rfl }
 refine pure_ (i := 8) (N := some 155) (v := ?_) (a' := ?_) (bm_ 11 511) rfl rfl (any_of HT_.out (by kernel_rfl)) (fun _ _ _ h => h) (Or.inl ⟨by rfl, ?_⟩) ?_ ?_
 rotate_left
 {
 intro w'
 go_simp
 with_reducible rfl }
 rotate_left
 {
 simp only [Act.put, sA_, s0_, sS_, i64_w, i32_w]
 rfl }
 refine pure_ (i := 9) (N := some 156) (v := ?_) (a' := ?_) (bm_ 11 1023) rfl rfl (any_of HT_.out (by kernel_rfl)) (fun _ _ _ h => h) (Or.inl ⟨by rfl, ?_⟩) ?_ ?_
 rotate_left
 {
 intro w'
 go_simp
 with_reducible rfl }
 rotate_left
 {
 simp only [Act.put, sA_, s0_, sS_, i64_w, i32_w]
 rfl }
 refine pure_ (i := 10) (N := some 12) (v := ?_) (a' := ?_) (bm_ 11 2047) rfl rfl (any_of HT_.out (by kernel_rfl)) (fun _ _ _ h => h) (Or.inl ⟨by rfl, ?_⟩) ?_ ?_
 rotate_left
 {
 intro w'
 go_simp
 with_reducible rfl }
 rotate_left
 {
 simp only [Act.put, sA_, s0_, sS_, i64_w, i32_w]
 rfl }
 refine done_ (done_of HT_.out (by kernel_rfl)) ?_
 try go_wp2
 go_roundg kj46
 case measure => have := HK1.out; have := HJ10.out; have := HK3.out; have := HJ38.out; have := HJ46.out; omega
 case rel => exact ⟨(wrap64 ((ji70) + (x11_38.size : Int))), (wrap64 (x9_3 + 1)), (by first | rfl | (simp; done) | (simp only [← hji70] <;> (first | rfl | simp)) | (simp [*]; done)), (by first | rfl | (simp; done) | (simp [*]; done)), H', ⟨by have := HK1.out; have := HJ10.out; have := HK3.out; have := HJ38.out; have := HJ46.out; omega⟩, ⟨by (with_reducible repeat (first | apply Kd.S_alloc | apply Kd.S_drewN | apply Kd.S_drew)); exact Kd.S_mono HO_3.out (fun _ hk => trivial)⟩, ⟨by (with_reducible repeat (first | apply Kd.R_alloc | apply Kd.R_drewN | apply Kd.R_drew)); exact HO_6.out⟩, ⟨by (with_reducible repeat (first | refine blk_drewN ?_ _ | refine blk_drew ?_ | refine blk_alloc ?_ _)); exact BK252.out⟩, ⟨by repeat (first | (with_reducible first | exact HB.out | apply below_alloc | apply pw_below_drewN | apply below_drew1 | refine below_set ?_ GE252.out | refine below_set ?_ GE270.out) | exact HB.out)⟩⟩ }
 {
 rw [if_neg c74] at H
 have c74b0 : ((a0.extract ((ji70) : Int).toNat ((wrap64 ((ji70) + (x11_38.size : Int))) : Int).toNat).toList == x11_38.toList) = false := beq_eq_false_iff_ne.mpr c74
 have c74b1 : ((a0.extract ((ji70) : Int).toNat ((wrap64 ((ji70) + (x11_38.size : Int))) : Int).toNat).toList != x11_38.toList) = true := bne_iff_ne.mpr c74
 obtain rfl := Option.some.inj H
 try go_wp2
 have n0_ := Aside0.mk (Kd.S_drew HO_3.out)
 have n1_ := Aside0.mk (Kd.R_drew HO_6.out)
 have n2_ := Aside0.mk (blk_drew BK252.out)
 have n3_ := Aside0.mk (blk_drew BK270.out)
 have n4_ := Aside0.mk (Kd.C_drew HR267_2.out)
 have n5_ := Aside0.mk (Kd.C_drew HR268_2.out)
 have n6_ := Aside0.mk (below_drew1 HB.out)
 clear HO_3
 clear HO_6
 clear BK252
 clear BK270
 clear HR267_2
 clear HR268_2
 clear HB
 have HO_3 := n0_
 have HO_6 := n1_
 have BK252 := n2_
 have BK270 := n3_
 have HR267_2 := n4_
 have HR268_2 := n5_
 have HB := n6_
 clear n0_ n1_ n2_ n3_ n4_ n5_ n6_
 obtain ⟨Ao78, co78, eo78⟩ := Kd.R_slice HO_6.out
 (first | subst eo78 | (injection eo78 with f1_ f2_ f3_; have f4_ := f1_.symm; have f5_ := f3_.symm; clear f1_ f2_ f3_; subst f4_; subst f5_))
 have p272 : 0 ≤ ((ji61) : Int) := of_decide_eq_true (by first | (with_reducible assumption) | assumption)
 have q272 : (ji61) < (t254.length : Int) := of_decide_eq_true (by first | (with_reducible assumption) | assumption)
 obtain ⟨ad272, e272, hx272_0⟩ := Kd.at_int (Kd.R_reads' HO_6.out).2.2 (ji61) p272 q272
 cases e272
 replace p272 := eq_true p272
 replace q272 := eq_true q272
 refine start_ (n := 11) (S := fun w' => w'.cell? ⟨gb270, 0, none⟩ = some (.string ((rd_T23 ((rd_T45 t246 x8_1).f2) x9_3).f0)) ∧ w'.cell? ⟨gb270, 1, none⟩ = some (.bool ((rd_T23 ((rd_T45 t246 x8_1).f2) x9_3).f1)) ∧ w'.cell? ⟨gb270, 2, none⟩ = some (.int .i64 ((rd_T23 ((rd_T45 t246 x8_1).f2) x9_3).f2)) ∧ w'.cell? ⟨gb270, 3, none⟩ = some (.int .i64 ((rd_T23 ((rd_T45 t246 x8_1).f2) x9_3).f3)) ∧ w'.cell? (ad272.add ((ji61)).toNat) = some (.int .i64 (rd t254 (ji61)))) (ds := []) (bm_ 11 0) (by kernel_rfl) rfl rfl ⟨(blk_cell BK270.out 0).trans rfl, (blk_cell BK270.out 1).trans rfl, (blk_cell BK270.out 2).trans rfl, (blk_cell BK270.out 3).trans rfl, hx272_0⟩ (fun hHeld => ?_); refine with_tabW hearsaylaw08_TokenPlaces.tab22 hearsaylaw08_TokenPlaces.bits22 (fun HT_ HW_ => ?_)
 generalize wc.drew = w77 at HO_3 HO_6 BK252 BK270 HR267_2 HR268_2 HB hx272_0 hHeld ⊢
 refine pure_ (i := 0) (N := some 147) (v := ?_) (a' := ?_) (bm_ 11 1) rfl rfl (any_of HT_.out (by kernel_rfl)) (fun _ _ _ h => h) (Or.inl ⟨by rfl, ?_⟩) ?_ ?_
 rotate_left
 {
 intro w'
 go_simp
 with_reducible rfl }
 rotate_left
 {
 simp only [Act.put, sA_, s0_, sS_, i64_w, i32_w]
 rfl }
 refine pure_ (i := 1) (N := some 148) (v := ?_) (a' := ?_) (bm_ 11 3) rfl rfl (any_of HT_.out (by kernel_rfl)) (fun _ _ _ h => h) (Or.inl ⟨by rfl, ?_⟩) ?_ ?_
 rotate_left
 {
 intro w'
 go_simp
 with_reducible rfl }
 rotate_left
 {
 simp only [Act.put, sA_, s0_, sS_, i64_w, i32_w]
 rfl }
 refine pure_ (i := 6) (N := some 153) (v := ?_) (a' := ?_) (bm_ 11 67) rfl rfl (any_of HT_.out (by kernel_rfl)) (fun _ _ _ h => h) (Or.inl ⟨by rfl, ?_⟩) ?_ ?_
 rotate_left
 {
 intro w'
 go_simp
 with_reducible rfl }
 rotate_left
 {
 simp only [Act.put, sA_, s0_, sS_, i64_w, i32_w]
 rfl }
 refine take_ (i := 2) (N := some 149) (v := ?_) (a' := ?_) (bm_ 11 71) rfl rfl (take_ofW HT_.out HW_.out (by kernel_rfl)) (fun _ _ _ h => h) (Or.inl ⟨by rfl, ?_⟩) hHeld ?_ ?_
 rotate_left
 {
 rintro w' ⟨s0, s1, s2, s3, s4⟩
 go_simp
 with_reducible rfl }
 rotate_left
 {
 simp only [Act.put, sA_, s0_, sS_, i64_w, i32_w]
 rfl }
 refine pure_ (i := 3) (N := some 150) (v := ?_) (a' := ?_) (bm_ 11 79) rfl rfl (any_of HT_.out (by kernel_rfl)) (fun _ _ _ h => h) (Or.inl ⟨by rfl, ?_⟩) ?_ ?_
 rotate_left
 {
 intro w'
 go_simp
 with_reducible rfl }
 rotate_left
 {
 simp only [Act.put, sA_, s0_, sS_, i64_w, i32_w]
 rfl }
 refine pure_ (i := 4) (N := some 151) (v := ?_) (a' := ?_) (bm_ 11 95) rfl rfl (any_of HT_.out (by kernel_rfl)) (fun _ _ _ h => h) (Or.inl ⟨by rfl, ?_⟩) ?_ ?_
 rotate_left
 {
 intro w'
 go_simp
 with_reducible rfl }
 rotate_left
 {
 simp only [Act.put, sA_, s0_, sS_, i64_w, i32_w]
 rfl }
 refine take_ (i := 5) (N := some 152) (v := ?_) (a' := ?_) (bm_ 11 127) rfl rfl (take_ofW HT_.out HW_.out (by kernel_rfl)) (fun _ _ _ h => h) (Or.inl ⟨by rfl, ?_⟩) hHeld ?_ ?_
 rotate_left
 {
 rintro w' ⟨s0, s1, s2, s3, s4⟩
 go_simp
 with_reducible rfl }
 rotate_left
 {
 simp only [Act.put, sA_, s0_, sS_, i64_w, i32_w]
 rfl }
 refine take_ (i := 7) (N := some 154) (v := ?_) (a' := ?_) (bm_ 11 255) rfl rfl (take_ofW HT_.out HW_.out (by kernel_rfl)) (fun _ _ _ h => h) (Or.inl ⟨by rfl, ?_⟩) hHeld ?_ ?_
 rotate_left
 {
 rintro w' ⟨s0, s1, s2, s3, s4⟩
 go_simp
 with_reducible rfl }
 rotate_left
 {
 simp only [Act.put, sA_, s0_, sS_, i64_w, i32_w]
 rfl }
 refine pure_ (i := 8) (N := some 155) (v := ?_) (a' := ?_) (bm_ 11 511) rfl rfl (any_of HT_.out (by kernel_rfl)) (fun _ _ _ h => h) (Or.inl ⟨by rfl, ?_⟩) ?_ ?_
 rotate_left
 {
 intro w'
 go_simp
 with_reducible rfl }
 rotate_left
 {
 simp only [Act.put, sA_, s0_, sS_, i64_w, i32_w]
 rfl }
 refine pure_ (i := 9) (N := some 156) (v := ?_) (a' := ?_) (bm_ 11 1023) rfl rfl (any_of HT_.out (by kernel_rfl)) (fun _ _ _ h => h) (Or.inl ⟨by rfl, ?_⟩) ?_ ?_
 rotate_left
 {
 intro w'
 go_simp
 with_reducible rfl }
 rotate_left
 {
 simp only [Act.put, sA_, s0_, sS_, i64_w, i32_w]
 rfl }
 refine pure_ (i := 10) (N := some 12) (v := ?_) (a' := ?_) (bm_ 11 2047) rfl rfl (any_of HT_.out (by kernel_rfl)) (fun _ _ _ h => h) (Or.inl ⟨by rfl, ?_⟩) ?_ ?_
 rotate_left
 {
 intro w'
 go_simp
 with_reducible rfl }
 rotate_left
 {
 simp only [Act.put, sA_, s0_, sS_, i64_w, i32_w]
 rfl }
 refine done_ (done_of HT_.out (by kernel_rfl)) ?_
 try go_wp2
 go_ret
 exact ⟨by first | rfl | (simp [errW_none, errW_some] <;> rfl) | (simp only [← hji61, ← hji70]; first | rfl | (simp [errW_none, errW_some] <;> rfl)) | (simp [*, errW_none, errW_some] <;> rfl), by repeat (first | (with_reducible first | exact HB.out | apply below_alloc | apply pw_below_drewN | apply below_drew1 | refine below_set ?_ GE252.out | refine below_set ?_ GE270.out) | exact HB.out)⟩ })}
 {
 rw [if_neg c73] at H
 exact absurd H (by simp) })}
 {
 rw [if_neg c72] at H
 exact absurd H (by simp) })}
 {
 rw [if_neg c71] at H
 exact absurd H (by simp) })})})}
 {
 rw [if_neg c63] at H
 exact absurd H (by simp) })}
 {
 rw [if_neg c62] at H
 exact absurd H (by simp) })})))))))}
 {
 rw [if_neg c38] at H
 exact absurd H (by simp) })}
 {
 rw [if_neg c37] at H
 have c37b0 : decide (x9_3 < (((rd_T45 t246 x8_1).f2).length : Int)) = false := decide_eq_false c37
 clear c37
 have H' := Aside0.mk H
 clear H
 have p267 : 0 ≤ (x8_1 : Int) := of_decide_eq_true (by first | (with_reducible assumption) | assumption)
 have q267 : x8_1 < (t246.length : Int) := of_decide_eq_true (by first | (with_reducible assumption) | assumption)
 obtain ⟨ad267, A267_2, c267_2, e267, hx267_0, hx267_1, hx267_2, hl267_2, hi267_2⟩ := at_T45 (Kd.S_reads' HO_3.out).2.2 x8_1 p267 q267
 cases e267
 obtain ⟨ce267, hce267, hMe267, hcc267⟩ := Kd.S_get HO_3.out z45 x8_1 p267 (by first | exact q267 | exact of_decide_eq_true (by first | (with_reducible assumption) | assumption) | (have e_ := (Kd.S_reads' HO_3.out).1; omega))
 obtain ⟨ve267_2, rfl, ge267_2⟩ := k45_openM hMe267
 have hv267_2 := hcc267 2 _ rfl
 rw [add_field _ _ 2 (by omega)] at hv267_2
 replace hv267_2 := Option.some.inj (hv267_2.symm.trans hx267_2)
 rw [hv267_2] at ge267_2
 have HL267_2 := Aside0.mk (show Kd.R k23 23 _ _ _ _ ((rd_T45 t246 x8_1).f2) from ge267_2)
 clear hv267_2 ge267_2
 clear hcc267 hce267
 have HR267_2 := Aside0.mk hi267_2
 have HC267_2 := Aside0.mk hl267_2
 clear hi267_2 hl267_2
 replace p267 := eq_true p267
 replace q267 := eq_true q267
 go_wp2
 go_roundg k3
 case measure => have := HK1.out; have := HJ10.out; have := HK3.out; omega
 case rel => exact ⟨(x7_3), (wrap64 (x8_1 + 1)), (by first | rfl | (simp; done) | (simp [*]; done)), (by first | rfl | (simp; done) | (simp [*]; done)), H', ⟨by have := HK1.out; have := HJ10.out; have := HK3.out; omega⟩, ⟨by (with_reducible repeat (first | apply Kd.S_alloc | apply Kd.S_drewN | apply Kd.S_drew)); exact HO_3.out⟩, ⟨by (with_reducible repeat (first | apply Kd.R_alloc | apply Kd.R_drewN | apply Kd.R_drew)); exact HO_6.out⟩, ⟨by (with_reducible repeat (first | refine blk_drewN ?_ _ | refine blk_drew ?_ | refine blk_alloc ?_ _)); exact BK252.out⟩, ⟨by repeat (first | (with_reducible first | exact HB.out | apply below_alloc | apply pw_below_drewN | apply below_drew1 | refine below_set ?_ GE252.out) | exact HB.out)⟩⟩ })}
 {
 rw [if_neg c36] at H
 exact absurd H (by simp) })}
 {
 rw [if_neg c35] at H
 exact absurd H (by simp) }))))}))))}
 {
 rw [if_neg c10] at H
 have c10b0 : decide (x8_1 < (t246.length : Int)) = false := decide_eq_false c10
 clear c10
 replace H := Option.bind_eq_some_iff.mp H
 obtain ⟨t257, A790, H⟩ := H
 replace H : (some t257) = some r := H
 have A79 := Aside0.mk A790
 clear A790
 obtain rfl := Option.some.inj H
 obtain ⟨Ao80, co80, eo80⟩ := Kd.S_slice HO_3.out
 subst eo80
 go_wp2_with (first | ((with_reducible refine gate_callee (f := 15) rfl ?_); refine goesL_ (some 184) rfl rfl Try.func15 (by kernel_rfl) rfl #[] rfl (by (try simp only [List.map_toArray, List.map_cons, List.map_nil]); first | done | rfl | (simp only [List.length_drop, List.length_take]; rfl)) ?_; (with_reducible refine (hearsaylaw08_reads.calls  t257 _ A79.out).mono ?_); rintro e w81 ⟨rfl, hb⟩; refine ⟨_, rfl, ?_⟩; have n0_ := Aside0.mk (Kd.S_below (by (with_reducible repeat (first | apply Kd.S_alloc | apply Kd.S_drewN | apply Kd.S_drew)); exact HO_3.out) hb); have n1_ := Aside0.mk (Kd.R_below (by (with_reducible repeat (first | apply Kd.R_alloc | apply Kd.R_drewN | apply Kd.R_drew)); exact HO_6.out) hb); have n2_ := Aside0.mk (blk_below (g := gb252) (o := .cells #[.int .i64 t249, .int .i64 t250] 30 (0, 0)) (by (with_reducible repeat (first | refine blk_drewN ?_ _ | refine blk_drew ?_ | refine blk_alloc ?_ _)); exact BK252.out) hb); have n3_ := Aside0.mk (below_step (by repeat (first | (with_reducible first | exact HB.out | apply below_alloc | apply pw_below_drewN | apply below_drew1 | refine below_set ?_ GE252.out) | exact HB.out)) hb); clear HO_3; clear HO_6; clear BK252; clear HB; have HO_3 := n0_; have HO_6 := n1_; have BK252 := n2_; have HB := n3_; clear n0_ n1_ n2_ n3_; (try clear hb); (try clear hb2); (try clear hk); (try clear hi)))
 go_ret
 exact ⟨by first | rfl | (simp [errW_none, errW_some] <;> rfl) | (simp [*, errW_none, errW_some] <;> rfl), by repeat (first | (with_reducible first | exact HB.out | apply below_alloc | apply pw_below_drewN | apply below_drew1 | refine below_set ?_ GE252.out) | exact HB.out)⟩ }))))}
 {
 rw [if_neg c4] at H
 have c4b0 : (t251 == 0) = false := beq_eq_false_iff_ne.mpr c4
 have c4b1 : (t251 != 0) = true := bne_iff_ne.mpr c4
 by_cases c82 : (t246.length : Int) = 0
 {
 rw [if_pos c82] at H
 have c82b0 : ((t246.length : Int) == 0) = true := beq_iff_eq.mpr c82
 have c82b1 : ((t246.length : Int) != 0) = false := bne_eq_false_iff_eq.mpr c82
 clear c82
 replace H := Option.bind_eq_some_iff.mp H
 obtain ⟨t253, A830, H⟩ := H
 replace H : (some t253) = some r := H
 have A83 := Aside0.mk A830
 clear A830
 obtain rfl := Option.some.inj H
 go_enter Try.func6, Try.ntmps6
 go_wp2_with (first | ((with_reducible refine gate_callee (f := 12) rfl ?_); refine goesL_ (some 18) rfl rfl Try.func12 (by kernel_rfl) rfl #[.string a0] rfl (by (try simp only [List.map_toArray, List.map_cons, List.map_nil]); first | done | rfl | (simp only [List.length_drop, List.length_take]; rfl)) ?_; (with_reducible refine (token_Entries.calls a0 t246 t249 t250 t251 _ A3.out).mono ?_); rintro e w84 ⟨v247, rfl, ho0, hb⟩; refine ⟨_, rfl, ?_⟩; have n0_ := Aside0.mk (Kd.S_lower ho0 (below_size (by repeat (first | (with_reducible first | exact HB.out | apply below_alloc | apply pw_below_drewN | apply below_drew1) | exact HB.out)))); have n1_ := Aside0.mk (below_step (by repeat (first | (with_reducible first | exact HB.out | apply below_alloc | apply pw_below_drewN | apply below_drew1) | exact HB.out)) hb); clear HB; have HO248 := n0_; have HB := n1_; clear n0_ n1_; (try clear hb); (try clear hb2); (try clear hk); (try clear hi); (try clear ho0)) | ((with_reducible refine gate_dst (N := 4) rfl ?_); (try (refine gate_guard (by rfl) ?_; dsimp only)); refine box_event ?hg (N := 4) ?hd (cs := #[.int .i64 0, .int .i64 0]) (t := 30) ?hr ?_; (case hd => rfl); (case hg => rfl); (case hr => first | (go_simp; done) | (go_simp; rfl)); intro gb252 hg w85 hbox hb; have n0_ := Aside0.mk (Kd.S_below (by (with_reducible repeat (first | apply Kd.S_alloc | apply Kd.S_drewN | apply Kd.S_drew)); exact HO248.out) hb); have n1_ := Aside0.mk (below_step (by repeat (first | (with_reducible first | exact HB.out | apply below_alloc | apply pw_below_drewN | apply below_drew1) | exact HB.out)) hb); have n2_ := Aside0.mk (hbox); have n3_ := Aside0.mk ((by rw [hg]; exact (below_size (by repeat (first | (with_reducible first | exact HB.out | apply below_alloc | apply pw_below_drewN | apply below_drew1) | exact HB.out))) : w.heap.size ≤ gb252)); have n4_ := Aside0.mk ((by rw [hg]; exact (below_size (by repeat (first | (with_reducible first | exact HB.out | apply below_alloc | apply pw_below_drewN | apply below_drew1) | exact HB.out))) : w.heap.size ≤ gb252)); clear HO248; clear HB; have HO248 := n0_; have HB := n1_; have BK252 := n2_; have GW252 := n3_; have GE252 := n4_; clear n0_ n1_ n2_ n3_ n4_; clear hb hbox hg; have hcz86_0 : w85.cell? ⟨gb252, 0, none⟩ = some (.int .i64 0) := (blk_cell BK252.out 0).trans rfl; have hcz86_1 : w85.cell? ⟨gb252, 1, none⟩ = some (.int .i64 0) := (blk_cell BK252.out 1).trans rfl; have hfz86_0 := blk_frozen BK252.out 0; have hfz86_1 := blk_frozen BK252.out 1; obtain ⟨Ao87, co87, eo87⟩ := Kd.S_slice HO248.out; subst eo87) | (go_at_call 15; (with_reducible refine (hearsaylaw08_reads.calls  t253 _ A83.out).mono ?_); rintro e w88 ⟨rfl, hb⟩; have n0_ := Aside0.mk (Kd.S_below (by (with_reducible repeat (first | apply Kd.S_alloc | apply Kd.S_drewN | apply Kd.S_drew)); exact (Kd.S_mono (Kd.S_far (p := ⟨gb252, 1, none⟩) (Kd.S_far (p := ⟨gb252, 0, none⟩) (Kd.S_types HO248.out BK252.out (by decide)) (fun _ hk => hk.2) (.int .i64 t249)) (fun _ hk => hk.2) (.int .i64 t250)) (fun _ h_ => h_.1))) hb); have n1_ := Aside0.mk (blk_below (g := gb252) (o := .cells #[.int .i64 t249, .int .i64 t250] 30 (0, 0)) (by (with_reducible repeat (first | refine blk_drewN ?_ _ | refine blk_drew ?_ | refine blk_alloc ?_ _)); refine blk_put (cs := #[.int .i64 t249, .int .i64 0]) ?_ 1 _ rfl; (with_reducible repeat (first | refine blk_drewN ?_ _ | refine blk_drew ?_ | refine blk_alloc ?_ _)); refine blk_put (cs := #[.int .i64 0, .int .i64 0]) ?_ 0 _ rfl; (with_reducible repeat (first | refine blk_drewN ?_ _ | refine blk_drew ?_ | refine blk_alloc ?_ _)); exact BK252.out) hb); have n2_ := Aside0.mk (below_step (by repeat (first | (with_reducible first | exact HB.out | apply below_alloc | apply pw_below_drewN | apply below_drew1 | refine below_set ?_ GE252.out) | exact HB.out)) hb); clear HO248; clear BK252; clear HB; have HO248 := n0_; have BK252 := n1_; have HB := n2_; clear n0_ n1_ n2_; (try clear hb); (try clear hb2); (try clear hk); (try clear hi)))
 go_ret
 exact ⟨by first | rfl | (simp [errW_none, errW_some] <;> rfl) | (simp [*, errW_none, errW_some] <;> rfl), by repeat (first | (with_reducible first | exact HB.out | apply below_alloc | apply pw_below_drewN | apply below_drew1 | refine below_set ?_ GE252.out) | exact HB.out)⟩ }
 {
 rw [if_neg c82] at H
 have c82b0 : ((t246.length : Int) == 0) = false := beq_eq_false_iff_ne.mpr c82
 have c82b1 : ((t246.length : Int) != 0) = true := bne_iff_ne.mpr c82
 have c82b2 : ¬ (t246 = []) := fun h_ => c82 (by rw [h_]; rfl)
 obtain rfl := Option.some.inj H
 go_enter Try.func6, Try.ntmps6
 go_wp2_with (first | ((with_reducible refine gate_callee (f := 12) rfl ?_); refine goesL_ (some 18) rfl rfl Try.func12 (by kernel_rfl) rfl #[.string a0] rfl (by (try simp only [List.map_toArray, List.map_cons, List.map_nil]); first | done | rfl | (simp only [List.length_drop, List.length_take]; rfl)) ?_; (with_reducible refine (token_Entries.calls a0 t246 t249 t250 t251 _ A3.out).mono ?_); rintro e w89 ⟨v247, rfl, ho0, hb⟩; refine ⟨_, rfl, ?_⟩; have n0_ := Aside0.mk (Kd.S_lower ho0 (below_size (by repeat (first | (with_reducible first | exact HB.out | apply below_alloc | apply pw_below_drewN | apply below_drew1) | exact HB.out)))); have n1_ := Aside0.mk (below_step (by repeat (first | (with_reducible first | exact HB.out | apply below_alloc | apply pw_below_drewN | apply below_drew1) | exact HB.out)) hb); clear HB; have HO248 := n0_; have HB := n1_; clear n0_ n1_; (try clear hb); (try clear hb2); (try clear hk); (try clear hi); (try clear ho0)) | ((with_reducible refine gate_dst (N := 4) rfl ?_); (try (refine gate_guard (by rfl) ?_; dsimp only)); refine box_event ?hg (N := 4) ?hd (cs := #[.int .i64 0, .int .i64 0]) (t := 30) ?hr ?_; (case hd => rfl); (case hg => rfl); (case hr => first | (go_simp; done) | (go_simp; rfl)); intro gb252 hg w90 hbox hb; have n0_ := Aside0.mk (Kd.S_below (by (with_reducible repeat (first | apply Kd.S_alloc | apply Kd.S_drewN | apply Kd.S_drew)); exact HO248.out) hb); have n1_ := Aside0.mk (below_step (by repeat (first | (with_reducible first | exact HB.out | apply below_alloc | apply pw_below_drewN | apply below_drew1) | exact HB.out)) hb); have n2_ := Aside0.mk (hbox); have n3_ := Aside0.mk ((by rw [hg]; exact (below_size (by repeat (first | (with_reducible first | exact HB.out | apply below_alloc | apply pw_below_drewN | apply below_drew1) | exact HB.out))) : w.heap.size ≤ gb252)); have n4_ := Aside0.mk ((by rw [hg]; exact (below_size (by repeat (first | (with_reducible first | exact HB.out | apply below_alloc | apply pw_below_drewN | apply below_drew1) | exact HB.out))) : w.heap.size ≤ gb252)); clear HO248; clear HB; have HO248 := n0_; have HB := n1_; have BK252 := n2_; have GW252 := n3_; have GE252 := n4_; clear n0_ n1_ n2_ n3_ n4_; clear hb hbox hg; have hcz91_0 : w90.cell? ⟨gb252, 0, none⟩ = some (.int .i64 0) := (blk_cell BK252.out 0).trans rfl; have hcz91_1 : w90.cell? ⟨gb252, 1, none⟩ = some (.int .i64 0) := (blk_cell BK252.out 1).trans rfl; have hfz91_0 := blk_frozen BK252.out 0; have hfz91_1 := blk_frozen BK252.out 1; obtain ⟨Ao92, co92, eo92⟩ := Kd.S_slice HO248.out; subst eo92))
 go_ret
 exact ⟨by first | rfl | (simp [errW_none, errW_some] <;> rfl) | (simp [*, errW_none, errW_some] <;> rfl), by repeat (first | (with_reducible first | exact HB.out | apply below_alloc | apply pw_below_drewN | apply below_drew1 | refine below_set ?_ GE252.out) | exact HB.out)⟩ }})}
/-- THE ONE PURE STATEMENT of hearsaylaw08_TokenPlaces: yours. -/
theorem hearsaylaw08_TokenPlaces.walk (P : hearsaylaw08_TokenPlaces.Pure) (a0 : ByteArray) (w : World) (w0 : a0.size ≤ 140737488351232) :
    Calls Try.prog 6 #[.string a0] w fun e w' => e = .returned (.bool true) ∧ Below w.heap.size w w' := by
  obtain ⟨k, h⟩ := P a0 w0
  refine (hearsaylaw08_TokenPlaces.calls k a0 true w h).mono ?_
  rintro e w' ⟨rfl, hd⟩
  exact ⟨rfl, hd⟩

end Go.Proofs.Ytafminohaofjnaa.Print
