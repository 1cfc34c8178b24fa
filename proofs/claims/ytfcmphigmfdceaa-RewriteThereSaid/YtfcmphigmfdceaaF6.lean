-- Written by a program of this session, built on the kit's print (it is not the print's own text).
import Derived.Test.YtfcmphigmfdceaaKinds
import Derived.Test.YtfcmphigmfdceaaEq32
import Derived.Test.YtfcmphigmfdceaaF15
import Derived.Test.YtfcmphigmfdceaaF19
import Derived.Test.YtfcmphigmfdceaaF18
import Derived.Test.YtfcmphigmfdceaaXAsk
import Derived.Test.YtfcmphigmfdceaaF6D
import Derived.Test.YtfcmphigmfdceaaXBits
namespace Go.Proofs.Ytfcmphigmfdceaa.Print
open Go.RowKit Go.Proofs.YtfcmphigmfdceaaW.PrintWords Go.Proofs.YtfcmphigmfdceaaW.PrintLast Go.Proofs.YtfcmphigmfdceaaW.PrintMore
set_option linter.unusedVariables false
set_option linter.unusedSimpArgs false

attribute [local go_sem high] eqA32
def hearsaylaw25_RewriteThere.T10 : Bool × List (List Nat × List Nat) := (true, [([], []), ([0], [0]), ([1], [1]), ([2, 1], [1, 2]), ([1], [1]), ([4, 1], [1, 4]), ([3, 5, 1, 1], [1, 3, 5]), ([1, 6], [1, 6]), ([7, 6], [7]), ([8], [8]), ([9, 8], [8, 9]), ([8], [8]), ([11, 8], [8, 11]), ([10, 12, 8], [8, 10, 12]), ([8, 13], [8, 13]), ([14, 8], [14]), ([15], [15]), ([16, 15], [15, 16]), ([15], [15]), ([18, 15], [15, 18]), ([17, 19, 15], [15, 17, 19]), ([15, 20], [15, 20]), ([21, 15], [21]), ([22], [22]), ([23, 22], [22, 23]), ([24, 22, 22], [22, 24]), ([25, 22], [22, 25]), ([22], [22]), ([27, 22], [22, 27]), ([28, 25, 22], [22, 28]), ([29, 22], [22, 29]), ([22], [22]), ([31, 29, 22], [22, 31]), ([32, 22], [22, 32]), ([30, 33, 22], [22, 30, 33]), ([22], [22]), ([35, 32, 22], [22, 35]), ([36, 22], [22, 36]), ([34, 37, 22], [22, 34, 37]), ([26, 38, 22], [22, 26, 38]), ([22, 39], [22, 39]), ([40, 36], [40]), ([41, 41], [41]), ([41, 42], [41, 42]), ([43, 42, 0, 1, 2, 3, 4, 5, 6, 7, 8, 9, 10, 11, 12, 13, 14, 15, 16, 17, 18, 19, 20, 21, 22, 23, 24, 25, 26, 27, 28, 29, 30, 31, 32, 33, 34, 35, 36, 37, 38, 39, 40, 41, 42, 43], [43])])
def hearsaylaw25_RewriteThere.B10 : List Nat := [0, 1, 3, 7, 3, 19, 63, 127, 255, 511, 1023, 511, 2559, 8191, 16383, 32767, 65535, 131071, 65535, 327679, 1048575, 2097151, 4194303, 8388607, 16777215, 33554431, 67108863, 8388607, 142606335, 469762047, 1006632959, 8388607, 3154116607, 7449083903, 17112760319, 8388607, 41808822271, 110528299007, 274810798079, 549755813887, 1099511627775, 2199023255551, 4398046511103, 8796093022207, 17592186044415]
theorem hearsaylaw25_RewriteThere.tab10 : rtab .any (opsOf Try.f6 10) = hearsaylaw25_RewriteThere.T10 := by kernel_rfl
theorem hearsaylaw25_RewriteThere.bits10 : waitsOk hearsaylaw25_RewriteThere.T10.2 hearsaylaw25_RewriteThere.B10 = true := by kernel_rfl
set_option maxHeartbeats 40000000 in
set_option maxRecDepth 100000 in
theorem hearsaylaw25_RewriteThere.calls (k : Nat) (a0_0 : ByteArray) (a0_1 : Int) (a0_2 : Int) (a1 : ByteArray) (a2 : ByteArray) (a3 : Bool) (r : Bool) (w : World) (h : hearsaylaw25_RewriteThere.f k a0_0 a0_1 a0_2 a1 a2 a3 = some r) :
    Calls Try.prog 6 #[.agg #[.string a0_0, .int .u16 a0_1, .int .u16 a0_2], .string a1, .string a2, .bool a3] w fun e w' => e = .returned (.bool r) ∧ Below w.heap.size w w' := by
 have hu32 := Try.underlying32
 have hu38 := Try.underlying38
 have HB := am_ (Below.refl w.heap.size w)
 have H : (if (a0_0.size : Int) > 2000 then (hearsaylaw25_RewriteThere.j0 k a1 a2 a3 true a0_0 a0_1 a0_2) else (if (a1.size : Int) > 2000 then (hearsaylaw25_RewriteThere.j0 k a1 a2 a3 true a0_0 a0_1 a0_2) else (hearsaylaw25_RewriteThere.j0 k a1 a2 a3 (decide ((a2.size : Int) > 2000)) a0_0 a0_1 a0_2))) = some r := h
 clear h
 have HC5 := am_ H
 clear H
 go_enter Try.func6, Try.ntmps6
 go_upto_region 1 with (first | ((with_reducible refine gate_dst (N := 4) rfl ?_); (try (refine gate_guard (by rfl) ?_; dsimp only)); refine box_event ?hg (N := 4) ?hd (cs := #[.string a0_0, .int .u16 a0_1, .int .u16 a0_2]) (t := 32) ?hr ?_; (case hd => rfl); (case hg => rfl); (case hr => first | (go_simp; done) | (go_simp; rfl)); intro gb275 hg w6 hbox hb; have n0_ := am_ (below_step (by repeat (first | (with_reducible first | exact HB.out | apply below_alloc | apply pw_below_drewN | apply below_drew1) | exact HB.out)) hb); have n1_ := am_ (hbox); have n2_ := am_ ((by rw [hg]; exact (below_size (by repeat (first | (with_reducible first | exact HB.out | apply below_alloc | apply pw_below_drewN | apply below_drew1) | exact HB.out))) : w.heap.size ≤ gb275)); have n3_ := am_ ((by rw [hg]; exact (below_size (by repeat (first | (with_reducible first | exact HB.out | apply below_alloc | apply pw_below_drewN | apply below_drew1) | exact HB.out))) : w.heap.size ≤ gb275)); clear HB; have HB := n0_; have BK275 := n1_; have GW275 := n2_; have GE275 := n3_; clear n0_ n1_ n2_ n3_; clear hb hbox hg))
 (try simp only [Act.put, List.setIfInBounds_toArray, List.set_cons_zero, List.set_cons_succ])
 go_cut [27] (fun v27 wc => ∃ (kq : Nat) (x27_4 : Bool), v27 = .bool x27_4 ∧ Aside0 (hearsaylaw25_RewriteThere.j0 kq a1 a2 a3 x27_4 a0_0 a0_1 a0_2 = some r) ∧ Aside0 (kq ≤ k) ∧ Aside0 (wc.heap[gb275]? = some (.cells #[.string a0_0, .int .u16 a0_1, .int .u16 a0_2] 32 (0, 0))) ∧ Aside0 (Below w.heap.size w wc))
 case first => (
 have H := HC5.out
 clear HC5
 by_cases c7 : (a0_0.size : Int) > 2000
 {
 rw [if_pos c7] at H
 have c7b0 : decide (2000 < (a0_0.size : Int)) = true := decide_eq_true c7
 have c7b1 : decide (2000 < a0_0.size) = true := decide_eq_true (by omega)
 clear c7
 (first | rw [c7b0] | (simp only [i64_w, i32_w]; rw [c7b0]) | skip)
 have H' := am_ H
 clear H
 have hcz8_0 : w6.cell? ⟨gb275, 0, none⟩ = some (.string a0_0) := (blk_cell BK275.out 0).trans rfl
 have hcz8_1 : w6.cell? ⟨gb275, 1, none⟩ = some (.int .u16 a0_1) := (blk_cell BK275.out 1).trans rfl
 have hcz8_2 : w6.cell? ⟨gb275, 2, none⟩ = some (.int .u16 a0_2) := (blk_cell BK275.out 2).trans rfl
 have hfz8_0 := blk_frozen BK275.out 0
 have hfz8_1 := blk_frozen BK275.out 1
 have hfz8_2 := blk_frozen BK275.out 2
 go_wp2
 go_meet
 case rel => exact ⟨_, (true), (by first | rfl | (simp; done) | (simp [*]; done)), H', ⟨by first | omega | exact Nat.le_refl _⟩, ⟨by (with_reducible repeat (first | refine blk_drewN ?_ _ | refine blk_drew ?_ | refine blk_alloc ?_ _)); exact BK275.out⟩, ⟨by repeat (first | (with_reducible first | exact HB.out | apply below_alloc | apply pw_below_drewN | apply below_drew1 | refine below_set ?_ GE275.out) | exact HB.out)⟩⟩ }
 {
 rw [if_neg c7] at H
 have c7b0 : decide (2000 < (a0_0.size : Int)) = false := decide_eq_false c7
 have c7b1 : decide (2000 < a0_0.size) = false := decide_eq_false (by omega)
 clear c7
 (first | rw [c7b0] | (simp only [i64_w, i32_w]; rw [c7b0]) | skip)
 by_cases c9 : (a1.size : Int) > 2000
 {
 rw [if_pos c9] at H
 have c9b0 : decide (2000 < (a1.size : Int)) = true := decide_eq_true c9
 have c9b1 : decide (2000 < a1.size) = true := decide_eq_true (by omega)
 clear c9
 have H' := am_ H
 clear H
 have hcz10_0 : w6.cell? ⟨gb275, 0, none⟩ = some (.string a0_0) := (blk_cell BK275.out 0).trans rfl
 have hcz10_1 : w6.cell? ⟨gb275, 1, none⟩ = some (.int .u16 a0_1) := (blk_cell BK275.out 1).trans rfl
 have hcz10_2 : w6.cell? ⟨gb275, 2, none⟩ = some (.int .u16 a0_2) := (blk_cell BK275.out 2).trans rfl
 have hfz10_0 := blk_frozen BK275.out 0
 have hfz10_1 := blk_frozen BK275.out 1
 have hfz10_2 := blk_frozen BK275.out 2
 go_wp2
 go_meet
 case rel => exact ⟨_, (true), (by first | rfl | (simp; done) | (simp [*]; done)), H', ⟨by first | omega | exact Nat.le_refl _⟩, ⟨by (with_reducible repeat (first | refine blk_drewN ?_ _ | refine blk_drew ?_ | refine blk_alloc ?_ _)); exact BK275.out⟩, ⟨by repeat (first | (with_reducible first | exact HB.out | apply below_alloc | apply pw_below_drewN | apply below_drew1 | refine below_set ?_ GE275.out) | exact HB.out)⟩⟩ }
 {
 rw [if_neg c9] at H
 have c9b0 : decide (2000 < (a1.size : Int)) = false := decide_eq_false c9
 have c9b1 : decide (2000 < a1.size) = false := decide_eq_false (by omega)
 clear c9
 have H' := am_ H
 clear H
 have hcz11_0 : w6.cell? ⟨gb275, 0, none⟩ = some (.string a0_0) := (blk_cell BK275.out 0).trans rfl
 have hcz11_1 : w6.cell? ⟨gb275, 1, none⟩ = some (.int .u16 a0_1) := (blk_cell BK275.out 1).trans rfl
 have hcz11_2 : w6.cell? ⟨gb275, 2, none⟩ = some (.int .u16 a0_2) := (blk_cell BK275.out 2).trans rfl
 have hfz11_0 := blk_frozen BK275.out 0
 have hfz11_1 := blk_frozen BK275.out 1
 have hfz11_2 := blk_frozen BK275.out 2
 go_wp2
 go_meet
 case rel => exact ⟨_, (decide ((a2.size : Int) > 2000)), (by first | rfl | (simp; done) | (simp [*]; done)), H', ⟨by first | omega | exact Nat.le_refl _⟩, ⟨by (with_reducible repeat (first | refine blk_drewN ?_ _ | refine blk_drew ?_ | refine blk_alloc ?_ _)); exact BK275.out⟩, ⟨by repeat (first | (with_reducible first | exact HB.out | apply below_alloc | apply pw_below_drewN | apply below_drew1 | refine below_set ?_ GE275.out) | exact HB.out)⟩⟩ }})
 case rest => (
 clear HC5
 try clear p2
 try clear c6
 try clear c7
 try clear c7b0
 try clear c7b1
 try clear c9
 try clear c9b0
 try clear c9b1
 try clear hcz10_0
 try clear hcz10_1
 try clear hcz10_2
 try clear hcz11_0
 try clear hcz11_1
 try clear hcz11_2
 try clear hcz8_0
 try clear hcz8_1
 try clear hcz8_2
 try clear hfz10_0
 try clear hfz10_1
 try clear hfz10_2
 try clear hfz11_0
 try clear hfz11_1
 try clear hfz11_2
 try clear hfz8_0
 try clear hfz8_1
 try clear hfz8_2
 obtain ⟨kq, x27_4, rfl, HA, HJ4, BK275, HB⟩ := hcut
 cases kq with
 | zero => exact absurd HA.out (by simp [hearsaylaw25_RewriteThere.j0])
 | succ kj4 => (
 have H := HA.out
 clear HA
 simp only [hearsaylaw25_RewriteThere.j0] at H
 by_cases c12 : x27_4 = true
 {
 subst c12
 have H1 : (some true) = some r := by rw [if_pos rfl] at H; exact H
 clear H
 have H := H1
 clear H1
 obtain rfl := Option.some.inj H
 go_wp2
 go_ret
 exact ⟨by first | rfl | (simp [errW_none, errW_some] <;> rfl) | (simp [*, errW_none, errW_some] <;> rfl), by repeat (first | (with_reducible first | exact HB.out | apply below_alloc | apply pw_below_drewN | apply below_drew1 | refine below_set ?_ GE275.out) | exact HB.out)⟩ }
 {
 replace c12 := Bool.eq_false_iff.mpr c12
 subst c12
 have H1 : (if a3 = true then (hearsaylaw25_RewriteThere.j1 kj4 a1 a2 3 a0_0 a0_1 a0_2) else (hearsaylaw25_RewriteThere.j1 kj4 a1 a2 2 a0_0 a0_1 a0_2)) = some r := by rw [if_neg (show ¬ (false = true) by decide)] at H; exact H
 clear H
 have H := H1
 clear H1
 have HC13 := am_ H
 clear H
 go_upto_if 28 with (fail)
 go_cut [9] (fun v9 wc => ∃ (kq : Nat) (x9_12 : Int), v9 = .int .u8 x9_12 ∧ Aside0 (hearsaylaw25_RewriteThere.j1 kq a1 a2 x9_12 a0_0 a0_1 a0_2 = some r) ∧ Aside0 (kq ≤ kj4) ∧ Aside0 (wc.heap[gb275]? = some (.cells #[.string a0_0, .int .u16 a0_1, .int .u16 a0_2] 32 (0, 0))) ∧ Aside0 (Below w.heap.size w wc))
 case first => (
 have H := HC13.out
 clear HC13
 by_cases c14 : a3 = true
 {
 subst c14
 have H1 : (hearsaylaw25_RewriteThere.j1 kj4 a1 a2 3 a0_0 a0_1 a0_2) = some r := by rw [if_pos rfl] at H; exact H
 clear H
 have H := H1
 clear H1
 have H' := am_ H
 clear H
 go_wp2
 go_meet
 case rel => exact ⟨_, (3), (by first | rfl | (simp; done) | (simp [*]; done)), H', ⟨by have := HJ4.out; first | omega | exact Nat.le_refl _⟩, ⟨by (with_reducible repeat (first | refine blk_drewN ?_ _ | refine blk_drew ?_ | refine blk_alloc ?_ _)); exact BK275.out⟩, ⟨by repeat (first | (with_reducible first | exact HB.out | apply below_alloc | apply pw_below_drewN | apply below_drew1 | refine below_set ?_ GE275.out) | exact HB.out)⟩⟩ }
 {
 replace c14 := Bool.eq_false_iff.mpr c14
 subst c14
 have H1 : (hearsaylaw25_RewriteThere.j1 kj4 a1 a2 2 a0_0 a0_1 a0_2) = some r := by rw [if_neg (show ¬ (false = true) by decide)] at H; exact H
 clear H
 have H := H1
 clear H1
 have H' := am_ H
 clear H
 go_wp2
 go_meet
 case rel => exact ⟨_, (2), (by first | rfl | (simp; done) | (simp [*]; done)), H', ⟨by have := HJ4.out; first | omega | exact Nat.le_refl _⟩, ⟨by (with_reducible repeat (first | refine blk_drewN ?_ _ | refine blk_drew ?_ | refine blk_alloc ?_ _)); exact BK275.out⟩, ⟨by repeat (first | (with_reducible first | exact HB.out | apply below_alloc | apply pw_below_drewN | apply below_drew1 | refine below_set ?_ GE275.out) | exact HB.out)⟩⟩ })
 case rest => (
 clear HC13
 try clear c1
 try clear p2
 try clear c6
 try clear c7
 try clear c7b0
 try clear c7b1
 try clear c9
 try clear c9b0
 try clear c9b1
 try clear c12
 try clear c14
 try clear hcz10_0
 try clear hcz10_1
 try clear hcz10_2
 try clear hcz11_0
 try clear hcz11_1
 try clear hcz11_2
 try clear hcz8_0
 try clear hcz8_1
 try clear hcz8_2
 try clear hfz10_0
 try clear hfz10_1
 try clear hfz10_2
 try clear hfz11_0
 try clear hfz11_1
 try clear hfz11_2
 try clear hfz8_0
 try clear hfz8_1
 try clear hfz8_2
 try clear p2
 obtain ⟨kq, x9_12, rfl, HA, HJ12, BK275, HB⟩ := hcut
 cases kq with
 | zero => exact absurd HA.out (by simp [hearsaylaw25_RewriteThere.j1])
 | succ kj12 => (
 have H := HA.out
 clear HA
 simp only [hearsaylaw25_RewriteThere.j1] at H
 obtain ⟨y276, hy276⟩ : ∃ y_ : List (S38), y_ = (([(⟨x9_12, a1, a2, 0, 0⟩ : S38)] : List (S38))) := ⟨_, rfl⟩
 replace H : ((rewrite_Ask.f y276 a0_0 a0_1 a0_2).bind fun bt279 => (if bt279.2.2.2 = true then ((rewrite_Ask.f (([(⟨x9_12, a2, a1, 0, 0⟩ : S38)] : List (S38))) bt279.1 bt279.2.1 bt279.2.2.1).bind fun bt288 => (if bt288.2.2.2 = true then ((hearsayref01_Alike.f bt288.1 a0_0).bind fun t293 => (if t293 = true then (if bt288.2.1 = a0_1 then (if bt288.2.2.1 = a0_2 then ((hearsayref01_Labels.f kj12 bt279.1).bind fun t294 => ((hearsayref01_Labels.f kj12 a0_0).bind fun t297 => ((hearsayref01_Labels.f kj12 a1).bind fun t300 => ((hearsayref01_Labels.f kj12 a2).bind fun t303 => (if (t294.length : Int) = (wrap64 ((wrap64 ((t297.length : Int) - (t300.length : Int))) + (t303.length : Int))) then ((hearsaylaw25_asks.f).bind fun t306 => (some t306)) else (some false)))))) else (some false)) else (some false)) else (some false))) else (some false))) else (if (bt279.1.toList == ([] : List UInt8) && (bt279.2.1 == 0 && (bt279.2.2.1 == 0))) = true then ((hearsaylaw25_asks.f).bind fun t284 => (some t284)) else (some false)))) = some r := by first | (rw [hy276]; with_reducible exact H) | (have H2_ := (Option.bind_some _ _).symm.trans H; rw [hy276]; with_reducible exact H2_) | (have H2_ := (Option.bind_some _ _).symm.trans H; with_reducible exact H2_) | with_reducible exact H | (rw [hy276]; exact H) | exact H
 have Ny276 := am_ hy276
 clear hy276
 replace H := Option.bind_eq_some_iff.mp H
 obtain ⟨⟨t279, t280, t281, t282⟩, A150, H⟩ := H
 replace H : (if t282 = true then ((rewrite_Ask.f (([(⟨x9_12, a2, a1, 0, 0⟩ : S38)] : List (S38))) t279 t280 t281).bind fun bt288 => (if bt288.2.2.2 = true then ((hearsayref01_Alike.f bt288.1 a0_0).bind fun t293 => (if t293 = true then (if bt288.2.1 = a0_1 then (if bt288.2.2.1 = a0_2 then ((hearsayref01_Labels.f kj12 t279).bind fun t294 => ((hearsayref01_Labels.f kj12 a0_0).bind fun t297 => ((hearsayref01_Labels.f kj12 a1).bind fun t300 => ((hearsayref01_Labels.f kj12 a2).bind fun t303 => (if (t294.length : Int) = (wrap64 ((wrap64 ((t297.length : Int) - (t300.length : Int))) + (t303.length : Int))) then ((hearsaylaw25_asks.f).bind fun t306 => (some t306)) else (some false)))))) else (some false)) else (some false)) else (some false))) else (some false))) else (if (t279.toList == ([] : List UInt8) && (t280 == 0 && (t281 == 0))) = true then ((hearsaylaw25_asks.f).bind fun t284 => (some t284)) else (some false))) = some r := H
 have A15 := am_ A150
 clear A150
 by_cases c16 : t282 = true
 {
 subst c16
 have H1 : ((rewrite_Ask.f (([(⟨x9_12, a2, a1, 0, 0⟩ : S38)] : List (S38))) t279 t280 t281).bind fun bt288 => (if bt288.2.2.2 = true then ((hearsayref01_Alike.f bt288.1 a0_0).bind fun t293 => (if t293 = true then (if bt288.2.1 = a0_1 then (if bt288.2.2.1 = a0_2 then ((hearsayref01_Labels.f kj12 t279).bind fun t294 => ((hearsayref01_Labels.f kj12 a0_0).bind fun t297 => ((hearsayref01_Labels.f kj12 a1).bind fun t300 => ((hearsayref01_Labels.f kj12 a2).bind fun t303 => (if (t294.length : Int) = (wrap64 ((wrap64 ((t297.length : Int) - (t300.length : Int))) + (t303.length : Int))) then ((hearsaylaw25_asks.f).bind fun t306 => (some t306)) else (some false)))))) else (some false)) else (some false)) else (some false))) else (some false))) = some r := by rw [if_pos rfl] at H; exact H
 clear H
 have H := H1
 clear H1
 obtain ⟨y285, hy285⟩ : ∃ y_ : List (S38), y_ = (([(⟨x9_12, a2, a1, 0, 0⟩ : S38)] : List (S38))) := ⟨_, rfl⟩
 replace H : ((rewrite_Ask.f y285 t279 t280 t281).bind fun bt288 => (if bt288.2.2.2 = true then ((hearsayref01_Alike.f bt288.1 a0_0).bind fun t293 => (if t293 = true then (if bt288.2.1 = a0_1 then (if bt288.2.2.1 = a0_2 then ((hearsayref01_Labels.f kj12 t279).bind fun t294 => ((hearsayref01_Labels.f kj12 a0_0).bind fun t297 => ((hearsayref01_Labels.f kj12 a1).bind fun t300 => ((hearsayref01_Labels.f kj12 a2).bind fun t303 => (if (t294.length : Int) = (wrap64 ((wrap64 ((t297.length : Int) - (t300.length : Int))) + (t303.length : Int))) then ((hearsaylaw25_asks.f).bind fun t306 => (some t306)) else (some false)))))) else (some false)) else (some false)) else (some false))) else (some false))) = some r := by first | (rw [hy285]; with_reducible exact H) | (have H2_ := (Option.bind_some _ _).symm.trans H; rw [hy285]; with_reducible exact H2_) | (have H2_ := (Option.bind_some _ _).symm.trans H; with_reducible exact H2_) | with_reducible exact H | (rw [hy285]; exact H) | exact H
 have Ny285 := am_ hy285
 clear hy285
 replace H := Option.bind_eq_some_iff.mp H
 obtain ⟨⟨t288, t289, t290, t291⟩, A170, H⟩ := H
 replace H : (if t291 = true then ((hearsayref01_Alike.f t288 a0_0).bind fun t293 => (if t293 = true then (if t289 = a0_1 then (if t290 = a0_2 then ((hearsayref01_Labels.f kj12 t279).bind fun t294 => ((hearsayref01_Labels.f kj12 a0_0).bind fun t297 => ((hearsayref01_Labels.f kj12 a1).bind fun t300 => ((hearsayref01_Labels.f kj12 a2).bind fun t303 => (if (t294.length : Int) = (wrap64 ((wrap64 ((t297.length : Int) - (t300.length : Int))) + (t303.length : Int))) then ((hearsaylaw25_asks.f).bind fun t306 => (some t306)) else (some false)))))) else (some false)) else (some false)) else (some false))) else (some false)) = some r := H
 have A17 := am_ A170
 clear A170
 by_cases c18 : t291 = true
 {
 subst c18
 have H1 : ((hearsayref01_Alike.f t288 a0_0).bind fun t293 => (if t293 = true then (if t289 = a0_1 then (if t290 = a0_2 then ((hearsayref01_Labels.f kj12 t279).bind fun t294 => ((hearsayref01_Labels.f kj12 a0_0).bind fun t297 => ((hearsayref01_Labels.f kj12 a1).bind fun t300 => ((hearsayref01_Labels.f kj12 a2).bind fun t303 => (if (t294.length : Int) = (wrap64 ((wrap64 ((t297.length : Int) - (t300.length : Int))) + (t303.length : Int))) then ((hearsaylaw25_asks.f).bind fun t306 => (some t306)) else (some false)))))) else (some false)) else (some false)) else (some false))) = some r := by rw [if_pos rfl] at H; exact H
 clear H
 have H := H1
 clear H1
 replace H := Option.bind_eq_some_iff.mp H
 obtain ⟨t293, A190, H⟩ := H
 replace H : (if t293 = true then (if t289 = a0_1 then (if t290 = a0_2 then ((hearsayref01_Labels.f kj12 t279).bind fun t294 => ((hearsayref01_Labels.f kj12 a0_0).bind fun t297 => ((hearsayref01_Labels.f kj12 a1).bind fun t300 => ((hearsayref01_Labels.f kj12 a2).bind fun t303 => (if (t294.length : Int) = (wrap64 ((wrap64 ((t297.length : Int) - (t300.length : Int))) + (t303.length : Int))) then ((hearsaylaw25_asks.f).bind fun t306 => (some t306)) else (some false)))))) else (some false)) else (some false)) else (some false)) = some r := H
 have A19 := am_ A190
 clear A190
 by_cases c20 : t293 = true
 {
 subst c20
 have H1 : (if t289 = a0_1 then (if t290 = a0_2 then ((hearsayref01_Labels.f kj12 t279).bind fun t294 => ((hearsayref01_Labels.f kj12 a0_0).bind fun t297 => ((hearsayref01_Labels.f kj12 a1).bind fun t300 => ((hearsayref01_Labels.f kj12 a2).bind fun t303 => (if (t294.length : Int) = (wrap64 ((wrap64 ((t297.length : Int) - (t300.length : Int))) + (t303.length : Int))) then ((hearsaylaw25_asks.f).bind fun t306 => (some t306)) else (some false)))))) else (some false)) else (some false)) = some r := by rw [if_pos rfl] at H; exact H
 clear H
 have H := H1
 clear H1
 by_cases c21 : t289 = a0_1
 {
 rw [if_pos c21] at H
 have c21b0 : (t289 == a0_1) = true := beq_iff_eq.mpr c21
 have c21b1 : (t289 != a0_1) = false := bne_eq_false_iff_eq.mpr c21
 clear c21
 by_cases c22 : t290 = a0_2
 {
 rw [if_pos c22] at H
 have c22b0 : (t290 == a0_2) = true := beq_iff_eq.mpr c22
 have c22b1 : (t290 != a0_2) = false := bne_eq_false_iff_eq.mpr c22
 clear c22
 replace H := Option.bind_eq_some_iff.mp H
 obtain ⟨t294, A230, H⟩ := H
 replace H : ((hearsayref01_Labels.f kj12 a0_0).bind fun t297 => ((hearsayref01_Labels.f kj12 a1).bind fun t300 => ((hearsayref01_Labels.f kj12 a2).bind fun t303 => (if (t294.length : Int) = (wrap64 ((wrap64 ((t297.length : Int) - (t300.length : Int))) + (t303.length : Int))) then ((hearsaylaw25_asks.f).bind fun t306 => (some t306)) else (some false))))) = some r := H
 have A23 := am_ A230
 clear A230
 replace H := Option.bind_eq_some_iff.mp H
 obtain ⟨t297, A240, H⟩ := H
 replace H : ((hearsayref01_Labels.f kj12 a1).bind fun t300 => ((hearsayref01_Labels.f kj12 a2).bind fun t303 => (if (t294.length : Int) = (wrap64 ((wrap64 ((t297.length : Int) - (t300.length : Int))) + (t303.length : Int))) then ((hearsaylaw25_asks.f).bind fun t306 => (some t306)) else (some false)))) = some r := H
 have A24 := am_ A240
 clear A240
 replace H := Option.bind_eq_some_iff.mp H
 obtain ⟨t300, A250, H⟩ := H
 replace H : ((hearsayref01_Labels.f kj12 a2).bind fun t303 => (if (t294.length : Int) = (wrap64 ((wrap64 ((t297.length : Int) - (t300.length : Int))) + (t303.length : Int))) then ((hearsaylaw25_asks.f).bind fun t306 => (some t306)) else (some false))) = some r := H
 have A25 := am_ A250
 clear A250
 replace H := Option.bind_eq_some_iff.mp H
 obtain ⟨t303, A260, H⟩ := H
 replace H : (if (t294.length : Int) = (wrap64 ((wrap64 ((t297.length : Int) - (t300.length : Int))) + (t303.length : Int))) then ((hearsaylaw25_asks.f).bind fun t306 => (some t306)) else (some false)) = some r := H
 have A26 := am_ A260
 clear A260
 by_cases c27 : (t294.length : Int) = (wrap64 ((wrap64 ((t297.length : Int) - (t300.length : Int))) + (t303.length : Int)))
 {
 rw [if_pos c27] at H
 have c27b0 : ((t294.length : Int) == (wrap64 ((wrap64 ((t297.length : Int) - (t300.length : Int))) + (t303.length : Int)))) = true := beq_iff_eq.mpr c27
 have c27b1 : ((t294.length : Int) != (wrap64 ((wrap64 ((t297.length : Int) - (t300.length : Int))) + (t303.length : Int)))) = false := bne_eq_false_iff_eq.mpr c27
 clear c27
 replace H := Option.bind_eq_some_iff.mp H
 obtain ⟨t306, A280, H⟩ := H
 replace H : (some t306) = some r := H
 have A28 := am_ A280
 clear A280
 obtain rfl := Option.some.inj H
 try go_wp2_with (first | ((with_reducible refine gate_dst (N := 34) rfl ?_); (try (refine gate_guard (by rfl) ?_; dsimp only)); refine Kd.R_lit k38 _ 38 ?hg (N := 34) ?hd (xs := ([(⟨x9_12, a1, a2, 0, 0⟩ : S38)] : List (S38))) (inner := [.int .u8 x9_12, .string a1, .string a2, .int .u16 0, .int .u16 0]) (ok := fun _ => True) (okp := fun _ => True) ?hr ?hp (fun _ hk => hk) trivial (Below.refl _ _) (Nat.le_refl _) (by simp) ?_; (case hd => rfl); (case hg => rfl); (case hr => first | (go_simp; done) | (go_simp; rfl)); (case hp => exact (Reps.c5 (show Kd.M k38 _ _ _ (⟨x9_12, a1, a2, 0, 0⟩ : S38) [.int .u8 x9_12, .string a1, .string a2, .int .u16 0, .int .u16 0] from (k38_mkM _ _ _ (⟨x9_12, a1, a2, 0, 0⟩ : S38) )) (Reps.none _ _))); intro v277 w29 ho30 hb hg_ hnew_; clear hg_ hnew_; (first | rw [← Ny276.out] at ho30 | (simp only [Int.reduceToNat] at ho30; rw [← Ny276.out] at ho30)); have n0_ := am_ (Kd.R_lower ho30 (below_size (by repeat (first | (with_reducible first | exact HB.out | apply below_alloc | apply pw_below_drewN | apply below_drew1 | refine below_set ?_ GE275.out) | exact HB.out)))); have n1_ := am_ (blk_below (g := gb275) (o := .cells #[.string a0_0, .int .u16 a0_1, .int .u16 a0_2] 32 (0, 0)) (by (with_reducible repeat (first | refine blk_drewN ?_ _ | refine blk_drew ?_ | refine blk_alloc ?_ _)); exact BK275.out) hb); have n2_ := am_ (below_step (by repeat (first | (with_reducible first | exact HB.out | apply below_alloc | apply pw_below_drewN | apply below_drew1 | refine below_set ?_ GE275.out) | exact HB.out)) hb); clear BK275; clear HB; have HO278 := n0_; have BK275 := n1_; have HB := n2_; clear n0_ n1_ n2_; clear hb ho30; have hcz31_0 : w29.cell? ⟨gb275, 0, none⟩ = some (.string a0_0) := (blk_cell BK275.out 0).trans rfl; have hcz31_1 : w29.cell? ⟨gb275, 1, none⟩ = some (.int .u16 a0_1) := (blk_cell BK275.out 1).trans rfl; have hcz31_2 : w29.cell? ⟨gb275, 2, none⟩ = some (.int .u16 a0_2) := (blk_cell BK275.out 2).trans rfl; have hfz31_0 := blk_frozen BK275.out 0; have hfz31_1 := blk_frozen BK275.out 1; have hfz31_2 := blk_frozen BK275.out 2; obtain ⟨Ao32, co32, eo32⟩ := Kd.R_slice HO278.out; subst eo32) | ((with_reducible refine gate_callee (f := 16) rfl ?_); refine goesL_ (some 36) rfl rfl Try.func16 (by kernel_rfl) rfl #[.slice Ao32 y276.length co32, .agg #[.string a0_0, .int .u16 a0_1, .int .u16 a0_2]] rfl (by (try simp only [List.map_toArray, List.map_cons, List.map_nil]); first | done | rfl | (simp only [List.length_drop, List.length_take]; rfl)) ?_; (with_reducible refine (rewrite_Ask.calls _ _ y276 a0_0 a0_1 a0_2 t279 t280 t281 true _ ?side1 ?side2 A15.out).mono ?_); (case side1 => repeat (first | exact (Kd.R_reads' HO278.out).2.2 | (with_reducible refine Kd.C_alloc ?_ _) | (with_reducible refine Kd.C_drewN ?_ _) | (with_reducible refine Kd.C_drew ?_))); (case side2 => exact (Kd.R_reads' HO278.out).2.1); rintro e w33 ⟨rfl, hb⟩; refine ⟨_, rfl, ?_⟩; have n0_ := am_ (Kd.R_below (by (with_reducible repeat (first | apply Kd.R_alloc | apply Kd.R_drewN | apply Kd.R_drew)); exact HO278.out) hb); have n1_ := am_ (blk_below (g := gb275) (o := .cells #[.string a0_0, .int .u16 a0_1, .int .u16 a0_2] 32 (0, 0)) (by (with_reducible repeat (first | refine blk_drewN ?_ _ | refine blk_drew ?_ | refine blk_alloc ?_ _)); exact BK275.out) hb); have n2_ := am_ (below_step (by repeat (first | (with_reducible first | exact HB.out | apply below_alloc | apply pw_below_drewN | apply below_drew1 | refine below_set ?_ GE275.out) | exact HB.out)) hb); clear HO278; clear BK275; clear HB; have HO278 := n0_; have BK275 := n1_; have HB := n2_; clear n0_ n1_ n2_; (try clear hb); (try clear hb2); (try clear hk); (try clear hi)) | ((with_reducible refine gate_dst (N := 10) rfl ?_); (try (refine gate_guard (by rfl) ?_; dsimp only)); refine box_event ?hg (N := 10) ?hd (cs := #[.string (⟨#[]⟩ : ByteArray), .int .u16 0, .int .u16 0]) (t := 32) ?hr ?_; (case hd => rfl); (case hg => rfl); (case hr => first | (go_simp; done) | (go_simp; rfl)); intro gb283 hg w34 hbox hb; have n0_ := am_ (Kd.R_below (by (with_reducible repeat (first | apply Kd.R_alloc | apply Kd.R_drewN | apply Kd.R_drew)); exact HO278.out) hb); have n1_ := am_ (blk_below (g := gb275) (o := .cells #[.string a0_0, .int .u16 a0_1, .int .u16 a0_2] 32 (0, 0)) (by (with_reducible repeat (first | refine blk_drewN ?_ _ | refine blk_drew ?_ | refine blk_alloc ?_ _)); exact BK275.out) hb); have n2_ := am_ (below_step (by repeat (first | (with_reducible first | exact HB.out | apply below_alloc | apply pw_below_drewN | apply below_drew1 | refine below_set ?_ GE275.out) | exact HB.out)) hb); have n3_ := am_ (hbox); have n4_ := am_ ((by rw [hg]; exact (below_size (by repeat (first | (with_reducible first | exact HB.out | apply below_alloc | apply pw_below_drewN | apply below_drew1 | refine below_set ?_ GE275.out) | exact HB.out))) : w.heap.size ≤ gb283)); have n5_ := am_ ((by rw [hg]; exact (below_size (by repeat (first | (with_reducible first | exact HB.out | apply below_alloc | apply pw_below_drewN | apply below_drew1 | refine below_set ?_ GE275.out) | exact HB.out))) : w.heap.size ≤ gb283)); have n6_ := am_ ((by rw [hg]; exact Nat.ne_of_lt (blk_lt (g := gb275) (o := .cells #[.string a0_0, .int .u16 a0_1, .int .u16 a0_2] 32 (0, 0)) (by (with_reducible repeat (first | refine blk_drewN ?_ _ | refine blk_drew ?_ | refine blk_alloc ?_ _)); exact BK275.out)) : gb275 ≠ gb283)); have n7_ := am_ ((by rw [hg]; exact Nat.ne_of_gt (blk_lt (g := gb275) (o := .cells #[.string a0_0, .int .u16 a0_1, .int .u16 a0_2] 32 (0, 0)) (by (with_reducible repeat (first | refine blk_drewN ?_ _ | refine blk_drew ?_ | refine blk_alloc ?_ _)); exact BK275.out)) : gb283 ≠ gb275)); clear HO278; clear BK275; clear HB; have HO278 := n0_; have BK275 := n1_; have HB := n2_; have BK283 := n3_; have GW283 := n4_; have GE283 := n5_; have NB275_283 := n6_; have NB283_275 := n7_; clear n0_ n1_ n2_ n3_ n4_ n5_ n6_ n7_; clear hb hbox hg; have hnb35 := NB283_275.out; have hnc35 := NB275_283.out; have hcz36_0 : w34.cell? ⟨gb283, 0, none⟩ = some (.string (⟨#[]⟩ : ByteArray)) := (blk_cell BK283.out 0).trans rfl; have hcz36_1 : w34.cell? ⟨gb283, 1, none⟩ = some (.int .u16 0) := (blk_cell BK283.out 1).trans rfl; have hcz36_2 : w34.cell? ⟨gb283, 2, none⟩ = some (.int .u16 0) := (blk_cell BK283.out 2).trans rfl; have hfz36_0 := blk_frozen BK283.out 0; have hfz36_1 := blk_frozen BK283.out 1; have hfz36_2 := blk_frozen BK283.out 2) | ((with_reducible refine gate_dst (N := 52) rfl ?_); (try (refine gate_guard (by rfl) ?_; dsimp only)); refine Kd.R_lit k38 _ 38 ?hg (N := 52) ?hd (xs := ([(⟨x9_12, a2, a1, 0, 0⟩ : S38)] : List (S38))) (inner := [.int .u8 x9_12, .string a2, .string a1, .int .u16 0, .int .u16 0]) (ok := fun _ => True) (okp := fun _ => True) ?hr ?hp (fun _ hk => hk) trivial (Below.refl _ _) (Nat.le_refl _) (by simp) ?_; (case hd => rfl); (case hg => rfl); (case hr => first | (go_simp; done) | (go_simp; rfl)); (case hp => exact (Reps.c5 (show Kd.M k38 _ _ _ (⟨x9_12, a2, a1, 0, 0⟩ : S38) [.int .u8 x9_12, .string a2, .string a1, .int .u16 0, .int .u16 0] from (k38_mkM _ _ _ (⟨x9_12, a2, a1, 0, 0⟩ : S38) )) (Reps.none _ _))); intro v286 w37 ho38 hb hg_ hnew_; clear hg_ hnew_; (first | rw [← Ny285.out] at ho38 | (simp only [Int.reduceToNat] at ho38; rw [← Ny285.out] at ho38)); have n0_ := am_ (Kd.R_elder' (by (with_reducible repeat (first | apply Kd.R_alloc | apply Kd.R_drewN | apply Kd.R_drew)); exact (Kd.R_mono (Kd.R_far (p := ⟨gb283, 2, none⟩) (Kd.R_far (p := ⟨gb283, 1, none⟩) (Kd.R_far (p := ⟨gb283, 0, none⟩) (Kd.R_types HO278.out BK283.out (by decide)) (fun _ hk => hk.2) (.string t279)) (fun _ hk => hk.2) (.int .u16 t280)) (fun _ hk => hk.2) (.int .u16 t281)) (fun _ h_ => h_.1))) (Kd.R_base ho38) hb); have n1_ := am_ (Kd.R_lower (Kd.R_new' ho38 (Kd.R_lt (by (with_reducible repeat (first | apply Kd.R_alloc | apply Kd.R_drewN | apply Kd.R_drew)); exact (Kd.R_mono (Kd.R_far (p := ⟨gb283, 2, none⟩) (Kd.R_far (p := ⟨gb283, 1, none⟩) (Kd.R_far (p := ⟨gb283, 0, none⟩) (Kd.R_types HO278.out BK283.out (by decide)) (fun _ hk => hk.2) (.string t279)) (fun _ hk => hk.2) (.int .u16 t280)) (fun _ hk => hk.2) (.int .u16 t281)) (fun _ h_ => h_.1))))) (below_size (by repeat (first | (with_reducible first | exact HB.out | apply below_alloc | apply pw_below_drewN | apply below_drew1 | refine below_set ?_ GE275.out | refine below_set ?_ GE283.out) | exact HB.out)))); have n2_ := am_ (blk_below (g := gb275) (o := .cells #[.string a0_0, .int .u16 a0_1, .int .u16 a0_2] 32 (0, 0)) (by (with_reducible repeat (first | refine blk_drewN ?_ _ | refine blk_drew ?_ | refine blk_alloc ?_ _)); refine blk_far ?_ NB275_283.out _; (with_reducible repeat (first | refine blk_drewN ?_ _ | refine blk_drew ?_ | refine blk_alloc ?_ _)); refine blk_far ?_ NB275_283.out _; (with_reducible repeat (first | refine blk_drewN ?_ _ | refine blk_drew ?_ | refine blk_alloc ?_ _)); refine blk_far ?_ NB275_283.out _; (with_reducible repeat (first | refine blk_drewN ?_ _ | refine blk_drew ?_ | refine blk_alloc ?_ _)); exact BK275.out) hb); have n3_ := am_ (blk_below (g := gb283) (o := .cells #[.string t279, .int .u16 t280, .int .u16 t281] 32 (0, 0)) (by (with_reducible repeat (first | refine blk_drewN ?_ _ | refine blk_drew ?_ | refine blk_alloc ?_ _)); refine blk_put (cs := #[.string t279, .int .u16 t280, .int .u16 0]) ?_ 2 _ rfl; (with_reducible repeat (first | refine blk_drewN ?_ _ | refine blk_drew ?_ | refine blk_alloc ?_ _)); refine blk_put (cs := #[.string t279, .int .u16 0, .int .u16 0]) ?_ 1 _ rfl; (with_reducible repeat (first | refine blk_drewN ?_ _ | refine blk_drew ?_ | refine blk_alloc ?_ _)); refine blk_put (cs := #[.string (⟨#[]⟩ : ByteArray), .int .u16 0, .int .u16 0]) ?_ 0 _ rfl; (with_reducible repeat (first | refine blk_drewN ?_ _ | refine blk_drew ?_ | refine blk_alloc ?_ _)); exact BK283.out) hb); have n4_ := am_ (below_step (by repeat (first | (with_reducible first | exact HB.out | apply below_alloc | apply pw_below_drewN | apply below_drew1 | refine below_set ?_ GE275.out | refine below_set ?_ GE283.out) | exact HB.out)) hb); clear HO278; clear BK275; clear BK283; clear HB; have HO278 := n0_; have HO287 := n1_; have BK275 := n2_; have BK283 := n3_; have HB := n4_; clear n0_ n1_ n2_ n3_ n4_; clear hb ho38; have hcz39_0 : w37.cell? ⟨gb283, 0, none⟩ = some (.string t279) := (blk_cell BK283.out 0).trans rfl; have hcz39_1 : w37.cell? ⟨gb283, 1, none⟩ = some (.int .u16 t280) := (blk_cell BK283.out 1).trans rfl; have hcz39_2 : w37.cell? ⟨gb283, 2, none⟩ = some (.int .u16 t281) := (blk_cell BK283.out 2).trans rfl; have hfz39_0 := blk_frozen BK283.out 0; have hfz39_1 := blk_frozen BK283.out 1; have hfz39_2 := blk_frozen BK283.out 2; obtain ⟨Ao40, co40, eo40⟩ := Kd.R_slice HO287.out; subst eo40) | ((with_reducible refine gate_callee (f := 16) rfl ?_); refine goesL_ (some 54) rfl rfl Try.func16 (by kernel_rfl) rfl #[.slice Ao40 y285.length co40, .agg #[.string t279, .int .u16 t280, .int .u16 t281]] rfl (by (try simp only [List.map_toArray, List.map_cons, List.map_nil]); first | done | rfl | (simp only [List.length_drop, List.length_take]; rfl)) ?_; (with_reducible refine (rewrite_Ask.calls _ _ y285 t279 t280 t281 t288 t289 t290 true _ ?side1 ?side2 A17.out).mono ?_); (case side1 => repeat (first | exact (Kd.R_reads' HO287.out).2.2 | (with_reducible refine Kd.C_alloc ?_ _) | (with_reducible refine Kd.C_drewN ?_ _) | (with_reducible refine Kd.C_drew ?_))); (case side2 => exact (Kd.R_reads' HO287.out).2.1); rintro e w41 ⟨rfl, hb⟩; refine ⟨_, rfl, ?_⟩; have n0_ := am_ (Kd.R_below (by (with_reducible repeat (first | apply Kd.R_alloc | apply Kd.R_drewN | apply Kd.R_drew)); exact HO278.out) hb); have n1_ := am_ (Kd.R_below (by (with_reducible repeat (first | apply Kd.R_alloc | apply Kd.R_drewN | apply Kd.R_drew)); exact HO287.out) hb); have n2_ := am_ (blk_below (g := gb275) (o := .cells #[.string a0_0, .int .u16 a0_1, .int .u16 a0_2] 32 (0, 0)) (by (with_reducible repeat (first | refine blk_drewN ?_ _ | refine blk_drew ?_ | refine blk_alloc ?_ _)); exact BK275.out) hb); have n3_ := am_ (blk_below (g := gb283) (o := .cells #[.string t279, .int .u16 t280, .int .u16 t281] 32 (0, 0)) (by (with_reducible repeat (first | refine blk_drewN ?_ _ | refine blk_drew ?_ | refine blk_alloc ?_ _)); exact BK283.out) hb); have n4_ := am_ (below_step (by repeat (first | (with_reducible first | exact HB.out | apply below_alloc | apply pw_below_drewN | apply below_drew1 | refine below_set ?_ GE275.out | refine below_set ?_ GE283.out) | exact HB.out)) hb); clear HO278; clear HO287; clear BK275; clear BK283; clear HB; have HO278 := n0_; have HO287 := n1_; have BK275 := n2_; have BK283 := n3_; have HB := n4_; clear n0_ n1_ n2_ n3_ n4_; (try clear hb); (try clear hb2); (try clear hk); (try clear hi)) | ((with_reducible refine gate_dst (N := 12) rfl ?_); (try (refine gate_guard (by rfl) ?_; dsimp only)); refine box_event ?hg (N := 12) ?hd (cs := #[.string (⟨#[]⟩ : ByteArray), .int .u16 0, .int .u16 0]) (t := 32) ?hr ?_; (case hd => rfl); (case hg => rfl); (case hr => first | (go_simp; done) | (go_simp; rfl)); intro gb292 hg w42 hbox hb; have n0_ := am_ (Kd.R_below (by (with_reducible repeat (first | apply Kd.R_alloc | apply Kd.R_drewN | apply Kd.R_drew)); exact HO278.out) hb); have n1_ := am_ (Kd.R_below (by (with_reducible repeat (first | apply Kd.R_alloc | apply Kd.R_drewN | apply Kd.R_drew)); exact HO287.out) hb); have n2_ := am_ (blk_below (g := gb275) (o := .cells #[.string a0_0, .int .u16 a0_1, .int .u16 a0_2] 32 (0, 0)) (by (with_reducible repeat (first | refine blk_drewN ?_ _ | refine blk_drew ?_ | refine blk_alloc ?_ _)); exact BK275.out) hb); have n3_ := am_ (blk_below (g := gb283) (o := .cells #[.string t279, .int .u16 t280, .int .u16 t281] 32 (0, 0)) (by (with_reducible repeat (first | refine blk_drewN ?_ _ | refine blk_drew ?_ | refine blk_alloc ?_ _)); exact BK283.out) hb); have n4_ := am_ (below_step (by repeat (first | (with_reducible first | exact HB.out | apply below_alloc | apply pw_below_drewN | apply below_drew1 | refine below_set ?_ GE275.out | refine below_set ?_ GE283.out) | exact HB.out)) hb); have n5_ := am_ (hbox); have n6_ := am_ ((by rw [hg]; exact (below_size (by repeat (first | (with_reducible first | exact HB.out | apply below_alloc | apply pw_below_drewN | apply below_drew1 | refine below_set ?_ GE275.out | refine below_set ?_ GE283.out) | exact HB.out))) : w.heap.size ≤ gb292)); have n7_ := am_ ((by rw [hg]; exact (below_size (by repeat (first | (with_reducible first | exact HB.out | apply below_alloc | apply pw_below_drewN | apply below_drew1 | refine below_set ?_ GE275.out | refine below_set ?_ GE283.out) | exact HB.out))) : w.heap.size ≤ gb292)); have n8_ := am_ ((by rw [hg]; exact Nat.ne_of_lt (blk_lt (g := gb275) (o := .cells #[.string a0_0, .int .u16 a0_1, .int .u16 a0_2] 32 (0, 0)) (by (with_reducible repeat (first | refine blk_drewN ?_ _ | refine blk_drew ?_ | refine blk_alloc ?_ _)); exact BK275.out)) : gb275 ≠ gb292)); have n9_ := am_ ((by rw [hg]; exact Nat.ne_of_gt (blk_lt (g := gb275) (o := .cells #[.string a0_0, .int .u16 a0_1, .int .u16 a0_2] 32 (0, 0)) (by (with_reducible repeat (first | refine blk_drewN ?_ _ | refine blk_drew ?_ | refine blk_alloc ?_ _)); exact BK275.out)) : gb292 ≠ gb275)); have n10_ := am_ ((by rw [hg]; exact Nat.ne_of_lt (blk_lt (g := gb283) (o := .cells #[.string t279, .int .u16 t280, .int .u16 t281] 32 (0, 0)) (by (with_reducible repeat (first | refine blk_drewN ?_ _ | refine blk_drew ?_ | refine blk_alloc ?_ _)); exact BK283.out)) : gb283 ≠ gb292)); have n11_ := am_ ((by rw [hg]; exact Nat.ne_of_gt (blk_lt (g := gb283) (o := .cells #[.string t279, .int .u16 t280, .int .u16 t281] 32 (0, 0)) (by (with_reducible repeat (first | refine blk_drewN ?_ _ | refine blk_drew ?_ | refine blk_alloc ?_ _)); exact BK283.out)) : gb292 ≠ gb283)); clear HO278; clear HO287; clear BK275; clear BK283; clear HB; have HO278 := n0_; have HO287 := n1_; have BK275 := n2_; have BK283 := n3_; have HB := n4_; have BK292 := n5_; have GW292 := n6_; have GE292 := n7_; have NB275_292 := n8_; have NB292_275 := n9_; have NB283_292 := n10_; have NB292_283 := n11_; clear n0_ n1_ n2_ n3_ n4_ n5_ n6_ n7_ n8_ n9_ n10_ n11_; clear hb hbox hg; have hnb43 := NB292_275.out; have hnc43 := NB275_292.out; have hnb44 := NB292_283.out; have hnc44 := NB283_292.out; have hcz45_0 : w42.cell? ⟨gb292, 0, none⟩ = some (.string (⟨#[]⟩ : ByteArray)) := (blk_cell BK292.out 0).trans rfl; have hcz45_1 : w42.cell? ⟨gb292, 1, none⟩ = some (.int .u16 0) := (blk_cell BK292.out 1).trans rfl; have hcz45_2 : w42.cell? ⟨gb292, 2, none⟩ = some (.int .u16 0) := (blk_cell BK292.out 2).trans rfl; have hfz45_0 := blk_frozen BK292.out 0; have hfz45_1 := blk_frozen BK292.out 1; have hfz45_2 := blk_frozen BK292.out 2))
 have n0_ : Aside0 (Kd.R k38 38 (((w42.setCell ⟨gb292, 0, none⟩ (.string t288)).setCell ⟨gb292, 1, none⟩ (.int .u16 t289)).setCell ⟨gb292, 2, none⟩ (.int .u16 t290)) w.heap.size (fun k_ => some k_ ≠ (.slice Ao40 y285.length co40 : Value).ownBlock) (.slice Ao32 y276.length co32) y276) := ⟨by (with_reducible repeat (first | apply Kd.R_alloc | apply Kd.R_drewN | apply Kd.R_drew)); exact Kd.R_mono (Kd.R_far (p := ⟨gb292, 2, none⟩) (Kd.R_far (p := ⟨gb292, 1, none⟩) (Kd.R_far (p := ⟨gb292, 0, none⟩) (Kd.R_types HO278.out BK292.out (by decide)) (fun _ hk => hk.2) (.string t288)) (fun _ hk => hk.2) (.int .u16 t289)) (fun _ hk => hk.2) (.int .u16 t290)) (fun _ hk => hk.1.2)⟩
 have n1_ : Aside0 (Kd.R k38 38 (((w42.setCell ⟨gb292, 0, none⟩ (.string t288)).setCell ⟨gb292, 1, none⟩ (.int .u16 t289)).setCell ⟨gb292, 2, none⟩ (.int .u16 t290)) w.heap.size (fun k_ => some k_ ≠ (.slice Ao32 y276.length co32 : Value).ownBlock) (.slice Ao40 y285.length co40) y285) := ⟨by (with_reducible repeat (first | apply Kd.R_alloc | apply Kd.R_drewN | apply Kd.R_drew)); exact Kd.R_mono (Kd.R_far (p := ⟨gb292, 2, none⟩) (Kd.R_far (p := ⟨gb292, 1, none⟩) (Kd.R_far (p := ⟨gb292, 0, none⟩) (Kd.R_types HO287.out BK292.out (by decide)) (fun _ hk => hk.2) (.string t288)) (fun _ hk => hk.2) (.int .u16 t289)) (fun _ hk => hk.2) (.int .u16 t290)) (fun _ hk => hk.1.2)⟩
 have n2_ : Aside0 ((((w42.setCell ⟨gb292, 0, none⟩ (.string t288)).setCell ⟨gb292, 1, none⟩ (.int .u16 t289)).setCell ⟨gb292, 2, none⟩ (.int .u16 t290)).heap[gb275]? = some (.cells #[.string a0_0, .int .u16 a0_1, .int .u16 a0_2] 32 (0, 0))) := ⟨by (with_reducible repeat (first | refine blk_drewN ?_ _ | refine blk_drew ?_ | refine blk_alloc ?_ _)); refine blk_far ?_ NB275_292.out _; (with_reducible repeat (first | refine blk_drewN ?_ _ | refine blk_drew ?_ | refine blk_alloc ?_ _)); refine blk_far ?_ NB275_292.out _; (with_reducible repeat (first | refine blk_drewN ?_ _ | refine blk_drew ?_ | refine blk_alloc ?_ _)); refine blk_far ?_ NB275_292.out _; (with_reducible repeat (first | refine blk_drewN ?_ _ | refine blk_drew ?_ | refine blk_alloc ?_ _)); exact BK275.out⟩
 have n3_ : Aside0 ((((w42.setCell ⟨gb292, 0, none⟩ (.string t288)).setCell ⟨gb292, 1, none⟩ (.int .u16 t289)).setCell ⟨gb292, 2, none⟩ (.int .u16 t290)).heap[gb283]? = some (.cells #[.string t279, .int .u16 t280, .int .u16 t281] 32 (0, 0))) := ⟨by (with_reducible repeat (first | refine blk_drewN ?_ _ | refine blk_drew ?_ | refine blk_alloc ?_ _)); refine blk_far ?_ NB283_292.out _; (with_reducible repeat (first | refine blk_drewN ?_ _ | refine blk_drew ?_ | refine blk_alloc ?_ _)); refine blk_far ?_ NB283_292.out _; (with_reducible repeat (first | refine blk_drewN ?_ _ | refine blk_drew ?_ | refine blk_alloc ?_ _)); refine blk_far ?_ NB283_292.out _; (with_reducible repeat (first | refine blk_drewN ?_ _ | refine blk_drew ?_ | refine blk_alloc ?_ _)); exact BK283.out⟩
 have n4_ : Aside0 ((((w42.setCell ⟨gb292, 0, none⟩ (.string t288)).setCell ⟨gb292, 1, none⟩ (.int .u16 t289)).setCell ⟨gb292, 2, none⟩ (.int .u16 t290)).heap[gb292]? = some (.cells #[.string t288, .int .u16 t289, .int .u16 t290] 32 (0, 0))) := ⟨by (with_reducible repeat (first | refine blk_drewN ?_ _ | refine blk_drew ?_ | refine blk_alloc ?_ _)); refine blk_put (cs := #[.string t288, .int .u16 t289, .int .u16 0]) ?_ 2 _ rfl; (with_reducible repeat (first | refine blk_drewN ?_ _ | refine blk_drew ?_ | refine blk_alloc ?_ _)); refine blk_put (cs := #[.string t288, .int .u16 0, .int .u16 0]) ?_ 1 _ rfl; (with_reducible repeat (first | refine blk_drewN ?_ _ | refine blk_drew ?_ | refine blk_alloc ?_ _)); refine blk_put (cs := #[.string (⟨#[]⟩ : ByteArray), .int .u16 0, .int .u16 0]) ?_ 0 _ rfl; (with_reducible repeat (first | refine blk_drewN ?_ _ | refine blk_drew ?_ | refine blk_alloc ?_ _)); exact BK292.out⟩
 have n5_ : Aside0 (Below w.heap.size w (((w42.setCell ⟨gb292, 0, none⟩ (.string t288)).setCell ⟨gb292, 1, none⟩ (.int .u16 t289)).setCell ⟨gb292, 2, none⟩ (.int .u16 t290))) := ⟨by repeat (first | (with_reducible first | exact HB.out | apply below_alloc | apply pw_below_drewN | apply below_drew1 | refine below_set ?_ GE275.out | refine below_set ?_ GE283.out | refine below_set ?_ GE292.out) | exact HB.out)⟩
 (try clear HO278)
 (try clear HO287)
 (try clear BK275)
 (try clear BK283)
 (try clear BK292)
 (try clear HB)
 generalize (((w42.setCell ⟨gb292, 0, none⟩ (.string t288)).setCell ⟨gb292, 1, none⟩ (.int .u16 t289)).setCell ⟨gb292, 2, none⟩ (.int .u16 t290)) = w46 at n0_ n1_ n2_ n3_ n4_ n5_ ⊢
 have HO278 := n0_
 have HO287 := n1_
 have BK275 := n2_
 have BK283 := n3_
 have BK292 := n4_
 have HB := n5_
 clear n0_ n1_ n2_ n3_ n4_ n5_
 have n0_ := am_ (Kd.R_drew HO278.out)
 have n1_ := am_ (Kd.R_drew HO287.out)
 have n2_ := am_ (blk_drew BK275.out)
 have n3_ := am_ (blk_drew BK283.out)
 have n4_ := am_ (blk_drew BK292.out)
 have n5_ := am_ (below_drew1 HB.out)
 clear HO278
 clear HO287
 clear BK275
 clear BK283
 clear BK292
 clear HB
 have HO278 := n0_
 have HO287 := n1_
 have BK275 := n2_
 have BK283 := n3_
 have BK292 := n4_
 have HB := n5_
 clear n0_ n1_ n2_ n3_ n4_ n5_
 refine start_ (n := 45) (S := fun w' => w'.cell? ⟨gb292, 0, none⟩ = some (.string t288) ∧ w'.cell? ⟨gb292, 1, none⟩ = some (.int .u16 t289) ∧ w'.cell? ⟨gb292, 2, none⟩ = some (.int .u16 t290) ∧ w'.cell? ⟨gb275, 0, none⟩ = some (.string a0_0) ∧ w'.cell? ⟨gb275, 1, none⟩ = some (.int .u16 a0_1) ∧ w'.cell? ⟨gb275, 2, none⟩ = some (.int .u16 a0_2) ∧ w'.cell? ⟨gb283, 0, none⟩ = some (.string t279) ∧ w'.cell? ⟨gb283, 1, none⟩ = some (.int .u16 t280) ∧ w'.cell? ⟨gb283, 2, none⟩ = some (.int .u16 t281)) (ds := []) (bm_ 45 0) (by kernel_rfl) rfl rfl ⟨(blk_cell BK292.out 0).trans rfl, (blk_cell BK292.out 1).trans rfl, (blk_cell BK292.out 2).trans rfl, (blk_cell BK275.out 0).trans rfl, (blk_cell BK275.out 1).trans rfl, (blk_cell BK275.out 2).trans rfl, (blk_cell BK283.out 0).trans rfl, (blk_cell BK283.out 1).trans rfl, (blk_cell BK283.out 2).trans rfl⟩ (fun hHeld => ?_); refine with_tabW hearsaylaw25_RewriteThere.tab10 hearsaylaw25_RewriteThere.bits10 (fun HT_ HW_ => ?_)
 generalize w46.drew = w47 at HO278 HO287 BK275 BK283 BK292 HB hHeld ⊢
 refine pure_ (i := 0) (N := some 57) (v := ?_) (a' := ?_) (bm_ 45 1) rfl rfl (any_of HT_.out (by kernel_rfl)) (fun _ _ _ h => h) (Or.inl ⟨by rfl, ?_⟩) ?_ ?_
 rotate_left
 {
 intro w'
 go_simp
 with_reducible rfl }
 rotate_left
 {
 simp only [Act.put, sA_, s0_, sS_, i64_w, i32_w]
 rfl }
 refine pure_ (i := 1) (N := some 58) (v := ?_) (a' := ?_) (bm_ 45 3) rfl rfl (any_of HT_.out (by kernel_rfl)) (fun _ _ _ h => h) (Or.inl ⟨by rfl, ?_⟩) ?_ ?_
 rotate_left
 {
 intro w'
 go_simp
 with_reducible rfl }
 rotate_left
 {
 simp only [Act.put, sA_, s0_, sS_, i64_w, i32_w]
 rfl }
 refine pure_ (i := 2) (N := some 59) (v := ?_) (a' := ?_) (bm_ 45 7) rfl rfl (any_of HT_.out (by kernel_rfl)) (fun _ _ _ h => h) (Or.inl ⟨by rfl, ?_⟩) ?_ ?_
 rotate_left
 {
 intro w'
 go_simp
 with_reducible rfl }
 rotate_left
 {
 simp only [Act.put, sA_, s0_, sS_, i64_w, i32_w]
 rfl }
 refine pure_ (i := 4) (N := some 61) (v := ?_) (a' := ?_) (bm_ 45 23) rfl rfl (any_of HT_.out (by kernel_rfl)) (fun _ _ _ h => h) (Or.inl ⟨by rfl, ?_⟩) ?_ ?_
 rotate_left
 {
 intro w'
 go_simp
 with_reducible rfl }
 rotate_left
 {
 simp only [Act.put, sA_, s0_, sS_, i64_w, i32_w]
 rfl }
 refine take_ (i := 3) (N := some 60) (v := ?_) (a' := ?_) (bm_ 45 31) rfl rfl (take_ofW HT_.out HW_.out (by kernel_rfl)) (fun _ _ _ h => h) (Or.inl ⟨by rfl, ?_⟩) hHeld ?_ ?_
 rotate_left
 {
 rintro w' ⟨s0, s1, s2, s3, s4, s5, s6, s7, s8⟩
 go_simp
 with_reducible rfl }
 rotate_left
 {
 simp only [Act.put, sA_, s0_, sS_, i64_w, i32_w]
 rfl }
 refine take_ (i := 5) (N := some 62) (v := ?_) (a' := ?_) (bm_ 45 63) rfl rfl (take_ofW HT_.out HW_.out (by kernel_rfl)) (fun _ _ _ h => h) (Or.inl ⟨by rfl, ?_⟩) hHeld ?_ ?_
 rotate_left
 {
 rintro w' ⟨s0, s1, s2, s3, s4, s5, s6, s7, s8⟩
 go_simp
 with_reducible rfl }
 rotate_left
 {
 simp only [Act.put, sA_, s0_, sS_, i64_w, i32_w]
 rfl }
 refine one_ (i := 6) (N := some 63) (bm_ 45 127) rfl rfl (one_of HT_.out (by kernel_rfl)) (by decide) (fun K hK => ?_)
 refine goes_ Try.func18 (by kernel_rfl) rfl #[.string t288, .string a0_0] (by rfl) rfl rfl (by (try simp only [List.map_toArray, List.map_cons, List.map_nil]); first | done | rfl | (simp only [List.length_drop, List.length_take]; rfl)) ?_
 with_reducible refine (hearsayref01_Alike.calls t288 a0_0 true _ A19.out).mono ?_
 rintro e w48 ⟨rfl, hb⟩
 refine ⟨_, rfl, ?_⟩
 have n0_ := am_ (Kd.R_below (by (with_reducible repeat (first | apply Kd.R_alloc | apply Kd.R_drewN | apply Kd.R_drew)); exact HO278.out) hb)
 have n1_ := am_ (Kd.R_below (by (with_reducible repeat (first | apply Kd.R_alloc | apply Kd.R_drewN | apply Kd.R_drew)); exact HO287.out) hb)
 have n2_ := am_ (blk_below (g := gb275) (o := .cells #[.string a0_0, .int .u16 a0_1, .int .u16 a0_2] 32 (0, 0)) (by (with_reducible repeat (first | refine blk_drewN ?_ _ | refine blk_drew ?_ | refine blk_alloc ?_ _)); exact BK275.out) hb)
 have n3_ := am_ (blk_below (g := gb283) (o := .cells #[.string t279, .int .u16 t280, .int .u16 t281] 32 (0, 0)) (by (with_reducible repeat (first | refine blk_drewN ?_ _ | refine blk_drew ?_ | refine blk_alloc ?_ _)); exact BK283.out) hb)
 have n4_ := am_ (blk_below (g := gb292) (o := .cells #[.string t288, .int .u16 t289, .int .u16 t290] 32 (0, 0)) (by (with_reducible repeat (first | refine blk_drewN ?_ _ | refine blk_drew ?_ | refine blk_alloc ?_ _)); exact BK292.out) hb)
 have n5_ := am_ (below_step (by repeat (first | (with_reducible first | exact HB.out | apply below_alloc | apply pw_below_drewN | apply below_drew1 | refine below_set ?_ GE275.out | refine below_set ?_ GE283.out | refine below_set ?_ GE292.out) | exact HB.out)) hb)
 clear HO278
 clear HO287
 clear BK275
 clear BK283
 clear BK292
 clear HB
 have HO278 := n0_
 have HO287 := n1_
 have BK275 := n2_
 have BK283 := n3_
 have BK292 := n4_
 have HB := n5_
 clear n0_ n1_ n2_ n3_ n4_ n5_
 (try clear hb)
 (try clear hb2)
 (try clear hk)
 (try clear hi)
 refine hK.out _ _ ⟨(blk_cell BK292.out 0).trans rfl, (blk_cell BK292.out 1).trans rfl, (blk_cell BK292.out 2).trans rfl, (blk_cell BK275.out 0).trans rfl, (blk_cell BK275.out 1).trans rfl, (blk_cell BK275.out 2).trans rfl, (blk_cell BK283.out 0).trans rfl, (blk_cell BK283.out 1).trans rfl, (blk_cell BK283.out 2).trans rfl⟩ (fun hHeld => ?_)
 clear hK K
 refine norm_ (a' := ?_) ?_ ?_
 rotate_left
 {
 show Act.put _ (some 63) _ = _
 simp only [Act.put, sA_, s0_, sS_, i64_w, i32_w]
 rfl }
 refine pure_ (i := 7) (N := some 64) (v := ?_) (a' := ?_) (bm_ 45 255) rfl rfl (any_of HT_.out (by kernel_rfl)) (fun _ _ _ h => h) (Or.inl ⟨by rfl, ?_⟩) ?_ ?_
 rotate_left
 {
 intro w'
 go_simp
 with_reducible rfl }
 rotate_left
 {
 simp only [Act.put, sA_, s0_, sS_, i64_w, i32_w]
 rfl }
 refine pure_ (i := 8) (N := some 65) (v := ?_) (a' := ?_) (bm_ 45 511) rfl rfl (any_of HT_.out (by kernel_rfl)) (fun _ _ _ h => h) (Or.inl ⟨by rfl, ?_⟩) ?_ ?_
 rotate_left
 {
 intro w'
 go_simp
 with_reducible rfl }
 rotate_left
 {
 simp only [Act.put, sA_, s0_, sS_, i64_w, i32_w]
 rfl }
 refine pure_ (i := 9) (N := some 66) (v := ?_) (a' := ?_) (bm_ 45 1023) rfl rfl (any_of HT_.out (by kernel_rfl)) (fun _ _ _ h => h) (Or.inl ⟨by rfl, ?_⟩) ?_ ?_
 rotate_left
 {
 intro w'
 go_simp
 with_reducible rfl }
 rotate_left
 {
 simp only [Act.put, sA_, s0_, sS_, i64_w, i32_w]
 rfl }
 refine pure_ (i := 11) (N := some 68) (v := ?_) (a' := ?_) (bm_ 45 3071) rfl rfl (any_of HT_.out (by kernel_rfl)) (fun _ _ _ h => h) (Or.inl ⟨by rfl, ?_⟩) ?_ ?_
 rotate_left
 {
 intro w'
 go_simp
 with_reducible rfl }
 rotate_left
 {
 simp only [Act.put, sA_, s0_, sS_, i64_w, i32_w]
 rfl }
 refine take_ (i := 10) (N := some 67) (v := ?_) (a' := ?_) (bm_ 45 4095) rfl rfl (take_ofW HT_.out HW_.out (by kernel_rfl)) (fun _ _ _ h => h) (Or.inl ⟨by rfl, ?_⟩) hHeld ?_ ?_
 rotate_left
 {
 rintro w' ⟨s0, s1, s2, s3, s4, s5, s6, s7, s8⟩
 go_simp
 with_reducible rfl }
 rotate_left
 {
 simp only [Act.put, sA_, s0_, sS_, i64_w, i32_w]
 rfl }
 refine take_ (i := 12) (N := some 69) (v := ?_) (a' := ?_) (bm_ 45 8191) rfl rfl (take_ofW HT_.out HW_.out (by kernel_rfl)) (fun _ _ _ h => h) (Or.inl ⟨by rfl, ?_⟩) hHeld ?_ ?_
 rotate_left
 {
 rintro w' ⟨s0, s1, s2, s3, s4, s5, s6, s7, s8⟩
 go_simp
 with_reducible rfl }
 rotate_left
 {
 simp only [Act.put, sA_, s0_, sS_, i64_w, i32_w]
 rfl }
 refine pure_ (i := 13) (N := some 70) (v := ?_) (a' := ?_) (bm_ 45 16383) rfl rfl (any_of HT_.out (by kernel_rfl)) (fun _ _ _ h => h) (Or.inl ⟨by rfl, ?_⟩) ?_ ?_
 rotate_left
 {
 intro w'
 go_simp
 with_reducible rfl }
 rotate_left
 {
 simp only [Act.put, sA_, s0_, sS_, i64_w, i32_w]
 rfl }
 refine pure_ (i := 14) (N := some 71) (v := ?_) (a' := ?_) (bm_ 45 32767) rfl rfl (any_of HT_.out (by kernel_rfl)) (fun _ _ _ h => h) (Or.inl ⟨by rfl, ?_⟩) ?_ ?_
 rotate_left
 {
 intro w'
 go_simp
 with_reducible rfl }
 rotate_left
 {
 simp only [Act.put, sA_, s0_, sS_, i64_w, i32_w]
 rfl }
 refine pure_ (i := 15) (N := some 72) (v := ?_) (a' := ?_) (bm_ 45 65535) rfl rfl (any_of HT_.out (by kernel_rfl)) (fun _ _ _ h => h) (Or.inl ⟨by rfl, ?_⟩) ?_ ?_
 rotate_left
 {
 intro w'
 go_simp
 with_reducible rfl }
 rotate_left
 {
 simp only [Act.put, sA_, s0_, sS_, i64_w, i32_w]
 rfl }
 refine pure_ (i := 16) (N := some 73) (v := ?_) (a' := ?_) (bm_ 45 131071) rfl rfl (any_of HT_.out (by kernel_rfl)) (fun _ _ _ h => h) (Or.inl ⟨by rfl, ?_⟩) ?_ ?_
 rotate_left
 {
 intro w'
 go_simp
 with_reducible rfl }
 rotate_left
 {
 simp only [Act.put, sA_, s0_, sS_, i64_w, i32_w]
 rfl }
 refine pure_ (i := 18) (N := some 75) (v := ?_) (a' := ?_) (bm_ 45 393215) rfl rfl (any_of HT_.out (by kernel_rfl)) (fun _ _ _ h => h) (Or.inl ⟨by rfl, ?_⟩) ?_ ?_
 rotate_left
 {
 intro w'
 go_simp
 with_reducible rfl }
 rotate_left
 {
 simp only [Act.put, sA_, s0_, sS_, i64_w, i32_w]
 rfl }
 refine take_ (i := 17) (N := some 74) (v := ?_) (a' := ?_) (bm_ 45 524287) rfl rfl (take_ofW HT_.out HW_.out (by kernel_rfl)) (fun _ _ _ h => h) (Or.inl ⟨by rfl, ?_⟩) hHeld ?_ ?_
 rotate_left
 {
 rintro w' ⟨s0, s1, s2, s3, s4, s5, s6, s7, s8⟩
 go_simp
 with_reducible rfl }
 rotate_left
 {
 simp only [Act.put, sA_, s0_, sS_, i64_w, i32_w]
 rfl }
 refine take_ (i := 19) (N := some 76) (v := ?_) (a' := ?_) (bm_ 45 1048575) rfl rfl (take_ofW HT_.out HW_.out (by kernel_rfl)) (fun _ _ _ h => h) (Or.inl ⟨by rfl, ?_⟩) hHeld ?_ ?_
 rotate_left
 {
 rintro w' ⟨s0, s1, s2, s3, s4, s5, s6, s7, s8⟩
 go_simp
 with_reducible rfl }
 rotate_left
 {
 simp only [Act.put, sA_, s0_, sS_, i64_w, i32_w]
 rfl }
 refine pure_ (i := 20) (N := some 77) (v := ?_) (a' := ?_) (bm_ 45 2097151) rfl rfl (any_of HT_.out (by kernel_rfl)) (fun _ _ _ h => h) (Or.inl ⟨by rfl, ?_⟩) ?_ ?_
 rotate_left
 {
 intro w'
 go_simp
 with_reducible rfl }
 rotate_left
 {
 simp only [Act.put, sA_, s0_, sS_, i64_w, i32_w]
 rfl }
 refine pure_ (i := 21) (N := some 78) (v := ?_) (a' := ?_) (bm_ 45 4194303) rfl rfl (any_of HT_.out (by kernel_rfl)) (fun _ _ _ h => h) (Or.inl ⟨by rfl, ?_⟩) ?_ ?_
 rotate_left
 {
 intro w'
 go_simp
 with_reducible rfl }
 rotate_left
 {
 simp only [Act.put, sA_, s0_, sS_, i64_w, i32_w]
 rfl }
 refine pure_ (i := 22) (N := some 79) (v := ?_) (a' := ?_) (bm_ 45 8388607) rfl rfl (any_of HT_.out (by kernel_rfl)) (fun _ _ _ h => h) (Or.inl ⟨by rfl, ?_⟩) ?_ ?_
 rotate_left
 {
 intro w'
 go_simp
 with_reducible rfl }
 rotate_left
 {
 simp only [Act.put, sA_, s0_, sS_, i64_w, i32_w]
 rfl }
 refine pure_ (i := 23) (N := some 80) (v := ?_) (a' := ?_) (bm_ 45 16777215) rfl rfl (any_of HT_.out (by kernel_rfl)) (fun _ _ _ h => h) (Or.inl ⟨by rfl, ?_⟩) ?_ ?_
 rotate_left
 {
 intro w'
 go_simp
 with_reducible rfl }
 rotate_left
 {
 simp only [Act.put, sA_, s0_, sS_, i64_w, i32_w]
 rfl }
 refine pure_ (i := 27) (N := some 84) (v := ?_) (a' := ?_) (bm_ 45 150994943) rfl rfl (any_of HT_.out (by kernel_rfl)) (fun _ _ _ h => h) (Or.inl ⟨by rfl, ?_⟩) ?_ ?_
 rotate_left
 {
 intro w'
 go_simp
 with_reducible rfl }
 rotate_left
 {
 simp only [Act.put, sA_, s0_, sS_, i64_w, i32_w]
 rfl }
 refine pure_ (i := 31) (N := some 88) (v := ?_) (a' := ?_) (bm_ 45 2298478591) rfl rfl (any_of HT_.out (by kernel_rfl)) (fun _ _ _ h => h) (Or.inl ⟨by rfl, ?_⟩) ?_ ?_
 rotate_left
 {
 intro w'
 go_simp
 with_reducible rfl }
 rotate_left
 {
 simp only [Act.put, sA_, s0_, sS_, i64_w, i32_w]
 rfl }
 refine pure_ (i := 35) (N := some 92) (v := ?_) (a' := ?_) (bm_ 45 36658216959) rfl rfl (any_of HT_.out (by kernel_rfl)) (fun _ _ _ h => h) (Or.inl ⟨by rfl, ?_⟩) ?_ ?_
 rotate_left
 {
 intro w'
 go_simp
 with_reducible rfl }
 rotate_left
 {
 simp only [Act.put, sA_, s0_, sS_, i64_w, i32_w]
 rfl }
 refine take_ (i := 24) (N := some 81) (v := ?_) (a' := ?_) (bm_ 45 36674994175) rfl rfl (take_ofW HT_.out HW_.out (by kernel_rfl)) (fun _ _ _ h => h) (Or.inl ⟨by rfl, ?_⟩) hHeld ?_ ?_
 rotate_left
 {
 rintro w' ⟨s0, s1, s2, s3, s4, s5, s6, s7, s8⟩
 go_simp
 with_reducible rfl }
 rotate_left
 {
 simp only [Act.put, sA_, s0_, sS_, i64_w, i32_w]
 rfl }
 refine take_ (i := 28) (N := some 85) (v := ?_) (a' := ?_) (bm_ 45 36943429631) rfl rfl (take_ofW HT_.out HW_.out (by kernel_rfl)) (fun _ _ _ h => h) (Or.inl ⟨by rfl, ?_⟩) hHeld ?_ ?_
 rotate_left
 {
 rintro w' ⟨s0, s1, s2, s3, s4, s5, s6, s7, s8⟩
 go_simp
 with_reducible rfl }
 rotate_left
 {
 simp only [Act.put, sA_, s0_, sS_, i64_w, i32_w]
 rfl }
 refine one_ (i := 25) (N := some 82) (bm_ 45 36976984063) rfl rfl (one_of HT_.out (by kernel_rfl)) (by decide) (fun K hK => ?_)
 refine goes_ Try.func19 (by kernel_rfl) rfl #[.string t279] (by rfl) rfl rfl (by (try simp only [List.map_toArray, List.map_cons, List.map_nil]); first | done | rfl | (simp only [List.length_drop, List.length_take]; rfl)) ?_
 with_reducible refine (hearsayref01_Labels.calls kj12 t279 t294 _ A23.out).mono ?_
 rintro e w49 ⟨v295, rfl, ho0, hb⟩
 refine ⟨_, rfl, ?_⟩
 have n0_ := am_ (Kd.R_below (by (with_reducible repeat (first | apply Kd.R_alloc | apply Kd.R_drewN | apply Kd.R_drew)); exact HO278.out) hb)
 have n1_ := am_ (Kd.R_below (by (with_reducible repeat (first | apply Kd.R_alloc | apply Kd.R_drewN | apply Kd.R_drew)); exact HO287.out) hb)
 have n2_ := am_ (Kd.R_lower ho0 (below_size (by repeat (first | (with_reducible first | exact HB.out | apply below_alloc | apply pw_below_drewN | apply below_drew1 | refine below_set ?_ GE275.out | refine below_set ?_ GE283.out | refine below_set ?_ GE292.out) | exact HB.out))))
 have n3_ := am_ (blk_below (g := gb275) (o := .cells #[.string a0_0, .int .u16 a0_1, .int .u16 a0_2] 32 (0, 0)) (by (with_reducible repeat (first | refine blk_drewN ?_ _ | refine blk_drew ?_ | refine blk_alloc ?_ _)); exact BK275.out) hb)
 have n4_ := am_ (blk_below (g := gb283) (o := .cells #[.string t279, .int .u16 t280, .int .u16 t281] 32 (0, 0)) (by (with_reducible repeat (first | refine blk_drewN ?_ _ | refine blk_drew ?_ | refine blk_alloc ?_ _)); exact BK283.out) hb)
 have n5_ := am_ (blk_below (g := gb292) (o := .cells #[.string t288, .int .u16 t289, .int .u16 t290] 32 (0, 0)) (by (with_reducible repeat (first | refine blk_drewN ?_ _ | refine blk_drew ?_ | refine blk_alloc ?_ _)); exact BK292.out) hb)
 have n6_ := am_ (below_step (by repeat (first | (with_reducible first | exact HB.out | apply below_alloc | apply pw_below_drewN | apply below_drew1 | refine below_set ?_ GE275.out | refine below_set ?_ GE283.out | refine below_set ?_ GE292.out) | exact HB.out)) hb)
 clear HO278
 clear HO287
 clear BK275
 clear BK283
 clear BK292
 clear HB
 have HO278 := n0_
 have HO287 := n1_
 have HO296 := n2_
 have BK275 := n3_
 have BK283 := n4_
 have BK292 := n5_
 have HB := n6_
 clear n0_ n1_ n2_ n3_ n4_ n5_ n6_
 (try clear hb)
 (try clear hb2)
 (try clear hk)
 (try clear hi)
 (try clear ho0)
 obtain ⟨Ao50, co50, eo50⟩ := Kd.R_slice HO296.out
 (first | subst eo50 | (injection eo50 with f1_ f2_ f3_; have f4_ := f1_.symm; have f5_ := f3_.symm; clear f1_ f2_ f3_; subst f4_; subst f5_))
 refine hK.out _ _ ⟨(blk_cell BK292.out 0).trans rfl, (blk_cell BK292.out 1).trans rfl, (blk_cell BK292.out 2).trans rfl, (blk_cell BK275.out 0).trans rfl, (blk_cell BK275.out 1).trans rfl, (blk_cell BK275.out 2).trans rfl, (blk_cell BK283.out 0).trans rfl, (blk_cell BK283.out 1).trans rfl, (blk_cell BK283.out 2).trans rfl⟩ (fun hHeld => ?_)
 clear hK K
 refine norm_ (a' := ?_) ?_ ?_
 rotate_left
 {
 show Act.put _ (some 82) _ = _
 simp only [Act.put, sA_, s0_, sS_, i64_w, i32_w]
 rfl }
 refine pure_ (i := 26) (N := some 83) (v := ?_) (a' := ?_) (bm_ 45 37044092927) rfl rfl (any_of HT_.out (by kernel_rfl)) (fun _ _ _ h => h) (Or.inl ⟨by rfl, ?_⟩) ?_ ?_
 rotate_left
 {
 intro w'
 go_simp
 with_reducible rfl }
 rotate_left
 {
 simp only [Act.put, sA_, s0_, sS_, i64_w, i32_w]
 rfl }
 refine one_ (i := 29) (N := some 86) (bm_ 45 37580963839) rfl rfl (one_of HT_.out (by kernel_rfl)) (by decide) (fun K hK => ?_)
 refine goes_ Try.func19 (by kernel_rfl) rfl #[.string a0_0] (by rfl) rfl rfl (by (try simp only [List.map_toArray, List.map_cons, List.map_nil]); first | done | rfl | (simp only [List.length_drop, List.length_take]; rfl)) ?_
 with_reducible refine (hearsayref01_Labels.calls kj12 a0_0 t297 _ A24.out).mono ?_
 rintro e w51 ⟨v298, rfl, ho0, hb⟩
 refine ⟨_, rfl, ?_⟩
 have n0_ := am_ (Kd.R_below (by (with_reducible repeat (first | apply Kd.R_alloc | apply Kd.R_drewN | apply Kd.R_drew)); exact HO278.out) hb)
 have n1_ := am_ (Kd.R_below (by (with_reducible repeat (first | apply Kd.R_alloc | apply Kd.R_drewN | apply Kd.R_drew)); exact HO287.out) hb)
 have n2_ := am_ (Kd.R_elder' (by (with_reducible repeat (first | apply Kd.R_alloc | apply Kd.R_drewN | apply Kd.R_drew)); exact HO296.out) (Kd.R_base ho0) hb)
 have n3_ := am_ (Kd.R_lower (Kd.R_new' ho0 (Kd.R_lt (by (with_reducible repeat (first | apply Kd.R_alloc | apply Kd.R_drewN | apply Kd.R_drew)); exact HO296.out))) (below_size (by repeat (first | (with_reducible first | exact HB.out | apply below_alloc | apply pw_below_drewN | apply below_drew1 | refine below_set ?_ GE275.out | refine below_set ?_ GE283.out | refine below_set ?_ GE292.out) | exact HB.out))))
 have n4_ := am_ (blk_below (g := gb275) (o := .cells #[.string a0_0, .int .u16 a0_1, .int .u16 a0_2] 32 (0, 0)) (by (with_reducible repeat (first | refine blk_drewN ?_ _ | refine blk_drew ?_ | refine blk_alloc ?_ _)); exact BK275.out) hb)
 have n5_ := am_ (blk_below (g := gb283) (o := .cells #[.string t279, .int .u16 t280, .int .u16 t281] 32 (0, 0)) (by (with_reducible repeat (first | refine blk_drewN ?_ _ | refine blk_drew ?_ | refine blk_alloc ?_ _)); exact BK283.out) hb)
 have n6_ := am_ (blk_below (g := gb292) (o := .cells #[.string t288, .int .u16 t289, .int .u16 t290] 32 (0, 0)) (by (with_reducible repeat (first | refine blk_drewN ?_ _ | refine blk_drew ?_ | refine blk_alloc ?_ _)); exact BK292.out) hb)
 have n7_ := am_ (below_step (by repeat (first | (with_reducible first | exact HB.out | apply below_alloc | apply pw_below_drewN | apply below_drew1 | refine below_set ?_ GE275.out | refine below_set ?_ GE283.out | refine below_set ?_ GE292.out) | exact HB.out)) hb)
 clear HO278
 clear HO287
 clear HO296
 clear BK275
 clear BK283
 clear BK292
 clear HB
 have HO278 := n0_
 have HO287 := n1_
 have HO296 := n2_
 have HO299 := n3_
 have BK275 := n4_
 have BK283 := n5_
 have BK292 := n6_
 have HB := n7_
 clear n0_ n1_ n2_ n3_ n4_ n5_ n6_ n7_
 (try clear hb)
 (try clear hb2)
 (try clear hk)
 (try clear hi)
 (try clear ho0)
 obtain ⟨Ao52, co52, eo52⟩ := Kd.R_slice HO299.out
 (first | subst eo52 | (injection eo52 with f1_ f2_ f3_; have f4_ := f1_.symm; have f5_ := f3_.symm; clear f1_ f2_ f3_; subst f4_; subst f5_))
 refine hK.out _ _ ⟨(blk_cell BK292.out 0).trans rfl, (blk_cell BK292.out 1).trans rfl, (blk_cell BK292.out 2).trans rfl, (blk_cell BK275.out 0).trans rfl, (blk_cell BK275.out 1).trans rfl, (blk_cell BK275.out 2).trans rfl, (blk_cell BK283.out 0).trans rfl, (blk_cell BK283.out 1).trans rfl, (blk_cell BK283.out 2).trans rfl⟩ (fun hHeld => ?_)
 clear hK K
 refine norm_ (a' := ?_) ?_ ?_
 rotate_left
 {
 show Act.put _ (some 86) _ = _
 simp only [Act.put, sA_, s0_, sS_, i64_w, i32_w]
 rfl }
 refine pure_ (i := 30) (N := some 87) (v := ?_) (a' := ?_) (bm_ 45 38654705663) rfl rfl (any_of HT_.out (by kernel_rfl)) (fun _ _ _ h => h) (Or.inl ⟨by rfl, ?_⟩) ?_ ?_
 rotate_left
 {
 intro w'
 go_simp
 with_reducible rfl }
 rotate_left
 {
 simp only [Act.put, sA_, s0_, sS_, i64_w, i32_w]
 rfl }
 refine one_ (i := 32) (N := some 89) (bm_ 45 42949672959) rfl rfl (one_of HT_.out (by kernel_rfl)) (by decide) (fun K hK => ?_)
 refine goes_ Try.func19 (by kernel_rfl) rfl #[.string a1] (by rfl) rfl rfl (by (try simp only [List.map_toArray, List.map_cons, List.map_nil]); first | done | rfl | (simp only [List.length_drop, List.length_take]; rfl)) ?_
 with_reducible refine (hearsayref01_Labels.calls kj12 a1 t300 _ A25.out).mono ?_
 rintro e w53 ⟨v301, rfl, ho0, hb⟩
 refine ⟨_, rfl, ?_⟩
 have n0_ := am_ (Kd.R_below (by (with_reducible repeat (first | apply Kd.R_alloc | apply Kd.R_drewN | apply Kd.R_drew)); exact HO278.out) hb)
 have n1_ := am_ (Kd.R_below (by (with_reducible repeat (first | apply Kd.R_alloc | apply Kd.R_drewN | apply Kd.R_drew)); exact HO287.out) hb)
 have n2_ := am_ (Kd.R_elder' (by (with_reducible repeat (first | apply Kd.R_alloc | apply Kd.R_drewN | apply Kd.R_drew)); exact HO296.out) (Kd.R_base ho0) hb)
 have n3_ := am_ (Kd.R_elder' (by (with_reducible repeat (first | apply Kd.R_alloc | apply Kd.R_drewN | apply Kd.R_drew)); exact HO299.out) (Kd.R_base ho0) hb)
 have n4_ := am_ (Kd.R_lower (Kd.R_new' (Kd.R_new' ho0 (Kd.R_lt (by (with_reducible repeat (first | apply Kd.R_alloc | apply Kd.R_drewN | apply Kd.R_drew)); exact HO296.out))) (Kd.R_lt (by (with_reducible repeat (first | apply Kd.R_alloc | apply Kd.R_drewN | apply Kd.R_drew)); exact HO299.out))) (below_size (by repeat (first | (with_reducible first | exact HB.out | apply below_alloc | apply pw_below_drewN | apply below_drew1 | refine below_set ?_ GE275.out | refine below_set ?_ GE283.out | refine below_set ?_ GE292.out) | exact HB.out))))
 have n5_ := am_ (blk_below (g := gb275) (o := .cells #[.string a0_0, .int .u16 a0_1, .int .u16 a0_2] 32 (0, 0)) (by (with_reducible repeat (first | refine blk_drewN ?_ _ | refine blk_drew ?_ | refine blk_alloc ?_ _)); exact BK275.out) hb)
 have n6_ := am_ (blk_below (g := gb283) (o := .cells #[.string t279, .int .u16 t280, .int .u16 t281] 32 (0, 0)) (by (with_reducible repeat (first | refine blk_drewN ?_ _ | refine blk_drew ?_ | refine blk_alloc ?_ _)); exact BK283.out) hb)
 have n7_ := am_ (blk_below (g := gb292) (o := .cells #[.string t288, .int .u16 t289, .int .u16 t290] 32 (0, 0)) (by (with_reducible repeat (first | refine blk_drewN ?_ _ | refine blk_drew ?_ | refine blk_alloc ?_ _)); exact BK292.out) hb)
 have n8_ := am_ (below_step (by repeat (first | (with_reducible first | exact HB.out | apply below_alloc | apply pw_below_drewN | apply below_drew1 | refine below_set ?_ GE275.out | refine below_set ?_ GE283.out | refine below_set ?_ GE292.out) | exact HB.out)) hb)
 clear HO278
 clear HO287
 clear HO296
 clear HO299
 clear BK275
 clear BK283
 clear BK292
 clear HB
 have HO278 := n0_
 have HO287 := n1_
 have HO296 := n2_
 have HO299 := n3_
 have HO302 := n4_
 have BK275 := n5_
 have BK283 := n6_
 have BK292 := n7_
 have HB := n8_
 clear n0_ n1_ n2_ n3_ n4_ n5_ n6_ n7_ n8_
 (try clear hb)
 (try clear hb2)
 (try clear hk)
 (try clear hi)
 (try clear ho0)
 obtain ⟨Ao54, co54, eo54⟩ := Kd.R_slice HO302.out
 (first | subst eo54 | (injection eo54 with f1_ f2_ f3_; have f4_ := f1_.symm; have f5_ := f3_.symm; clear f1_ f2_ f3_; subst f4_; subst f5_))
 refine hK.out _ _ ⟨(blk_cell BK292.out 0).trans rfl, (blk_cell BK292.out 1).trans rfl, (blk_cell BK292.out 2).trans rfl, (blk_cell BK275.out 0).trans rfl, (blk_cell BK275.out 1).trans rfl, (blk_cell BK275.out 2).trans rfl, (blk_cell BK283.out 0).trans rfl, (blk_cell BK283.out 1).trans rfl, (blk_cell BK283.out 2).trans rfl⟩ (fun hHeld => ?_)
 clear hK K
 refine norm_ (a' := ?_) ?_ ?_
 rotate_left
 {
 show Act.put _ (some 89) _ = _
 simp only [Act.put, sA_, s0_, sS_, i64_w, i32_w]
 rfl }
 refine pure_ (i := 33) (N := some 90) (v := ?_) (a' := ?_) (bm_ 45 51539607551) rfl rfl (any_of HT_.out (by kernel_rfl)) (fun _ _ _ h => h) (Or.inl ⟨by rfl, ?_⟩) ?_ ?_
 rotate_left
 {
 intro w'
 go_simp
 with_reducible rfl }
 rotate_left
 {
 simp only [Act.put, sA_, s0_, sS_, i64_w, i32_w]
 rfl }
 refine pure_ (i := 34) (N := some 91) (v := ?_) (a' := ?_) (bm_ 45 68719476735) rfl rfl (any_of HT_.out (by kernel_rfl)) (fun _ _ _ h => h) (Or.inl ⟨by rfl, ?_⟩) ?_ ?_
 rotate_left
 {
 intro w'
 go_simp
 with_reducible rfl }
 rotate_left
 {
 simp only [Act.put, sA_, s0_, sS_, i64_w, i32_w]
 rfl }
 refine one_ (i := 36) (N := some 93) (bm_ 45 137438953471) rfl rfl (one_of HT_.out (by kernel_rfl)) (by decide) (fun K hK => ?_)
 refine goes_ Try.func19 (by kernel_rfl) rfl #[.string a2] (by rfl) rfl rfl (by (try simp only [List.map_toArray, List.map_cons, List.map_nil]); first | done | rfl | (simp only [List.length_drop, List.length_take]; rfl)) ?_
 with_reducible refine (hearsayref01_Labels.calls kj12 a2 t303 _ A26.out).mono ?_
 rintro e w55 ⟨v304, rfl, ho0, hb⟩
 refine ⟨_, rfl, ?_⟩
 have n0_ := am_ (Kd.R_below (by (with_reducible repeat (first | apply Kd.R_alloc | apply Kd.R_drewN | apply Kd.R_drew)); exact HO278.out) hb)
 have n1_ := am_ (Kd.R_below (by (with_reducible repeat (first | apply Kd.R_alloc | apply Kd.R_drewN | apply Kd.R_drew)); exact HO287.out) hb)
 have n2_ := am_ (Kd.R_elder' (by (with_reducible repeat (first | apply Kd.R_alloc | apply Kd.R_drewN | apply Kd.R_drew)); exact HO296.out) (Kd.R_base ho0) hb)
 have n3_ := am_ (Kd.R_elder' (by (with_reducible repeat (first | apply Kd.R_alloc | apply Kd.R_drewN | apply Kd.R_drew)); exact HO299.out) (Kd.R_base ho0) hb)
 have n4_ := am_ (Kd.R_elder' (by (with_reducible repeat (first | apply Kd.R_alloc | apply Kd.R_drewN | apply Kd.R_drew)); exact HO302.out) (Kd.R_base ho0) hb)
 have n5_ := am_ (Kd.R_lower (Kd.R_new' (Kd.R_new' (Kd.R_new' ho0 (Kd.R_lt (by (with_reducible repeat (first | apply Kd.R_alloc | apply Kd.R_drewN | apply Kd.R_drew)); exact HO296.out))) (Kd.R_lt (by (with_reducible repeat (first | apply Kd.R_alloc | apply Kd.R_drewN | apply Kd.R_drew)); exact HO299.out))) (Kd.R_lt (by (with_reducible repeat (first | apply Kd.R_alloc | apply Kd.R_drewN | apply Kd.R_drew)); exact HO302.out))) (below_size (by repeat (first | (with_reducible first | exact HB.out | apply below_alloc | apply pw_below_drewN | apply below_drew1 | refine below_set ?_ GE275.out | refine below_set ?_ GE283.out | refine below_set ?_ GE292.out) | exact HB.out))))
 have n6_ := am_ (blk_below (g := gb275) (o := .cells #[.string a0_0, .int .u16 a0_1, .int .u16 a0_2] 32 (0, 0)) (by (with_reducible repeat (first | refine blk_drewN ?_ _ | refine blk_drew ?_ | refine blk_alloc ?_ _)); exact BK275.out) hb)
 have n7_ := am_ (blk_below (g := gb283) (o := .cells #[.string t279, .int .u16 t280, .int .u16 t281] 32 (0, 0)) (by (with_reducible repeat (first | refine blk_drewN ?_ _ | refine blk_drew ?_ | refine blk_alloc ?_ _)); exact BK283.out) hb)
 have n8_ := am_ (blk_below (g := gb292) (o := .cells #[.string t288, .int .u16 t289, .int .u16 t290] 32 (0, 0)) (by (with_reducible repeat (first | refine blk_drewN ?_ _ | refine blk_drew ?_ | refine blk_alloc ?_ _)); exact BK292.out) hb)
 have n9_ := am_ (below_step (by repeat (first | (with_reducible first | exact HB.out | apply below_alloc | apply pw_below_drewN | apply below_drew1 | refine below_set ?_ GE275.out | refine below_set ?_ GE283.out | refine below_set ?_ GE292.out) | exact HB.out)) hb)
 clear HO278
 clear HO287
 clear HO296
 clear HO299
 clear HO302
 clear BK275
 clear BK283
 clear BK292
 clear HB
 have HO278 := n0_
 have HO287 := n1_
 have HO296 := n2_
 have HO299 := n3_
 have HO302 := n4_
 have HO305 := n5_
 have BK275 := n6_
 have BK283 := n7_
 have BK292 := n8_
 have HB := n9_
 clear n0_ n1_ n2_ n3_ n4_ n5_ n6_ n7_ n8_ n9_
 (try clear hb)
 (try clear hb2)
 (try clear hk)
 (try clear hi)
 (try clear ho0)
 obtain ⟨Ao56, co56, eo56⟩ := Kd.R_slice HO305.out
 (first | subst eo56 | (injection eo56 with f1_ f2_ f3_; have f4_ := f1_.symm; have f5_ := f3_.symm; clear f1_ f2_ f3_; subst f4_; subst f5_))
 refine hK.out _ _ ⟨(blk_cell BK292.out 0).trans rfl, (blk_cell BK292.out 1).trans rfl, (blk_cell BK292.out 2).trans rfl, (blk_cell BK275.out 0).trans rfl, (blk_cell BK275.out 1).trans rfl, (blk_cell BK275.out 2).trans rfl, (blk_cell BK283.out 0).trans rfl, (blk_cell BK283.out 1).trans rfl, (blk_cell BK283.out 2).trans rfl⟩ (fun hHeld => ?_)
 clear hK K
 refine norm_ (a' := ?_) ?_ ?_
 rotate_left
 {
 show Act.put _ (some 93) _ = _
 simp only [Act.put, sA_, s0_, sS_, i64_w, i32_w]
 rfl }
 refine pure_ (i := 37) (N := some 94) (v := ?_) (a' := ?_) (bm_ 45 274877906943) rfl rfl (any_of HT_.out (by kernel_rfl)) (fun _ _ _ h => h) (Or.inl ⟨by rfl, ?_⟩) ?_ ?_
 rotate_left
 {
 intro w'
 go_simp
 with_reducible rfl }
 rotate_left
 {
 simp only [Act.put, sA_, s0_, sS_, i64_w, i32_w]
 rfl }
 refine pure_ (i := 38) (N := some 95) (v := ?_) (a' := ?_) (bm_ 45 549755813887) rfl rfl (any_of HT_.out (by kernel_rfl)) (fun _ _ _ h => h) (Or.inl ⟨by rfl, ?_⟩) ?_ ?_
 rotate_left
 {
 intro w'
 go_simp
 with_reducible rfl }
 rotate_left
 {
 simp only [Act.put, sA_, s0_, sS_, i64_w, i32_w]
 rfl }
 refine pure_ (i := 39) (N := some 96) (v := ?_) (a' := ?_) (bm_ 45 1099511627775) rfl rfl (any_of HT_.out (by kernel_rfl)) (fun _ _ _ h => h) (Or.inl ⟨by rfl, ?_⟩) ?_ ?_
 rotate_left
 {
 intro w'
 go_simp
 with_reducible rfl }
 rotate_left
 {
 simp only [Act.put, sA_, s0_, sS_, i64_w, i32_w]
 rfl }
 refine pure_ (i := 40) (N := some 97) (v := ?_) (a' := ?_) (bm_ 45 2199023255551) rfl rfl (any_of HT_.out (by kernel_rfl)) (fun _ _ _ h => h) (Or.inl ⟨by rfl, ?_⟩) ?_ ?_
 rotate_left
 {
 intro w'
 go_simp
 with_reducible rfl }
 rotate_left
 {
 simp only [Act.put, sA_, s0_, sS_, i64_w, i32_w]
 rfl }
 refine pure_ (i := 41) (N := some 98) (v := ?_) (a' := ?_) (bm_ 45 4398046511103) rfl rfl (any_of HT_.out (by kernel_rfl)) (fun _ _ _ h => h) (Or.inl ⟨by rfl, ?_⟩) ?_ ?_
 rotate_left
 {
 intro w'
 go_simp
 with_reducible rfl }
 rotate_left
 {
 simp only [Act.put, sA_, s0_, sS_, i64_w, i32_w]
 rfl }
 refine one_ (i := 42) (N := some 99) (bm_ 45 8796093022207) rfl rfl (one_of HT_.out (by kernel_rfl)) (by decide) (fun K hK => ?_)
 refine goes_ Try.func15 (by kernel_rfl) rfl #[] (by rfl) rfl rfl (by (try simp only [List.map_toArray, List.map_cons, List.map_nil]); first | done | rfl | (simp only [List.length_drop, List.length_take]; rfl)) ?_
 with_reducible refine (hearsaylaw25_asks.calls  t306 _ A28.out).mono ?_
 rintro e w57 ⟨rfl, hb⟩
 refine ⟨_, rfl, ?_⟩
 have n0_ := am_ (Kd.R_below (by (with_reducible repeat (first | apply Kd.R_alloc | apply Kd.R_drewN | apply Kd.R_drew)); exact HO278.out) hb)
 have n1_ := am_ (Kd.R_below (by (with_reducible repeat (first | apply Kd.R_alloc | apply Kd.R_drewN | apply Kd.R_drew)); exact HO287.out) hb)
 have n2_ := am_ (Kd.R_below (by (with_reducible repeat (first | apply Kd.R_alloc | apply Kd.R_drewN | apply Kd.R_drew)); exact HO296.out) hb)
 have n3_ := am_ (Kd.R_below (by (with_reducible repeat (first | apply Kd.R_alloc | apply Kd.R_drewN | apply Kd.R_drew)); exact HO299.out) hb)
 have n4_ := am_ (Kd.R_below (by (with_reducible repeat (first | apply Kd.R_alloc | apply Kd.R_drewN | apply Kd.R_drew)); exact HO302.out) hb)
 have n5_ := am_ (Kd.R_below (by (with_reducible repeat (first | apply Kd.R_alloc | apply Kd.R_drewN | apply Kd.R_drew)); exact HO305.out) hb)
 have n6_ := am_ (blk_below (g := gb275) (o := .cells #[.string a0_0, .int .u16 a0_1, .int .u16 a0_2] 32 (0, 0)) (by (with_reducible repeat (first | refine blk_drewN ?_ _ | refine blk_drew ?_ | refine blk_alloc ?_ _)); exact BK275.out) hb)
 have n7_ := am_ (blk_below (g := gb283) (o := .cells #[.string t279, .int .u16 t280, .int .u16 t281] 32 (0, 0)) (by (with_reducible repeat (first | refine blk_drewN ?_ _ | refine blk_drew ?_ | refine blk_alloc ?_ _)); exact BK283.out) hb)
 have n8_ := am_ (blk_below (g := gb292) (o := .cells #[.string t288, .int .u16 t289, .int .u16 t290] 32 (0, 0)) (by (with_reducible repeat (first | refine blk_drewN ?_ _ | refine blk_drew ?_ | refine blk_alloc ?_ _)); exact BK292.out) hb)
 have n9_ := am_ (below_step (by repeat (first | (with_reducible first | exact HB.out | apply below_alloc | apply pw_below_drewN | apply below_drew1 | refine below_set ?_ GE275.out | refine below_set ?_ GE283.out | refine below_set ?_ GE292.out) | exact HB.out)) hb)
 clear HO278
 clear HO287
 clear HO296
 clear HO299
 clear HO302
 clear HO305
 clear BK275
 clear BK283
 clear BK292
 clear HB
 have HO278 := n0_
 have HO287 := n1_
 have HO296 := n2_
 have HO299 := n3_
 have HO302 := n4_
 have HO305 := n5_
 have BK275 := n6_
 have BK283 := n7_
 have BK292 := n8_
 have HB := n9_
 clear n0_ n1_ n2_ n3_ n4_ n5_ n6_ n7_ n8_ n9_
 (try clear hb)
 (try clear hb2)
 (try clear hk)
 (try clear hi)
 refine hK.out _ _ ⟨(blk_cell BK292.out 0).trans rfl, (blk_cell BK292.out 1).trans rfl, (blk_cell BK292.out 2).trans rfl, (blk_cell BK275.out 0).trans rfl, (blk_cell BK275.out 1).trans rfl, (blk_cell BK275.out 2).trans rfl, (blk_cell BK283.out 0).trans rfl, (blk_cell BK283.out 1).trans rfl, (blk_cell BK283.out 2).trans rfl⟩ (fun hHeld => ?_)
 clear hK K
 refine norm_ (a' := ?_) ?_ ?_
 rotate_left
 {
 show Act.put _ (some 99) _ = _
 simp only [Act.put, sA_, s0_, sS_, i64_w, i32_w]
 rfl }
 refine pure_ (i := 43) (N := some 100) (v := ?_) (a' := ?_) (bm_ 45 17592186044415) rfl rfl (any_of HT_.out (by kernel_rfl)) (fun _ _ _ h => h) (Or.inl ⟨by rfl, ?_⟩) ?_ ?_
 rotate_left
 {
 intro w'
 go_simp
 with_reducible rfl }
 rotate_left
 {
 simp only [Act.put, sA_, s0_, sS_, i64_w, i32_w]
 rfl }
 refine pure_ (i := 44) (N := some 8) (v := ?_) (a' := ?_) (bm_ 45 35184372088831) rfl rfl (any_of HT_.out (by kernel_rfl)) (fun _ _ _ h => h) (Or.inl ⟨by rfl, ?_⟩) ?_ ?_
 rotate_left
 {
 intro w'
 go_simp
 with_reducible rfl }
 rotate_left
 {
 simp only [Act.put, sA_, s0_, sS_, i64_w, i32_w]
 rfl }
 refine done_ (done_of HT_.out (by kernel_rfl)) ?_
 try go_wp2
 go_ret
 exact ⟨by first | rfl | (simp [errW_none, errW_some] <;> rfl) | (simp [*, errW_none, errW_some] <;> rfl), by repeat (first | (with_reducible first | exact HB.out | apply below_alloc | apply pw_below_drewN | apply below_drew1 | refine below_set ?_ GE275.out | refine below_set ?_ GE283.out | refine below_set ?_ GE292.out) | exact HB.out)⟩ }
 {
 rw [if_neg c27] at H
 have c27b0 : ((t294.length : Int) == (wrap64 ((wrap64 ((t297.length : Int) - (t300.length : Int))) + (t303.length : Int)))) = false := beq_eq_false_iff_ne.mpr c27
 have c27b1 : ((t294.length : Int) != (wrap64 ((wrap64 ((t297.length : Int) - (t300.length : Int))) + (t303.length : Int)))) = true := bne_iff_ne.mpr c27
 obtain rfl := Option.some.inj H
 try go_wp2_with (first | ((with_reducible refine gate_dst (N := 34) rfl ?_); (try (refine gate_guard (by rfl) ?_; dsimp only)); refine Kd.R_lit k38 _ 38 ?hg (N := 34) ?hd (xs := ([(⟨x9_12, a1, a2, 0, 0⟩ : S38)] : List (S38))) (inner := [.int .u8 x9_12, .string a1, .string a2, .int .u16 0, .int .u16 0]) (ok := fun _ => True) (okp := fun _ => True) ?hr ?hp (fun _ hk => hk) trivial (Below.refl _ _) (Nat.le_refl _) (by simp) ?_; (case hd => rfl); (case hg => rfl); (case hr => first | (go_simp; done) | (go_simp; rfl)); (case hp => exact (Reps.c5 (show Kd.M k38 _ _ _ (⟨x9_12, a1, a2, 0, 0⟩ : S38) [.int .u8 x9_12, .string a1, .string a2, .int .u16 0, .int .u16 0] from (k38_mkM _ _ _ (⟨x9_12, a1, a2, 0, 0⟩ : S38) )) (Reps.none _ _))); intro v277 w58 ho59 hb hg_ hnew_; clear hg_ hnew_; (first | rw [← Ny276.out] at ho59 | (simp only [Int.reduceToNat] at ho59; rw [← Ny276.out] at ho59)); have n0_ := am_ (Kd.R_lower ho59 (below_size (by repeat (first | (with_reducible first | exact HB.out | apply below_alloc | apply pw_below_drewN | apply below_drew1 | refine below_set ?_ GE275.out) | exact HB.out)))); have n1_ := am_ (blk_below (g := gb275) (o := .cells #[.string a0_0, .int .u16 a0_1, .int .u16 a0_2] 32 (0, 0)) (by (with_reducible repeat (first | refine blk_drewN ?_ _ | refine blk_drew ?_ | refine blk_alloc ?_ _)); exact BK275.out) hb); have n2_ := am_ (below_step (by repeat (first | (with_reducible first | exact HB.out | apply below_alloc | apply pw_below_drewN | apply below_drew1 | refine below_set ?_ GE275.out) | exact HB.out)) hb); clear BK275; clear HB; have HO278 := n0_; have BK275 := n1_; have HB := n2_; clear n0_ n1_ n2_; clear hb ho59; have hcz60_0 : w58.cell? ⟨gb275, 0, none⟩ = some (.string a0_0) := (blk_cell BK275.out 0).trans rfl; have hcz60_1 : w58.cell? ⟨gb275, 1, none⟩ = some (.int .u16 a0_1) := (blk_cell BK275.out 1).trans rfl; have hcz60_2 : w58.cell? ⟨gb275, 2, none⟩ = some (.int .u16 a0_2) := (blk_cell BK275.out 2).trans rfl; have hfz60_0 := blk_frozen BK275.out 0; have hfz60_1 := blk_frozen BK275.out 1; have hfz60_2 := blk_frozen BK275.out 2; obtain ⟨Ao61, co61, eo61⟩ := Kd.R_slice HO278.out; subst eo61) | ((with_reducible refine gate_callee (f := 16) rfl ?_); refine goesL_ (some 36) rfl rfl Try.func16 (by kernel_rfl) rfl #[.slice Ao61 y276.length co61, .agg #[.string a0_0, .int .u16 a0_1, .int .u16 a0_2]] rfl (by (try simp only [List.map_toArray, List.map_cons, List.map_nil]); first | done | rfl | (simp only [List.length_drop, List.length_take]; rfl)) ?_; (with_reducible refine (rewrite_Ask.calls _ _ y276 a0_0 a0_1 a0_2 t279 t280 t281 true _ ?side1 ?side2 A15.out).mono ?_); (case side1 => repeat (first | exact (Kd.R_reads' HO278.out).2.2 | (with_reducible refine Kd.C_alloc ?_ _) | (with_reducible refine Kd.C_drewN ?_ _) | (with_reducible refine Kd.C_drew ?_))); (case side2 => exact (Kd.R_reads' HO278.out).2.1); rintro e w62 ⟨rfl, hb⟩; refine ⟨_, rfl, ?_⟩; have n0_ := am_ (Kd.R_below (by (with_reducible repeat (first | apply Kd.R_alloc | apply Kd.R_drewN | apply Kd.R_drew)); exact HO278.out) hb); have n1_ := am_ (blk_below (g := gb275) (o := .cells #[.string a0_0, .int .u16 a0_1, .int .u16 a0_2] 32 (0, 0)) (by (with_reducible repeat (first | refine blk_drewN ?_ _ | refine blk_drew ?_ | refine blk_alloc ?_ _)); exact BK275.out) hb); have n2_ := am_ (below_step (by repeat (first | (with_reducible first | exact HB.out | apply below_alloc | apply pw_below_drewN | apply below_drew1 | refine below_set ?_ GE275.out) | exact HB.out)) hb); clear HO278; clear BK275; clear HB; have HO278 := n0_; have BK275 := n1_; have HB := n2_; clear n0_ n1_ n2_; (try clear hb); (try clear hb2); (try clear hk); (try clear hi)) | ((with_reducible refine gate_dst (N := 10) rfl ?_); (try (refine gate_guard (by rfl) ?_; dsimp only)); refine box_event ?hg (N := 10) ?hd (cs := #[.string (⟨#[]⟩ : ByteArray), .int .u16 0, .int .u16 0]) (t := 32) ?hr ?_; (case hd => rfl); (case hg => rfl); (case hr => first | (go_simp; done) | (go_simp; rfl)); intro gb283 hg w63 hbox hb; have n0_ := am_ (Kd.R_below (by (with_reducible repeat (first | apply Kd.R_alloc | apply Kd.R_drewN | apply Kd.R_drew)); exact HO278.out) hb); have n1_ := am_ (blk_below (g := gb275) (o := .cells #[.string a0_0, .int .u16 a0_1, .int .u16 a0_2] 32 (0, 0)) (by (with_reducible repeat (first | refine blk_drewN ?_ _ | refine blk_drew ?_ | refine blk_alloc ?_ _)); exact BK275.out) hb); have n2_ := am_ (below_step (by repeat (first | (with_reducible first | exact HB.out | apply below_alloc | apply pw_below_drewN | apply below_drew1 | refine below_set ?_ GE275.out) | exact HB.out)) hb); have n3_ := am_ (hbox); have n4_ := am_ ((by rw [hg]; exact (below_size (by repeat (first | (with_reducible first | exact HB.out | apply below_alloc | apply pw_below_drewN | apply below_drew1 | refine below_set ?_ GE275.out) | exact HB.out))) : w.heap.size ≤ gb283)); have n5_ := am_ ((by rw [hg]; exact (below_size (by repeat (first | (with_reducible first | exact HB.out | apply below_alloc | apply pw_below_drewN | apply below_drew1 | refine below_set ?_ GE275.out) | exact HB.out))) : w.heap.size ≤ gb283)); have n6_ := am_ ((by rw [hg]; exact Nat.ne_of_lt (blk_lt (g := gb275) (o := .cells #[.string a0_0, .int .u16 a0_1, .int .u16 a0_2] 32 (0, 0)) (by (with_reducible repeat (first | refine blk_drewN ?_ _ | refine blk_drew ?_ | refine blk_alloc ?_ _)); exact BK275.out)) : gb275 ≠ gb283)); have n7_ := am_ ((by rw [hg]; exact Nat.ne_of_gt (blk_lt (g := gb275) (o := .cells #[.string a0_0, .int .u16 a0_1, .int .u16 a0_2] 32 (0, 0)) (by (with_reducible repeat (first | refine blk_drewN ?_ _ | refine blk_drew ?_ | refine blk_alloc ?_ _)); exact BK275.out)) : gb283 ≠ gb275)); clear HO278; clear BK275; clear HB; have HO278 := n0_; have BK275 := n1_; have HB := n2_; have BK283 := n3_; have GW283 := n4_; have GE283 := n5_; have NB275_283 := n6_; have NB283_275 := n7_; clear n0_ n1_ n2_ n3_ n4_ n5_ n6_ n7_; clear hb hbox hg; have hnb64 := NB283_275.out; have hnc64 := NB275_283.out; have hcz65_0 : w63.cell? ⟨gb283, 0, none⟩ = some (.string (⟨#[]⟩ : ByteArray)) := (blk_cell BK283.out 0).trans rfl; have hcz65_1 : w63.cell? ⟨gb283, 1, none⟩ = some (.int .u16 0) := (blk_cell BK283.out 1).trans rfl; have hcz65_2 : w63.cell? ⟨gb283, 2, none⟩ = some (.int .u16 0) := (blk_cell BK283.out 2).trans rfl; have hfz65_0 := blk_frozen BK283.out 0; have hfz65_1 := blk_frozen BK283.out 1; have hfz65_2 := blk_frozen BK283.out 2) | ((with_reducible refine gate_dst (N := 52) rfl ?_); (try (refine gate_guard (by rfl) ?_; dsimp only)); refine Kd.R_lit k38 _ 38 ?hg (N := 52) ?hd (xs := ([(⟨x9_12, a2, a1, 0, 0⟩ : S38)] : List (S38))) (inner := [.int .u8 x9_12, .string a2, .string a1, .int .u16 0, .int .u16 0]) (ok := fun _ => True) (okp := fun _ => True) ?hr ?hp (fun _ hk => hk) trivial (Below.refl _ _) (Nat.le_refl _) (by simp) ?_; (case hd => rfl); (case hg => rfl); (case hr => first | (go_simp; done) | (go_simp; rfl)); (case hp => exact (Reps.c5 (show Kd.M k38 _ _ _ (⟨x9_12, a2, a1, 0, 0⟩ : S38) [.int .u8 x9_12, .string a2, .string a1, .int .u16 0, .int .u16 0] from (k38_mkM _ _ _ (⟨x9_12, a2, a1, 0, 0⟩ : S38) )) (Reps.none _ _))); intro v286 w66 ho67 hb hg_ hnew_; clear hg_ hnew_; (first | rw [← Ny285.out] at ho67 | (simp only [Int.reduceToNat] at ho67; rw [← Ny285.out] at ho67)); have n0_ := am_ (Kd.R_elder' (by (with_reducible repeat (first | apply Kd.R_alloc | apply Kd.R_drewN | apply Kd.R_drew)); exact (Kd.R_mono (Kd.R_far (p := ⟨gb283, 2, none⟩) (Kd.R_far (p := ⟨gb283, 1, none⟩) (Kd.R_far (p := ⟨gb283, 0, none⟩) (Kd.R_types HO278.out BK283.out (by decide)) (fun _ hk => hk.2) (.string t279)) (fun _ hk => hk.2) (.int .u16 t280)) (fun _ hk => hk.2) (.int .u16 t281)) (fun _ h_ => h_.1))) (Kd.R_base ho67) hb); have n1_ := am_ (Kd.R_lower (Kd.R_new' ho67 (Kd.R_lt (by (with_reducible repeat (first | apply Kd.R_alloc | apply Kd.R_drewN | apply Kd.R_drew)); exact (Kd.R_mono (Kd.R_far (p := ⟨gb283, 2, none⟩) (Kd.R_far (p := ⟨gb283, 1, none⟩) (Kd.R_far (p := ⟨gb283, 0, none⟩) (Kd.R_types HO278.out BK283.out (by decide)) (fun _ hk => hk.2) (.string t279)) (fun _ hk => hk.2) (.int .u16 t280)) (fun _ hk => hk.2) (.int .u16 t281)) (fun _ h_ => h_.1))))) (below_size (by repeat (first | (with_reducible first | exact HB.out | apply below_alloc | apply pw_below_drewN | apply below_drew1 | refine below_set ?_ GE275.out | refine below_set ?_ GE283.out) | exact HB.out)))); have n2_ := am_ (blk_below (g := gb275) (o := .cells #[.string a0_0, .int .u16 a0_1, .int .u16 a0_2] 32 (0, 0)) (by (with_reducible repeat (first | refine blk_drewN ?_ _ | refine blk_drew ?_ | refine blk_alloc ?_ _)); refine blk_far ?_ NB275_283.out _; (with_reducible repeat (first | refine blk_drewN ?_ _ | refine blk_drew ?_ | refine blk_alloc ?_ _)); refine blk_far ?_ NB275_283.out _; (with_reducible repeat (first | refine blk_drewN ?_ _ | refine blk_drew ?_ | refine blk_alloc ?_ _)); refine blk_far ?_ NB275_283.out _; (with_reducible repeat (first | refine blk_drewN ?_ _ | refine blk_drew ?_ | refine blk_alloc ?_ _)); exact BK275.out) hb); have n3_ := am_ (blk_below (g := gb283) (o := .cells #[.string t279, .int .u16 t280, .int .u16 t281] 32 (0, 0)) (by (with_reducible repeat (first | refine blk_drewN ?_ _ | refine blk_drew ?_ | refine blk_alloc ?_ _)); refine blk_put (cs := #[.string t279, .int .u16 t280, .int .u16 0]) ?_ 2 _ rfl; (with_reducible repeat (first | refine blk_drewN ?_ _ | refine blk_drew ?_ | refine blk_alloc ?_ _)); refine blk_put (cs := #[.string t279, .int .u16 0, .int .u16 0]) ?_ 1 _ rfl; (with_reducible repeat (first | refine blk_drewN ?_ _ | refine blk_drew ?_ | refine blk_alloc ?_ _)); refine blk_put (cs := #[.string (⟨#[]⟩ : ByteArray), .int .u16 0, .int .u16 0]) ?_ 0 _ rfl; (with_reducible repeat (first | refine blk_drewN ?_ _ | refine blk_drew ?_ | refine blk_alloc ?_ _)); exact BK283.out) hb); have n4_ := am_ (below_step (by repeat (first | (with_reducible first | exact HB.out | apply below_alloc | apply pw_below_drewN | apply below_drew1 | refine below_set ?_ GE275.out | refine below_set ?_ GE283.out) | exact HB.out)) hb); clear HO278; clear BK275; clear BK283; clear HB; have HO278 := n0_; have HO287 := n1_; have BK275 := n2_; have BK283 := n3_; have HB := n4_; clear n0_ n1_ n2_ n3_ n4_; clear hb ho67; have hcz68_0 : w66.cell? ⟨gb283, 0, none⟩ = some (.string t279) := (blk_cell BK283.out 0).trans rfl; have hcz68_1 : w66.cell? ⟨gb283, 1, none⟩ = some (.int .u16 t280) := (blk_cell BK283.out 1).trans rfl; have hcz68_2 : w66.cell? ⟨gb283, 2, none⟩ = some (.int .u16 t281) := (blk_cell BK283.out 2).trans rfl; have hfz68_0 := blk_frozen BK283.out 0; have hfz68_1 := blk_frozen BK283.out 1; have hfz68_2 := blk_frozen BK283.out 2; obtain ⟨Ao69, co69, eo69⟩ := Kd.R_slice HO287.out; subst eo69) | ((with_reducible refine gate_callee (f := 16) rfl ?_); refine goesL_ (some 54) rfl rfl Try.func16 (by kernel_rfl) rfl #[.slice Ao69 y285.length co69, .agg #[.string t279, .int .u16 t280, .int .u16 t281]] rfl (by (try simp only [List.map_toArray, List.map_cons, List.map_nil]); first | done | rfl | (simp only [List.length_drop, List.length_take]; rfl)) ?_; (with_reducible refine (rewrite_Ask.calls _ _ y285 t279 t280 t281 t288 t289 t290 true _ ?side1 ?side2 A17.out).mono ?_); (case side1 => repeat (first | exact (Kd.R_reads' HO287.out).2.2 | (with_reducible refine Kd.C_alloc ?_ _) | (with_reducible refine Kd.C_drewN ?_ _) | (with_reducible refine Kd.C_drew ?_))); (case side2 => exact (Kd.R_reads' HO287.out).2.1); rintro e w70 ⟨rfl, hb⟩; refine ⟨_, rfl, ?_⟩; have n0_ := am_ (Kd.R_below (by (with_reducible repeat (first | apply Kd.R_alloc | apply Kd.R_drewN | apply Kd.R_drew)); exact HO278.out) hb); have n1_ := am_ (Kd.R_below (by (with_reducible repeat (first | apply Kd.R_alloc | apply Kd.R_drewN | apply Kd.R_drew)); exact HO287.out) hb); have n2_ := am_ (blk_below (g := gb275) (o := .cells #[.string a0_0, .int .u16 a0_1, .int .u16 a0_2] 32 (0, 0)) (by (with_reducible repeat (first | refine blk_drewN ?_ _ | refine blk_drew ?_ | refine blk_alloc ?_ _)); exact BK275.out) hb); have n3_ := am_ (blk_below (g := gb283) (o := .cells #[.string t279, .int .u16 t280, .int .u16 t281] 32 (0, 0)) (by (with_reducible repeat (first | refine blk_drewN ?_ _ | refine blk_drew ?_ | refine blk_alloc ?_ _)); exact BK283.out) hb); have n4_ := am_ (below_step (by repeat (first | (with_reducible first | exact HB.out | apply below_alloc | apply pw_below_drewN | apply below_drew1 | refine below_set ?_ GE275.out | refine below_set ?_ GE283.out) | exact HB.out)) hb); clear HO278; clear HO287; clear BK275; clear BK283; clear HB; have HO278 := n0_; have HO287 := n1_; have BK275 := n2_; have BK283 := n3_; have HB := n4_; clear n0_ n1_ n2_ n3_ n4_; (try clear hb); (try clear hb2); (try clear hk); (try clear hi)) | ((with_reducible refine gate_dst (N := 12) rfl ?_); (try (refine gate_guard (by rfl) ?_; dsimp only)); refine box_event ?hg (N := 12) ?hd (cs := #[.string (⟨#[]⟩ : ByteArray), .int .u16 0, .int .u16 0]) (t := 32) ?hr ?_; (case hd => rfl); (case hg => rfl); (case hr => first | (go_simp; done) | (go_simp; rfl)); intro gb292 hg w71 hbox hb; have n0_ := am_ (Kd.R_below (by (with_reducible repeat (first | apply Kd.R_alloc | apply Kd.R_drewN | apply Kd.R_drew)); exact HO278.out) hb); have n1_ := am_ (Kd.R_below (by (with_reducible repeat (first | apply Kd.R_alloc | apply Kd.R_drewN | apply Kd.R_drew)); exact HO287.out) hb); have n2_ := am_ (blk_below (g := gb275) (o := .cells #[.string a0_0, .int .u16 a0_1, .int .u16 a0_2] 32 (0, 0)) (by (with_reducible repeat (first | refine blk_drewN ?_ _ | refine blk_drew ?_ | refine blk_alloc ?_ _)); exact BK275.out) hb); have n3_ := am_ (blk_below (g := gb283) (o := .cells #[.string t279, .int .u16 t280, .int .u16 t281] 32 (0, 0)) (by (with_reducible repeat (first | refine blk_drewN ?_ _ | refine blk_drew ?_ | refine blk_alloc ?_ _)); exact BK283.out) hb); have n4_ := am_ (below_step (by repeat (first | (with_reducible first | exact HB.out | apply below_alloc | apply pw_below_drewN | apply below_drew1 | refine below_set ?_ GE275.out | refine below_set ?_ GE283.out) | exact HB.out)) hb); have n5_ := am_ (hbox); have n6_ := am_ ((by rw [hg]; exact (below_size (by repeat (first | (with_reducible first | exact HB.out | apply below_alloc | apply pw_below_drewN | apply below_drew1 | refine below_set ?_ GE275.out | refine below_set ?_ GE283.out) | exact HB.out))) : w.heap.size ≤ gb292)); have n7_ := am_ ((by rw [hg]; exact (below_size (by repeat (first | (with_reducible first | exact HB.out | apply below_alloc | apply pw_below_drewN | apply below_drew1 | refine below_set ?_ GE275.out | refine below_set ?_ GE283.out) | exact HB.out))) : w.heap.size ≤ gb292)); have n8_ := am_ ((by rw [hg]; exact Nat.ne_of_lt (blk_lt (g := gb275) (o := .cells #[.string a0_0, .int .u16 a0_1, .int .u16 a0_2] 32 (0, 0)) (by (with_reducible repeat (first | refine blk_drewN ?_ _ | refine blk_drew ?_ | refine blk_alloc ?_ _)); exact BK275.out)) : gb275 ≠ gb292)); have n9_ := am_ ((by rw [hg]; exact Nat.ne_of_gt (blk_lt (g := gb275) (o := .cells #[.string a0_0, .int .u16 a0_1, .int .u16 a0_2] 32 (0, 0)) (by (with_reducible repeat (first | refine blk_drewN ?_ _ | refine blk_drew ?_ | refine blk_alloc ?_ _)); exact BK275.out)) : gb292 ≠ gb275)); have n10_ := am_ ((by rw [hg]; exact Nat.ne_of_lt (blk_lt (g := gb283) (o := .cells #[.string t279, .int .u16 t280, .int .u16 t281] 32 (0, 0)) (by (with_reducible repeat (first | refine blk_drewN ?_ _ | refine blk_drew ?_ | refine blk_alloc ?_ _)); exact BK283.out)) : gb283 ≠ gb292)); have n11_ := am_ ((by rw [hg]; exact Nat.ne_of_gt (blk_lt (g := gb283) (o := .cells #[.string t279, .int .u16 t280, .int .u16 t281] 32 (0, 0)) (by (with_reducible repeat (first | refine blk_drewN ?_ _ | refine blk_drew ?_ | refine blk_alloc ?_ _)); exact BK283.out)) : gb292 ≠ gb283)); clear HO278; clear HO287; clear BK275; clear BK283; clear HB; have HO278 := n0_; have HO287 := n1_; have BK275 := n2_; have BK283 := n3_; have HB := n4_; have BK292 := n5_; have GW292 := n6_; have GE292 := n7_; have NB275_292 := n8_; have NB292_275 := n9_; have NB283_292 := n10_; have NB292_283 := n11_; clear n0_ n1_ n2_ n3_ n4_ n5_ n6_ n7_ n8_ n9_ n10_ n11_; clear hb hbox hg; have hnb72 := NB292_275.out; have hnc72 := NB275_292.out; have hnb73 := NB292_283.out; have hnc73 := NB283_292.out; have hcz74_0 : w71.cell? ⟨gb292, 0, none⟩ = some (.string (⟨#[]⟩ : ByteArray)) := (blk_cell BK292.out 0).trans rfl; have hcz74_1 : w71.cell? ⟨gb292, 1, none⟩ = some (.int .u16 0) := (blk_cell BK292.out 1).trans rfl; have hcz74_2 : w71.cell? ⟨gb292, 2, none⟩ = some (.int .u16 0) := (blk_cell BK292.out 2).trans rfl; have hfz74_0 := blk_frozen BK292.out 0; have hfz74_1 := blk_frozen BK292.out 1; have hfz74_2 := blk_frozen BK292.out 2))
 have n0_ : Aside0 (Kd.R k38 38 (((w71.setCell ⟨gb292, 0, none⟩ (.string t288)).setCell ⟨gb292, 1, none⟩ (.int .u16 t289)).setCell ⟨gb292, 2, none⟩ (.int .u16 t290)) w.heap.size (fun k_ => some k_ ≠ (.slice Ao69 y285.length co69 : Value).ownBlock) (.slice Ao61 y276.length co61) y276) := ⟨by (with_reducible repeat (first | apply Kd.R_alloc | apply Kd.R_drewN | apply Kd.R_drew)); exact Kd.R_mono (Kd.R_far (p := ⟨gb292, 2, none⟩) (Kd.R_far (p := ⟨gb292, 1, none⟩) (Kd.R_far (p := ⟨gb292, 0, none⟩) (Kd.R_types HO278.out BK292.out (by decide)) (fun _ hk => hk.2) (.string t288)) (fun _ hk => hk.2) (.int .u16 t289)) (fun _ hk => hk.2) (.int .u16 t290)) (fun _ hk => hk.1.2)⟩
 have n1_ : Aside0 (Kd.R k38 38 (((w71.setCell ⟨gb292, 0, none⟩ (.string t288)).setCell ⟨gb292, 1, none⟩ (.int .u16 t289)).setCell ⟨gb292, 2, none⟩ (.int .u16 t290)) w.heap.size (fun k_ => some k_ ≠ (.slice Ao61 y276.length co61 : Value).ownBlock) (.slice Ao69 y285.length co69) y285) := ⟨by (with_reducible repeat (first | apply Kd.R_alloc | apply Kd.R_drewN | apply Kd.R_drew)); exact Kd.R_mono (Kd.R_far (p := ⟨gb292, 2, none⟩) (Kd.R_far (p := ⟨gb292, 1, none⟩) (Kd.R_far (p := ⟨gb292, 0, none⟩) (Kd.R_types HO287.out BK292.out (by decide)) (fun _ hk => hk.2) (.string t288)) (fun _ hk => hk.2) (.int .u16 t289)) (fun _ hk => hk.2) (.int .u16 t290)) (fun _ hk => hk.1.2)⟩
 have n2_ : Aside0 ((((w71.setCell ⟨gb292, 0, none⟩ (.string t288)).setCell ⟨gb292, 1, none⟩ (.int .u16 t289)).setCell ⟨gb292, 2, none⟩ (.int .u16 t290)).heap[gb275]? = some (.cells #[.string a0_0, .int .u16 a0_1, .int .u16 a0_2] 32 (0, 0))) := ⟨by (with_reducible repeat (first | refine blk_drewN ?_ _ | refine blk_drew ?_ | refine blk_alloc ?_ _)); refine blk_far ?_ NB275_292.out _; (with_reducible repeat (first | refine blk_drewN ?_ _ | refine blk_drew ?_ | refine blk_alloc ?_ _)); refine blk_far ?_ NB275_292.out _; (with_reducible repeat (first | refine blk_drewN ?_ _ | refine blk_drew ?_ | refine blk_alloc ?_ _)); refine blk_far ?_ NB275_292.out _; (with_reducible repeat (first | refine blk_drewN ?_ _ | refine blk_drew ?_ | refine blk_alloc ?_ _)); exact BK275.out⟩
 have n3_ : Aside0 ((((w71.setCell ⟨gb292, 0, none⟩ (.string t288)).setCell ⟨gb292, 1, none⟩ (.int .u16 t289)).setCell ⟨gb292, 2, none⟩ (.int .u16 t290)).heap[gb283]? = some (.cells #[.string t279, .int .u16 t280, .int .u16 t281] 32 (0, 0))) := ⟨by (with_reducible repeat (first | refine blk_drewN ?_ _ | refine blk_drew ?_ | refine blk_alloc ?_ _)); refine blk_far ?_ NB283_292.out _; (with_reducible repeat (first | refine blk_drewN ?_ _ | refine blk_drew ?_ | refine blk_alloc ?_ _)); refine blk_far ?_ NB283_292.out _; (with_reducible repeat (first | refine blk_drewN ?_ _ | refine blk_drew ?_ | refine blk_alloc ?_ _)); refine blk_far ?_ NB283_292.out _; (with_reducible repeat (first | refine blk_drewN ?_ _ | refine blk_drew ?_ | refine blk_alloc ?_ _)); exact BK283.out⟩
 have n4_ : Aside0 ((((w71.setCell ⟨gb292, 0, none⟩ (.string t288)).setCell ⟨gb292, 1, none⟩ (.int .u16 t289)).setCell ⟨gb292, 2, none⟩ (.int .u16 t290)).heap[gb292]? = some (.cells #[.string t288, .int .u16 t289, .int .u16 t290] 32 (0, 0))) := ⟨by (with_reducible repeat (first | refine blk_drewN ?_ _ | refine blk_drew ?_ | refine blk_alloc ?_ _)); refine blk_put (cs := #[.string t288, .int .u16 t289, .int .u16 0]) ?_ 2 _ rfl; (with_reducible repeat (first | refine blk_drewN ?_ _ | refine blk_drew ?_ | refine blk_alloc ?_ _)); refine blk_put (cs := #[.string t288, .int .u16 0, .int .u16 0]) ?_ 1 _ rfl; (with_reducible repeat (first | refine blk_drewN ?_ _ | refine blk_drew ?_ | refine blk_alloc ?_ _)); refine blk_put (cs := #[.string (⟨#[]⟩ : ByteArray), .int .u16 0, .int .u16 0]) ?_ 0 _ rfl; (with_reducible repeat (first | refine blk_drewN ?_ _ | refine blk_drew ?_ | refine blk_alloc ?_ _)); exact BK292.out⟩
 have n5_ : Aside0 (Below w.heap.size w (((w71.setCell ⟨gb292, 0, none⟩ (.string t288)).setCell ⟨gb292, 1, none⟩ (.int .u16 t289)).setCell ⟨gb292, 2, none⟩ (.int .u16 t290))) := ⟨by repeat (first | (with_reducible first | exact HB.out | apply below_alloc | apply pw_below_drewN | apply below_drew1 | refine below_set ?_ GE275.out | refine below_set ?_ GE283.out | refine below_set ?_ GE292.out) | exact HB.out)⟩
 (try clear HO278)
 (try clear HO287)
 (try clear BK275)
 (try clear BK283)
 (try clear BK292)
 (try clear HB)
 generalize (((w71.setCell ⟨gb292, 0, none⟩ (.string t288)).setCell ⟨gb292, 1, none⟩ (.int .u16 t289)).setCell ⟨gb292, 2, none⟩ (.int .u16 t290)) = w75 at n0_ n1_ n2_ n3_ n4_ n5_ ⊢
 have HO278 := n0_
 have HO287 := n1_
 have BK275 := n2_
 have BK283 := n3_
 have BK292 := n4_
 have HB := n5_
 clear n0_ n1_ n2_ n3_ n4_ n5_
 have n0_ := am_ (Kd.R_drew HO278.out)
 have n1_ := am_ (Kd.R_drew HO287.out)
 have n2_ := am_ (blk_drew BK275.out)
 have n3_ := am_ (blk_drew BK283.out)
 have n4_ := am_ (blk_drew BK292.out)
 have n5_ := am_ (below_drew1 HB.out)
 clear HO278
 clear HO287
 clear BK275
 clear BK283
 clear BK292
 clear HB
 have HO278 := n0_
 have HO287 := n1_
 have BK275 := n2_
 have BK283 := n3_
 have BK292 := n4_
 have HB := n5_
 clear n0_ n1_ n2_ n3_ n4_ n5_
 refine start_ (n := 45) (S := fun w' => w'.cell? ⟨gb292, 0, none⟩ = some (.string t288) ∧ w'.cell? ⟨gb292, 1, none⟩ = some (.int .u16 t289) ∧ w'.cell? ⟨gb292, 2, none⟩ = some (.int .u16 t290) ∧ w'.cell? ⟨gb275, 0, none⟩ = some (.string a0_0) ∧ w'.cell? ⟨gb275, 1, none⟩ = some (.int .u16 a0_1) ∧ w'.cell? ⟨gb275, 2, none⟩ = some (.int .u16 a0_2) ∧ w'.cell? ⟨gb283, 0, none⟩ = some (.string t279) ∧ w'.cell? ⟨gb283, 1, none⟩ = some (.int .u16 t280) ∧ w'.cell? ⟨gb283, 2, none⟩ = some (.int .u16 t281)) (ds := []) (bm_ 45 0) (by kernel_rfl) rfl rfl ⟨(blk_cell BK292.out 0).trans rfl, (blk_cell BK292.out 1).trans rfl, (blk_cell BK292.out 2).trans rfl, (blk_cell BK275.out 0).trans rfl, (blk_cell BK275.out 1).trans rfl, (blk_cell BK275.out 2).trans rfl, (blk_cell BK283.out 0).trans rfl, (blk_cell BK283.out 1).trans rfl, (blk_cell BK283.out 2).trans rfl⟩ (fun hHeld => ?_); refine with_tabW hearsaylaw25_RewriteThere.tab10 hearsaylaw25_RewriteThere.bits10 (fun HT_ HW_ => ?_)
 generalize w75.drew = w76 at HO278 HO287 BK275 BK283 BK292 HB hHeld ⊢
 refine pure_ (i := 0) (N := some 57) (v := ?_) (a' := ?_) (bm_ 45 1) rfl rfl (any_of HT_.out (by kernel_rfl)) (fun _ _ _ h => h) (Or.inl ⟨by rfl, ?_⟩) ?_ ?_
 rotate_left
 {
 intro w'
 go_simp
 with_reducible rfl }
 rotate_left
 {
 simp only [Act.put, sA_, s0_, sS_, i64_w, i32_w]
 rfl }
 refine pure_ (i := 1) (N := some 58) (v := ?_) (a' := ?_) (bm_ 45 3) rfl rfl (any_of HT_.out (by kernel_rfl)) (fun _ _ _ h => h) (Or.inl ⟨by rfl, ?_⟩) ?_ ?_
 rotate_left
 {
 intro w'
 go_simp
 with_reducible rfl }
 rotate_left
 {
 simp only [Act.put, sA_, s0_, sS_, i64_w, i32_w]
 rfl }
 refine pure_ (i := 2) (N := some 59) (v := ?_) (a' := ?_) (bm_ 45 7) rfl rfl (any_of HT_.out (by kernel_rfl)) (fun _ _ _ h => h) (Or.inl ⟨by rfl, ?_⟩) ?_ ?_
 rotate_left
 {
 intro w'
 go_simp
 with_reducible rfl }
 rotate_left
 {
 simp only [Act.put, sA_, s0_, sS_, i64_w, i32_w]
 rfl }
 refine pure_ (i := 4) (N := some 61) (v := ?_) (a' := ?_) (bm_ 45 23) rfl rfl (any_of HT_.out (by kernel_rfl)) (fun _ _ _ h => h) (Or.inl ⟨by rfl, ?_⟩) ?_ ?_
 rotate_left
 {
 intro w'
 go_simp
 with_reducible rfl }
 rotate_left
 {
 simp only [Act.put, sA_, s0_, sS_, i64_w, i32_w]
 rfl }
 refine take_ (i := 3) (N := some 60) (v := ?_) (a' := ?_) (bm_ 45 31) rfl rfl (take_ofW HT_.out HW_.out (by kernel_rfl)) (fun _ _ _ h => h) (Or.inl ⟨by rfl, ?_⟩) hHeld ?_ ?_
 rotate_left
 {
 rintro w' ⟨s0, s1, s2, s3, s4, s5, s6, s7, s8⟩
 go_simp
 with_reducible rfl }
 rotate_left
 {
 simp only [Act.put, sA_, s0_, sS_, i64_w, i32_w]
 rfl }
 refine take_ (i := 5) (N := some 62) (v := ?_) (a' := ?_) (bm_ 45 63) rfl rfl (take_ofW HT_.out HW_.out (by kernel_rfl)) (fun _ _ _ h => h) (Or.inl ⟨by rfl, ?_⟩) hHeld ?_ ?_
 rotate_left
 {
 rintro w' ⟨s0, s1, s2, s3, s4, s5, s6, s7, s8⟩
 go_simp
 with_reducible rfl }
 rotate_left
 {
 simp only [Act.put, sA_, s0_, sS_, i64_w, i32_w]
 rfl }
 refine one_ (i := 6) (N := some 63) (bm_ 45 127) rfl rfl (one_of HT_.out (by kernel_rfl)) (by decide) (fun K hK => ?_)
 refine goes_ Try.func18 (by kernel_rfl) rfl #[.string t288, .string a0_0] (by rfl) rfl rfl (by (try simp only [List.map_toArray, List.map_cons, List.map_nil]); first | done | rfl | (simp only [List.length_drop, List.length_take]; rfl)) ?_
 with_reducible refine (hearsayref01_Alike.calls t288 a0_0 true _ A19.out).mono ?_
 rintro e w77 ⟨rfl, hb⟩
 refine ⟨_, rfl, ?_⟩
 have n0_ := am_ (Kd.R_below (by (with_reducible repeat (first | apply Kd.R_alloc | apply Kd.R_drewN | apply Kd.R_drew)); exact HO278.out) hb)
 have n1_ := am_ (Kd.R_below (by (with_reducible repeat (first | apply Kd.R_alloc | apply Kd.R_drewN | apply Kd.R_drew)); exact HO287.out) hb)
 have n2_ := am_ (blk_below (g := gb275) (o := .cells #[.string a0_0, .int .u16 a0_1, .int .u16 a0_2] 32 (0, 0)) (by (with_reducible repeat (first | refine blk_drewN ?_ _ | refine blk_drew ?_ | refine blk_alloc ?_ _)); exact BK275.out) hb)
 have n3_ := am_ (blk_below (g := gb283) (o := .cells #[.string t279, .int .u16 t280, .int .u16 t281] 32 (0, 0)) (by (with_reducible repeat (first | refine blk_drewN ?_ _ | refine blk_drew ?_ | refine blk_alloc ?_ _)); exact BK283.out) hb)
 have n4_ := am_ (blk_below (g := gb292) (o := .cells #[.string t288, .int .u16 t289, .int .u16 t290] 32 (0, 0)) (by (with_reducible repeat (first | refine blk_drewN ?_ _ | refine blk_drew ?_ | refine blk_alloc ?_ _)); exact BK292.out) hb)
 have n5_ := am_ (below_step (by repeat (first | (with_reducible first | exact HB.out | apply below_alloc | apply pw_below_drewN | apply below_drew1 | refine below_set ?_ GE275.out | refine below_set ?_ GE283.out | refine below_set ?_ GE292.out) | exact HB.out)) hb)
 clear HO278
 clear HO287
 clear BK275
 clear BK283
 clear BK292
 clear HB
 have HO278 := n0_
 have HO287 := n1_
 have BK275 := n2_
 have BK283 := n3_
 have BK292 := n4_
 have HB := n5_
 clear n0_ n1_ n2_ n3_ n4_ n5_
 (try clear hb)
 (try clear hb2)
 (try clear hk)
 (try clear hi)
 refine hK.out _ _ ⟨(blk_cell BK292.out 0).trans rfl, (blk_cell BK292.out 1).trans rfl, (blk_cell BK292.out 2).trans rfl, (blk_cell BK275.out 0).trans rfl, (blk_cell BK275.out 1).trans rfl, (blk_cell BK275.out 2).trans rfl, (blk_cell BK283.out 0).trans rfl, (blk_cell BK283.out 1).trans rfl, (blk_cell BK283.out 2).trans rfl⟩ (fun hHeld => ?_)
 clear hK K
 refine norm_ (a' := ?_) ?_ ?_
 rotate_left
 {
 show Act.put _ (some 63) _ = _
 simp only [Act.put, sA_, s0_, sS_, i64_w, i32_w]
 rfl }
 refine pure_ (i := 7) (N := some 64) (v := ?_) (a' := ?_) (bm_ 45 255) rfl rfl (any_of HT_.out (by kernel_rfl)) (fun _ _ _ h => h) (Or.inl ⟨by rfl, ?_⟩) ?_ ?_
 rotate_left
 {
 intro w'
 go_simp
 with_reducible rfl }
 rotate_left
 {
 simp only [Act.put, sA_, s0_, sS_, i64_w, i32_w]
 rfl }
 refine pure_ (i := 8) (N := some 65) (v := ?_) (a' := ?_) (bm_ 45 511) rfl rfl (any_of HT_.out (by kernel_rfl)) (fun _ _ _ h => h) (Or.inl ⟨by rfl, ?_⟩) ?_ ?_
 rotate_left
 {
 intro w'
 go_simp
 with_reducible rfl }
 rotate_left
 {
 simp only [Act.put, sA_, s0_, sS_, i64_w, i32_w]
 rfl }
 refine pure_ (i := 9) (N := some 66) (v := ?_) (a' := ?_) (bm_ 45 1023) rfl rfl (any_of HT_.out (by kernel_rfl)) (fun _ _ _ h => h) (Or.inl ⟨by rfl, ?_⟩) ?_ ?_
 rotate_left
 {
 intro w'
 go_simp
 with_reducible rfl }
 rotate_left
 {
 simp only [Act.put, sA_, s0_, sS_, i64_w, i32_w]
 rfl }
 refine pure_ (i := 11) (N := some 68) (v := ?_) (a' := ?_) (bm_ 45 3071) rfl rfl (any_of HT_.out (by kernel_rfl)) (fun _ _ _ h => h) (Or.inl ⟨by rfl, ?_⟩) ?_ ?_
 rotate_left
 {
 intro w'
 go_simp
 with_reducible rfl }
 rotate_left
 {
 simp only [Act.put, sA_, s0_, sS_, i64_w, i32_w]
 rfl }
 refine take_ (i := 10) (N := some 67) (v := ?_) (a' := ?_) (bm_ 45 4095) rfl rfl (take_ofW HT_.out HW_.out (by kernel_rfl)) (fun _ _ _ h => h) (Or.inl ⟨by rfl, ?_⟩) hHeld ?_ ?_
 rotate_left
 {
 rintro w' ⟨s0, s1, s2, s3, s4, s5, s6, s7, s8⟩
 go_simp
 with_reducible rfl }
 rotate_left
 {
 simp only [Act.put, sA_, s0_, sS_, i64_w, i32_w]
 rfl }
 refine take_ (i := 12) (N := some 69) (v := ?_) (a' := ?_) (bm_ 45 8191) rfl rfl (take_ofW HT_.out HW_.out (by kernel_rfl)) (fun _ _ _ h => h) (Or.inl ⟨by rfl, ?_⟩) hHeld ?_ ?_
 rotate_left
 {
 rintro w' ⟨s0, s1, s2, s3, s4, s5, s6, s7, s8⟩
 go_simp
 with_reducible rfl }
 rotate_left
 {
 simp only [Act.put, sA_, s0_, sS_, i64_w, i32_w]
 rfl }
 refine pure_ (i := 13) (N := some 70) (v := ?_) (a' := ?_) (bm_ 45 16383) rfl rfl (any_of HT_.out (by kernel_rfl)) (fun _ _ _ h => h) (Or.inl ⟨by rfl, ?_⟩) ?_ ?_
 rotate_left
 {
 intro w'
 go_simp
 with_reducible rfl }
 rotate_left
 {
 simp only [Act.put, sA_, s0_, sS_, i64_w, i32_w]
 rfl }
 refine pure_ (i := 14) (N := some 71) (v := ?_) (a' := ?_) (bm_ 45 32767) rfl rfl (any_of HT_.out (by kernel_rfl)) (fun _ _ _ h => h) (Or.inl ⟨by rfl, ?_⟩) ?_ ?_
 rotate_left
 {
 intro w'
 go_simp
 with_reducible rfl }
 rotate_left
 {
 simp only [Act.put, sA_, s0_, sS_, i64_w, i32_w]
 rfl }
 refine pure_ (i := 15) (N := some 72) (v := ?_) (a' := ?_) (bm_ 45 65535) rfl rfl (any_of HT_.out (by kernel_rfl)) (fun _ _ _ h => h) (Or.inl ⟨by rfl, ?_⟩) ?_ ?_
 rotate_left
 {
 intro w'
 go_simp
 with_reducible rfl }
 rotate_left
 {
 simp only [Act.put, sA_, s0_, sS_, i64_w, i32_w]
 rfl }
 refine pure_ (i := 16) (N := some 73) (v := ?_) (a' := ?_) (bm_ 45 131071) rfl rfl (any_of HT_.out (by kernel_rfl)) (fun _ _ _ h => h) (Or.inl ⟨by rfl, ?_⟩) ?_ ?_
 rotate_left
 {
 intro w'
 go_simp
 with_reducible rfl }
 rotate_left
 {
 simp only [Act.put, sA_, s0_, sS_, i64_w, i32_w]
 rfl }
 refine pure_ (i := 18) (N := some 75) (v := ?_) (a' := ?_) (bm_ 45 393215) rfl rfl (any_of HT_.out (by kernel_rfl)) (fun _ _ _ h => h) (Or.inl ⟨by rfl, ?_⟩) ?_ ?_
 rotate_left
 {
 intro w'
 go_simp
 with_reducible rfl }
 rotate_left
 {
 simp only [Act.put, sA_, s0_, sS_, i64_w, i32_w]
 rfl }
 refine take_ (i := 17) (N := some 74) (v := ?_) (a' := ?_) (bm_ 45 524287) rfl rfl (take_ofW HT_.out HW_.out (by kernel_rfl)) (fun _ _ _ h => h) (Or.inl ⟨by rfl, ?_⟩) hHeld ?_ ?_
 rotate_left
 {
 rintro w' ⟨s0, s1, s2, s3, s4, s5, s6, s7, s8⟩
 go_simp
 with_reducible rfl }
 rotate_left
 {
 simp only [Act.put, sA_, s0_, sS_, i64_w, i32_w]
 rfl }
 refine take_ (i := 19) (N := some 76) (v := ?_) (a' := ?_) (bm_ 45 1048575) rfl rfl (take_ofW HT_.out HW_.out (by kernel_rfl)) (fun _ _ _ h => h) (Or.inl ⟨by rfl, ?_⟩) hHeld ?_ ?_
 rotate_left
 {
 rintro w' ⟨s0, s1, s2, s3, s4, s5, s6, s7, s8⟩
 go_simp
 with_reducible rfl }
 rotate_left
 {
 simp only [Act.put, sA_, s0_, sS_, i64_w, i32_w]
 rfl }
 refine pure_ (i := 20) (N := some 77) (v := ?_) (a' := ?_) (bm_ 45 2097151) rfl rfl (any_of HT_.out (by kernel_rfl)) (fun _ _ _ h => h) (Or.inl ⟨by rfl, ?_⟩) ?_ ?_
 rotate_left
 {
 intro w'
 go_simp
 with_reducible rfl }
 rotate_left
 {
 simp only [Act.put, sA_, s0_, sS_, i64_w, i32_w]
 rfl }
 refine pure_ (i := 21) (N := some 78) (v := ?_) (a' := ?_) (bm_ 45 4194303) rfl rfl (any_of HT_.out (by kernel_rfl)) (fun _ _ _ h => h) (Or.inl ⟨by rfl, ?_⟩) ?_ ?_
 rotate_left
 {
 intro w'
 go_simp
 with_reducible rfl }
 rotate_left
 {
 simp only [Act.put, sA_, s0_, sS_, i64_w, i32_w]
 rfl }
 refine pure_ (i := 22) (N := some 79) (v := ?_) (a' := ?_) (bm_ 45 8388607) rfl rfl (any_of HT_.out (by kernel_rfl)) (fun _ _ _ h => h) (Or.inl ⟨by rfl, ?_⟩) ?_ ?_
 rotate_left
 {
 intro w'
 go_simp
 with_reducible rfl }
 rotate_left
 {
 simp only [Act.put, sA_, s0_, sS_, i64_w, i32_w]
 rfl }
 refine pure_ (i := 23) (N := some 80) (v := ?_) (a' := ?_) (bm_ 45 16777215) rfl rfl (any_of HT_.out (by kernel_rfl)) (fun _ _ _ h => h) (Or.inl ⟨by rfl, ?_⟩) ?_ ?_
 rotate_left
 {
 intro w'
 go_simp
 with_reducible rfl }
 rotate_left
 {
 simp only [Act.put, sA_, s0_, sS_, i64_w, i32_w]
 rfl }
 refine pure_ (i := 27) (N := some 84) (v := ?_) (a' := ?_) (bm_ 45 150994943) rfl rfl (any_of HT_.out (by kernel_rfl)) (fun _ _ _ h => h) (Or.inl ⟨by rfl, ?_⟩) ?_ ?_
 rotate_left
 {
 intro w'
 go_simp
 with_reducible rfl }
 rotate_left
 {
 simp only [Act.put, sA_, s0_, sS_, i64_w, i32_w]
 rfl }
 refine pure_ (i := 31) (N := some 88) (v := ?_) (a' := ?_) (bm_ 45 2298478591) rfl rfl (any_of HT_.out (by kernel_rfl)) (fun _ _ _ h => h) (Or.inl ⟨by rfl, ?_⟩) ?_ ?_
 rotate_left
 {
 intro w'
 go_simp
 with_reducible rfl }
 rotate_left
 {
 simp only [Act.put, sA_, s0_, sS_, i64_w, i32_w]
 rfl }
 refine pure_ (i := 35) (N := some 92) (v := ?_) (a' := ?_) (bm_ 45 36658216959) rfl rfl (any_of HT_.out (by kernel_rfl)) (fun _ _ _ h => h) (Or.inl ⟨by rfl, ?_⟩) ?_ ?_
 rotate_left
 {
 intro w'
 go_simp
 with_reducible rfl }
 rotate_left
 {
 simp only [Act.put, sA_, s0_, sS_, i64_w, i32_w]
 rfl }
 refine take_ (i := 24) (N := some 81) (v := ?_) (a' := ?_) (bm_ 45 36674994175) rfl rfl (take_ofW HT_.out HW_.out (by kernel_rfl)) (fun _ _ _ h => h) (Or.inl ⟨by rfl, ?_⟩) hHeld ?_ ?_
 rotate_left
 {
 rintro w' ⟨s0, s1, s2, s3, s4, s5, s6, s7, s8⟩
 go_simp
 with_reducible rfl }
 rotate_left
 {
 simp only [Act.put, sA_, s0_, sS_, i64_w, i32_w]
 rfl }
 refine take_ (i := 28) (N := some 85) (v := ?_) (a' := ?_) (bm_ 45 36943429631) rfl rfl (take_ofW HT_.out HW_.out (by kernel_rfl)) (fun _ _ _ h => h) (Or.inl ⟨by rfl, ?_⟩) hHeld ?_ ?_
 rotate_left
 {
 rintro w' ⟨s0, s1, s2, s3, s4, s5, s6, s7, s8⟩
 go_simp
 with_reducible rfl }
 rotate_left
 {
 simp only [Act.put, sA_, s0_, sS_, i64_w, i32_w]
 rfl }
 refine one_ (i := 25) (N := some 82) (bm_ 45 36976984063) rfl rfl (one_of HT_.out (by kernel_rfl)) (by decide) (fun K hK => ?_)
 refine goes_ Try.func19 (by kernel_rfl) rfl #[.string t279] (by rfl) rfl rfl (by (try simp only [List.map_toArray, List.map_cons, List.map_nil]); first | done | rfl | (simp only [List.length_drop, List.length_take]; rfl)) ?_
 with_reducible refine (hearsayref01_Labels.calls kj12 t279 t294 _ A23.out).mono ?_
 rintro e w78 ⟨v295, rfl, ho0, hb⟩
 refine ⟨_, rfl, ?_⟩
 have n0_ := am_ (Kd.R_below (by (with_reducible repeat (first | apply Kd.R_alloc | apply Kd.R_drewN | apply Kd.R_drew)); exact HO278.out) hb)
 have n1_ := am_ (Kd.R_below (by (with_reducible repeat (first | apply Kd.R_alloc | apply Kd.R_drewN | apply Kd.R_drew)); exact HO287.out) hb)
 have n2_ := am_ (Kd.R_lower ho0 (below_size (by repeat (first | (with_reducible first | exact HB.out | apply below_alloc | apply pw_below_drewN | apply below_drew1 | refine below_set ?_ GE275.out | refine below_set ?_ GE283.out | refine below_set ?_ GE292.out) | exact HB.out))))
 have n3_ := am_ (blk_below (g := gb275) (o := .cells #[.string a0_0, .int .u16 a0_1, .int .u16 a0_2] 32 (0, 0)) (by (with_reducible repeat (first | refine blk_drewN ?_ _ | refine blk_drew ?_ | refine blk_alloc ?_ _)); exact BK275.out) hb)
 have n4_ := am_ (blk_below (g := gb283) (o := .cells #[.string t279, .int .u16 t280, .int .u16 t281] 32 (0, 0)) (by (with_reducible repeat (first | refine blk_drewN ?_ _ | refine blk_drew ?_ | refine blk_alloc ?_ _)); exact BK283.out) hb)
 have n5_ := am_ (blk_below (g := gb292) (o := .cells #[.string t288, .int .u16 t289, .int .u16 t290] 32 (0, 0)) (by (with_reducible repeat (first | refine blk_drewN ?_ _ | refine blk_drew ?_ | refine blk_alloc ?_ _)); exact BK292.out) hb)
 have n6_ := am_ (below_step (by repeat (first | (with_reducible first | exact HB.out | apply below_alloc | apply pw_below_drewN | apply below_drew1 | refine below_set ?_ GE275.out | refine below_set ?_ GE283.out | refine below_set ?_ GE292.out) | exact HB.out)) hb)
 clear HO278
 clear HO287
 clear BK275
 clear BK283
 clear BK292
 clear HB
 have HO278 := n0_
 have HO287 := n1_
 have HO296 := n2_
 have BK275 := n3_
 have BK283 := n4_
 have BK292 := n5_
 have HB := n6_
 clear n0_ n1_ n2_ n3_ n4_ n5_ n6_
 (try clear hb)
 (try clear hb2)
 (try clear hk)
 (try clear hi)
 (try clear ho0)
 obtain ⟨Ao79, co79, eo79⟩ := Kd.R_slice HO296.out
 (first | subst eo79 | (injection eo79 with f1_ f2_ f3_; have f4_ := f1_.symm; have f5_ := f3_.symm; clear f1_ f2_ f3_; subst f4_; subst f5_))
 refine hK.out _ _ ⟨(blk_cell BK292.out 0).trans rfl, (blk_cell BK292.out 1).trans rfl, (blk_cell BK292.out 2).trans rfl, (blk_cell BK275.out 0).trans rfl, (blk_cell BK275.out 1).trans rfl, (blk_cell BK275.out 2).trans rfl, (blk_cell BK283.out 0).trans rfl, (blk_cell BK283.out 1).trans rfl, (blk_cell BK283.out 2).trans rfl⟩ (fun hHeld => ?_)
 clear hK K
 refine norm_ (a' := ?_) ?_ ?_
 rotate_left
 {
 show Act.put _ (some 82) _ = _
 simp only [Act.put, sA_, s0_, sS_, i64_w, i32_w]
 rfl }
 refine pure_ (i := 26) (N := some 83) (v := ?_) (a' := ?_) (bm_ 45 37044092927) rfl rfl (any_of HT_.out (by kernel_rfl)) (fun _ _ _ h => h) (Or.inl ⟨by rfl, ?_⟩) ?_ ?_
 rotate_left
 {
 intro w'
 go_simp
 with_reducible rfl }
 rotate_left
 {
 simp only [Act.put, sA_, s0_, sS_, i64_w, i32_w]
 rfl }
 refine one_ (i := 29) (N := some 86) (bm_ 45 37580963839) rfl rfl (one_of HT_.out (by kernel_rfl)) (by decide) (fun K hK => ?_)
 refine goes_ Try.func19 (by kernel_rfl) rfl #[.string a0_0] (by rfl) rfl rfl (by (try simp only [List.map_toArray, List.map_cons, List.map_nil]); first | done | rfl | (simp only [List.length_drop, List.length_take]; rfl)) ?_
 with_reducible refine (hearsayref01_Labels.calls kj12 a0_0 t297 _ A24.out).mono ?_
 rintro e w80 ⟨v298, rfl, ho0, hb⟩
 refine ⟨_, rfl, ?_⟩
 have n0_ := am_ (Kd.R_below (by (with_reducible repeat (first | apply Kd.R_alloc | apply Kd.R_drewN | apply Kd.R_drew)); exact HO278.out) hb)
 have n1_ := am_ (Kd.R_below (by (with_reducible repeat (first | apply Kd.R_alloc | apply Kd.R_drewN | apply Kd.R_drew)); exact HO287.out) hb)
 have n2_ := am_ (Kd.R_elder' (by (with_reducible repeat (first | apply Kd.R_alloc | apply Kd.R_drewN | apply Kd.R_drew)); exact HO296.out) (Kd.R_base ho0) hb)
 have n3_ := am_ (Kd.R_lower (Kd.R_new' ho0 (Kd.R_lt (by (with_reducible repeat (first | apply Kd.R_alloc | apply Kd.R_drewN | apply Kd.R_drew)); exact HO296.out))) (below_size (by repeat (first | (with_reducible first | exact HB.out | apply below_alloc | apply pw_below_drewN | apply below_drew1 | refine below_set ?_ GE275.out | refine below_set ?_ GE283.out | refine below_set ?_ GE292.out) | exact HB.out))))
 have n4_ := am_ (blk_below (g := gb275) (o := .cells #[.string a0_0, .int .u16 a0_1, .int .u16 a0_2] 32 (0, 0)) (by (with_reducible repeat (first | refine blk_drewN ?_ _ | refine blk_drew ?_ | refine blk_alloc ?_ _)); exact BK275.out) hb)
 have n5_ := am_ (blk_below (g := gb283) (o := .cells #[.string t279, .int .u16 t280, .int .u16 t281] 32 (0, 0)) (by (with_reducible repeat (first | refine blk_drewN ?_ _ | refine blk_drew ?_ | refine blk_alloc ?_ _)); exact BK283.out) hb)
 have n6_ := am_ (blk_below (g := gb292) (o := .cells #[.string t288, .int .u16 t289, .int .u16 t290] 32 (0, 0)) (by (with_reducible repeat (first | refine blk_drewN ?_ _ | refine blk_drew ?_ | refine blk_alloc ?_ _)); exact BK292.out) hb)
 have n7_ := am_ (below_step (by repeat (first | (with_reducible first | exact HB.out | apply below_alloc | apply pw_below_drewN | apply below_drew1 | refine below_set ?_ GE275.out | refine below_set ?_ GE283.out | refine below_set ?_ GE292.out) | exact HB.out)) hb)
 clear HO278
 clear HO287
 clear HO296
 clear BK275
 clear BK283
 clear BK292
 clear HB
 have HO278 := n0_
 have HO287 := n1_
 have HO296 := n2_
 have HO299 := n3_
 have BK275 := n4_
 have BK283 := n5_
 have BK292 := n6_
 have HB := n7_
 clear n0_ n1_ n2_ n3_ n4_ n5_ n6_ n7_
 (try clear hb)
 (try clear hb2)
 (try clear hk)
 (try clear hi)
 (try clear ho0)
 obtain ⟨Ao81, co81, eo81⟩ := Kd.R_slice HO299.out
 (first | subst eo81 | (injection eo81 with f1_ f2_ f3_; have f4_ := f1_.symm; have f5_ := f3_.symm; clear f1_ f2_ f3_; subst f4_; subst f5_))
 refine hK.out _ _ ⟨(blk_cell BK292.out 0).trans rfl, (blk_cell BK292.out 1).trans rfl, (blk_cell BK292.out 2).trans rfl, (blk_cell BK275.out 0).trans rfl, (blk_cell BK275.out 1).trans rfl, (blk_cell BK275.out 2).trans rfl, (blk_cell BK283.out 0).trans rfl, (blk_cell BK283.out 1).trans rfl, (blk_cell BK283.out 2).trans rfl⟩ (fun hHeld => ?_)
 clear hK K
 refine norm_ (a' := ?_) ?_ ?_
 rotate_left
 {
 show Act.put _ (some 86) _ = _
 simp only [Act.put, sA_, s0_, sS_, i64_w, i32_w]
 rfl }
 refine pure_ (i := 30) (N := some 87) (v := ?_) (a' := ?_) (bm_ 45 38654705663) rfl rfl (any_of HT_.out (by kernel_rfl)) (fun _ _ _ h => h) (Or.inl ⟨by rfl, ?_⟩) ?_ ?_
 rotate_left
 {
 intro w'
 go_simp
 with_reducible rfl }
 rotate_left
 {
 simp only [Act.put, sA_, s0_, sS_, i64_w, i32_w]
 rfl }
 refine one_ (i := 32) (N := some 89) (bm_ 45 42949672959) rfl rfl (one_of HT_.out (by kernel_rfl)) (by decide) (fun K hK => ?_)
 refine goes_ Try.func19 (by kernel_rfl) rfl #[.string a1] (by rfl) rfl rfl (by (try simp only [List.map_toArray, List.map_cons, List.map_nil]); first | done | rfl | (simp only [List.length_drop, List.length_take]; rfl)) ?_
 with_reducible refine (hearsayref01_Labels.calls kj12 a1 t300 _ A25.out).mono ?_
 rintro e w82 ⟨v301, rfl, ho0, hb⟩
 refine ⟨_, rfl, ?_⟩
 have n0_ := am_ (Kd.R_below (by (with_reducible repeat (first | apply Kd.R_alloc | apply Kd.R_drewN | apply Kd.R_drew)); exact HO278.out) hb)
 have n1_ := am_ (Kd.R_below (by (with_reducible repeat (first | apply Kd.R_alloc | apply Kd.R_drewN | apply Kd.R_drew)); exact HO287.out) hb)
 have n2_ := am_ (Kd.R_elder' (by (with_reducible repeat (first | apply Kd.R_alloc | apply Kd.R_drewN | apply Kd.R_drew)); exact HO296.out) (Kd.R_base ho0) hb)
 have n3_ := am_ (Kd.R_elder' (by (with_reducible repeat (first | apply Kd.R_alloc | apply Kd.R_drewN | apply Kd.R_drew)); exact HO299.out) (Kd.R_base ho0) hb)
 have n4_ := am_ (Kd.R_lower (Kd.R_new' (Kd.R_new' ho0 (Kd.R_lt (by (with_reducible repeat (first | apply Kd.R_alloc | apply Kd.R_drewN | apply Kd.R_drew)); exact HO296.out))) (Kd.R_lt (by (with_reducible repeat (first | apply Kd.R_alloc | apply Kd.R_drewN | apply Kd.R_drew)); exact HO299.out))) (below_size (by repeat (first | (with_reducible first | exact HB.out | apply below_alloc | apply pw_below_drewN | apply below_drew1 | refine below_set ?_ GE275.out | refine below_set ?_ GE283.out | refine below_set ?_ GE292.out) | exact HB.out))))
 have n5_ := am_ (blk_below (g := gb275) (o := .cells #[.string a0_0, .int .u16 a0_1, .int .u16 a0_2] 32 (0, 0)) (by (with_reducible repeat (first | refine blk_drewN ?_ _ | refine blk_drew ?_ | refine blk_alloc ?_ _)); exact BK275.out) hb)
 have n6_ := am_ (blk_below (g := gb283) (o := .cells #[.string t279, .int .u16 t280, .int .u16 t281] 32 (0, 0)) (by (with_reducible repeat (first | refine blk_drewN ?_ _ | refine blk_drew ?_ | refine blk_alloc ?_ _)); exact BK283.out) hb)
 have n7_ := am_ (blk_below (g := gb292) (o := .cells #[.string t288, .int .u16 t289, .int .u16 t290] 32 (0, 0)) (by (with_reducible repeat (first | refine blk_drewN ?_ _ | refine blk_drew ?_ | refine blk_alloc ?_ _)); exact BK292.out) hb)
 have n8_ := am_ (below_step (by repeat (first | (with_reducible first | exact HB.out | apply below_alloc | apply pw_below_drewN | apply below_drew1 | refine below_set ?_ GE275.out | refine below_set ?_ GE283.out | refine below_set ?_ GE292.out) | exact HB.out)) hb)
 clear HO278
 clear HO287
 clear HO296
 clear HO299
 clear BK275
 clear BK283
 clear BK292
 clear HB
 have HO278 := n0_
 have HO287 := n1_
 have HO296 := n2_
 have HO299 := n3_
 have HO302 := n4_
 have BK275 := n5_
 have BK283 := n6_
 have BK292 := n7_
 have HB := n8_
 clear n0_ n1_ n2_ n3_ n4_ n5_ n6_ n7_ n8_
 (try clear hb)
 (try clear hb2)
 (try clear hk)
 (try clear hi)
 (try clear ho0)
 obtain ⟨Ao83, co83, eo83⟩ := Kd.R_slice HO302.out
 (first | subst eo83 | (injection eo83 with f1_ f2_ f3_; have f4_ := f1_.symm; have f5_ := f3_.symm; clear f1_ f2_ f3_; subst f4_; subst f5_))
 refine hK.out _ _ ⟨(blk_cell BK292.out 0).trans rfl, (blk_cell BK292.out 1).trans rfl, (blk_cell BK292.out 2).trans rfl, (blk_cell BK275.out 0).trans rfl, (blk_cell BK275.out 1).trans rfl, (blk_cell BK275.out 2).trans rfl, (blk_cell BK283.out 0).trans rfl, (blk_cell BK283.out 1).trans rfl, (blk_cell BK283.out 2).trans rfl⟩ (fun hHeld => ?_)
 clear hK K
 refine norm_ (a' := ?_) ?_ ?_
 rotate_left
 {
 show Act.put _ (some 89) _ = _
 simp only [Act.put, sA_, s0_, sS_, i64_w, i32_w]
 rfl }
 refine pure_ (i := 33) (N := some 90) (v := ?_) (a' := ?_) (bm_ 45 51539607551) rfl rfl (any_of HT_.out (by kernel_rfl)) (fun _ _ _ h => h) (Or.inl ⟨by rfl, ?_⟩) ?_ ?_
 rotate_left
 {
 intro w'
 go_simp
 with_reducible rfl }
 rotate_left
 {
 simp only [Act.put, sA_, s0_, sS_, i64_w, i32_w]
 rfl }
 refine pure_ (i := 34) (N := some 91) (v := ?_) (a' := ?_) (bm_ 45 68719476735) rfl rfl (any_of HT_.out (by kernel_rfl)) (fun _ _ _ h => h) (Or.inl ⟨by rfl, ?_⟩) ?_ ?_
 rotate_left
 {
 intro w'
 go_simp
 with_reducible rfl }
 rotate_left
 {
 simp only [Act.put, sA_, s0_, sS_, i64_w, i32_w]
 rfl }
 refine one_ (i := 36) (N := some 93) (bm_ 45 137438953471) rfl rfl (one_of HT_.out (by kernel_rfl)) (by decide) (fun K hK => ?_)
 refine goes_ Try.func19 (by kernel_rfl) rfl #[.string a2] (by rfl) rfl rfl (by (try simp only [List.map_toArray, List.map_cons, List.map_nil]); first | done | rfl | (simp only [List.length_drop, List.length_take]; rfl)) ?_
 with_reducible refine (hearsayref01_Labels.calls kj12 a2 t303 _ A26.out).mono ?_
 rintro e w84 ⟨v304, rfl, ho0, hb⟩
 refine ⟨_, rfl, ?_⟩
 have n0_ := am_ (Kd.R_below (by (with_reducible repeat (first | apply Kd.R_alloc | apply Kd.R_drewN | apply Kd.R_drew)); exact HO278.out) hb)
 have n1_ := am_ (Kd.R_below (by (with_reducible repeat (first | apply Kd.R_alloc | apply Kd.R_drewN | apply Kd.R_drew)); exact HO287.out) hb)
 have n2_ := am_ (Kd.R_elder' (by (with_reducible repeat (first | apply Kd.R_alloc | apply Kd.R_drewN | apply Kd.R_drew)); exact HO296.out) (Kd.R_base ho0) hb)
 have n3_ := am_ (Kd.R_elder' (by (with_reducible repeat (first | apply Kd.R_alloc | apply Kd.R_drewN | apply Kd.R_drew)); exact HO299.out) (Kd.R_base ho0) hb)
 have n4_ := am_ (Kd.R_elder' (by (with_reducible repeat (first | apply Kd.R_alloc | apply Kd.R_drewN | apply Kd.R_drew)); exact HO302.out) (Kd.R_base ho0) hb)
 have n5_ := am_ (Kd.R_lower (Kd.R_new' (Kd.R_new' (Kd.R_new' ho0 (Kd.R_lt (by (with_reducible repeat (first | apply Kd.R_alloc | apply Kd.R_drewN | apply Kd.R_drew)); exact HO296.out))) (Kd.R_lt (by (with_reducible repeat (first | apply Kd.R_alloc | apply Kd.R_drewN | apply Kd.R_drew)); exact HO299.out))) (Kd.R_lt (by (with_reducible repeat (first | apply Kd.R_alloc | apply Kd.R_drewN | apply Kd.R_drew)); exact HO302.out))) (below_size (by repeat (first | (with_reducible first | exact HB.out | apply below_alloc | apply pw_below_drewN | apply below_drew1 | refine below_set ?_ GE275.out | refine below_set ?_ GE283.out | refine below_set ?_ GE292.out) | exact HB.out))))
 have n6_ := am_ (blk_below (g := gb275) (o := .cells #[.string a0_0, .int .u16 a0_1, .int .u16 a0_2] 32 (0, 0)) (by (with_reducible repeat (first | refine blk_drewN ?_ _ | refine blk_drew ?_ | refine blk_alloc ?_ _)); exact BK275.out) hb)
 have n7_ := am_ (blk_below (g := gb283) (o := .cells #[.string t279, .int .u16 t280, .int .u16 t281] 32 (0, 0)) (by (with_reducible repeat (first | refine blk_drewN ?_ _ | refine blk_drew ?_ | refine blk_alloc ?_ _)); exact BK283.out) hb)
 have n8_ := am_ (blk_below (g := gb292) (o := .cells #[.string t288, .int .u16 t289, .int .u16 t290] 32 (0, 0)) (by (with_reducible repeat (first | refine blk_drewN ?_ _ | refine blk_drew ?_ | refine blk_alloc ?_ _)); exact BK292.out) hb)
 have n9_ := am_ (below_step (by repeat (first | (with_reducible first | exact HB.out | apply below_alloc | apply pw_below_drewN | apply below_drew1 | refine below_set ?_ GE275.out | refine below_set ?_ GE283.out | refine below_set ?_ GE292.out) | exact HB.out)) hb)
 clear HO278
 clear HO287
 clear HO296
 clear HO299
 clear HO302
 clear BK275
 clear BK283
 clear BK292
 clear HB
 have HO278 := n0_
 have HO287 := n1_
 have HO296 := n2_
 have HO299 := n3_
 have HO302 := n4_
 have HO305 := n5_
 have BK275 := n6_
 have BK283 := n7_
 have BK292 := n8_
 have HB := n9_
 clear n0_ n1_ n2_ n3_ n4_ n5_ n6_ n7_ n8_ n9_
 (try clear hb)
 (try clear hb2)
 (try clear hk)
 (try clear hi)
 (try clear ho0)
 obtain ⟨Ao85, co85, eo85⟩ := Kd.R_slice HO305.out
 (first | subst eo85 | (injection eo85 with f1_ f2_ f3_; have f4_ := f1_.symm; have f5_ := f3_.symm; clear f1_ f2_ f3_; subst f4_; subst f5_))
 refine hK.out _ _ ⟨(blk_cell BK292.out 0).trans rfl, (blk_cell BK292.out 1).trans rfl, (blk_cell BK292.out 2).trans rfl, (blk_cell BK275.out 0).trans rfl, (blk_cell BK275.out 1).trans rfl, (blk_cell BK275.out 2).trans rfl, (blk_cell BK283.out 0).trans rfl, (blk_cell BK283.out 1).trans rfl, (blk_cell BK283.out 2).trans rfl⟩ (fun hHeld => ?_)
 clear hK K
 refine norm_ (a' := ?_) ?_ ?_
 rotate_left
 {
 show Act.put _ (some 93) _ = _
 simp only [Act.put, sA_, s0_, sS_, i64_w, i32_w]
 rfl }
 refine pure_ (i := 37) (N := some 94) (v := ?_) (a' := ?_) (bm_ 45 274877906943) rfl rfl (any_of HT_.out (by kernel_rfl)) (fun _ _ _ h => h) (Or.inl ⟨by rfl, ?_⟩) ?_ ?_
 rotate_left
 {
 intro w'
 go_simp
 with_reducible rfl }
 rotate_left
 {
 simp only [Act.put, sA_, s0_, sS_, i64_w, i32_w]
 rfl }
 refine pure_ (i := 38) (N := some 95) (v := ?_) (a' := ?_) (bm_ 45 549755813887) rfl rfl (any_of HT_.out (by kernel_rfl)) (fun _ _ _ h => h) (Or.inl ⟨by rfl, ?_⟩) ?_ ?_
 rotate_left
 {
 intro w'
 go_simp
 with_reducible rfl }
 rotate_left
 {
 simp only [Act.put, sA_, s0_, sS_, i64_w, i32_w]
 rfl }
 refine pure_ (i := 39) (N := some 96) (v := ?_) (a' := ?_) (bm_ 45 1099511627775) rfl rfl (any_of HT_.out (by kernel_rfl)) (fun _ _ _ h => h) (Or.inl ⟨by rfl, ?_⟩) ?_ ?_
 rotate_left
 {
 intro w'
 go_simp
 with_reducible rfl }
 rotate_left
 {
 simp only [Act.put, sA_, s0_, sS_, i64_w, i32_w]
 rfl }
 refine pure_ (i := 40) (N := some 97) (v := ?_) (a' := ?_) (bm_ 45 2199023255551) rfl rfl (any_of HT_.out (by kernel_rfl)) (fun _ _ _ h => h) (Or.inl ⟨by rfl, ?_⟩) ?_ ?_
 rotate_left
 {
 intro w'
 go_simp
 with_reducible rfl }
 rotate_left
 {
 simp only [Act.put, sA_, s0_, sS_, i64_w, i32_w]
 rfl }
 refine pure_ (i := 41) (N := some 98) (v := ?_) (a' := ?_) (bm_ 45 4398046511103) rfl rfl (any_of HT_.out (by kernel_rfl)) (fun _ _ _ h => h) (Or.inl ⟨by rfl, ?_⟩) ?_ ?_
 rotate_left
 {
 intro w'
 go_simp
 with_reducible rfl }
 rotate_left
 {
 simp only [Act.put, sA_, s0_, sS_, i64_w, i32_w]
 rfl }
 refine pure_ (i := 42) (N := some 99) (v := undef) (a' := ?_) (bm_ 45 8796093022207) rfl rfl (any_of HT_.out (by kernel_rfl)) (fun _ _ _ h => h) (Or.inr ⟨by rfl, rfl⟩) ?_ ?_
 rotate_left
 {
 simp only [Act.put, sA_, s0_, sS_, i64_w, i32_w]
 rfl }
 refine pure_ (i := 43) (N := some 100) (v := ?_) (a' := ?_) (bm_ 45 17592186044415) rfl rfl (any_of HT_.out (by kernel_rfl)) (fun _ _ _ h => h) (Or.inl ⟨by rfl, ?_⟩) ?_ ?_
 rotate_left
 {
 intro w'
 go_simp
 with_reducible rfl }
 rotate_left
 {
 simp only [Act.put, sA_, s0_, sS_, i64_w, i32_w]
 rfl }
 refine pure_ (i := 44) (N := some 8) (v := ?_) (a' := ?_) (bm_ 45 35184372088831) rfl rfl (any_of HT_.out (by kernel_rfl)) (fun _ _ _ h => h) (Or.inl ⟨by rfl, ?_⟩) ?_ ?_
 rotate_left
 {
 intro w'
 go_simp
 with_reducible rfl }
 rotate_left
 {
 simp only [Act.put, sA_, s0_, sS_, i64_w, i32_w]
 rfl }
 refine done_ (done_of HT_.out (by kernel_rfl)) ?_
 try go_wp2
 go_ret
 exact ⟨by first | rfl | (simp [errW_none, errW_some] <;> rfl) | (simp [*, errW_none, errW_some] <;> rfl), by repeat (first | (with_reducible first | exact HB.out | apply below_alloc | apply pw_below_drewN | apply below_drew1 | refine below_set ?_ GE275.out | refine below_set ?_ GE283.out | refine below_set ?_ GE292.out) | exact HB.out)⟩ }}
 {
 rw [if_neg c22] at H
 have c22b0 : (t290 == a0_2) = false := beq_eq_false_iff_ne.mpr c22
 have c22b1 : (t290 != a0_2) = true := bne_iff_ne.mpr c22
 obtain rfl := Option.some.inj H
 try go_wp2_with (first | ((with_reducible refine gate_dst (N := 34) rfl ?_); (try (refine gate_guard (by rfl) ?_; dsimp only)); refine Kd.R_lit k38 _ 38 ?hg (N := 34) ?hd (xs := ([(⟨x9_12, a1, a2, 0, 0⟩ : S38)] : List (S38))) (inner := [.int .u8 x9_12, .string a1, .string a2, .int .u16 0, .int .u16 0]) (ok := fun _ => True) (okp := fun _ => True) ?hr ?hp (fun _ hk => hk) trivial (Below.refl _ _) (Nat.le_refl _) (by simp) ?_; (case hd => rfl); (case hg => rfl); (case hr => first | (go_simp; done) | (go_simp; rfl)); (case hp => exact (Reps.c5 (show Kd.M k38 _ _ _ (⟨x9_12, a1, a2, 0, 0⟩ : S38) [.int .u8 x9_12, .string a1, .string a2, .int .u16 0, .int .u16 0] from (k38_mkM _ _ _ (⟨x9_12, a1, a2, 0, 0⟩ : S38) )) (Reps.none _ _))); intro v277 w86 ho87 hb hg_ hnew_; clear hg_ hnew_; (first | rw [← Ny276.out] at ho87 | (simp only [Int.reduceToNat] at ho87; rw [← Ny276.out] at ho87)); have n0_ := am_ (Kd.R_lower ho87 (below_size (by repeat (first | (with_reducible first | exact HB.out | apply below_alloc | apply pw_below_drewN | apply below_drew1 | refine below_set ?_ GE275.out) | exact HB.out)))); have n1_ := am_ (blk_below (g := gb275) (o := .cells #[.string a0_0, .int .u16 a0_1, .int .u16 a0_2] 32 (0, 0)) (by (with_reducible repeat (first | refine blk_drewN ?_ _ | refine blk_drew ?_ | refine blk_alloc ?_ _)); exact BK275.out) hb); have n2_ := am_ (below_step (by repeat (first | (with_reducible first | exact HB.out | apply below_alloc | apply pw_below_drewN | apply below_drew1 | refine below_set ?_ GE275.out) | exact HB.out)) hb); clear BK275; clear HB; have HO278 := n0_; have BK275 := n1_; have HB := n2_; clear n0_ n1_ n2_; clear hb ho87; have hcz88_0 : w86.cell? ⟨gb275, 0, none⟩ = some (.string a0_0) := (blk_cell BK275.out 0).trans rfl; have hcz88_1 : w86.cell? ⟨gb275, 1, none⟩ = some (.int .u16 a0_1) := (blk_cell BK275.out 1).trans rfl; have hcz88_2 : w86.cell? ⟨gb275, 2, none⟩ = some (.int .u16 a0_2) := (blk_cell BK275.out 2).trans rfl; have hfz88_0 := blk_frozen BK275.out 0; have hfz88_1 := blk_frozen BK275.out 1; have hfz88_2 := blk_frozen BK275.out 2; obtain ⟨Ao89, co89, eo89⟩ := Kd.R_slice HO278.out; subst eo89) | ((with_reducible refine gate_callee (f := 16) rfl ?_); refine goesL_ (some 36) rfl rfl Try.func16 (by kernel_rfl) rfl #[.slice Ao89 y276.length co89, .agg #[.string a0_0, .int .u16 a0_1, .int .u16 a0_2]] rfl (by (try simp only [List.map_toArray, List.map_cons, List.map_nil]); first | done | rfl | (simp only [List.length_drop, List.length_take]; rfl)) ?_; (with_reducible refine (rewrite_Ask.calls _ _ y276 a0_0 a0_1 a0_2 t279 t280 t281 true _ ?side1 ?side2 A15.out).mono ?_); (case side1 => repeat (first | exact (Kd.R_reads' HO278.out).2.2 | (with_reducible refine Kd.C_alloc ?_ _) | (with_reducible refine Kd.C_drewN ?_ _) | (with_reducible refine Kd.C_drew ?_))); (case side2 => exact (Kd.R_reads' HO278.out).2.1); rintro e w90 ⟨rfl, hb⟩; refine ⟨_, rfl, ?_⟩; have n0_ := am_ (Kd.R_below (by (with_reducible repeat (first | apply Kd.R_alloc | apply Kd.R_drewN | apply Kd.R_drew)); exact HO278.out) hb); have n1_ := am_ (blk_below (g := gb275) (o := .cells #[.string a0_0, .int .u16 a0_1, .int .u16 a0_2] 32 (0, 0)) (by (with_reducible repeat (first | refine blk_drewN ?_ _ | refine blk_drew ?_ | refine blk_alloc ?_ _)); exact BK275.out) hb); have n2_ := am_ (below_step (by repeat (first | (with_reducible first | exact HB.out | apply below_alloc | apply pw_below_drewN | apply below_drew1 | refine below_set ?_ GE275.out) | exact HB.out)) hb); clear HO278; clear BK275; clear HB; have HO278 := n0_; have BK275 := n1_; have HB := n2_; clear n0_ n1_ n2_; (try clear hb); (try clear hb2); (try clear hk); (try clear hi)) | ((with_reducible refine gate_dst (N := 10) rfl ?_); (try (refine gate_guard (by rfl) ?_; dsimp only)); refine box_event ?hg (N := 10) ?hd (cs := #[.string (⟨#[]⟩ : ByteArray), .int .u16 0, .int .u16 0]) (t := 32) ?hr ?_; (case hd => rfl); (case hg => rfl); (case hr => first | (go_simp; done) | (go_simp; rfl)); intro gb283 hg w91 hbox hb; have n0_ := am_ (Kd.R_below (by (with_reducible repeat (first | apply Kd.R_alloc | apply Kd.R_drewN | apply Kd.R_drew)); exact HO278.out) hb); have n1_ := am_ (blk_below (g := gb275) (o := .cells #[.string a0_0, .int .u16 a0_1, .int .u16 a0_2] 32 (0, 0)) (by (with_reducible repeat (first | refine blk_drewN ?_ _ | refine blk_drew ?_ | refine blk_alloc ?_ _)); exact BK275.out) hb); have n2_ := am_ (below_step (by repeat (first | (with_reducible first | exact HB.out | apply below_alloc | apply pw_below_drewN | apply below_drew1 | refine below_set ?_ GE275.out) | exact HB.out)) hb); have n3_ := am_ (hbox); have n4_ := am_ ((by rw [hg]; exact (below_size (by repeat (first | (with_reducible first | exact HB.out | apply below_alloc | apply pw_below_drewN | apply below_drew1 | refine below_set ?_ GE275.out) | exact HB.out))) : w.heap.size ≤ gb283)); have n5_ := am_ ((by rw [hg]; exact (below_size (by repeat (first | (with_reducible first | exact HB.out | apply below_alloc | apply pw_below_drewN | apply below_drew1 | refine below_set ?_ GE275.out) | exact HB.out))) : w.heap.size ≤ gb283)); have n6_ := am_ ((by rw [hg]; exact Nat.ne_of_lt (blk_lt (g := gb275) (o := .cells #[.string a0_0, .int .u16 a0_1, .int .u16 a0_2] 32 (0, 0)) (by (with_reducible repeat (first | refine blk_drewN ?_ _ | refine blk_drew ?_ | refine blk_alloc ?_ _)); exact BK275.out)) : gb275 ≠ gb283)); have n7_ := am_ ((by rw [hg]; exact Nat.ne_of_gt (blk_lt (g := gb275) (o := .cells #[.string a0_0, .int .u16 a0_1, .int .u16 a0_2] 32 (0, 0)) (by (with_reducible repeat (first | refine blk_drewN ?_ _ | refine blk_drew ?_ | refine blk_alloc ?_ _)); exact BK275.out)) : gb283 ≠ gb275)); clear HO278; clear BK275; clear HB; have HO278 := n0_; have BK275 := n1_; have HB := n2_; have BK283 := n3_; have GW283 := n4_; have GE283 := n5_; have NB275_283 := n6_; have NB283_275 := n7_; clear n0_ n1_ n2_ n3_ n4_ n5_ n6_ n7_; clear hb hbox hg; have hnb92 := NB283_275.out; have hnc92 := NB275_283.out; have hcz93_0 : w91.cell? ⟨gb283, 0, none⟩ = some (.string (⟨#[]⟩ : ByteArray)) := (blk_cell BK283.out 0).trans rfl; have hcz93_1 : w91.cell? ⟨gb283, 1, none⟩ = some (.int .u16 0) := (blk_cell BK283.out 1).trans rfl; have hcz93_2 : w91.cell? ⟨gb283, 2, none⟩ = some (.int .u16 0) := (blk_cell BK283.out 2).trans rfl; have hfz93_0 := blk_frozen BK283.out 0; have hfz93_1 := blk_frozen BK283.out 1; have hfz93_2 := blk_frozen BK283.out 2) | ((with_reducible refine gate_dst (N := 52) rfl ?_); (try (refine gate_guard (by rfl) ?_; dsimp only)); refine Kd.R_lit k38 _ 38 ?hg (N := 52) ?hd (xs := ([(⟨x9_12, a2, a1, 0, 0⟩ : S38)] : List (S38))) (inner := [.int .u8 x9_12, .string a2, .string a1, .int .u16 0, .int .u16 0]) (ok := fun _ => True) (okp := fun _ => True) ?hr ?hp (fun _ hk => hk) trivial (Below.refl _ _) (Nat.le_refl _) (by simp) ?_; (case hd => rfl); (case hg => rfl); (case hr => first | (go_simp; done) | (go_simp; rfl)); (case hp => exact (Reps.c5 (show Kd.M k38 _ _ _ (⟨x9_12, a2, a1, 0, 0⟩ : S38) [.int .u8 x9_12, .string a2, .string a1, .int .u16 0, .int .u16 0] from (k38_mkM _ _ _ (⟨x9_12, a2, a1, 0, 0⟩ : S38) )) (Reps.none _ _))); intro v286 w94 ho95 hb hg_ hnew_; clear hg_ hnew_; (first | rw [← Ny285.out] at ho95 | (simp only [Int.reduceToNat] at ho95; rw [← Ny285.out] at ho95)); have n0_ := am_ (Kd.R_elder' (by (with_reducible repeat (first | apply Kd.R_alloc | apply Kd.R_drewN | apply Kd.R_drew)); exact (Kd.R_mono (Kd.R_far (p := ⟨gb283, 2, none⟩) (Kd.R_far (p := ⟨gb283, 1, none⟩) (Kd.R_far (p := ⟨gb283, 0, none⟩) (Kd.R_types HO278.out BK283.out (by decide)) (fun _ hk => hk.2) (.string t279)) (fun _ hk => hk.2) (.int .u16 t280)) (fun _ hk => hk.2) (.int .u16 t281)) (fun _ h_ => h_.1))) (Kd.R_base ho95) hb); have n1_ := am_ (Kd.R_lower (Kd.R_new' ho95 (Kd.R_lt (by (with_reducible repeat (first | apply Kd.R_alloc | apply Kd.R_drewN | apply Kd.R_drew)); exact (Kd.R_mono (Kd.R_far (p := ⟨gb283, 2, none⟩) (Kd.R_far (p := ⟨gb283, 1, none⟩) (Kd.R_far (p := ⟨gb283, 0, none⟩) (Kd.R_types HO278.out BK283.out (by decide)) (fun _ hk => hk.2) (.string t279)) (fun _ hk => hk.2) (.int .u16 t280)) (fun _ hk => hk.2) (.int .u16 t281)) (fun _ h_ => h_.1))))) (below_size (by repeat (first | (with_reducible first | exact HB.out | apply below_alloc | apply pw_below_drewN | apply below_drew1 | refine below_set ?_ GE275.out | refine below_set ?_ GE283.out) | exact HB.out)))); have n2_ := am_ (blk_below (g := gb275) (o := .cells #[.string a0_0, .int .u16 a0_1, .int .u16 a0_2] 32 (0, 0)) (by (with_reducible repeat (first | refine blk_drewN ?_ _ | refine blk_drew ?_ | refine blk_alloc ?_ _)); refine blk_far ?_ NB275_283.out _; (with_reducible repeat (first | refine blk_drewN ?_ _ | refine blk_drew ?_ | refine blk_alloc ?_ _)); refine blk_far ?_ NB275_283.out _; (with_reducible repeat (first | refine blk_drewN ?_ _ | refine blk_drew ?_ | refine blk_alloc ?_ _)); refine blk_far ?_ NB275_283.out _; (with_reducible repeat (first | refine blk_drewN ?_ _ | refine blk_drew ?_ | refine blk_alloc ?_ _)); exact BK275.out) hb); have n3_ := am_ (blk_below (g := gb283) (o := .cells #[.string t279, .int .u16 t280, .int .u16 t281] 32 (0, 0)) (by (with_reducible repeat (first | refine blk_drewN ?_ _ | refine blk_drew ?_ | refine blk_alloc ?_ _)); refine blk_put (cs := #[.string t279, .int .u16 t280, .int .u16 0]) ?_ 2 _ rfl; (with_reducible repeat (first | refine blk_drewN ?_ _ | refine blk_drew ?_ | refine blk_alloc ?_ _)); refine blk_put (cs := #[.string t279, .int .u16 0, .int .u16 0]) ?_ 1 _ rfl; (with_reducible repeat (first | refine blk_drewN ?_ _ | refine blk_drew ?_ | refine blk_alloc ?_ _)); refine blk_put (cs := #[.string (⟨#[]⟩ : ByteArray), .int .u16 0, .int .u16 0]) ?_ 0 _ rfl; (with_reducible repeat (first | refine blk_drewN ?_ _ | refine blk_drew ?_ | refine blk_alloc ?_ _)); exact BK283.out) hb); have n4_ := am_ (below_step (by repeat (first | (with_reducible first | exact HB.out | apply below_alloc | apply pw_below_drewN | apply below_drew1 | refine below_set ?_ GE275.out | refine below_set ?_ GE283.out) | exact HB.out)) hb); clear HO278; clear BK275; clear BK283; clear HB; have HO278 := n0_; have HO287 := n1_; have BK275 := n2_; have BK283 := n3_; have HB := n4_; clear n0_ n1_ n2_ n3_ n4_; clear hb ho95; have hcz96_0 : w94.cell? ⟨gb283, 0, none⟩ = some (.string t279) := (blk_cell BK283.out 0).trans rfl; have hcz96_1 : w94.cell? ⟨gb283, 1, none⟩ = some (.int .u16 t280) := (blk_cell BK283.out 1).trans rfl; have hcz96_2 : w94.cell? ⟨gb283, 2, none⟩ = some (.int .u16 t281) := (blk_cell BK283.out 2).trans rfl; have hfz96_0 := blk_frozen BK283.out 0; have hfz96_1 := blk_frozen BK283.out 1; have hfz96_2 := blk_frozen BK283.out 2; obtain ⟨Ao97, co97, eo97⟩ := Kd.R_slice HO287.out; subst eo97) | ((with_reducible refine gate_callee (f := 16) rfl ?_); refine goesL_ (some 54) rfl rfl Try.func16 (by kernel_rfl) rfl #[.slice Ao97 y285.length co97, .agg #[.string t279, .int .u16 t280, .int .u16 t281]] rfl (by (try simp only [List.map_toArray, List.map_cons, List.map_nil]); first | done | rfl | (simp only [List.length_drop, List.length_take]; rfl)) ?_; (with_reducible refine (rewrite_Ask.calls _ _ y285 t279 t280 t281 t288 t289 t290 true _ ?side1 ?side2 A17.out).mono ?_); (case side1 => repeat (first | exact (Kd.R_reads' HO287.out).2.2 | (with_reducible refine Kd.C_alloc ?_ _) | (with_reducible refine Kd.C_drewN ?_ _) | (with_reducible refine Kd.C_drew ?_))); (case side2 => exact (Kd.R_reads' HO287.out).2.1); rintro e w98 ⟨rfl, hb⟩; refine ⟨_, rfl, ?_⟩; have n0_ := am_ (Kd.R_below (by (with_reducible repeat (first | apply Kd.R_alloc | apply Kd.R_drewN | apply Kd.R_drew)); exact HO278.out) hb); have n1_ := am_ (Kd.R_below (by (with_reducible repeat (first | apply Kd.R_alloc | apply Kd.R_drewN | apply Kd.R_drew)); exact HO287.out) hb); have n2_ := am_ (blk_below (g := gb275) (o := .cells #[.string a0_0, .int .u16 a0_1, .int .u16 a0_2] 32 (0, 0)) (by (with_reducible repeat (first | refine blk_drewN ?_ _ | refine blk_drew ?_ | refine blk_alloc ?_ _)); exact BK275.out) hb); have n3_ := am_ (blk_below (g := gb283) (o := .cells #[.string t279, .int .u16 t280, .int .u16 t281] 32 (0, 0)) (by (with_reducible repeat (first | refine blk_drewN ?_ _ | refine blk_drew ?_ | refine blk_alloc ?_ _)); exact BK283.out) hb); have n4_ := am_ (below_step (by repeat (first | (with_reducible first | exact HB.out | apply below_alloc | apply pw_below_drewN | apply below_drew1 | refine below_set ?_ GE275.out | refine below_set ?_ GE283.out) | exact HB.out)) hb); clear HO278; clear HO287; clear BK275; clear BK283; clear HB; have HO278 := n0_; have HO287 := n1_; have BK275 := n2_; have BK283 := n3_; have HB := n4_; clear n0_ n1_ n2_ n3_ n4_; (try clear hb); (try clear hb2); (try clear hk); (try clear hi)) | ((with_reducible refine gate_dst (N := 12) rfl ?_); (try (refine gate_guard (by rfl) ?_; dsimp only)); refine box_event ?hg (N := 12) ?hd (cs := #[.string (⟨#[]⟩ : ByteArray), .int .u16 0, .int .u16 0]) (t := 32) ?hr ?_; (case hd => rfl); (case hg => rfl); (case hr => first | (go_simp; done) | (go_simp; rfl)); intro gb292 hg w99 hbox hb; have n0_ := am_ (Kd.R_below (by (with_reducible repeat (first | apply Kd.R_alloc | apply Kd.R_drewN | apply Kd.R_drew)); exact HO278.out) hb); have n1_ := am_ (Kd.R_below (by (with_reducible repeat (first | apply Kd.R_alloc | apply Kd.R_drewN | apply Kd.R_drew)); exact HO287.out) hb); have n2_ := am_ (blk_below (g := gb275) (o := .cells #[.string a0_0, .int .u16 a0_1, .int .u16 a0_2] 32 (0, 0)) (by (with_reducible repeat (first | refine blk_drewN ?_ _ | refine blk_drew ?_ | refine blk_alloc ?_ _)); exact BK275.out) hb); have n3_ := am_ (blk_below (g := gb283) (o := .cells #[.string t279, .int .u16 t280, .int .u16 t281] 32 (0, 0)) (by (with_reducible repeat (first | refine blk_drewN ?_ _ | refine blk_drew ?_ | refine blk_alloc ?_ _)); exact BK283.out) hb); have n4_ := am_ (below_step (by repeat (first | (with_reducible first | exact HB.out | apply below_alloc | apply pw_below_drewN | apply below_drew1 | refine below_set ?_ GE275.out | refine below_set ?_ GE283.out) | exact HB.out)) hb); have n5_ := am_ (hbox); have n6_ := am_ ((by rw [hg]; exact (below_size (by repeat (first | (with_reducible first | exact HB.out | apply below_alloc | apply pw_below_drewN | apply below_drew1 | refine below_set ?_ GE275.out | refine below_set ?_ GE283.out) | exact HB.out))) : w.heap.size ≤ gb292)); have n7_ := am_ ((by rw [hg]; exact (below_size (by repeat (first | (with_reducible first | exact HB.out | apply below_alloc | apply pw_below_drewN | apply below_drew1 | refine below_set ?_ GE275.out | refine below_set ?_ GE283.out) | exact HB.out))) : w.heap.size ≤ gb292)); have n8_ := am_ ((by rw [hg]; exact Nat.ne_of_lt (blk_lt (g := gb275) (o := .cells #[.string a0_0, .int .u16 a0_1, .int .u16 a0_2] 32 (0, 0)) (by (with_reducible repeat (first | refine blk_drewN ?_ _ | refine blk_drew ?_ | refine blk_alloc ?_ _)); exact BK275.out)) : gb275 ≠ gb292)); have n9_ := am_ ((by rw [hg]; exact Nat.ne_of_gt (blk_lt (g := gb275) (o := .cells #[.string a0_0, .int .u16 a0_1, .int .u16 a0_2] 32 (0, 0)) (by (with_reducible repeat (first | refine blk_drewN ?_ _ | refine blk_drew ?_ | refine blk_alloc ?_ _)); exact BK275.out)) : gb292 ≠ gb275)); have n10_ := am_ ((by rw [hg]; exact Nat.ne_of_lt (blk_lt (g := gb283) (o := .cells #[.string t279, .int .u16 t280, .int .u16 t281] 32 (0, 0)) (by (with_reducible repeat (first | refine blk_drewN ?_ _ | refine blk_drew ?_ | refine blk_alloc ?_ _)); exact BK283.out)) : gb283 ≠ gb292)); have n11_ := am_ ((by rw [hg]; exact Nat.ne_of_gt (blk_lt (g := gb283) (o := .cells #[.string t279, .int .u16 t280, .int .u16 t281] 32 (0, 0)) (by (with_reducible repeat (first | refine blk_drewN ?_ _ | refine blk_drew ?_ | refine blk_alloc ?_ _)); exact BK283.out)) : gb292 ≠ gb283)); clear HO278; clear HO287; clear BK275; clear BK283; clear HB; have HO278 := n0_; have HO287 := n1_; have BK275 := n2_; have BK283 := n3_; have HB := n4_; have BK292 := n5_; have GW292 := n6_; have GE292 := n7_; have NB275_292 := n8_; have NB292_275 := n9_; have NB283_292 := n10_; have NB292_283 := n11_; clear n0_ n1_ n2_ n3_ n4_ n5_ n6_ n7_ n8_ n9_ n10_ n11_; clear hb hbox hg; have hnb100 := NB292_275.out; have hnc100 := NB275_292.out; have hnb101 := NB292_283.out; have hnc101 := NB283_292.out; have hcz102_0 : w99.cell? ⟨gb292, 0, none⟩ = some (.string (⟨#[]⟩ : ByteArray)) := (blk_cell BK292.out 0).trans rfl; have hcz102_1 : w99.cell? ⟨gb292, 1, none⟩ = some (.int .u16 0) := (blk_cell BK292.out 1).trans rfl; have hcz102_2 : w99.cell? ⟨gb292, 2, none⟩ = some (.int .u16 0) := (blk_cell BK292.out 2).trans rfl; have hfz102_0 := blk_frozen BK292.out 0; have hfz102_1 := blk_frozen BK292.out 1; have hfz102_2 := blk_frozen BK292.out 2))
 have n0_ : Aside0 (Kd.R k38 38 (((w99.setCell ⟨gb292, 0, none⟩ (.string t288)).setCell ⟨gb292, 1, none⟩ (.int .u16 t289)).setCell ⟨gb292, 2, none⟩ (.int .u16 t290)) w.heap.size (fun k_ => some k_ ≠ (.slice Ao97 y285.length co97 : Value).ownBlock) (.slice Ao89 y276.length co89) y276) := ⟨by (with_reducible repeat (first | apply Kd.R_alloc | apply Kd.R_drewN | apply Kd.R_drew)); exact Kd.R_mono (Kd.R_far (p := ⟨gb292, 2, none⟩) (Kd.R_far (p := ⟨gb292, 1, none⟩) (Kd.R_far (p := ⟨gb292, 0, none⟩) (Kd.R_types HO278.out BK292.out (by decide)) (fun _ hk => hk.2) (.string t288)) (fun _ hk => hk.2) (.int .u16 t289)) (fun _ hk => hk.2) (.int .u16 t290)) (fun _ hk => hk.1.2)⟩
 have n1_ : Aside0 (Kd.R k38 38 (((w99.setCell ⟨gb292, 0, none⟩ (.string t288)).setCell ⟨gb292, 1, none⟩ (.int .u16 t289)).setCell ⟨gb292, 2, none⟩ (.int .u16 t290)) w.heap.size (fun k_ => some k_ ≠ (.slice Ao89 y276.length co89 : Value).ownBlock) (.slice Ao97 y285.length co97) y285) := ⟨by (with_reducible repeat (first | apply Kd.R_alloc | apply Kd.R_drewN | apply Kd.R_drew)); exact Kd.R_mono (Kd.R_far (p := ⟨gb292, 2, none⟩) (Kd.R_far (p := ⟨gb292, 1, none⟩) (Kd.R_far (p := ⟨gb292, 0, none⟩) (Kd.R_types HO287.out BK292.out (by decide)) (fun _ hk => hk.2) (.string t288)) (fun _ hk => hk.2) (.int .u16 t289)) (fun _ hk => hk.2) (.int .u16 t290)) (fun _ hk => hk.1.2)⟩
 have n2_ : Aside0 ((((w99.setCell ⟨gb292, 0, none⟩ (.string t288)).setCell ⟨gb292, 1, none⟩ (.int .u16 t289)).setCell ⟨gb292, 2, none⟩ (.int .u16 t290)).heap[gb275]? = some (.cells #[.string a0_0, .int .u16 a0_1, .int .u16 a0_2] 32 (0, 0))) := ⟨by (with_reducible repeat (first | refine blk_drewN ?_ _ | refine blk_drew ?_ | refine blk_alloc ?_ _)); refine blk_far ?_ NB275_292.out _; (with_reducible repeat (first | refine blk_drewN ?_ _ | refine blk_drew ?_ | refine blk_alloc ?_ _)); refine blk_far ?_ NB275_292.out _; (with_reducible repeat (first | refine blk_drewN ?_ _ | refine blk_drew ?_ | refine blk_alloc ?_ _)); refine blk_far ?_ NB275_292.out _; (with_reducible repeat (first | refine blk_drewN ?_ _ | refine blk_drew ?_ | refine blk_alloc ?_ _)); exact BK275.out⟩
 have n3_ : Aside0 ((((w99.setCell ⟨gb292, 0, none⟩ (.string t288)).setCell ⟨gb292, 1, none⟩ (.int .u16 t289)).setCell ⟨gb292, 2, none⟩ (.int .u16 t290)).heap[gb283]? = some (.cells #[.string t279, .int .u16 t280, .int .u16 t281] 32 (0, 0))) := ⟨by (with_reducible repeat (first | refine blk_drewN ?_ _ | refine blk_drew ?_ | refine blk_alloc ?_ _)); refine blk_far ?_ NB283_292.out _; (with_reducible repeat (first | refine blk_drewN ?_ _ | refine blk_drew ?_ | refine blk_alloc ?_ _)); refine blk_far ?_ NB283_292.out _; (with_reducible repeat (first | refine blk_drewN ?_ _ | refine blk_drew ?_ | refine blk_alloc ?_ _)); refine blk_far ?_ NB283_292.out _; (with_reducible repeat (first | refine blk_drewN ?_ _ | refine blk_drew ?_ | refine blk_alloc ?_ _)); exact BK283.out⟩
 have n4_ : Aside0 ((((w99.setCell ⟨gb292, 0, none⟩ (.string t288)).setCell ⟨gb292, 1, none⟩ (.int .u16 t289)).setCell ⟨gb292, 2, none⟩ (.int .u16 t290)).heap[gb292]? = some (.cells #[.string t288, .int .u16 t289, .int .u16 t290] 32 (0, 0))) := ⟨by (with_reducible repeat (first | refine blk_drewN ?_ _ | refine blk_drew ?_ | refine blk_alloc ?_ _)); refine blk_put (cs := #[.string t288, .int .u16 t289, .int .u16 0]) ?_ 2 _ rfl; (with_reducible repeat (first | refine blk_drewN ?_ _ | refine blk_drew ?_ | refine blk_alloc ?_ _)); refine blk_put (cs := #[.string t288, .int .u16 0, .int .u16 0]) ?_ 1 _ rfl; (with_reducible repeat (first | refine blk_drewN ?_ _ | refine blk_drew ?_ | refine blk_alloc ?_ _)); refine blk_put (cs := #[.string (⟨#[]⟩ : ByteArray), .int .u16 0, .int .u16 0]) ?_ 0 _ rfl; (with_reducible repeat (first | refine blk_drewN ?_ _ | refine blk_drew ?_ | refine blk_alloc ?_ _)); exact BK292.out⟩
 have n5_ : Aside0 (Below w.heap.size w (((w99.setCell ⟨gb292, 0, none⟩ (.string t288)).setCell ⟨gb292, 1, none⟩ (.int .u16 t289)).setCell ⟨gb292, 2, none⟩ (.int .u16 t290))) := ⟨by repeat (first | (with_reducible first | exact HB.out | apply below_alloc | apply pw_below_drewN | apply below_drew1 | refine below_set ?_ GE275.out | refine below_set ?_ GE283.out | refine below_set ?_ GE292.out) | exact HB.out)⟩
 (try clear HO278)
 (try clear HO287)
 (try clear BK275)
 (try clear BK283)
 (try clear BK292)
 (try clear HB)
 generalize (((w99.setCell ⟨gb292, 0, none⟩ (.string t288)).setCell ⟨gb292, 1, none⟩ (.int .u16 t289)).setCell ⟨gb292, 2, none⟩ (.int .u16 t290)) = w103 at n0_ n1_ n2_ n3_ n4_ n5_ ⊢
 have HO278 := n0_
 have HO287 := n1_
 have BK275 := n2_
 have BK283 := n3_
 have BK292 := n4_
 have HB := n5_
 clear n0_ n1_ n2_ n3_ n4_ n5_
 have n0_ := am_ (Kd.R_drew HO278.out)
 have n1_ := am_ (Kd.R_drew HO287.out)
 have n2_ := am_ (blk_drew BK275.out)
 have n3_ := am_ (blk_drew BK283.out)
 have n4_ := am_ (blk_drew BK292.out)
 have n5_ := am_ (below_drew1 HB.out)
 clear HO278
 clear HO287
 clear BK275
 clear BK283
 clear BK292
 clear HB
 have HO278 := n0_
 have HO287 := n1_
 have BK275 := n2_
 have BK283 := n3_
 have BK292 := n4_
 have HB := n5_
 clear n0_ n1_ n2_ n3_ n4_ n5_
 refine start_ (n := 45) (S := fun w' => w'.cell? ⟨gb292, 0, none⟩ = some (.string t288) ∧ w'.cell? ⟨gb292, 1, none⟩ = some (.int .u16 t289) ∧ w'.cell? ⟨gb292, 2, none⟩ = some (.int .u16 t290) ∧ w'.cell? ⟨gb275, 0, none⟩ = some (.string a0_0) ∧ w'.cell? ⟨gb275, 1, none⟩ = some (.int .u16 a0_1) ∧ w'.cell? ⟨gb275, 2, none⟩ = some (.int .u16 a0_2)) (ds := []) (bm_ 45 0) (by kernel_rfl) rfl rfl ⟨(blk_cell BK292.out 0).trans rfl, (blk_cell BK292.out 1).trans rfl, (blk_cell BK292.out 2).trans rfl, (blk_cell BK275.out 0).trans rfl, (blk_cell BK275.out 1).trans rfl, (blk_cell BK275.out 2).trans rfl⟩ (fun hHeld => ?_); refine with_tabW hearsaylaw25_RewriteThere.tab10 hearsaylaw25_RewriteThere.bits10 (fun HT_ HW_ => ?_)
 generalize w103.drew = w104 at HO278 HO287 BK275 BK283 BK292 HB hHeld ⊢
 refine pure_ (i := 0) (N := some 57) (v := ?_) (a' := ?_) (bm_ 45 1) rfl rfl (any_of HT_.out (by kernel_rfl)) (fun _ _ _ h => h) (Or.inl ⟨by rfl, ?_⟩) ?_ ?_
 rotate_left
 {
 intro w'
 go_simp
 with_reducible rfl }
 rotate_left
 {
 simp only [Act.put, sA_, s0_, sS_, i64_w, i32_w]
 rfl }
 refine pure_ (i := 1) (N := some 58) (v := ?_) (a' := ?_) (bm_ 45 3) rfl rfl (any_of HT_.out (by kernel_rfl)) (fun _ _ _ h => h) (Or.inl ⟨by rfl, ?_⟩) ?_ ?_
 rotate_left
 {
 intro w'
 go_simp
 with_reducible rfl }
 rotate_left
 {
 simp only [Act.put, sA_, s0_, sS_, i64_w, i32_w]
 rfl }
 refine pure_ (i := 2) (N := some 59) (v := ?_) (a' := ?_) (bm_ 45 7) rfl rfl (any_of HT_.out (by kernel_rfl)) (fun _ _ _ h => h) (Or.inl ⟨by rfl, ?_⟩) ?_ ?_
 rotate_left
 {
 intro w'
 go_simp
 with_reducible rfl }
 rotate_left
 {
 simp only [Act.put, sA_, s0_, sS_, i64_w, i32_w]
 rfl }
 refine pure_ (i := 4) (N := some 61) (v := ?_) (a' := ?_) (bm_ 45 23) rfl rfl (any_of HT_.out (by kernel_rfl)) (fun _ _ _ h => h) (Or.inl ⟨by rfl, ?_⟩) ?_ ?_
 rotate_left
 {
 intro w'
 go_simp
 with_reducible rfl }
 rotate_left
 {
 simp only [Act.put, sA_, s0_, sS_, i64_w, i32_w]
 rfl }
 refine take_ (i := 3) (N := some 60) (v := ?_) (a' := ?_) (bm_ 45 31) rfl rfl (take_ofW HT_.out HW_.out (by kernel_rfl)) (fun _ _ _ h => h) (Or.inl ⟨by rfl, ?_⟩) hHeld ?_ ?_
 rotate_left
 {
 rintro w' ⟨s0, s1, s2, s3, s4, s5⟩
 go_simp
 with_reducible rfl }
 rotate_left
 {
 simp only [Act.put, sA_, s0_, sS_, i64_w, i32_w]
 rfl }
 refine take_ (i := 5) (N := some 62) (v := ?_) (a' := ?_) (bm_ 45 63) rfl rfl (take_ofW HT_.out HW_.out (by kernel_rfl)) (fun _ _ _ h => h) (Or.inl ⟨by rfl, ?_⟩) hHeld ?_ ?_
 rotate_left
 {
 rintro w' ⟨s0, s1, s2, s3, s4, s5⟩
 go_simp
 with_reducible rfl }
 rotate_left
 {
 simp only [Act.put, sA_, s0_, sS_, i64_w, i32_w]
 rfl }
 refine one_ (i := 6) (N := some 63) (bm_ 45 127) rfl rfl (one_of HT_.out (by kernel_rfl)) (by decide) (fun K hK => ?_)
 refine goes_ Try.func18 (by kernel_rfl) rfl #[.string t288, .string a0_0] (by rfl) rfl rfl (by (try simp only [List.map_toArray, List.map_cons, List.map_nil]); first | done | rfl | (simp only [List.length_drop, List.length_take]; rfl)) ?_
 with_reducible refine (hearsayref01_Alike.calls t288 a0_0 true _ A19.out).mono ?_
 rintro e w105 ⟨rfl, hb⟩
 refine ⟨_, rfl, ?_⟩
 have n0_ := am_ (Kd.R_below (by (with_reducible repeat (first | apply Kd.R_alloc | apply Kd.R_drewN | apply Kd.R_drew)); exact HO278.out) hb)
 have n1_ := am_ (Kd.R_below (by (with_reducible repeat (first | apply Kd.R_alloc | apply Kd.R_drewN | apply Kd.R_drew)); exact HO287.out) hb)
 have n2_ := am_ (blk_below (g := gb275) (o := .cells #[.string a0_0, .int .u16 a0_1, .int .u16 a0_2] 32 (0, 0)) (by (with_reducible repeat (first | refine blk_drewN ?_ _ | refine blk_drew ?_ | refine blk_alloc ?_ _)); exact BK275.out) hb)
 have n3_ := am_ (blk_below (g := gb283) (o := .cells #[.string t279, .int .u16 t280, .int .u16 t281] 32 (0, 0)) (by (with_reducible repeat (first | refine blk_drewN ?_ _ | refine blk_drew ?_ | refine blk_alloc ?_ _)); exact BK283.out) hb)
 have n4_ := am_ (blk_below (g := gb292) (o := .cells #[.string t288, .int .u16 t289, .int .u16 t290] 32 (0, 0)) (by (with_reducible repeat (first | refine blk_drewN ?_ _ | refine blk_drew ?_ | refine blk_alloc ?_ _)); exact BK292.out) hb)
 have n5_ := am_ (below_step (by repeat (first | (with_reducible first | exact HB.out | apply below_alloc | apply pw_below_drewN | apply below_drew1 | refine below_set ?_ GE275.out | refine below_set ?_ GE283.out | refine below_set ?_ GE292.out) | exact HB.out)) hb)
 clear HO278
 clear HO287
 clear BK275
 clear BK283
 clear BK292
 clear HB
 have HO278 := n0_
 have HO287 := n1_
 have BK275 := n2_
 have BK283 := n3_
 have BK292 := n4_
 have HB := n5_
 clear n0_ n1_ n2_ n3_ n4_ n5_
 (try clear hb)
 (try clear hb2)
 (try clear hk)
 (try clear hi)
 refine hK.out _ _ ⟨(blk_cell BK292.out 0).trans rfl, (blk_cell BK292.out 1).trans rfl, (blk_cell BK292.out 2).trans rfl, (blk_cell BK275.out 0).trans rfl, (blk_cell BK275.out 1).trans rfl, (blk_cell BK275.out 2).trans rfl⟩ (fun hHeld => ?_)
 clear hK K
 refine norm_ (a' := ?_) ?_ ?_
 rotate_left
 {
 show Act.put _ (some 63) _ = _
 simp only [Act.put, sA_, s0_, sS_, i64_w, i32_w]
 rfl }
 refine pure_ (i := 7) (N := some 64) (v := ?_) (a' := ?_) (bm_ 45 255) rfl rfl (any_of HT_.out (by kernel_rfl)) (fun _ _ _ h => h) (Or.inl ⟨by rfl, ?_⟩) ?_ ?_
 rotate_left
 {
 intro w'
 go_simp
 with_reducible rfl }
 rotate_left
 {
 simp only [Act.put, sA_, s0_, sS_, i64_w, i32_w]
 rfl }
 refine pure_ (i := 8) (N := some 65) (v := ?_) (a' := ?_) (bm_ 45 511) rfl rfl (any_of HT_.out (by kernel_rfl)) (fun _ _ _ h => h) (Or.inl ⟨by rfl, ?_⟩) ?_ ?_
 rotate_left
 {
 intro w'
 go_simp
 with_reducible rfl }
 rotate_left
 {
 simp only [Act.put, sA_, s0_, sS_, i64_w, i32_w]
 rfl }
 refine pure_ (i := 9) (N := some 66) (v := ?_) (a' := ?_) (bm_ 45 1023) rfl rfl (any_of HT_.out (by kernel_rfl)) (fun _ _ _ h => h) (Or.inl ⟨by rfl, ?_⟩) ?_ ?_
 rotate_left
 {
 intro w'
 go_simp
 with_reducible rfl }
 rotate_left
 {
 simp only [Act.put, sA_, s0_, sS_, i64_w, i32_w]
 rfl }
 refine pure_ (i := 11) (N := some 68) (v := ?_) (a' := ?_) (bm_ 45 3071) rfl rfl (any_of HT_.out (by kernel_rfl)) (fun _ _ _ h => h) (Or.inl ⟨by rfl, ?_⟩) ?_ ?_
 rotate_left
 {
 intro w'
 go_simp
 with_reducible rfl }
 rotate_left
 {
 simp only [Act.put, sA_, s0_, sS_, i64_w, i32_w]
 rfl }
 refine take_ (i := 10) (N := some 67) (v := ?_) (a' := ?_) (bm_ 45 4095) rfl rfl (take_ofW HT_.out HW_.out (by kernel_rfl)) (fun _ _ _ h => h) (Or.inl ⟨by rfl, ?_⟩) hHeld ?_ ?_
 rotate_left
 {
 rintro w' ⟨s0, s1, s2, s3, s4, s5⟩
 go_simp
 with_reducible rfl }
 rotate_left
 {
 simp only [Act.put, sA_, s0_, sS_, i64_w, i32_w]
 rfl }
 refine take_ (i := 12) (N := some 69) (v := ?_) (a' := ?_) (bm_ 45 8191) rfl rfl (take_ofW HT_.out HW_.out (by kernel_rfl)) (fun _ _ _ h => h) (Or.inl ⟨by rfl, ?_⟩) hHeld ?_ ?_
 rotate_left
 {
 rintro w' ⟨s0, s1, s2, s3, s4, s5⟩
 go_simp
 with_reducible rfl }
 rotate_left
 {
 simp only [Act.put, sA_, s0_, sS_, i64_w, i32_w]
 rfl }
 refine pure_ (i := 13) (N := some 70) (v := ?_) (a' := ?_) (bm_ 45 16383) rfl rfl (any_of HT_.out (by kernel_rfl)) (fun _ _ _ h => h) (Or.inl ⟨by rfl, ?_⟩) ?_ ?_
 rotate_left
 {
 intro w'
 go_simp
 with_reducible rfl }
 rotate_left
 {
 simp only [Act.put, sA_, s0_, sS_, i64_w, i32_w]
 rfl }
 refine pure_ (i := 14) (N := some 71) (v := ?_) (a' := ?_) (bm_ 45 32767) rfl rfl (any_of HT_.out (by kernel_rfl)) (fun _ _ _ h => h) (Or.inl ⟨by rfl, ?_⟩) ?_ ?_
 rotate_left
 {
 intro w'
 go_simp
 with_reducible rfl }
 rotate_left
 {
 simp only [Act.put, sA_, s0_, sS_, i64_w, i32_w]
 rfl }
 refine pure_ (i := 15) (N := some 72) (v := ?_) (a' := ?_) (bm_ 45 65535) rfl rfl (any_of HT_.out (by kernel_rfl)) (fun _ _ _ h => h) (Or.inl ⟨by rfl, ?_⟩) ?_ ?_
 rotate_left
 {
 intro w'
 go_simp
 with_reducible rfl }
 rotate_left
 {
 simp only [Act.put, sA_, s0_, sS_, i64_w, i32_w]
 rfl }
 refine pure_ (i := 16) (N := some 73) (v := ?_) (a' := ?_) (bm_ 45 131071) rfl rfl (any_of HT_.out (by kernel_rfl)) (fun _ _ _ h => h) (Or.inl ⟨by rfl, ?_⟩) ?_ ?_
 rotate_left
 {
 intro w'
 go_simp
 with_reducible rfl }
 rotate_left
 {
 simp only [Act.put, sA_, s0_, sS_, i64_w, i32_w]
 rfl }
 refine pure_ (i := 18) (N := some 75) (v := ?_) (a' := ?_) (bm_ 45 393215) rfl rfl (any_of HT_.out (by kernel_rfl)) (fun _ _ _ h => h) (Or.inl ⟨by rfl, ?_⟩) ?_ ?_
 rotate_left
 {
 intro w'
 go_simp
 with_reducible rfl }
 rotate_left
 {
 simp only [Act.put, sA_, s0_, sS_, i64_w, i32_w]
 rfl }
 refine take_ (i := 17) (N := some 74) (v := ?_) (a' := ?_) (bm_ 45 524287) rfl rfl (take_ofW HT_.out HW_.out (by kernel_rfl)) (fun _ _ _ h => h) (Or.inl ⟨by rfl, ?_⟩) hHeld ?_ ?_
 rotate_left
 {
 rintro w' ⟨s0, s1, s2, s3, s4, s5⟩
 go_simp
 with_reducible rfl }
 rotate_left
 {
 simp only [Act.put, sA_, s0_, sS_, i64_w, i32_w]
 rfl }
 refine take_ (i := 19) (N := some 76) (v := ?_) (a' := ?_) (bm_ 45 1048575) rfl rfl (take_ofW HT_.out HW_.out (by kernel_rfl)) (fun _ _ _ h => h) (Or.inl ⟨by rfl, ?_⟩) hHeld ?_ ?_
 rotate_left
 {
 rintro w' ⟨s0, s1, s2, s3, s4, s5⟩
 go_simp
 with_reducible rfl }
 rotate_left
 {
 simp only [Act.put, sA_, s0_, sS_, i64_w, i32_w]
 rfl }
 refine pure_ (i := 20) (N := some 77) (v := ?_) (a' := ?_) (bm_ 45 2097151) rfl rfl (any_of HT_.out (by kernel_rfl)) (fun _ _ _ h => h) (Or.inl ⟨by rfl, ?_⟩) ?_ ?_
 rotate_left
 {
 intro w'
 go_simp
 with_reducible rfl }
 rotate_left
 {
 simp only [Act.put, sA_, s0_, sS_, i64_w, i32_w]
 rfl }
 refine pure_ (i := 21) (N := some 78) (v := ?_) (a' := ?_) (bm_ 45 4194303) rfl rfl (any_of HT_.out (by kernel_rfl)) (fun _ _ _ h => h) (Or.inl ⟨by rfl, ?_⟩) ?_ ?_
 rotate_left
 {
 intro w'
 go_simp
 with_reducible rfl }
 rotate_left
 {
 simp only [Act.put, sA_, s0_, sS_, i64_w, i32_w]
 rfl }
 refine pure_ (i := 22) (N := some 79) (v := ?_) (a' := ?_) (bm_ 45 8388607) rfl rfl (any_of HT_.out (by kernel_rfl)) (fun _ _ _ h => h) (Or.inl ⟨by rfl, ?_⟩) ?_ ?_
 rotate_left
 {
 intro w'
 go_simp
 with_reducible rfl }
 rotate_left
 {
 simp only [Act.put, sA_, s0_, sS_, i64_w, i32_w]
 rfl }
 refine pure_ (i := 23) (N := some 80) (v := undef) (a' := ?_) (bm_ 45 16777215) rfl rfl (any_of HT_.out (by kernel_rfl)) (fun _ _ _ h => h) (Or.inr ⟨by rfl, rfl⟩) ?_ ?_
 rotate_left
 {
 simp only [Act.put, sA_, s0_, sS_, i64_w, i32_w]
 rfl }
 refine pure_ (i := 24) (N := some 81) (v := undef) (a' := ?_) (bm_ 45 33554431) rfl rfl (any_of HT_.out (by kernel_rfl)) (fun _ _ _ h => h) (Or.inr ⟨by rfl, rfl⟩) ?_ ?_
 rotate_left
 {
 simp only [Act.put, sA_, s0_, sS_, i64_w, i32_w]
 rfl }
 refine pure_ (i := 25) (N := some 82) (v := undef) (a' := ?_) (bm_ 45 67108863) rfl rfl (any_of HT_.out (by kernel_rfl)) (fun _ _ _ h => h) (Or.inr ⟨by rfl, rfl⟩) ?_ ?_
 rotate_left
 {
 simp only [Act.put, sA_, s0_, sS_, i64_w, i32_w]
 rfl }
 refine pure_ (i := 26) (N := some 83) (v := undef) (a' := ?_) (bm_ 45 134217727) rfl rfl (any_of HT_.out (by kernel_rfl)) (fun _ _ _ h => h) (Or.inr ⟨by rfl, rfl⟩) ?_ ?_
 rotate_left
 {
 simp only [Act.put, sA_, s0_, sS_, i64_w, i32_w]
 rfl }
 refine pure_ (i := 27) (N := some 84) (v := undef) (a' := ?_) (bm_ 45 268435455) rfl rfl (any_of HT_.out (by kernel_rfl)) (fun _ _ _ h => h) (Or.inr ⟨by rfl, rfl⟩) ?_ ?_
 rotate_left
 {
 simp only [Act.put, sA_, s0_, sS_, i64_w, i32_w]
 rfl }
 refine pure_ (i := 28) (N := some 85) (v := undef) (a' := ?_) (bm_ 45 536870911) rfl rfl (any_of HT_.out (by kernel_rfl)) (fun _ _ _ h => h) (Or.inr ⟨by rfl, rfl⟩) ?_ ?_
 rotate_left
 {
 simp only [Act.put, sA_, s0_, sS_, i64_w, i32_w]
 rfl }
 refine pure_ (i := 29) (N := some 86) (v := undef) (a' := ?_) (bm_ 45 1073741823) rfl rfl (any_of HT_.out (by kernel_rfl)) (fun _ _ _ h => h) (Or.inr ⟨by rfl, rfl⟩) ?_ ?_
 rotate_left
 {
 simp only [Act.put, sA_, s0_, sS_, i64_w, i32_w]
 rfl }
 refine pure_ (i := 30) (N := some 87) (v := undef) (a' := ?_) (bm_ 45 2147483647) rfl rfl (any_of HT_.out (by kernel_rfl)) (fun _ _ _ h => h) (Or.inr ⟨by rfl, rfl⟩) ?_ ?_
 rotate_left
 {
 simp only [Act.put, sA_, s0_, sS_, i64_w, i32_w]
 rfl }
 refine pure_ (i := 31) (N := some 88) (v := undef) (a' := ?_) (bm_ 45 4294967295) rfl rfl (any_of HT_.out (by kernel_rfl)) (fun _ _ _ h => h) (Or.inr ⟨by rfl, rfl⟩) ?_ ?_
 rotate_left
 {
 simp only [Act.put, sA_, s0_, sS_, i64_w, i32_w]
 rfl }
 refine pure_ (i := 32) (N := some 89) (v := undef) (a' := ?_) (bm_ 45 8589934591) rfl rfl (any_of HT_.out (by kernel_rfl)) (fun _ _ _ h => h) (Or.inr ⟨by rfl, rfl⟩) ?_ ?_
 rotate_left
 {
 simp only [Act.put, sA_, s0_, sS_, i64_w, i32_w]
 rfl }
 refine pure_ (i := 33) (N := some 90) (v := undef) (a' := ?_) (bm_ 45 17179869183) rfl rfl (any_of HT_.out (by kernel_rfl)) (fun _ _ _ h => h) (Or.inr ⟨by rfl, rfl⟩) ?_ ?_
 rotate_left
 {
 simp only [Act.put, sA_, s0_, sS_, i64_w, i32_w]
 rfl }
 refine pure_ (i := 34) (N := some 91) (v := undef) (a' := ?_) (bm_ 45 34359738367) rfl rfl (any_of HT_.out (by kernel_rfl)) (fun _ _ _ h => h) (Or.inr ⟨by rfl, rfl⟩) ?_ ?_
 rotate_left
 {
 simp only [Act.put, sA_, s0_, sS_, i64_w, i32_w]
 rfl }
 refine pure_ (i := 35) (N := some 92) (v := undef) (a' := ?_) (bm_ 45 68719476735) rfl rfl (any_of HT_.out (by kernel_rfl)) (fun _ _ _ h => h) (Or.inr ⟨by rfl, rfl⟩) ?_ ?_
 rotate_left
 {
 simp only [Act.put, sA_, s0_, sS_, i64_w, i32_w]
 rfl }
 refine pure_ (i := 36) (N := some 93) (v := undef) (a' := ?_) (bm_ 45 137438953471) rfl rfl (any_of HT_.out (by kernel_rfl)) (fun _ _ _ h => h) (Or.inr ⟨by rfl, rfl⟩) ?_ ?_
 rotate_left
 {
 simp only [Act.put, sA_, s0_, sS_, i64_w, i32_w]
 rfl }
 refine pure_ (i := 37) (N := some 94) (v := undef) (a' := ?_) (bm_ 45 274877906943) rfl rfl (any_of HT_.out (by kernel_rfl)) (fun _ _ _ h => h) (Or.inr ⟨by rfl, rfl⟩) ?_ ?_
 rotate_left
 {
 simp only [Act.put, sA_, s0_, sS_, i64_w, i32_w]
 rfl }
 refine pure_ (i := 38) (N := some 95) (v := undef) (a' := ?_) (bm_ 45 549755813887) rfl rfl (any_of HT_.out (by kernel_rfl)) (fun _ _ _ h => h) (Or.inr ⟨by rfl, rfl⟩) ?_ ?_
 rotate_left
 {
 simp only [Act.put, sA_, s0_, sS_, i64_w, i32_w]
 rfl }
 refine pure_ (i := 39) (N := some 96) (v := undef) (a' := ?_) (bm_ 45 1099511627775) rfl rfl (any_of HT_.out (by kernel_rfl)) (fun _ _ _ h => h) (Or.inr ⟨by rfl, rfl⟩) ?_ ?_
 rotate_left
 {
 simp only [Act.put, sA_, s0_, sS_, i64_w, i32_w]
 rfl }
 refine pure_ (i := 40) (N := some 97) (v := ?_) (a' := ?_) (bm_ 45 2199023255551) rfl rfl (any_of HT_.out (by kernel_rfl)) (fun _ _ _ h => h) (Or.inl ⟨by rfl, ?_⟩) ?_ ?_
 rotate_left
 {
 intro w'
 go_simp
 with_reducible rfl }
 rotate_left
 {
 simp only [Act.put, sA_, s0_, sS_, i64_w, i32_w]
 rfl }
 refine pure_ (i := 41) (N := some 98) (v := ?_) (a' := ?_) (bm_ 45 4398046511103) rfl rfl (any_of HT_.out (by kernel_rfl)) (fun _ _ _ h => h) (Or.inl ⟨by rfl, ?_⟩) ?_ ?_
 rotate_left
 {
 intro w'
 go_simp
 with_reducible rfl }
 rotate_left
 {
 simp only [Act.put, sA_, s0_, sS_, i64_w, i32_w]
 rfl }
 refine pure_ (i := 42) (N := some 99) (v := undef) (a' := ?_) (bm_ 45 8796093022207) rfl rfl (any_of HT_.out (by kernel_rfl)) (fun _ _ _ h => h) (Or.inr ⟨by rfl, rfl⟩) ?_ ?_
 rotate_left
 {
 simp only [Act.put, sA_, s0_, sS_, i64_w, i32_w]
 rfl }
 refine pure_ (i := 43) (N := some 100) (v := ?_) (a' := ?_) (bm_ 45 17592186044415) rfl rfl (any_of HT_.out (by kernel_rfl)) (fun _ _ _ h => h) (Or.inl ⟨by rfl, ?_⟩) ?_ ?_
 rotate_left
 {
 intro w'
 go_simp
 with_reducible rfl }
 rotate_left
 {
 simp only [Act.put, sA_, s0_, sS_, i64_w, i32_w]
 rfl }
 refine pure_ (i := 44) (N := some 8) (v := ?_) (a' := ?_) (bm_ 45 35184372088831) rfl rfl (any_of HT_.out (by kernel_rfl)) (fun _ _ _ h => h) (Or.inl ⟨by rfl, ?_⟩) ?_ ?_
 rotate_left
 {
 intro w'
 go_simp
 with_reducible rfl }
 rotate_left
 {
 simp only [Act.put, sA_, s0_, sS_, i64_w, i32_w]
 rfl }
 refine done_ (done_of HT_.out (by kernel_rfl)) ?_
 try go_wp2
 go_ret
 exact ⟨by first | rfl | (simp [errW_none, errW_some] <;> rfl) | (simp [*, errW_none, errW_some] <;> rfl), by repeat (first | (with_reducible first | exact HB.out | apply below_alloc | apply pw_below_drewN | apply below_drew1 | refine below_set ?_ GE275.out | refine below_set ?_ GE283.out | refine below_set ?_ GE292.out) | exact HB.out)⟩ }}
 {
 rw [if_neg c21] at H
 have c21b0 : (t289 == a0_1) = false := beq_eq_false_iff_ne.mpr c21
 have c21b1 : (t289 != a0_1) = true := bne_iff_ne.mpr c21
 obtain rfl := Option.some.inj H
 try go_wp2_with (first | ((with_reducible refine gate_dst (N := 34) rfl ?_); (try (refine gate_guard (by rfl) ?_; dsimp only)); refine Kd.R_lit k38 _ 38 ?hg (N := 34) ?hd (xs := ([(⟨x9_12, a1, a2, 0, 0⟩ : S38)] : List (S38))) (inner := [.int .u8 x9_12, .string a1, .string a2, .int .u16 0, .int .u16 0]) (ok := fun _ => True) (okp := fun _ => True) ?hr ?hp (fun _ hk => hk) trivial (Below.refl _ _) (Nat.le_refl _) (by simp) ?_; (case hd => rfl); (case hg => rfl); (case hr => first | (go_simp; done) | (go_simp; rfl)); (case hp => exact (Reps.c5 (show Kd.M k38 _ _ _ (⟨x9_12, a1, a2, 0, 0⟩ : S38) [.int .u8 x9_12, .string a1, .string a2, .int .u16 0, .int .u16 0] from (k38_mkM _ _ _ (⟨x9_12, a1, a2, 0, 0⟩ : S38) )) (Reps.none _ _))); intro v277 w106 ho107 hb hg_ hnew_; clear hg_ hnew_; (first | rw [← Ny276.out] at ho107 | (simp only [Int.reduceToNat] at ho107; rw [← Ny276.out] at ho107)); have n0_ := am_ (Kd.R_lower ho107 (below_size (by repeat (first | (with_reducible first | exact HB.out | apply below_alloc | apply pw_below_drewN | apply below_drew1 | refine below_set ?_ GE275.out) | exact HB.out)))); have n1_ := am_ (blk_below (g := gb275) (o := .cells #[.string a0_0, .int .u16 a0_1, .int .u16 a0_2] 32 (0, 0)) (by (with_reducible repeat (first | refine blk_drewN ?_ _ | refine blk_drew ?_ | refine blk_alloc ?_ _)); exact BK275.out) hb); have n2_ := am_ (below_step (by repeat (first | (with_reducible first | exact HB.out | apply below_alloc | apply pw_below_drewN | apply below_drew1 | refine below_set ?_ GE275.out) | exact HB.out)) hb); clear BK275; clear HB; have HO278 := n0_; have BK275 := n1_; have HB := n2_; clear n0_ n1_ n2_; clear hb ho107; have hcz108_0 : w106.cell? ⟨gb275, 0, none⟩ = some (.string a0_0) := (blk_cell BK275.out 0).trans rfl; have hcz108_1 : w106.cell? ⟨gb275, 1, none⟩ = some (.int .u16 a0_1) := (blk_cell BK275.out 1).trans rfl; have hcz108_2 : w106.cell? ⟨gb275, 2, none⟩ = some (.int .u16 a0_2) := (blk_cell BK275.out 2).trans rfl; have hfz108_0 := blk_frozen BK275.out 0; have hfz108_1 := blk_frozen BK275.out 1; have hfz108_2 := blk_frozen BK275.out 2; obtain ⟨Ao109, co109, eo109⟩ := Kd.R_slice HO278.out; subst eo109) | ((with_reducible refine gate_callee (f := 16) rfl ?_); refine goesL_ (some 36) rfl rfl Try.func16 (by kernel_rfl) rfl #[.slice Ao109 y276.length co109, .agg #[.string a0_0, .int .u16 a0_1, .int .u16 a0_2]] rfl (by (try simp only [List.map_toArray, List.map_cons, List.map_nil]); first | done | rfl | (simp only [List.length_drop, List.length_take]; rfl)) ?_; (with_reducible refine (rewrite_Ask.calls _ _ y276 a0_0 a0_1 a0_2 t279 t280 t281 true _ ?side1 ?side2 A15.out).mono ?_); (case side1 => repeat (first | exact (Kd.R_reads' HO278.out).2.2 | (with_reducible refine Kd.C_alloc ?_ _) | (with_reducible refine Kd.C_drewN ?_ _) | (with_reducible refine Kd.C_drew ?_))); (case side2 => exact (Kd.R_reads' HO278.out).2.1); rintro e w110 ⟨rfl, hb⟩; refine ⟨_, rfl, ?_⟩; have n0_ := am_ (Kd.R_below (by (with_reducible repeat (first | apply Kd.R_alloc | apply Kd.R_drewN | apply Kd.R_drew)); exact HO278.out) hb); have n1_ := am_ (blk_below (g := gb275) (o := .cells #[.string a0_0, .int .u16 a0_1, .int .u16 a0_2] 32 (0, 0)) (by (with_reducible repeat (first | refine blk_drewN ?_ _ | refine blk_drew ?_ | refine blk_alloc ?_ _)); exact BK275.out) hb); have n2_ := am_ (below_step (by repeat (first | (with_reducible first | exact HB.out | apply below_alloc | apply pw_below_drewN | apply below_drew1 | refine below_set ?_ GE275.out) | exact HB.out)) hb); clear HO278; clear BK275; clear HB; have HO278 := n0_; have BK275 := n1_; have HB := n2_; clear n0_ n1_ n2_; (try clear hb); (try clear hb2); (try clear hk); (try clear hi)) | ((with_reducible refine gate_dst (N := 10) rfl ?_); (try (refine gate_guard (by rfl) ?_; dsimp only)); refine box_event ?hg (N := 10) ?hd (cs := #[.string (⟨#[]⟩ : ByteArray), .int .u16 0, .int .u16 0]) (t := 32) ?hr ?_; (case hd => rfl); (case hg => rfl); (case hr => first | (go_simp; done) | (go_simp; rfl)); intro gb283 hg w111 hbox hb; have n0_ := am_ (Kd.R_below (by (with_reducible repeat (first | apply Kd.R_alloc | apply Kd.R_drewN | apply Kd.R_drew)); exact HO278.out) hb); have n1_ := am_ (blk_below (g := gb275) (o := .cells #[.string a0_0, .int .u16 a0_1, .int .u16 a0_2] 32 (0, 0)) (by (with_reducible repeat (first | refine blk_drewN ?_ _ | refine blk_drew ?_ | refine blk_alloc ?_ _)); exact BK275.out) hb); have n2_ := am_ (below_step (by repeat (first | (with_reducible first | exact HB.out | apply below_alloc | apply pw_below_drewN | apply below_drew1 | refine below_set ?_ GE275.out) | exact HB.out)) hb); have n3_ := am_ (hbox); have n4_ := am_ ((by rw [hg]; exact (below_size (by repeat (first | (with_reducible first | exact HB.out | apply below_alloc | apply pw_below_drewN | apply below_drew1 | refine below_set ?_ GE275.out) | exact HB.out))) : w.heap.size ≤ gb283)); have n5_ := am_ ((by rw [hg]; exact (below_size (by repeat (first | (with_reducible first | exact HB.out | apply below_alloc | apply pw_below_drewN | apply below_drew1 | refine below_set ?_ GE275.out) | exact HB.out))) : w.heap.size ≤ gb283)); have n6_ := am_ ((by rw [hg]; exact Nat.ne_of_lt (blk_lt (g := gb275) (o := .cells #[.string a0_0, .int .u16 a0_1, .int .u16 a0_2] 32 (0, 0)) (by (with_reducible repeat (first | refine blk_drewN ?_ _ | refine blk_drew ?_ | refine blk_alloc ?_ _)); exact BK275.out)) : gb275 ≠ gb283)); have n7_ := am_ ((by rw [hg]; exact Nat.ne_of_gt (blk_lt (g := gb275) (o := .cells #[.string a0_0, .int .u16 a0_1, .int .u16 a0_2] 32 (0, 0)) (by (with_reducible repeat (first | refine blk_drewN ?_ _ | refine blk_drew ?_ | refine blk_alloc ?_ _)); exact BK275.out)) : gb283 ≠ gb275)); clear HO278; clear BK275; clear HB; have HO278 := n0_; have BK275 := n1_; have HB := n2_; have BK283 := n3_; have GW283 := n4_; have GE283 := n5_; have NB275_283 := n6_; have NB283_275 := n7_; clear n0_ n1_ n2_ n3_ n4_ n5_ n6_ n7_; clear hb hbox hg; have hnb112 := NB283_275.out; have hnc112 := NB275_283.out; have hcz113_0 : w111.cell? ⟨gb283, 0, none⟩ = some (.string (⟨#[]⟩ : ByteArray)) := (blk_cell BK283.out 0).trans rfl; have hcz113_1 : w111.cell? ⟨gb283, 1, none⟩ = some (.int .u16 0) := (blk_cell BK283.out 1).trans rfl; have hcz113_2 : w111.cell? ⟨gb283, 2, none⟩ = some (.int .u16 0) := (blk_cell BK283.out 2).trans rfl; have hfz113_0 := blk_frozen BK283.out 0; have hfz113_1 := blk_frozen BK283.out 1; have hfz113_2 := blk_frozen BK283.out 2) | ((with_reducible refine gate_dst (N := 52) rfl ?_); (try (refine gate_guard (by rfl) ?_; dsimp only)); refine Kd.R_lit k38 _ 38 ?hg (N := 52) ?hd (xs := ([(⟨x9_12, a2, a1, 0, 0⟩ : S38)] : List (S38))) (inner := [.int .u8 x9_12, .string a2, .string a1, .int .u16 0, .int .u16 0]) (ok := fun _ => True) (okp := fun _ => True) ?hr ?hp (fun _ hk => hk) trivial (Below.refl _ _) (Nat.le_refl _) (by simp) ?_; (case hd => rfl); (case hg => rfl); (case hr => first | (go_simp; done) | (go_simp; rfl)); (case hp => exact (Reps.c5 (show Kd.M k38 _ _ _ (⟨x9_12, a2, a1, 0, 0⟩ : S38) [.int .u8 x9_12, .string a2, .string a1, .int .u16 0, .int .u16 0] from (k38_mkM _ _ _ (⟨x9_12, a2, a1, 0, 0⟩ : S38) )) (Reps.none _ _))); intro v286 w114 ho115 hb hg_ hnew_; clear hg_ hnew_; (first | rw [← Ny285.out] at ho115 | (simp only [Int.reduceToNat] at ho115; rw [← Ny285.out] at ho115)); have n0_ := am_ (Kd.R_elder' (by (with_reducible repeat (first | apply Kd.R_alloc | apply Kd.R_drewN | apply Kd.R_drew)); exact (Kd.R_mono (Kd.R_far (p := ⟨gb283, 2, none⟩) (Kd.R_far (p := ⟨gb283, 1, none⟩) (Kd.R_far (p := ⟨gb283, 0, none⟩) (Kd.R_types HO278.out BK283.out (by decide)) (fun _ hk => hk.2) (.string t279)) (fun _ hk => hk.2) (.int .u16 t280)) (fun _ hk => hk.2) (.int .u16 t281)) (fun _ h_ => h_.1))) (Kd.R_base ho115) hb); have n1_ := am_ (Kd.R_lower (Kd.R_new' ho115 (Kd.R_lt (by (with_reducible repeat (first | apply Kd.R_alloc | apply Kd.R_drewN | apply Kd.R_drew)); exact (Kd.R_mono (Kd.R_far (p := ⟨gb283, 2, none⟩) (Kd.R_far (p := ⟨gb283, 1, none⟩) (Kd.R_far (p := ⟨gb283, 0, none⟩) (Kd.R_types HO278.out BK283.out (by decide)) (fun _ hk => hk.2) (.string t279)) (fun _ hk => hk.2) (.int .u16 t280)) (fun _ hk => hk.2) (.int .u16 t281)) (fun _ h_ => h_.1))))) (below_size (by repeat (first | (with_reducible first | exact HB.out | apply below_alloc | apply pw_below_drewN | apply below_drew1 | refine below_set ?_ GE275.out | refine below_set ?_ GE283.out) | exact HB.out)))); have n2_ := am_ (blk_below (g := gb275) (o := .cells #[.string a0_0, .int .u16 a0_1, .int .u16 a0_2] 32 (0, 0)) (by (with_reducible repeat (first | refine blk_drewN ?_ _ | refine blk_drew ?_ | refine blk_alloc ?_ _)); refine blk_far ?_ NB275_283.out _; (with_reducible repeat (first | refine blk_drewN ?_ _ | refine blk_drew ?_ | refine blk_alloc ?_ _)); refine blk_far ?_ NB275_283.out _; (with_reducible repeat (first | refine blk_drewN ?_ _ | refine blk_drew ?_ | refine blk_alloc ?_ _)); refine blk_far ?_ NB275_283.out _; (with_reducible repeat (first | refine blk_drewN ?_ _ | refine blk_drew ?_ | refine blk_alloc ?_ _)); exact BK275.out) hb); have n3_ := am_ (blk_below (g := gb283) (o := .cells #[.string t279, .int .u16 t280, .int .u16 t281] 32 (0, 0)) (by (with_reducible repeat (first | refine blk_drewN ?_ _ | refine blk_drew ?_ | refine blk_alloc ?_ _)); refine blk_put (cs := #[.string t279, .int .u16 t280, .int .u16 0]) ?_ 2 _ rfl; (with_reducible repeat (first | refine blk_drewN ?_ _ | refine blk_drew ?_ | refine blk_alloc ?_ _)); refine blk_put (cs := #[.string t279, .int .u16 0, .int .u16 0]) ?_ 1 _ rfl; (with_reducible repeat (first | refine blk_drewN ?_ _ | refine blk_drew ?_ | refine blk_alloc ?_ _)); refine blk_put (cs := #[.string (⟨#[]⟩ : ByteArray), .int .u16 0, .int .u16 0]) ?_ 0 _ rfl; (with_reducible repeat (first | refine blk_drewN ?_ _ | refine blk_drew ?_ | refine blk_alloc ?_ _)); exact BK283.out) hb); have n4_ := am_ (below_step (by repeat (first | (with_reducible first | exact HB.out | apply below_alloc | apply pw_below_drewN | apply below_drew1 | refine below_set ?_ GE275.out | refine below_set ?_ GE283.out) | exact HB.out)) hb); clear HO278; clear BK275; clear BK283; clear HB; have HO278 := n0_; have HO287 := n1_; have BK275 := n2_; have BK283 := n3_; have HB := n4_; clear n0_ n1_ n2_ n3_ n4_; clear hb ho115; have hcz116_0 : w114.cell? ⟨gb283, 0, none⟩ = some (.string t279) := (blk_cell BK283.out 0).trans rfl; have hcz116_1 : w114.cell? ⟨gb283, 1, none⟩ = some (.int .u16 t280) := (blk_cell BK283.out 1).trans rfl; have hcz116_2 : w114.cell? ⟨gb283, 2, none⟩ = some (.int .u16 t281) := (blk_cell BK283.out 2).trans rfl; have hfz116_0 := blk_frozen BK283.out 0; have hfz116_1 := blk_frozen BK283.out 1; have hfz116_2 := blk_frozen BK283.out 2; obtain ⟨Ao117, co117, eo117⟩ := Kd.R_slice HO287.out; subst eo117) | ((with_reducible refine gate_callee (f := 16) rfl ?_); refine goesL_ (some 54) rfl rfl Try.func16 (by kernel_rfl) rfl #[.slice Ao117 y285.length co117, .agg #[.string t279, .int .u16 t280, .int .u16 t281]] rfl (by (try simp only [List.map_toArray, List.map_cons, List.map_nil]); first | done | rfl | (simp only [List.length_drop, List.length_take]; rfl)) ?_; (with_reducible refine (rewrite_Ask.calls _ _ y285 t279 t280 t281 t288 t289 t290 true _ ?side1 ?side2 A17.out).mono ?_); (case side1 => repeat (first | exact (Kd.R_reads' HO287.out).2.2 | (with_reducible refine Kd.C_alloc ?_ _) | (with_reducible refine Kd.C_drewN ?_ _) | (with_reducible refine Kd.C_drew ?_))); (case side2 => exact (Kd.R_reads' HO287.out).2.1); rintro e w118 ⟨rfl, hb⟩; refine ⟨_, rfl, ?_⟩; have n0_ := am_ (Kd.R_below (by (with_reducible repeat (first | apply Kd.R_alloc | apply Kd.R_drewN | apply Kd.R_drew)); exact HO278.out) hb); have n1_ := am_ (Kd.R_below (by (with_reducible repeat (first | apply Kd.R_alloc | apply Kd.R_drewN | apply Kd.R_drew)); exact HO287.out) hb); have n2_ := am_ (blk_below (g := gb275) (o := .cells #[.string a0_0, .int .u16 a0_1, .int .u16 a0_2] 32 (0, 0)) (by (with_reducible repeat (first | refine blk_drewN ?_ _ | refine blk_drew ?_ | refine blk_alloc ?_ _)); exact BK275.out) hb); have n3_ := am_ (blk_below (g := gb283) (o := .cells #[.string t279, .int .u16 t280, .int .u16 t281] 32 (0, 0)) (by (with_reducible repeat (first | refine blk_drewN ?_ _ | refine blk_drew ?_ | refine blk_alloc ?_ _)); exact BK283.out) hb); have n4_ := am_ (below_step (by repeat (first | (with_reducible first | exact HB.out | apply below_alloc | apply pw_below_drewN | apply below_drew1 | refine below_set ?_ GE275.out | refine below_set ?_ GE283.out) | exact HB.out)) hb); clear HO278; clear HO287; clear BK275; clear BK283; clear HB; have HO278 := n0_; have HO287 := n1_; have BK275 := n2_; have BK283 := n3_; have HB := n4_; clear n0_ n1_ n2_ n3_ n4_; (try clear hb); (try clear hb2); (try clear hk); (try clear hi)) | ((with_reducible refine gate_dst (N := 12) rfl ?_); (try (refine gate_guard (by rfl) ?_; dsimp only)); refine box_event ?hg (N := 12) ?hd (cs := #[.string (⟨#[]⟩ : ByteArray), .int .u16 0, .int .u16 0]) (t := 32) ?hr ?_; (case hd => rfl); (case hg => rfl); (case hr => first | (go_simp; done) | (go_simp; rfl)); intro gb292 hg w119 hbox hb; have n0_ := am_ (Kd.R_below (by (with_reducible repeat (first | apply Kd.R_alloc | apply Kd.R_drewN | apply Kd.R_drew)); exact HO278.out) hb); have n1_ := am_ (Kd.R_below (by (with_reducible repeat (first | apply Kd.R_alloc | apply Kd.R_drewN | apply Kd.R_drew)); exact HO287.out) hb); have n2_ := am_ (blk_below (g := gb275) (o := .cells #[.string a0_0, .int .u16 a0_1, .int .u16 a0_2] 32 (0, 0)) (by (with_reducible repeat (first | refine blk_drewN ?_ _ | refine blk_drew ?_ | refine blk_alloc ?_ _)); exact BK275.out) hb); have n3_ := am_ (blk_below (g := gb283) (o := .cells #[.string t279, .int .u16 t280, .int .u16 t281] 32 (0, 0)) (by (with_reducible repeat (first | refine blk_drewN ?_ _ | refine blk_drew ?_ | refine blk_alloc ?_ _)); exact BK283.out) hb); have n4_ := am_ (below_step (by repeat (first | (with_reducible first | exact HB.out | apply below_alloc | apply pw_below_drewN | apply below_drew1 | refine below_set ?_ GE275.out | refine below_set ?_ GE283.out) | exact HB.out)) hb); have n5_ := am_ (hbox); have n6_ := am_ ((by rw [hg]; exact (below_size (by repeat (first | (with_reducible first | exact HB.out | apply below_alloc | apply pw_below_drewN | apply below_drew1 | refine below_set ?_ GE275.out | refine below_set ?_ GE283.out) | exact HB.out))) : w.heap.size ≤ gb292)); have n7_ := am_ ((by rw [hg]; exact (below_size (by repeat (first | (with_reducible first | exact HB.out | apply below_alloc | apply pw_below_drewN | apply below_drew1 | refine below_set ?_ GE275.out | refine below_set ?_ GE283.out) | exact HB.out))) : w.heap.size ≤ gb292)); have n8_ := am_ ((by rw [hg]; exact Nat.ne_of_lt (blk_lt (g := gb275) (o := .cells #[.string a0_0, .int .u16 a0_1, .int .u16 a0_2] 32 (0, 0)) (by (with_reducible repeat (first | refine blk_drewN ?_ _ | refine blk_drew ?_ | refine blk_alloc ?_ _)); exact BK275.out)) : gb275 ≠ gb292)); have n9_ := am_ ((by rw [hg]; exact Nat.ne_of_gt (blk_lt (g := gb275) (o := .cells #[.string a0_0, .int .u16 a0_1, .int .u16 a0_2] 32 (0, 0)) (by (with_reducible repeat (first | refine blk_drewN ?_ _ | refine blk_drew ?_ | refine blk_alloc ?_ _)); exact BK275.out)) : gb292 ≠ gb275)); have n10_ := am_ ((by rw [hg]; exact Nat.ne_of_lt (blk_lt (g := gb283) (o := .cells #[.string t279, .int .u16 t280, .int .u16 t281] 32 (0, 0)) (by (with_reducible repeat (first | refine blk_drewN ?_ _ | refine blk_drew ?_ | refine blk_alloc ?_ _)); exact BK283.out)) : gb283 ≠ gb292)); have n11_ := am_ ((by rw [hg]; exact Nat.ne_of_gt (blk_lt (g := gb283) (o := .cells #[.string t279, .int .u16 t280, .int .u16 t281] 32 (0, 0)) (by (with_reducible repeat (first | refine blk_drewN ?_ _ | refine blk_drew ?_ | refine blk_alloc ?_ _)); exact BK283.out)) : gb292 ≠ gb283)); clear HO278; clear HO287; clear BK275; clear BK283; clear HB; have HO278 := n0_; have HO287 := n1_; have BK275 := n2_; have BK283 := n3_; have HB := n4_; have BK292 := n5_; have GW292 := n6_; have GE292 := n7_; have NB275_292 := n8_; have NB292_275 := n9_; have NB283_292 := n10_; have NB292_283 := n11_; clear n0_ n1_ n2_ n3_ n4_ n5_ n6_ n7_ n8_ n9_ n10_ n11_; clear hb hbox hg; have hnb120 := NB292_275.out; have hnc120 := NB275_292.out; have hnb121 := NB292_283.out; have hnc121 := NB283_292.out; have hcz122_0 : w119.cell? ⟨gb292, 0, none⟩ = some (.string (⟨#[]⟩ : ByteArray)) := (blk_cell BK292.out 0).trans rfl; have hcz122_1 : w119.cell? ⟨gb292, 1, none⟩ = some (.int .u16 0) := (blk_cell BK292.out 1).trans rfl; have hcz122_2 : w119.cell? ⟨gb292, 2, none⟩ = some (.int .u16 0) := (blk_cell BK292.out 2).trans rfl; have hfz122_0 := blk_frozen BK292.out 0; have hfz122_1 := blk_frozen BK292.out 1; have hfz122_2 := blk_frozen BK292.out 2))
 have n0_ : Aside0 (Kd.R k38 38 (((w119.setCell ⟨gb292, 0, none⟩ (.string t288)).setCell ⟨gb292, 1, none⟩ (.int .u16 t289)).setCell ⟨gb292, 2, none⟩ (.int .u16 t290)) w.heap.size (fun k_ => some k_ ≠ (.slice Ao117 y285.length co117 : Value).ownBlock) (.slice Ao109 y276.length co109) y276) := ⟨by (with_reducible repeat (first | apply Kd.R_alloc | apply Kd.R_drewN | apply Kd.R_drew)); exact Kd.R_mono (Kd.R_far (p := ⟨gb292, 2, none⟩) (Kd.R_far (p := ⟨gb292, 1, none⟩) (Kd.R_far (p := ⟨gb292, 0, none⟩) (Kd.R_types HO278.out BK292.out (by decide)) (fun _ hk => hk.2) (.string t288)) (fun _ hk => hk.2) (.int .u16 t289)) (fun _ hk => hk.2) (.int .u16 t290)) (fun _ hk => hk.1.2)⟩
 have n1_ : Aside0 (Kd.R k38 38 (((w119.setCell ⟨gb292, 0, none⟩ (.string t288)).setCell ⟨gb292, 1, none⟩ (.int .u16 t289)).setCell ⟨gb292, 2, none⟩ (.int .u16 t290)) w.heap.size (fun k_ => some k_ ≠ (.slice Ao109 y276.length co109 : Value).ownBlock) (.slice Ao117 y285.length co117) y285) := ⟨by (with_reducible repeat (first | apply Kd.R_alloc | apply Kd.R_drewN | apply Kd.R_drew)); exact Kd.R_mono (Kd.R_far (p := ⟨gb292, 2, none⟩) (Kd.R_far (p := ⟨gb292, 1, none⟩) (Kd.R_far (p := ⟨gb292, 0, none⟩) (Kd.R_types HO287.out BK292.out (by decide)) (fun _ hk => hk.2) (.string t288)) (fun _ hk => hk.2) (.int .u16 t289)) (fun _ hk => hk.2) (.int .u16 t290)) (fun _ hk => hk.1.2)⟩
 have n2_ : Aside0 ((((w119.setCell ⟨gb292, 0, none⟩ (.string t288)).setCell ⟨gb292, 1, none⟩ (.int .u16 t289)).setCell ⟨gb292, 2, none⟩ (.int .u16 t290)).heap[gb275]? = some (.cells #[.string a0_0, .int .u16 a0_1, .int .u16 a0_2] 32 (0, 0))) := ⟨by (with_reducible repeat (first | refine blk_drewN ?_ _ | refine blk_drew ?_ | refine blk_alloc ?_ _)); refine blk_far ?_ NB275_292.out _; (with_reducible repeat (first | refine blk_drewN ?_ _ | refine blk_drew ?_ | refine blk_alloc ?_ _)); refine blk_far ?_ NB275_292.out _; (with_reducible repeat (first | refine blk_drewN ?_ _ | refine blk_drew ?_ | refine blk_alloc ?_ _)); refine blk_far ?_ NB275_292.out _; (with_reducible repeat (first | refine blk_drewN ?_ _ | refine blk_drew ?_ | refine blk_alloc ?_ _)); exact BK275.out⟩
 have n3_ : Aside0 ((((w119.setCell ⟨gb292, 0, none⟩ (.string t288)).setCell ⟨gb292, 1, none⟩ (.int .u16 t289)).setCell ⟨gb292, 2, none⟩ (.int .u16 t290)).heap[gb283]? = some (.cells #[.string t279, .int .u16 t280, .int .u16 t281] 32 (0, 0))) := ⟨by (with_reducible repeat (first | refine blk_drewN ?_ _ | refine blk_drew ?_ | refine blk_alloc ?_ _)); refine blk_far ?_ NB283_292.out _; (with_reducible repeat (first | refine blk_drewN ?_ _ | refine blk_drew ?_ | refine blk_alloc ?_ _)); refine blk_far ?_ NB283_292.out _; (with_reducible repeat (first | refine blk_drewN ?_ _ | refine blk_drew ?_ | refine blk_alloc ?_ _)); refine blk_far ?_ NB283_292.out _; (with_reducible repeat (first | refine blk_drewN ?_ _ | refine blk_drew ?_ | refine blk_alloc ?_ _)); exact BK283.out⟩
 have n4_ : Aside0 ((((w119.setCell ⟨gb292, 0, none⟩ (.string t288)).setCell ⟨gb292, 1, none⟩ (.int .u16 t289)).setCell ⟨gb292, 2, none⟩ (.int .u16 t290)).heap[gb292]? = some (.cells #[.string t288, .int .u16 t289, .int .u16 t290] 32 (0, 0))) := ⟨by (with_reducible repeat (first | refine blk_drewN ?_ _ | refine blk_drew ?_ | refine blk_alloc ?_ _)); refine blk_put (cs := #[.string t288, .int .u16 t289, .int .u16 0]) ?_ 2 _ rfl; (with_reducible repeat (first | refine blk_drewN ?_ _ | refine blk_drew ?_ | refine blk_alloc ?_ _)); refine blk_put (cs := #[.string t288, .int .u16 0, .int .u16 0]) ?_ 1 _ rfl; (with_reducible repeat (first | refine blk_drewN ?_ _ | refine blk_drew ?_ | refine blk_alloc ?_ _)); refine blk_put (cs := #[.string (⟨#[]⟩ : ByteArray), .int .u16 0, .int .u16 0]) ?_ 0 _ rfl; (with_reducible repeat (first | refine blk_drewN ?_ _ | refine blk_drew ?_ | refine blk_alloc ?_ _)); exact BK292.out⟩
 have n5_ : Aside0 (Below w.heap.size w (((w119.setCell ⟨gb292, 0, none⟩ (.string t288)).setCell ⟨gb292, 1, none⟩ (.int .u16 t289)).setCell ⟨gb292, 2, none⟩ (.int .u16 t290))) := ⟨by repeat (first | (with_reducible first | exact HB.out | apply below_alloc | apply pw_below_drewN | apply below_drew1 | refine below_set ?_ GE275.out | refine below_set ?_ GE283.out | refine below_set ?_ GE292.out) | exact HB.out)⟩
 (try clear HO278)
 (try clear HO287)
 (try clear BK275)
 (try clear BK283)
 (try clear BK292)
 (try clear HB)
 generalize (((w119.setCell ⟨gb292, 0, none⟩ (.string t288)).setCell ⟨gb292, 1, none⟩ (.int .u16 t289)).setCell ⟨gb292, 2, none⟩ (.int .u16 t290)) = w123 at n0_ n1_ n2_ n3_ n4_ n5_ ⊢
 have HO278 := n0_
 have HO287 := n1_
 have BK275 := n2_
 have BK283 := n3_
 have BK292 := n4_
 have HB := n5_
 clear n0_ n1_ n2_ n3_ n4_ n5_
 have n0_ := am_ (Kd.R_drew HO278.out)
 have n1_ := am_ (Kd.R_drew HO287.out)
 have n2_ := am_ (blk_drew BK275.out)
 have n3_ := am_ (blk_drew BK283.out)
 have n4_ := am_ (blk_drew BK292.out)
 have n5_ := am_ (below_drew1 HB.out)
 clear HO278
 clear HO287
 clear BK275
 clear BK283
 clear BK292
 clear HB
 have HO278 := n0_
 have HO287 := n1_
 have BK275 := n2_
 have BK283 := n3_
 have BK292 := n4_
 have HB := n5_
 clear n0_ n1_ n2_ n3_ n4_ n5_
 refine start_ (n := 45) (S := fun w' => w'.cell? ⟨gb292, 0, none⟩ = some (.string t288) ∧ w'.cell? ⟨gb292, 1, none⟩ = some (.int .u16 t289) ∧ w'.cell? ⟨gb292, 2, none⟩ = some (.int .u16 t290) ∧ w'.cell? ⟨gb275, 0, none⟩ = some (.string a0_0) ∧ w'.cell? ⟨gb275, 1, none⟩ = some (.int .u16 a0_1) ∧ w'.cell? ⟨gb275, 2, none⟩ = some (.int .u16 a0_2)) (ds := []) (bm_ 45 0) (by kernel_rfl) rfl rfl ⟨(blk_cell BK292.out 0).trans rfl, (blk_cell BK292.out 1).trans rfl, (blk_cell BK292.out 2).trans rfl, (blk_cell BK275.out 0).trans rfl, (blk_cell BK275.out 1).trans rfl, (blk_cell BK275.out 2).trans rfl⟩ (fun hHeld => ?_); refine with_tabW hearsaylaw25_RewriteThere.tab10 hearsaylaw25_RewriteThere.bits10 (fun HT_ HW_ => ?_)
 generalize w123.drew = w124 at HO278 HO287 BK275 BK283 BK292 HB hHeld ⊢
 refine pure_ (i := 0) (N := some 57) (v := ?_) (a' := ?_) (bm_ 45 1) rfl rfl (any_of HT_.out (by kernel_rfl)) (fun _ _ _ h => h) (Or.inl ⟨by rfl, ?_⟩) ?_ ?_
 rotate_left
 {
 intro w'
 go_simp
 with_reducible rfl }
 rotate_left
 {
 simp only [Act.put, sA_, s0_, sS_, i64_w, i32_w]
 rfl }
 refine pure_ (i := 1) (N := some 58) (v := ?_) (a' := ?_) (bm_ 45 3) rfl rfl (any_of HT_.out (by kernel_rfl)) (fun _ _ _ h => h) (Or.inl ⟨by rfl, ?_⟩) ?_ ?_
 rotate_left
 {
 intro w'
 go_simp
 with_reducible rfl }
 rotate_left
 {
 simp only [Act.put, sA_, s0_, sS_, i64_w, i32_w]
 rfl }
 refine pure_ (i := 2) (N := some 59) (v := ?_) (a' := ?_) (bm_ 45 7) rfl rfl (any_of HT_.out (by kernel_rfl)) (fun _ _ _ h => h) (Or.inl ⟨by rfl, ?_⟩) ?_ ?_
 rotate_left
 {
 intro w'
 go_simp
 with_reducible rfl }
 rotate_left
 {
 simp only [Act.put, sA_, s0_, sS_, i64_w, i32_w]
 rfl }
 refine pure_ (i := 4) (N := some 61) (v := ?_) (a' := ?_) (bm_ 45 23) rfl rfl (any_of HT_.out (by kernel_rfl)) (fun _ _ _ h => h) (Or.inl ⟨by rfl, ?_⟩) ?_ ?_
 rotate_left
 {
 intro w'
 go_simp
 with_reducible rfl }
 rotate_left
 {
 simp only [Act.put, sA_, s0_, sS_, i64_w, i32_w]
 rfl }
 refine take_ (i := 3) (N := some 60) (v := ?_) (a' := ?_) (bm_ 45 31) rfl rfl (take_ofW HT_.out HW_.out (by kernel_rfl)) (fun _ _ _ h => h) (Or.inl ⟨by rfl, ?_⟩) hHeld ?_ ?_
 rotate_left
 {
 rintro w' ⟨s0, s1, s2, s3, s4, s5⟩
 go_simp
 with_reducible rfl }
 rotate_left
 {
 simp only [Act.put, sA_, s0_, sS_, i64_w, i32_w]
 rfl }
 refine take_ (i := 5) (N := some 62) (v := ?_) (a' := ?_) (bm_ 45 63) rfl rfl (take_ofW HT_.out HW_.out (by kernel_rfl)) (fun _ _ _ h => h) (Or.inl ⟨by rfl, ?_⟩) hHeld ?_ ?_
 rotate_left
 {
 rintro w' ⟨s0, s1, s2, s3, s4, s5⟩
 go_simp
 with_reducible rfl }
 rotate_left
 {
 simp only [Act.put, sA_, s0_, sS_, i64_w, i32_w]
 rfl }
 refine one_ (i := 6) (N := some 63) (bm_ 45 127) rfl rfl (one_of HT_.out (by kernel_rfl)) (by decide) (fun K hK => ?_)
 refine goes_ Try.func18 (by kernel_rfl) rfl #[.string t288, .string a0_0] (by rfl) rfl rfl (by (try simp only [List.map_toArray, List.map_cons, List.map_nil]); first | done | rfl | (simp only [List.length_drop, List.length_take]; rfl)) ?_
 with_reducible refine (hearsayref01_Alike.calls t288 a0_0 true _ A19.out).mono ?_
 rintro e w125 ⟨rfl, hb⟩
 refine ⟨_, rfl, ?_⟩
 have n0_ := am_ (Kd.R_below (by (with_reducible repeat (first | apply Kd.R_alloc | apply Kd.R_drewN | apply Kd.R_drew)); exact HO278.out) hb)
 have n1_ := am_ (Kd.R_below (by (with_reducible repeat (first | apply Kd.R_alloc | apply Kd.R_drewN | apply Kd.R_drew)); exact HO287.out) hb)
 have n2_ := am_ (blk_below (g := gb275) (o := .cells #[.string a0_0, .int .u16 a0_1, .int .u16 a0_2] 32 (0, 0)) (by (with_reducible repeat (first | refine blk_drewN ?_ _ | refine blk_drew ?_ | refine blk_alloc ?_ _)); exact BK275.out) hb)
 have n3_ := am_ (blk_below (g := gb283) (o := .cells #[.string t279, .int .u16 t280, .int .u16 t281] 32 (0, 0)) (by (with_reducible repeat (first | refine blk_drewN ?_ _ | refine blk_drew ?_ | refine blk_alloc ?_ _)); exact BK283.out) hb)
 have n4_ := am_ (blk_below (g := gb292) (o := .cells #[.string t288, .int .u16 t289, .int .u16 t290] 32 (0, 0)) (by (with_reducible repeat (first | refine blk_drewN ?_ _ | refine blk_drew ?_ | refine blk_alloc ?_ _)); exact BK292.out) hb)
 have n5_ := am_ (below_step (by repeat (first | (with_reducible first | exact HB.out | apply below_alloc | apply pw_below_drewN | apply below_drew1 | refine below_set ?_ GE275.out | refine below_set ?_ GE283.out | refine below_set ?_ GE292.out) | exact HB.out)) hb)
 clear HO278
 clear HO287
 clear BK275
 clear BK283
 clear BK292
 clear HB
 have HO278 := n0_
 have HO287 := n1_
 have BK275 := n2_
 have BK283 := n3_
 have BK292 := n4_
 have HB := n5_
 clear n0_ n1_ n2_ n3_ n4_ n5_
 (try clear hb)
 (try clear hb2)
 (try clear hk)
 (try clear hi)
 refine hK.out _ _ ⟨(blk_cell BK292.out 0).trans rfl, (blk_cell BK292.out 1).trans rfl, (blk_cell BK292.out 2).trans rfl, (blk_cell BK275.out 0).trans rfl, (blk_cell BK275.out 1).trans rfl, (blk_cell BK275.out 2).trans rfl⟩ (fun hHeld => ?_)
 clear hK K
 refine norm_ (a' := ?_) ?_ ?_
 rotate_left
 {
 show Act.put _ (some 63) _ = _
 simp only [Act.put, sA_, s0_, sS_, i64_w, i32_w]
 rfl }
 refine pure_ (i := 7) (N := some 64) (v := ?_) (a' := ?_) (bm_ 45 255) rfl rfl (any_of HT_.out (by kernel_rfl)) (fun _ _ _ h => h) (Or.inl ⟨by rfl, ?_⟩) ?_ ?_
 rotate_left
 {
 intro w'
 go_simp
 with_reducible rfl }
 rotate_left
 {
 simp only [Act.put, sA_, s0_, sS_, i64_w, i32_w]
 rfl }
 refine pure_ (i := 8) (N := some 65) (v := ?_) (a' := ?_) (bm_ 45 511) rfl rfl (any_of HT_.out (by kernel_rfl)) (fun _ _ _ h => h) (Or.inl ⟨by rfl, ?_⟩) ?_ ?_
 rotate_left
 {
 intro w'
 go_simp
 with_reducible rfl }
 rotate_left
 {
 simp only [Act.put, sA_, s0_, sS_, i64_w, i32_w]
 rfl }
 refine pure_ (i := 9) (N := some 66) (v := ?_) (a' := ?_) (bm_ 45 1023) rfl rfl (any_of HT_.out (by kernel_rfl)) (fun _ _ _ h => h) (Or.inl ⟨by rfl, ?_⟩) ?_ ?_
 rotate_left
 {
 intro w'
 go_simp
 with_reducible rfl }
 rotate_left
 {
 simp only [Act.put, sA_, s0_, sS_, i64_w, i32_w]
 rfl }
 refine pure_ (i := 11) (N := some 68) (v := ?_) (a' := ?_) (bm_ 45 3071) rfl rfl (any_of HT_.out (by kernel_rfl)) (fun _ _ _ h => h) (Or.inl ⟨by rfl, ?_⟩) ?_ ?_
 rotate_left
 {
 intro w'
 go_simp
 with_reducible rfl }
 rotate_left
 {
 simp only [Act.put, sA_, s0_, sS_, i64_w, i32_w]
 rfl }
 refine take_ (i := 10) (N := some 67) (v := ?_) (a' := ?_) (bm_ 45 4095) rfl rfl (take_ofW HT_.out HW_.out (by kernel_rfl)) (fun _ _ _ h => h) (Or.inl ⟨by rfl, ?_⟩) hHeld ?_ ?_
 rotate_left
 {
 rintro w' ⟨s0, s1, s2, s3, s4, s5⟩
 go_simp
 with_reducible rfl }
 rotate_left
 {
 simp only [Act.put, sA_, s0_, sS_, i64_w, i32_w]
 rfl }
 refine take_ (i := 12) (N := some 69) (v := ?_) (a' := ?_) (bm_ 45 8191) rfl rfl (take_ofW HT_.out HW_.out (by kernel_rfl)) (fun _ _ _ h => h) (Or.inl ⟨by rfl, ?_⟩) hHeld ?_ ?_
 rotate_left
 {
 rintro w' ⟨s0, s1, s2, s3, s4, s5⟩
 go_simp
 with_reducible rfl }
 rotate_left
 {
 simp only [Act.put, sA_, s0_, sS_, i64_w, i32_w]
 rfl }
 refine pure_ (i := 13) (N := some 70) (v := ?_) (a' := ?_) (bm_ 45 16383) rfl rfl (any_of HT_.out (by kernel_rfl)) (fun _ _ _ h => h) (Or.inl ⟨by rfl, ?_⟩) ?_ ?_
 rotate_left
 {
 intro w'
 go_simp
 with_reducible rfl }
 rotate_left
 {
 simp only [Act.put, sA_, s0_, sS_, i64_w, i32_w]
 rfl }
 refine pure_ (i := 14) (N := some 71) (v := ?_) (a' := ?_) (bm_ 45 32767) rfl rfl (any_of HT_.out (by kernel_rfl)) (fun _ _ _ h => h) (Or.inl ⟨by rfl, ?_⟩) ?_ ?_
 rotate_left
 {
 intro w'
 go_simp
 with_reducible rfl }
 rotate_left
 {
 simp only [Act.put, sA_, s0_, sS_, i64_w, i32_w]
 rfl }
 refine pure_ (i := 15) (N := some 72) (v := ?_) (a' := ?_) (bm_ 45 65535) rfl rfl (any_of HT_.out (by kernel_rfl)) (fun _ _ _ h => h) (Or.inl ⟨by rfl, ?_⟩) ?_ ?_
 rotate_left
 {
 intro w'
 go_simp
 with_reducible rfl }
 rotate_left
 {
 simp only [Act.put, sA_, s0_, sS_, i64_w, i32_w]
 rfl }
 refine pure_ (i := 16) (N := some 73) (v := undef) (a' := ?_) (bm_ 45 131071) rfl rfl (any_of HT_.out (by kernel_rfl)) (fun _ _ _ h => h) (Or.inr ⟨by rfl, rfl⟩) ?_ ?_
 rotate_left
 {
 simp only [Act.put, sA_, s0_, sS_, i64_w, i32_w]
 rfl }
 refine pure_ (i := 17) (N := some 74) (v := undef) (a' := ?_) (bm_ 45 262143) rfl rfl (any_of HT_.out (by kernel_rfl)) (fun _ _ _ h => h) (Or.inr ⟨by rfl, rfl⟩) ?_ ?_
 rotate_left
 {
 simp only [Act.put, sA_, s0_, sS_, i64_w, i32_w]
 rfl }
 refine pure_ (i := 18) (N := some 75) (v := undef) (a' := ?_) (bm_ 45 524287) rfl rfl (any_of HT_.out (by kernel_rfl)) (fun _ _ _ h => h) (Or.inr ⟨by rfl, rfl⟩) ?_ ?_
 rotate_left
 {
 simp only [Act.put, sA_, s0_, sS_, i64_w, i32_w]
 rfl }
 refine pure_ (i := 19) (N := some 76) (v := undef) (a' := ?_) (bm_ 45 1048575) rfl rfl (any_of HT_.out (by kernel_rfl)) (fun _ _ _ h => h) (Or.inr ⟨by rfl, rfl⟩) ?_ ?_
 rotate_left
 {
 simp only [Act.put, sA_, s0_, sS_, i64_w, i32_w]
 rfl }
 refine pure_ (i := 20) (N := some 77) (v := undef) (a' := ?_) (bm_ 45 2097151) rfl rfl (any_of HT_.out (by kernel_rfl)) (fun _ _ _ h => h) (Or.inr ⟨by rfl, rfl⟩) ?_ ?_
 rotate_left
 {
 simp only [Act.put, sA_, s0_, sS_, i64_w, i32_w]
 rfl }
 refine pure_ (i := 21) (N := some 78) (v := ?_) (a' := ?_) (bm_ 45 4194303) rfl rfl (any_of HT_.out (by kernel_rfl)) (fun _ _ _ h => h) (Or.inl ⟨by rfl, ?_⟩) ?_ ?_
 rotate_left
 {
 intro w'
 go_simp
 with_reducible rfl }
 rotate_left
 {
 simp only [Act.put, sA_, s0_, sS_, i64_w, i32_w]
 rfl }
 refine pure_ (i := 22) (N := some 79) (v := ?_) (a' := ?_) (bm_ 45 8388607) rfl rfl (any_of HT_.out (by kernel_rfl)) (fun _ _ _ h => h) (Or.inl ⟨by rfl, ?_⟩) ?_ ?_
 rotate_left
 {
 intro w'
 go_simp
 with_reducible rfl }
 rotate_left
 {
 simp only [Act.put, sA_, s0_, sS_, i64_w, i32_w]
 rfl }
 refine pure_ (i := 23) (N := some 80) (v := undef) (a' := ?_) (bm_ 45 16777215) rfl rfl (any_of HT_.out (by kernel_rfl)) (fun _ _ _ h => h) (Or.inr ⟨by rfl, rfl⟩) ?_ ?_
 rotate_left
 {
 simp only [Act.put, sA_, s0_, sS_, i64_w, i32_w]
 rfl }
 refine pure_ (i := 24) (N := some 81) (v := undef) (a' := ?_) (bm_ 45 33554431) rfl rfl (any_of HT_.out (by kernel_rfl)) (fun _ _ _ h => h) (Or.inr ⟨by rfl, rfl⟩) ?_ ?_
 rotate_left
 {
 simp only [Act.put, sA_, s0_, sS_, i64_w, i32_w]
 rfl }
 refine pure_ (i := 25) (N := some 82) (v := undef) (a' := ?_) (bm_ 45 67108863) rfl rfl (any_of HT_.out (by kernel_rfl)) (fun _ _ _ h => h) (Or.inr ⟨by rfl, rfl⟩) ?_ ?_
 rotate_left
 {
 simp only [Act.put, sA_, s0_, sS_, i64_w, i32_w]
 rfl }
 refine pure_ (i := 26) (N := some 83) (v := undef) (a' := ?_) (bm_ 45 134217727) rfl rfl (any_of HT_.out (by kernel_rfl)) (fun _ _ _ h => h) (Or.inr ⟨by rfl, rfl⟩) ?_ ?_
 rotate_left
 {
 simp only [Act.put, sA_, s0_, sS_, i64_w, i32_w]
 rfl }
 refine pure_ (i := 27) (N := some 84) (v := undef) (a' := ?_) (bm_ 45 268435455) rfl rfl (any_of HT_.out (by kernel_rfl)) (fun _ _ _ h => h) (Or.inr ⟨by rfl, rfl⟩) ?_ ?_
 rotate_left
 {
 simp only [Act.put, sA_, s0_, sS_, i64_w, i32_w]
 rfl }
 refine pure_ (i := 28) (N := some 85) (v := undef) (a' := ?_) (bm_ 45 536870911) rfl rfl (any_of HT_.out (by kernel_rfl)) (fun _ _ _ h => h) (Or.inr ⟨by rfl, rfl⟩) ?_ ?_
 rotate_left
 {
 simp only [Act.put, sA_, s0_, sS_, i64_w, i32_w]
 rfl }
 refine pure_ (i := 29) (N := some 86) (v := undef) (a' := ?_) (bm_ 45 1073741823) rfl rfl (any_of HT_.out (by kernel_rfl)) (fun _ _ _ h => h) (Or.inr ⟨by rfl, rfl⟩) ?_ ?_
 rotate_left
 {
 simp only [Act.put, sA_, s0_, sS_, i64_w, i32_w]
 rfl }
 refine pure_ (i := 30) (N := some 87) (v := undef) (a' := ?_) (bm_ 45 2147483647) rfl rfl (any_of HT_.out (by kernel_rfl)) (fun _ _ _ h => h) (Or.inr ⟨by rfl, rfl⟩) ?_ ?_
 rotate_left
 {
 simp only [Act.put, sA_, s0_, sS_, i64_w, i32_w]
 rfl }
 refine pure_ (i := 31) (N := some 88) (v := undef) (a' := ?_) (bm_ 45 4294967295) rfl rfl (any_of HT_.out (by kernel_rfl)) (fun _ _ _ h => h) (Or.inr ⟨by rfl, rfl⟩) ?_ ?_
 rotate_left
 {
 simp only [Act.put, sA_, s0_, sS_, i64_w, i32_w]
 rfl }
 refine pure_ (i := 32) (N := some 89) (v := undef) (a' := ?_) (bm_ 45 8589934591) rfl rfl (any_of HT_.out (by kernel_rfl)) (fun _ _ _ h => h) (Or.inr ⟨by rfl, rfl⟩) ?_ ?_
 rotate_left
 {
 simp only [Act.put, sA_, s0_, sS_, i64_w, i32_w]
 rfl }
 refine pure_ (i := 33) (N := some 90) (v := undef) (a' := ?_) (bm_ 45 17179869183) rfl rfl (any_of HT_.out (by kernel_rfl)) (fun _ _ _ h => h) (Or.inr ⟨by rfl, rfl⟩) ?_ ?_
 rotate_left
 {
 simp only [Act.put, sA_, s0_, sS_, i64_w, i32_w]
 rfl }
 refine pure_ (i := 34) (N := some 91) (v := undef) (a' := ?_) (bm_ 45 34359738367) rfl rfl (any_of HT_.out (by kernel_rfl)) (fun _ _ _ h => h) (Or.inr ⟨by rfl, rfl⟩) ?_ ?_
 rotate_left
 {
 simp only [Act.put, sA_, s0_, sS_, i64_w, i32_w]
 rfl }
 refine pure_ (i := 35) (N := some 92) (v := undef) (a' := ?_) (bm_ 45 68719476735) rfl rfl (any_of HT_.out (by kernel_rfl)) (fun _ _ _ h => h) (Or.inr ⟨by rfl, rfl⟩) ?_ ?_
 rotate_left
 {
 simp only [Act.put, sA_, s0_, sS_, i64_w, i32_w]
 rfl }
 refine pure_ (i := 36) (N := some 93) (v := undef) (a' := ?_) (bm_ 45 137438953471) rfl rfl (any_of HT_.out (by kernel_rfl)) (fun _ _ _ h => h) (Or.inr ⟨by rfl, rfl⟩) ?_ ?_
 rotate_left
 {
 simp only [Act.put, sA_, s0_, sS_, i64_w, i32_w]
 rfl }
 refine pure_ (i := 37) (N := some 94) (v := undef) (a' := ?_) (bm_ 45 274877906943) rfl rfl (any_of HT_.out (by kernel_rfl)) (fun _ _ _ h => h) (Or.inr ⟨by rfl, rfl⟩) ?_ ?_
 rotate_left
 {
 simp only [Act.put, sA_, s0_, sS_, i64_w, i32_w]
 rfl }
 refine pure_ (i := 38) (N := some 95) (v := undef) (a' := ?_) (bm_ 45 549755813887) rfl rfl (any_of HT_.out (by kernel_rfl)) (fun _ _ _ h => h) (Or.inr ⟨by rfl, rfl⟩) ?_ ?_
 rotate_left
 {
 simp only [Act.put, sA_, s0_, sS_, i64_w, i32_w]
 rfl }
 refine pure_ (i := 39) (N := some 96) (v := undef) (a' := ?_) (bm_ 45 1099511627775) rfl rfl (any_of HT_.out (by kernel_rfl)) (fun _ _ _ h => h) (Or.inr ⟨by rfl, rfl⟩) ?_ ?_
 rotate_left
 {
 simp only [Act.put, sA_, s0_, sS_, i64_w, i32_w]
 rfl }
 refine pure_ (i := 40) (N := some 97) (v := ?_) (a' := ?_) (bm_ 45 2199023255551) rfl rfl (any_of HT_.out (by kernel_rfl)) (fun _ _ _ h => h) (Or.inl ⟨by rfl, ?_⟩) ?_ ?_
 rotate_left
 {
 intro w'
 go_simp
 with_reducible rfl }
 rotate_left
 {
 simp only [Act.put, sA_, s0_, sS_, i64_w, i32_w]
 rfl }
 refine pure_ (i := 41) (N := some 98) (v := ?_) (a' := ?_) (bm_ 45 4398046511103) rfl rfl (any_of HT_.out (by kernel_rfl)) (fun _ _ _ h => h) (Or.inl ⟨by rfl, ?_⟩) ?_ ?_
 rotate_left
 {
 intro w'
 go_simp
 with_reducible rfl }
 rotate_left
 {
 simp only [Act.put, sA_, s0_, sS_, i64_w, i32_w]
 rfl }
 refine pure_ (i := 42) (N := some 99) (v := undef) (a' := ?_) (bm_ 45 8796093022207) rfl rfl (any_of HT_.out (by kernel_rfl)) (fun _ _ _ h => h) (Or.inr ⟨by rfl, rfl⟩) ?_ ?_
 rotate_left
 {
 simp only [Act.put, sA_, s0_, sS_, i64_w, i32_w]
 rfl }
 refine pure_ (i := 43) (N := some 100) (v := ?_) (a' := ?_) (bm_ 45 17592186044415) rfl rfl (any_of HT_.out (by kernel_rfl)) (fun _ _ _ h => h) (Or.inl ⟨by rfl, ?_⟩) ?_ ?_
 rotate_left
 {
 intro w'
 go_simp
 with_reducible rfl }
 rotate_left
 {
 simp only [Act.put, sA_, s0_, sS_, i64_w, i32_w]
 rfl }
 refine pure_ (i := 44) (N := some 8) (v := ?_) (a' := ?_) (bm_ 45 35184372088831) rfl rfl (any_of HT_.out (by kernel_rfl)) (fun _ _ _ h => h) (Or.inl ⟨by rfl, ?_⟩) ?_ ?_
 rotate_left
 {
 intro w'
 go_simp
 with_reducible rfl }
 rotate_left
 {
 simp only [Act.put, sA_, s0_, sS_, i64_w, i32_w]
 rfl }
 refine done_ (done_of HT_.out (by kernel_rfl)) ?_
 try go_wp2
 go_ret
 exact ⟨by first | rfl | (simp [errW_none, errW_some] <;> rfl) | (simp [*, errW_none, errW_some] <;> rfl), by repeat (first | (with_reducible first | exact HB.out | apply below_alloc | apply pw_below_drewN | apply below_drew1 | refine below_set ?_ GE275.out | refine below_set ?_ GE283.out | refine below_set ?_ GE292.out) | exact HB.out)⟩ }}
 {
 replace c20 := Bool.eq_false_iff.mpr c20
 subst c20
 have H1 : (some false) = some r := by rw [if_neg (show ¬ (false = true) by decide)] at H; exact H
 clear H
 have H := H1
 clear H1
 obtain rfl := Option.some.inj H
 try go_wp2_with (first | ((with_reducible refine gate_dst (N := 34) rfl ?_); (try (refine gate_guard (by rfl) ?_; dsimp only)); refine Kd.R_lit k38 _ 38 ?hg (N := 34) ?hd (xs := ([(⟨x9_12, a1, a2, 0, 0⟩ : S38)] : List (S38))) (inner := [.int .u8 x9_12, .string a1, .string a2, .int .u16 0, .int .u16 0]) (ok := fun _ => True) (okp := fun _ => True) ?hr ?hp (fun _ hk => hk) trivial (Below.refl _ _) (Nat.le_refl _) (by simp) ?_; (case hd => rfl); (case hg => rfl); (case hr => first | (go_simp; done) | (go_simp; rfl)); (case hp => exact (Reps.c5 (show Kd.M k38 _ _ _ (⟨x9_12, a1, a2, 0, 0⟩ : S38) [.int .u8 x9_12, .string a1, .string a2, .int .u16 0, .int .u16 0] from (k38_mkM _ _ _ (⟨x9_12, a1, a2, 0, 0⟩ : S38) )) (Reps.none _ _))); intro v277 w126 ho127 hb hg_ hnew_; clear hg_ hnew_; (first | rw [← Ny276.out] at ho127 | (simp only [Int.reduceToNat] at ho127; rw [← Ny276.out] at ho127)); have n0_ := am_ (Kd.R_lower ho127 (below_size (by repeat (first | (with_reducible first | exact HB.out | apply below_alloc | apply pw_below_drewN | apply below_drew1 | refine below_set ?_ GE275.out) | exact HB.out)))); have n1_ := am_ (blk_below (g := gb275) (o := .cells #[.string a0_0, .int .u16 a0_1, .int .u16 a0_2] 32 (0, 0)) (by (with_reducible repeat (first | refine blk_drewN ?_ _ | refine blk_drew ?_ | refine blk_alloc ?_ _)); exact BK275.out) hb); have n2_ := am_ (below_step (by repeat (first | (with_reducible first | exact HB.out | apply below_alloc | apply pw_below_drewN | apply below_drew1 | refine below_set ?_ GE275.out) | exact HB.out)) hb); clear BK275; clear HB; have HO278 := n0_; have BK275 := n1_; have HB := n2_; clear n0_ n1_ n2_; clear hb ho127; have hcz128_0 : w126.cell? ⟨gb275, 0, none⟩ = some (.string a0_0) := (blk_cell BK275.out 0).trans rfl; have hcz128_1 : w126.cell? ⟨gb275, 1, none⟩ = some (.int .u16 a0_1) := (blk_cell BK275.out 1).trans rfl; have hcz128_2 : w126.cell? ⟨gb275, 2, none⟩ = some (.int .u16 a0_2) := (blk_cell BK275.out 2).trans rfl; have hfz128_0 := blk_frozen BK275.out 0; have hfz128_1 := blk_frozen BK275.out 1; have hfz128_2 := blk_frozen BK275.out 2; obtain ⟨Ao129, co129, eo129⟩ := Kd.R_slice HO278.out; subst eo129) | ((with_reducible refine gate_callee (f := 16) rfl ?_); refine goesL_ (some 36) rfl rfl Try.func16 (by kernel_rfl) rfl #[.slice Ao129 y276.length co129, .agg #[.string a0_0, .int .u16 a0_1, .int .u16 a0_2]] rfl (by (try simp only [List.map_toArray, List.map_cons, List.map_nil]); first | done | rfl | (simp only [List.length_drop, List.length_take]; rfl)) ?_; (with_reducible refine (rewrite_Ask.calls _ _ y276 a0_0 a0_1 a0_2 t279 t280 t281 true _ ?side1 ?side2 A15.out).mono ?_); (case side1 => repeat (first | exact (Kd.R_reads' HO278.out).2.2 | (with_reducible refine Kd.C_alloc ?_ _) | (with_reducible refine Kd.C_drewN ?_ _) | (with_reducible refine Kd.C_drew ?_))); (case side2 => exact (Kd.R_reads' HO278.out).2.1); rintro e w130 ⟨rfl, hb⟩; refine ⟨_, rfl, ?_⟩; have n0_ := am_ (Kd.R_below (by (with_reducible repeat (first | apply Kd.R_alloc | apply Kd.R_drewN | apply Kd.R_drew)); exact HO278.out) hb); have n1_ := am_ (blk_below (g := gb275) (o := .cells #[.string a0_0, .int .u16 a0_1, .int .u16 a0_2] 32 (0, 0)) (by (with_reducible repeat (first | refine blk_drewN ?_ _ | refine blk_drew ?_ | refine blk_alloc ?_ _)); exact BK275.out) hb); have n2_ := am_ (below_step (by repeat (first | (with_reducible first | exact HB.out | apply below_alloc | apply pw_below_drewN | apply below_drew1 | refine below_set ?_ GE275.out) | exact HB.out)) hb); clear HO278; clear BK275; clear HB; have HO278 := n0_; have BK275 := n1_; have HB := n2_; clear n0_ n1_ n2_; (try clear hb); (try clear hb2); (try clear hk); (try clear hi)) | ((with_reducible refine gate_dst (N := 10) rfl ?_); (try (refine gate_guard (by rfl) ?_; dsimp only)); refine box_event ?hg (N := 10) ?hd (cs := #[.string (⟨#[]⟩ : ByteArray), .int .u16 0, .int .u16 0]) (t := 32) ?hr ?_; (case hd => rfl); (case hg => rfl); (case hr => first | (go_simp; done) | (go_simp; rfl)); intro gb283 hg w131 hbox hb; have n0_ := am_ (Kd.R_below (by (with_reducible repeat (first | apply Kd.R_alloc | apply Kd.R_drewN | apply Kd.R_drew)); exact HO278.out) hb); have n1_ := am_ (blk_below (g := gb275) (o := .cells #[.string a0_0, .int .u16 a0_1, .int .u16 a0_2] 32 (0, 0)) (by (with_reducible repeat (first | refine blk_drewN ?_ _ | refine blk_drew ?_ | refine blk_alloc ?_ _)); exact BK275.out) hb); have n2_ := am_ (below_step (by repeat (first | (with_reducible first | exact HB.out | apply below_alloc | apply pw_below_drewN | apply below_drew1 | refine below_set ?_ GE275.out) | exact HB.out)) hb); have n3_ := am_ (hbox); have n4_ := am_ ((by rw [hg]; exact (below_size (by repeat (first | (with_reducible first | exact HB.out | apply below_alloc | apply pw_below_drewN | apply below_drew1 | refine below_set ?_ GE275.out) | exact HB.out))) : w.heap.size ≤ gb283)); have n5_ := am_ ((by rw [hg]; exact (below_size (by repeat (first | (with_reducible first | exact HB.out | apply below_alloc | apply pw_below_drewN | apply below_drew1 | refine below_set ?_ GE275.out) | exact HB.out))) : w.heap.size ≤ gb283)); have n6_ := am_ ((by rw [hg]; exact Nat.ne_of_lt (blk_lt (g := gb275) (o := .cells #[.string a0_0, .int .u16 a0_1, .int .u16 a0_2] 32 (0, 0)) (by (with_reducible repeat (first | refine blk_drewN ?_ _ | refine blk_drew ?_ | refine blk_alloc ?_ _)); exact BK275.out)) : gb275 ≠ gb283)); have n7_ := am_ ((by rw [hg]; exact Nat.ne_of_gt (blk_lt (g := gb275) (o := .cells #[.string a0_0, .int .u16 a0_1, .int .u16 a0_2] 32 (0, 0)) (by (with_reducible repeat (first | refine blk_drewN ?_ _ | refine blk_drew ?_ | refine blk_alloc ?_ _)); exact BK275.out)) : gb283 ≠ gb275)); clear HO278; clear BK275; clear HB; have HO278 := n0_; have BK275 := n1_; have HB := n2_; have BK283 := n3_; have GW283 := n4_; have GE283 := n5_; have NB275_283 := n6_; have NB283_275 := n7_; clear n0_ n1_ n2_ n3_ n4_ n5_ n6_ n7_; clear hb hbox hg; have hnb132 := NB283_275.out; have hnc132 := NB275_283.out; have hcz133_0 : w131.cell? ⟨gb283, 0, none⟩ = some (.string (⟨#[]⟩ : ByteArray)) := (blk_cell BK283.out 0).trans rfl; have hcz133_1 : w131.cell? ⟨gb283, 1, none⟩ = some (.int .u16 0) := (blk_cell BK283.out 1).trans rfl; have hcz133_2 : w131.cell? ⟨gb283, 2, none⟩ = some (.int .u16 0) := (blk_cell BK283.out 2).trans rfl; have hfz133_0 := blk_frozen BK283.out 0; have hfz133_1 := blk_frozen BK283.out 1; have hfz133_2 := blk_frozen BK283.out 2) | ((with_reducible refine gate_dst (N := 52) rfl ?_); (try (refine gate_guard (by rfl) ?_; dsimp only)); refine Kd.R_lit k38 _ 38 ?hg (N := 52) ?hd (xs := ([(⟨x9_12, a2, a1, 0, 0⟩ : S38)] : List (S38))) (inner := [.int .u8 x9_12, .string a2, .string a1, .int .u16 0, .int .u16 0]) (ok := fun _ => True) (okp := fun _ => True) ?hr ?hp (fun _ hk => hk) trivial (Below.refl _ _) (Nat.le_refl _) (by simp) ?_; (case hd => rfl); (case hg => rfl); (case hr => first | (go_simp; done) | (go_simp; rfl)); (case hp => exact (Reps.c5 (show Kd.M k38 _ _ _ (⟨x9_12, a2, a1, 0, 0⟩ : S38) [.int .u8 x9_12, .string a2, .string a1, .int .u16 0, .int .u16 0] from (k38_mkM _ _ _ (⟨x9_12, a2, a1, 0, 0⟩ : S38) )) (Reps.none _ _))); intro v286 w134 ho135 hb hg_ hnew_; clear hg_ hnew_; (first | rw [← Ny285.out] at ho135 | (simp only [Int.reduceToNat] at ho135; rw [← Ny285.out] at ho135)); have n0_ := am_ (Kd.R_elder' (by (with_reducible repeat (first | apply Kd.R_alloc | apply Kd.R_drewN | apply Kd.R_drew)); exact (Kd.R_mono (Kd.R_far (p := ⟨gb283, 2, none⟩) (Kd.R_far (p := ⟨gb283, 1, none⟩) (Kd.R_far (p := ⟨gb283, 0, none⟩) (Kd.R_types HO278.out BK283.out (by decide)) (fun _ hk => hk.2) (.string t279)) (fun _ hk => hk.2) (.int .u16 t280)) (fun _ hk => hk.2) (.int .u16 t281)) (fun _ h_ => h_.1))) (Kd.R_base ho135) hb); have n1_ := am_ (Kd.R_lower (Kd.R_new' ho135 (Kd.R_lt (by (with_reducible repeat (first | apply Kd.R_alloc | apply Kd.R_drewN | apply Kd.R_drew)); exact (Kd.R_mono (Kd.R_far (p := ⟨gb283, 2, none⟩) (Kd.R_far (p := ⟨gb283, 1, none⟩) (Kd.R_far (p := ⟨gb283, 0, none⟩) (Kd.R_types HO278.out BK283.out (by decide)) (fun _ hk => hk.2) (.string t279)) (fun _ hk => hk.2) (.int .u16 t280)) (fun _ hk => hk.2) (.int .u16 t281)) (fun _ h_ => h_.1))))) (below_size (by repeat (first | (with_reducible first | exact HB.out | apply below_alloc | apply pw_below_drewN | apply below_drew1 | refine below_set ?_ GE275.out | refine below_set ?_ GE283.out) | exact HB.out)))); have n2_ := am_ (blk_below (g := gb275) (o := .cells #[.string a0_0, .int .u16 a0_1, .int .u16 a0_2] 32 (0, 0)) (by (with_reducible repeat (first | refine blk_drewN ?_ _ | refine blk_drew ?_ | refine blk_alloc ?_ _)); refine blk_far ?_ NB275_283.out _; (with_reducible repeat (first | refine blk_drewN ?_ _ | refine blk_drew ?_ | refine blk_alloc ?_ _)); refine blk_far ?_ NB275_283.out _; (with_reducible repeat (first | refine blk_drewN ?_ _ | refine blk_drew ?_ | refine blk_alloc ?_ _)); refine blk_far ?_ NB275_283.out _; (with_reducible repeat (first | refine blk_drewN ?_ _ | refine blk_drew ?_ | refine blk_alloc ?_ _)); exact BK275.out) hb); have n3_ := am_ (blk_below (g := gb283) (o := .cells #[.string t279, .int .u16 t280, .int .u16 t281] 32 (0, 0)) (by (with_reducible repeat (first | refine blk_drewN ?_ _ | refine blk_drew ?_ | refine blk_alloc ?_ _)); refine blk_put (cs := #[.string t279, .int .u16 t280, .int .u16 0]) ?_ 2 _ rfl; (with_reducible repeat (first | refine blk_drewN ?_ _ | refine blk_drew ?_ | refine blk_alloc ?_ _)); refine blk_put (cs := #[.string t279, .int .u16 0, .int .u16 0]) ?_ 1 _ rfl; (with_reducible repeat (first | refine blk_drewN ?_ _ | refine blk_drew ?_ | refine blk_alloc ?_ _)); refine blk_put (cs := #[.string (⟨#[]⟩ : ByteArray), .int .u16 0, .int .u16 0]) ?_ 0 _ rfl; (with_reducible repeat (first | refine blk_drewN ?_ _ | refine blk_drew ?_ | refine blk_alloc ?_ _)); exact BK283.out) hb); have n4_ := am_ (below_step (by repeat (first | (with_reducible first | exact HB.out | apply below_alloc | apply pw_below_drewN | apply below_drew1 | refine below_set ?_ GE275.out | refine below_set ?_ GE283.out) | exact HB.out)) hb); clear HO278; clear BK275; clear BK283; clear HB; have HO278 := n0_; have HO287 := n1_; have BK275 := n2_; have BK283 := n3_; have HB := n4_; clear n0_ n1_ n2_ n3_ n4_; clear hb ho135; have hcz136_0 : w134.cell? ⟨gb283, 0, none⟩ = some (.string t279) := (blk_cell BK283.out 0).trans rfl; have hcz136_1 : w134.cell? ⟨gb283, 1, none⟩ = some (.int .u16 t280) := (blk_cell BK283.out 1).trans rfl; have hcz136_2 : w134.cell? ⟨gb283, 2, none⟩ = some (.int .u16 t281) := (blk_cell BK283.out 2).trans rfl; have hfz136_0 := blk_frozen BK283.out 0; have hfz136_1 := blk_frozen BK283.out 1; have hfz136_2 := blk_frozen BK283.out 2; obtain ⟨Ao137, co137, eo137⟩ := Kd.R_slice HO287.out; subst eo137) | ((with_reducible refine gate_callee (f := 16) rfl ?_); refine goesL_ (some 54) rfl rfl Try.func16 (by kernel_rfl) rfl #[.slice Ao137 y285.length co137, .agg #[.string t279, .int .u16 t280, .int .u16 t281]] rfl (by (try simp only [List.map_toArray, List.map_cons, List.map_nil]); first | done | rfl | (simp only [List.length_drop, List.length_take]; rfl)) ?_; (with_reducible refine (rewrite_Ask.calls _ _ y285 t279 t280 t281 t288 t289 t290 true _ ?side1 ?side2 A17.out).mono ?_); (case side1 => repeat (first | exact (Kd.R_reads' HO287.out).2.2 | (with_reducible refine Kd.C_alloc ?_ _) | (with_reducible refine Kd.C_drewN ?_ _) | (with_reducible refine Kd.C_drew ?_))); (case side2 => exact (Kd.R_reads' HO287.out).2.1); rintro e w138 ⟨rfl, hb⟩; refine ⟨_, rfl, ?_⟩; have n0_ := am_ (Kd.R_below (by (with_reducible repeat (first | apply Kd.R_alloc | apply Kd.R_drewN | apply Kd.R_drew)); exact HO278.out) hb); have n1_ := am_ (Kd.R_below (by (with_reducible repeat (first | apply Kd.R_alloc | apply Kd.R_drewN | apply Kd.R_drew)); exact HO287.out) hb); have n2_ := am_ (blk_below (g := gb275) (o := .cells #[.string a0_0, .int .u16 a0_1, .int .u16 a0_2] 32 (0, 0)) (by (with_reducible repeat (first | refine blk_drewN ?_ _ | refine blk_drew ?_ | refine blk_alloc ?_ _)); exact BK275.out) hb); have n3_ := am_ (blk_below (g := gb283) (o := .cells #[.string t279, .int .u16 t280, .int .u16 t281] 32 (0, 0)) (by (with_reducible repeat (first | refine blk_drewN ?_ _ | refine blk_drew ?_ | refine blk_alloc ?_ _)); exact BK283.out) hb); have n4_ := am_ (below_step (by repeat (first | (with_reducible first | exact HB.out | apply below_alloc | apply pw_below_drewN | apply below_drew1 | refine below_set ?_ GE275.out | refine below_set ?_ GE283.out) | exact HB.out)) hb); clear HO278; clear HO287; clear BK275; clear BK283; clear HB; have HO278 := n0_; have HO287 := n1_; have BK275 := n2_; have BK283 := n3_; have HB := n4_; clear n0_ n1_ n2_ n3_ n4_; (try clear hb); (try clear hb2); (try clear hk); (try clear hi)) | ((with_reducible refine gate_dst (N := 12) rfl ?_); (try (refine gate_guard (by rfl) ?_; dsimp only)); refine box_event ?hg (N := 12) ?hd (cs := #[.string (⟨#[]⟩ : ByteArray), .int .u16 0, .int .u16 0]) (t := 32) ?hr ?_; (case hd => rfl); (case hg => rfl); (case hr => first | (go_simp; done) | (go_simp; rfl)); intro gb292 hg w139 hbox hb; have n0_ := am_ (Kd.R_below (by (with_reducible repeat (first | apply Kd.R_alloc | apply Kd.R_drewN | apply Kd.R_drew)); exact HO278.out) hb); have n1_ := am_ (Kd.R_below (by (with_reducible repeat (first | apply Kd.R_alloc | apply Kd.R_drewN | apply Kd.R_drew)); exact HO287.out) hb); have n2_ := am_ (blk_below (g := gb275) (o := .cells #[.string a0_0, .int .u16 a0_1, .int .u16 a0_2] 32 (0, 0)) (by (with_reducible repeat (first | refine blk_drewN ?_ _ | refine blk_drew ?_ | refine blk_alloc ?_ _)); exact BK275.out) hb); have n3_ := am_ (blk_below (g := gb283) (o := .cells #[.string t279, .int .u16 t280, .int .u16 t281] 32 (0, 0)) (by (with_reducible repeat (first | refine blk_drewN ?_ _ | refine blk_drew ?_ | refine blk_alloc ?_ _)); exact BK283.out) hb); have n4_ := am_ (below_step (by repeat (first | (with_reducible first | exact HB.out | apply below_alloc | apply pw_below_drewN | apply below_drew1 | refine below_set ?_ GE275.out | refine below_set ?_ GE283.out) | exact HB.out)) hb); have n5_ := am_ (hbox); have n6_ := am_ ((by rw [hg]; exact (below_size (by repeat (first | (with_reducible first | exact HB.out | apply below_alloc | apply pw_below_drewN | apply below_drew1 | refine below_set ?_ GE275.out | refine below_set ?_ GE283.out) | exact HB.out))) : w.heap.size ≤ gb292)); have n7_ := am_ ((by rw [hg]; exact (below_size (by repeat (first | (with_reducible first | exact HB.out | apply below_alloc | apply pw_below_drewN | apply below_drew1 | refine below_set ?_ GE275.out | refine below_set ?_ GE283.out) | exact HB.out))) : w.heap.size ≤ gb292)); have n8_ := am_ ((by rw [hg]; exact Nat.ne_of_lt (blk_lt (g := gb275) (o := .cells #[.string a0_0, .int .u16 a0_1, .int .u16 a0_2] 32 (0, 0)) (by (with_reducible repeat (first | refine blk_drewN ?_ _ | refine blk_drew ?_ | refine blk_alloc ?_ _)); exact BK275.out)) : gb275 ≠ gb292)); have n9_ := am_ ((by rw [hg]; exact Nat.ne_of_gt (blk_lt (g := gb275) (o := .cells #[.string a0_0, .int .u16 a0_1, .int .u16 a0_2] 32 (0, 0)) (by (with_reducible repeat (first | refine blk_drewN ?_ _ | refine blk_drew ?_ | refine blk_alloc ?_ _)); exact BK275.out)) : gb292 ≠ gb275)); have n10_ := am_ ((by rw [hg]; exact Nat.ne_of_lt (blk_lt (g := gb283) (o := .cells #[.string t279, .int .u16 t280, .int .u16 t281] 32 (0, 0)) (by (with_reducible repeat (first | refine blk_drewN ?_ _ | refine blk_drew ?_ | refine blk_alloc ?_ _)); exact BK283.out)) : gb283 ≠ gb292)); have n11_ := am_ ((by rw [hg]; exact Nat.ne_of_gt (blk_lt (g := gb283) (o := .cells #[.string t279, .int .u16 t280, .int .u16 t281] 32 (0, 0)) (by (with_reducible repeat (first | refine blk_drewN ?_ _ | refine blk_drew ?_ | refine blk_alloc ?_ _)); exact BK283.out)) : gb292 ≠ gb283)); clear HO278; clear HO287; clear BK275; clear BK283; clear HB; have HO278 := n0_; have HO287 := n1_; have BK275 := n2_; have BK283 := n3_; have HB := n4_; have BK292 := n5_; have GW292 := n6_; have GE292 := n7_; have NB275_292 := n8_; have NB292_275 := n9_; have NB283_292 := n10_; have NB292_283 := n11_; clear n0_ n1_ n2_ n3_ n4_ n5_ n6_ n7_ n8_ n9_ n10_ n11_; clear hb hbox hg; have hnb140 := NB292_275.out; have hnc140 := NB275_292.out; have hnb141 := NB292_283.out; have hnc141 := NB283_292.out; have hcz142_0 : w139.cell? ⟨gb292, 0, none⟩ = some (.string (⟨#[]⟩ : ByteArray)) := (blk_cell BK292.out 0).trans rfl; have hcz142_1 : w139.cell? ⟨gb292, 1, none⟩ = some (.int .u16 0) := (blk_cell BK292.out 1).trans rfl; have hcz142_2 : w139.cell? ⟨gb292, 2, none⟩ = some (.int .u16 0) := (blk_cell BK292.out 2).trans rfl; have hfz142_0 := blk_frozen BK292.out 0; have hfz142_1 := blk_frozen BK292.out 1; have hfz142_2 := blk_frozen BK292.out 2))
 have n0_ : Aside0 (Kd.R k38 38 (((w139.setCell ⟨gb292, 0, none⟩ (.string t288)).setCell ⟨gb292, 1, none⟩ (.int .u16 t289)).setCell ⟨gb292, 2, none⟩ (.int .u16 t290)) w.heap.size (fun k_ => some k_ ≠ (.slice Ao137 y285.length co137 : Value).ownBlock) (.slice Ao129 y276.length co129) y276) := ⟨by (with_reducible repeat (first | apply Kd.R_alloc | apply Kd.R_drewN | apply Kd.R_drew)); exact Kd.R_mono (Kd.R_far (p := ⟨gb292, 2, none⟩) (Kd.R_far (p := ⟨gb292, 1, none⟩) (Kd.R_far (p := ⟨gb292, 0, none⟩) (Kd.R_types HO278.out BK292.out (by decide)) (fun _ hk => hk.2) (.string t288)) (fun _ hk => hk.2) (.int .u16 t289)) (fun _ hk => hk.2) (.int .u16 t290)) (fun _ hk => hk.1.2)⟩
 have n1_ : Aside0 (Kd.R k38 38 (((w139.setCell ⟨gb292, 0, none⟩ (.string t288)).setCell ⟨gb292, 1, none⟩ (.int .u16 t289)).setCell ⟨gb292, 2, none⟩ (.int .u16 t290)) w.heap.size (fun k_ => some k_ ≠ (.slice Ao129 y276.length co129 : Value).ownBlock) (.slice Ao137 y285.length co137) y285) := ⟨by (with_reducible repeat (first | apply Kd.R_alloc | apply Kd.R_drewN | apply Kd.R_drew)); exact Kd.R_mono (Kd.R_far (p := ⟨gb292, 2, none⟩) (Kd.R_far (p := ⟨gb292, 1, none⟩) (Kd.R_far (p := ⟨gb292, 0, none⟩) (Kd.R_types HO287.out BK292.out (by decide)) (fun _ hk => hk.2) (.string t288)) (fun _ hk => hk.2) (.int .u16 t289)) (fun _ hk => hk.2) (.int .u16 t290)) (fun _ hk => hk.1.2)⟩
 have n2_ : Aside0 ((((w139.setCell ⟨gb292, 0, none⟩ (.string t288)).setCell ⟨gb292, 1, none⟩ (.int .u16 t289)).setCell ⟨gb292, 2, none⟩ (.int .u16 t290)).heap[gb275]? = some (.cells #[.string a0_0, .int .u16 a0_1, .int .u16 a0_2] 32 (0, 0))) := ⟨by (with_reducible repeat (first | refine blk_drewN ?_ _ | refine blk_drew ?_ | refine blk_alloc ?_ _)); refine blk_far ?_ NB275_292.out _; (with_reducible repeat (first | refine blk_drewN ?_ _ | refine blk_drew ?_ | refine blk_alloc ?_ _)); refine blk_far ?_ NB275_292.out _; (with_reducible repeat (first | refine blk_drewN ?_ _ | refine blk_drew ?_ | refine blk_alloc ?_ _)); refine blk_far ?_ NB275_292.out _; (with_reducible repeat (first | refine blk_drewN ?_ _ | refine blk_drew ?_ | refine blk_alloc ?_ _)); exact BK275.out⟩
 have n3_ : Aside0 ((((w139.setCell ⟨gb292, 0, none⟩ (.string t288)).setCell ⟨gb292, 1, none⟩ (.int .u16 t289)).setCell ⟨gb292, 2, none⟩ (.int .u16 t290)).heap[gb283]? = some (.cells #[.string t279, .int .u16 t280, .int .u16 t281] 32 (0, 0))) := ⟨by (with_reducible repeat (first | refine blk_drewN ?_ _ | refine blk_drew ?_ | refine blk_alloc ?_ _)); refine blk_far ?_ NB283_292.out _; (with_reducible repeat (first | refine blk_drewN ?_ _ | refine blk_drew ?_ | refine blk_alloc ?_ _)); refine blk_far ?_ NB283_292.out _; (with_reducible repeat (first | refine blk_drewN ?_ _ | refine blk_drew ?_ | refine blk_alloc ?_ _)); refine blk_far ?_ NB283_292.out _; (with_reducible repeat (first | refine blk_drewN ?_ _ | refine blk_drew ?_ | refine blk_alloc ?_ _)); exact BK283.out⟩
 have n4_ : Aside0 ((((w139.setCell ⟨gb292, 0, none⟩ (.string t288)).setCell ⟨gb292, 1, none⟩ (.int .u16 t289)).setCell ⟨gb292, 2, none⟩ (.int .u16 t290)).heap[gb292]? = some (.cells #[.string t288, .int .u16 t289, .int .u16 t290] 32 (0, 0))) := ⟨by (with_reducible repeat (first | refine blk_drewN ?_ _ | refine blk_drew ?_ | refine blk_alloc ?_ _)); refine blk_put (cs := #[.string t288, .int .u16 t289, .int .u16 0]) ?_ 2 _ rfl; (with_reducible repeat (first | refine blk_drewN ?_ _ | refine blk_drew ?_ | refine blk_alloc ?_ _)); refine blk_put (cs := #[.string t288, .int .u16 0, .int .u16 0]) ?_ 1 _ rfl; (with_reducible repeat (first | refine blk_drewN ?_ _ | refine blk_drew ?_ | refine blk_alloc ?_ _)); refine blk_put (cs := #[.string (⟨#[]⟩ : ByteArray), .int .u16 0, .int .u16 0]) ?_ 0 _ rfl; (with_reducible repeat (first | refine blk_drewN ?_ _ | refine blk_drew ?_ | refine blk_alloc ?_ _)); exact BK292.out⟩
 have n5_ : Aside0 (Below w.heap.size w (((w139.setCell ⟨gb292, 0, none⟩ (.string t288)).setCell ⟨gb292, 1, none⟩ (.int .u16 t289)).setCell ⟨gb292, 2, none⟩ (.int .u16 t290))) := ⟨by repeat (first | (with_reducible first | exact HB.out | apply below_alloc | apply pw_below_drewN | apply below_drew1 | refine below_set ?_ GE275.out | refine below_set ?_ GE283.out | refine below_set ?_ GE292.out) | exact HB.out)⟩
 (try clear HO278)
 (try clear HO287)
 (try clear BK275)
 (try clear BK283)
 (try clear BK292)
 (try clear HB)
 generalize (((w139.setCell ⟨gb292, 0, none⟩ (.string t288)).setCell ⟨gb292, 1, none⟩ (.int .u16 t289)).setCell ⟨gb292, 2, none⟩ (.int .u16 t290)) = w143 at n0_ n1_ n2_ n3_ n4_ n5_ ⊢
 have HO278 := n0_
 have HO287 := n1_
 have BK275 := n2_
 have BK283 := n3_
 have BK292 := n4_
 have HB := n5_
 clear n0_ n1_ n2_ n3_ n4_ n5_
 have n0_ := am_ (Kd.R_drew HO278.out)
 have n1_ := am_ (Kd.R_drew HO287.out)
 have n2_ := am_ (blk_drew BK275.out)
 have n3_ := am_ (blk_drew BK283.out)
 have n4_ := am_ (blk_drew BK292.out)
 have n5_ := am_ (below_drew1 HB.out)
 clear HO278
 clear HO287
 clear BK275
 clear BK283
 clear BK292
 clear HB
 have HO278 := n0_
 have HO287 := n1_
 have BK275 := n2_
 have BK283 := n3_
 have BK292 := n4_
 have HB := n5_
 clear n0_ n1_ n2_ n3_ n4_ n5_
 refine start_ (n := 45) (S := fun w' => w'.cell? ⟨gb292, 0, none⟩ = some (.string t288) ∧ w'.cell? ⟨gb292, 1, none⟩ = some (.int .u16 t289) ∧ w'.cell? ⟨gb292, 2, none⟩ = some (.int .u16 t290) ∧ w'.cell? ⟨gb275, 0, none⟩ = some (.string a0_0) ∧ w'.cell? ⟨gb275, 1, none⟩ = some (.int .u16 a0_1) ∧ w'.cell? ⟨gb275, 2, none⟩ = some (.int .u16 a0_2)) (ds := []) (bm_ 45 0) (by kernel_rfl) rfl rfl ⟨(blk_cell BK292.out 0).trans rfl, (blk_cell BK292.out 1).trans rfl, (blk_cell BK292.out 2).trans rfl, (blk_cell BK275.out 0).trans rfl, (blk_cell BK275.out 1).trans rfl, (blk_cell BK275.out 2).trans rfl⟩ (fun hHeld => ?_); refine with_tabW hearsaylaw25_RewriteThere.tab10 hearsaylaw25_RewriteThere.bits10 (fun HT_ HW_ => ?_)
 generalize w143.drew = w144 at HO278 HO287 BK275 BK283 BK292 HB hHeld ⊢
 refine pure_ (i := 0) (N := some 57) (v := ?_) (a' := ?_) (bm_ 45 1) rfl rfl (any_of HT_.out (by kernel_rfl)) (fun _ _ _ h => h) (Or.inl ⟨by rfl, ?_⟩) ?_ ?_
 rotate_left
 {
 intro w'
 go_simp
 with_reducible rfl }
 rotate_left
 {
 simp only [Act.put, sA_, s0_, sS_, i64_w, i32_w]
 rfl }
 refine pure_ (i := 1) (N := some 58) (v := ?_) (a' := ?_) (bm_ 45 3) rfl rfl (any_of HT_.out (by kernel_rfl)) (fun _ _ _ h => h) (Or.inl ⟨by rfl, ?_⟩) ?_ ?_
 rotate_left
 {
 intro w'
 go_simp
 with_reducible rfl }
 rotate_left
 {
 simp only [Act.put, sA_, s0_, sS_, i64_w, i32_w]
 rfl }
 refine pure_ (i := 2) (N := some 59) (v := ?_) (a' := ?_) (bm_ 45 7) rfl rfl (any_of HT_.out (by kernel_rfl)) (fun _ _ _ h => h) (Or.inl ⟨by rfl, ?_⟩) ?_ ?_
 rotate_left
 {
 intro w'
 go_simp
 with_reducible rfl }
 rotate_left
 {
 simp only [Act.put, sA_, s0_, sS_, i64_w, i32_w]
 rfl }
 refine pure_ (i := 4) (N := some 61) (v := ?_) (a' := ?_) (bm_ 45 23) rfl rfl (any_of HT_.out (by kernel_rfl)) (fun _ _ _ h => h) (Or.inl ⟨by rfl, ?_⟩) ?_ ?_
 rotate_left
 {
 intro w'
 go_simp
 with_reducible rfl }
 rotate_left
 {
 simp only [Act.put, sA_, s0_, sS_, i64_w, i32_w]
 rfl }
 refine take_ (i := 3) (N := some 60) (v := ?_) (a' := ?_) (bm_ 45 31) rfl rfl (take_ofW HT_.out HW_.out (by kernel_rfl)) (fun _ _ _ h => h) (Or.inl ⟨by rfl, ?_⟩) hHeld ?_ ?_
 rotate_left
 {
 rintro w' ⟨s0, s1, s2, s3, s4, s5⟩
 go_simp
 with_reducible rfl }
 rotate_left
 {
 simp only [Act.put, sA_, s0_, sS_, i64_w, i32_w]
 rfl }
 refine take_ (i := 5) (N := some 62) (v := ?_) (a' := ?_) (bm_ 45 63) rfl rfl (take_ofW HT_.out HW_.out (by kernel_rfl)) (fun _ _ _ h => h) (Or.inl ⟨by rfl, ?_⟩) hHeld ?_ ?_
 rotate_left
 {
 rintro w' ⟨s0, s1, s2, s3, s4, s5⟩
 go_simp
 with_reducible rfl }
 rotate_left
 {
 simp only [Act.put, sA_, s0_, sS_, i64_w, i32_w]
 rfl }
 refine one_ (i := 6) (N := some 63) (bm_ 45 127) rfl rfl (one_of HT_.out (by kernel_rfl)) (by decide) (fun K hK => ?_)
 refine goes_ Try.func18 (by kernel_rfl) rfl #[.string t288, .string a0_0] (by rfl) rfl rfl (by (try simp only [List.map_toArray, List.map_cons, List.map_nil]); first | done | rfl | (simp only [List.length_drop, List.length_take]; rfl)) ?_
 with_reducible refine (hearsayref01_Alike.calls t288 a0_0 false _ A19.out).mono ?_
 rintro e w145 ⟨rfl, hb⟩
 refine ⟨_, rfl, ?_⟩
 have n0_ := am_ (Kd.R_below (by (with_reducible repeat (first | apply Kd.R_alloc | apply Kd.R_drewN | apply Kd.R_drew)); exact HO278.out) hb)
 have n1_ := am_ (Kd.R_below (by (with_reducible repeat (first | apply Kd.R_alloc | apply Kd.R_drewN | apply Kd.R_drew)); exact HO287.out) hb)
 have n2_ := am_ (blk_below (g := gb275) (o := .cells #[.string a0_0, .int .u16 a0_1, .int .u16 a0_2] 32 (0, 0)) (by (with_reducible repeat (first | refine blk_drewN ?_ _ | refine blk_drew ?_ | refine blk_alloc ?_ _)); exact BK275.out) hb)
 have n3_ := am_ (blk_below (g := gb283) (o := .cells #[.string t279, .int .u16 t280, .int .u16 t281] 32 (0, 0)) (by (with_reducible repeat (first | refine blk_drewN ?_ _ | refine blk_drew ?_ | refine blk_alloc ?_ _)); exact BK283.out) hb)
 have n4_ := am_ (blk_below (g := gb292) (o := .cells #[.string t288, .int .u16 t289, .int .u16 t290] 32 (0, 0)) (by (with_reducible repeat (first | refine blk_drewN ?_ _ | refine blk_drew ?_ | refine blk_alloc ?_ _)); exact BK292.out) hb)
 have n5_ := am_ (below_step (by repeat (first | (with_reducible first | exact HB.out | apply below_alloc | apply pw_below_drewN | apply below_drew1 | refine below_set ?_ GE275.out | refine below_set ?_ GE283.out | refine below_set ?_ GE292.out) | exact HB.out)) hb)
 clear HO278
 clear HO287
 clear BK275
 clear BK283
 clear BK292
 clear HB
 have HO278 := n0_
 have HO287 := n1_
 have BK275 := n2_
 have BK283 := n3_
 have BK292 := n4_
 have HB := n5_
 clear n0_ n1_ n2_ n3_ n4_ n5_
 (try clear hb)
 (try clear hb2)
 (try clear hk)
 (try clear hi)
 refine hK.out _ _ ⟨(blk_cell BK292.out 0).trans rfl, (blk_cell BK292.out 1).trans rfl, (blk_cell BK292.out 2).trans rfl, (blk_cell BK275.out 0).trans rfl, (blk_cell BK275.out 1).trans rfl, (blk_cell BK275.out 2).trans rfl⟩ (fun hHeld => ?_)
 clear hK K
 refine norm_ (a' := ?_) ?_ ?_
 rotate_left
 {
 show Act.put _ (some 63) _ = _
 simp only [Act.put, sA_, s0_, sS_, i64_w, i32_w]
 rfl }
 refine pure_ (i := 7) (N := some 64) (v := ?_) (a' := ?_) (bm_ 45 255) rfl rfl (any_of HT_.out (by kernel_rfl)) (fun _ _ _ h => h) (Or.inl ⟨by rfl, ?_⟩) ?_ ?_
 rotate_left
 {
 intro w'
 go_simp
 with_reducible rfl }
 rotate_left
 {
 simp only [Act.put, sA_, s0_, sS_, i64_w, i32_w]
 rfl }
 refine pure_ (i := 8) (N := some 65) (v := ?_) (a' := ?_) (bm_ 45 511) rfl rfl (any_of HT_.out (by kernel_rfl)) (fun _ _ _ h => h) (Or.inl ⟨by rfl, ?_⟩) ?_ ?_
 rotate_left
 {
 intro w'
 go_simp
 with_reducible rfl }
 rotate_left
 {
 simp only [Act.put, sA_, s0_, sS_, i64_w, i32_w]
 rfl }
 refine pure_ (i := 9) (N := some 66) (v := undef) (a' := ?_) (bm_ 45 1023) rfl rfl (any_of HT_.out (by kernel_rfl)) (fun _ _ _ h => h) (Or.inr ⟨by rfl, rfl⟩) ?_ ?_
 rotate_left
 {
 simp only [Act.put, sA_, s0_, sS_, i64_w, i32_w]
 rfl }
 refine pure_ (i := 10) (N := some 67) (v := undef) (a' := ?_) (bm_ 45 2047) rfl rfl (any_of HT_.out (by kernel_rfl)) (fun _ _ _ h => h) (Or.inr ⟨by rfl, rfl⟩) ?_ ?_
 rotate_left
 {
 simp only [Act.put, sA_, s0_, sS_, i64_w, i32_w]
 rfl }
 refine pure_ (i := 11) (N := some 68) (v := undef) (a' := ?_) (bm_ 45 4095) rfl rfl (any_of HT_.out (by kernel_rfl)) (fun _ _ _ h => h) (Or.inr ⟨by rfl, rfl⟩) ?_ ?_
 rotate_left
 {
 simp only [Act.put, sA_, s0_, sS_, i64_w, i32_w]
 rfl }
 refine pure_ (i := 12) (N := some 69) (v := undef) (a' := ?_) (bm_ 45 8191) rfl rfl (any_of HT_.out (by kernel_rfl)) (fun _ _ _ h => h) (Or.inr ⟨by rfl, rfl⟩) ?_ ?_
 rotate_left
 {
 simp only [Act.put, sA_, s0_, sS_, i64_w, i32_w]
 rfl }
 refine pure_ (i := 13) (N := some 70) (v := undef) (a' := ?_) (bm_ 45 16383) rfl rfl (any_of HT_.out (by kernel_rfl)) (fun _ _ _ h => h) (Or.inr ⟨by rfl, rfl⟩) ?_ ?_
 rotate_left
 {
 simp only [Act.put, sA_, s0_, sS_, i64_w, i32_w]
 rfl }
 refine pure_ (i := 14) (N := some 71) (v := ?_) (a' := ?_) (bm_ 45 32767) rfl rfl (any_of HT_.out (by kernel_rfl)) (fun _ _ _ h => h) (Or.inl ⟨by rfl, ?_⟩) ?_ ?_
 rotate_left
 {
 intro w'
 go_simp
 with_reducible rfl }
 rotate_left
 {
 simp only [Act.put, sA_, s0_, sS_, i64_w, i32_w]
 rfl }
 refine pure_ (i := 15) (N := some 72) (v := ?_) (a' := ?_) (bm_ 45 65535) rfl rfl (any_of HT_.out (by kernel_rfl)) (fun _ _ _ h => h) (Or.inl ⟨by rfl, ?_⟩) ?_ ?_
 rotate_left
 {
 intro w'
 go_simp
 with_reducible rfl }
 rotate_left
 {
 simp only [Act.put, sA_, s0_, sS_, i64_w, i32_w]
 rfl }
 refine pure_ (i := 16) (N := some 73) (v := undef) (a' := ?_) (bm_ 45 131071) rfl rfl (any_of HT_.out (by kernel_rfl)) (fun _ _ _ h => h) (Or.inr ⟨by rfl, rfl⟩) ?_ ?_
 rotate_left
 {
 simp only [Act.put, sA_, s0_, sS_, i64_w, i32_w]
 rfl }
 refine pure_ (i := 17) (N := some 74) (v := undef) (a' := ?_) (bm_ 45 262143) rfl rfl (any_of HT_.out (by kernel_rfl)) (fun _ _ _ h => h) (Or.inr ⟨by rfl, rfl⟩) ?_ ?_
 rotate_left
 {
 simp only [Act.put, sA_, s0_, sS_, i64_w, i32_w]
 rfl }
 refine pure_ (i := 18) (N := some 75) (v := undef) (a' := ?_) (bm_ 45 524287) rfl rfl (any_of HT_.out (by kernel_rfl)) (fun _ _ _ h => h) (Or.inr ⟨by rfl, rfl⟩) ?_ ?_
 rotate_left
 {
 simp only [Act.put, sA_, s0_, sS_, i64_w, i32_w]
 rfl }
 refine pure_ (i := 19) (N := some 76) (v := undef) (a' := ?_) (bm_ 45 1048575) rfl rfl (any_of HT_.out (by kernel_rfl)) (fun _ _ _ h => h) (Or.inr ⟨by rfl, rfl⟩) ?_ ?_
 rotate_left
 {
 simp only [Act.put, sA_, s0_, sS_, i64_w, i32_w]
 rfl }
 refine pure_ (i := 20) (N := some 77) (v := undef) (a' := ?_) (bm_ 45 2097151) rfl rfl (any_of HT_.out (by kernel_rfl)) (fun _ _ _ h => h) (Or.inr ⟨by rfl, rfl⟩) ?_ ?_
 rotate_left
 {
 simp only [Act.put, sA_, s0_, sS_, i64_w, i32_w]
 rfl }
 refine pure_ (i := 21) (N := some 78) (v := ?_) (a' := ?_) (bm_ 45 4194303) rfl rfl (any_of HT_.out (by kernel_rfl)) (fun _ _ _ h => h) (Or.inl ⟨by rfl, ?_⟩) ?_ ?_
 rotate_left
 {
 intro w'
 go_simp
 with_reducible rfl }
 rotate_left
 {
 simp only [Act.put, sA_, s0_, sS_, i64_w, i32_w]
 rfl }
 refine pure_ (i := 22) (N := some 79) (v := ?_) (a' := ?_) (bm_ 45 8388607) rfl rfl (any_of HT_.out (by kernel_rfl)) (fun _ _ _ h => h) (Or.inl ⟨by rfl, ?_⟩) ?_ ?_
 rotate_left
 {
 intro w'
 go_simp
 with_reducible rfl }
 rotate_left
 {
 simp only [Act.put, sA_, s0_, sS_, i64_w, i32_w]
 rfl }
 refine pure_ (i := 23) (N := some 80) (v := undef) (a' := ?_) (bm_ 45 16777215) rfl rfl (any_of HT_.out (by kernel_rfl)) (fun _ _ _ h => h) (Or.inr ⟨by rfl, rfl⟩) ?_ ?_
 rotate_left
 {
 simp only [Act.put, sA_, s0_, sS_, i64_w, i32_w]
 rfl }
 refine pure_ (i := 24) (N := some 81) (v := undef) (a' := ?_) (bm_ 45 33554431) rfl rfl (any_of HT_.out (by kernel_rfl)) (fun _ _ _ h => h) (Or.inr ⟨by rfl, rfl⟩) ?_ ?_
 rotate_left
 {
 simp only [Act.put, sA_, s0_, sS_, i64_w, i32_w]
 rfl }
 refine pure_ (i := 25) (N := some 82) (v := undef) (a' := ?_) (bm_ 45 67108863) rfl rfl (any_of HT_.out (by kernel_rfl)) (fun _ _ _ h => h) (Or.inr ⟨by rfl, rfl⟩) ?_ ?_
 rotate_left
 {
 simp only [Act.put, sA_, s0_, sS_, i64_w, i32_w]
 rfl }
 refine pure_ (i := 26) (N := some 83) (v := undef) (a' := ?_) (bm_ 45 134217727) rfl rfl (any_of HT_.out (by kernel_rfl)) (fun _ _ _ h => h) (Or.inr ⟨by rfl, rfl⟩) ?_ ?_
 rotate_left
 {
 simp only [Act.put, sA_, s0_, sS_, i64_w, i32_w]
 rfl }
 refine pure_ (i := 27) (N := some 84) (v := undef) (a' := ?_) (bm_ 45 268435455) rfl rfl (any_of HT_.out (by kernel_rfl)) (fun _ _ _ h => h) (Or.inr ⟨by rfl, rfl⟩) ?_ ?_
 rotate_left
 {
 simp only [Act.put, sA_, s0_, sS_, i64_w, i32_w]
 rfl }
 refine pure_ (i := 28) (N := some 85) (v := undef) (a' := ?_) (bm_ 45 536870911) rfl rfl (any_of HT_.out (by kernel_rfl)) (fun _ _ _ h => h) (Or.inr ⟨by rfl, rfl⟩) ?_ ?_
 rotate_left
 {
 simp only [Act.put, sA_, s0_, sS_, i64_w, i32_w]
 rfl }
 refine pure_ (i := 29) (N := some 86) (v := undef) (a' := ?_) (bm_ 45 1073741823) rfl rfl (any_of HT_.out (by kernel_rfl)) (fun _ _ _ h => h) (Or.inr ⟨by rfl, rfl⟩) ?_ ?_
 rotate_left
 {
 simp only [Act.put, sA_, s0_, sS_, i64_w, i32_w]
 rfl }
 refine pure_ (i := 30) (N := some 87) (v := undef) (a' := ?_) (bm_ 45 2147483647) rfl rfl (any_of HT_.out (by kernel_rfl)) (fun _ _ _ h => h) (Or.inr ⟨by rfl, rfl⟩) ?_ ?_
 rotate_left
 {
 simp only [Act.put, sA_, s0_, sS_, i64_w, i32_w]
 rfl }
 refine pure_ (i := 31) (N := some 88) (v := undef) (a' := ?_) (bm_ 45 4294967295) rfl rfl (any_of HT_.out (by kernel_rfl)) (fun _ _ _ h => h) (Or.inr ⟨by rfl, rfl⟩) ?_ ?_
 rotate_left
 {
 simp only [Act.put, sA_, s0_, sS_, i64_w, i32_w]
 rfl }
 refine pure_ (i := 32) (N := some 89) (v := undef) (a' := ?_) (bm_ 45 8589934591) rfl rfl (any_of HT_.out (by kernel_rfl)) (fun _ _ _ h => h) (Or.inr ⟨by rfl, rfl⟩) ?_ ?_
 rotate_left
 {
 simp only [Act.put, sA_, s0_, sS_, i64_w, i32_w]
 rfl }
 refine pure_ (i := 33) (N := some 90) (v := undef) (a' := ?_) (bm_ 45 17179869183) rfl rfl (any_of HT_.out (by kernel_rfl)) (fun _ _ _ h => h) (Or.inr ⟨by rfl, rfl⟩) ?_ ?_
 rotate_left
 {
 simp only [Act.put, sA_, s0_, sS_, i64_w, i32_w]
 rfl }
 refine pure_ (i := 34) (N := some 91) (v := undef) (a' := ?_) (bm_ 45 34359738367) rfl rfl (any_of HT_.out (by kernel_rfl)) (fun _ _ _ h => h) (Or.inr ⟨by rfl, rfl⟩) ?_ ?_
 rotate_left
 {
 simp only [Act.put, sA_, s0_, sS_, i64_w, i32_w]
 rfl }
 refine pure_ (i := 35) (N := some 92) (v := undef) (a' := ?_) (bm_ 45 68719476735) rfl rfl (any_of HT_.out (by kernel_rfl)) (fun _ _ _ h => h) (Or.inr ⟨by rfl, rfl⟩) ?_ ?_
 rotate_left
 {
 simp only [Act.put, sA_, s0_, sS_, i64_w, i32_w]
 rfl }
 refine pure_ (i := 36) (N := some 93) (v := undef) (a' := ?_) (bm_ 45 137438953471) rfl rfl (any_of HT_.out (by kernel_rfl)) (fun _ _ _ h => h) (Or.inr ⟨by rfl, rfl⟩) ?_ ?_
 rotate_left
 {
 simp only [Act.put, sA_, s0_, sS_, i64_w, i32_w]
 rfl }
 refine pure_ (i := 37) (N := some 94) (v := undef) (a' := ?_) (bm_ 45 274877906943) rfl rfl (any_of HT_.out (by kernel_rfl)) (fun _ _ _ h => h) (Or.inr ⟨by rfl, rfl⟩) ?_ ?_
 rotate_left
 {
 simp only [Act.put, sA_, s0_, sS_, i64_w, i32_w]
 rfl }
 refine pure_ (i := 38) (N := some 95) (v := undef) (a' := ?_) (bm_ 45 549755813887) rfl rfl (any_of HT_.out (by kernel_rfl)) (fun _ _ _ h => h) (Or.inr ⟨by rfl, rfl⟩) ?_ ?_
 rotate_left
 {
 simp only [Act.put, sA_, s0_, sS_, i64_w, i32_w]
 rfl }
 refine pure_ (i := 39) (N := some 96) (v := undef) (a' := ?_) (bm_ 45 1099511627775) rfl rfl (any_of HT_.out (by kernel_rfl)) (fun _ _ _ h => h) (Or.inr ⟨by rfl, rfl⟩) ?_ ?_
 rotate_left
 {
 simp only [Act.put, sA_, s0_, sS_, i64_w, i32_w]
 rfl }
 refine pure_ (i := 40) (N := some 97) (v := ?_) (a' := ?_) (bm_ 45 2199023255551) rfl rfl (any_of HT_.out (by kernel_rfl)) (fun _ _ _ h => h) (Or.inl ⟨by rfl, ?_⟩) ?_ ?_
 rotate_left
 {
 intro w'
 go_simp
 with_reducible rfl }
 rotate_left
 {
 simp only [Act.put, sA_, s0_, sS_, i64_w, i32_w]
 rfl }
 refine pure_ (i := 41) (N := some 98) (v := ?_) (a' := ?_) (bm_ 45 4398046511103) rfl rfl (any_of HT_.out (by kernel_rfl)) (fun _ _ _ h => h) (Or.inl ⟨by rfl, ?_⟩) ?_ ?_
 rotate_left
 {
 intro w'
 go_simp
 with_reducible rfl }
 rotate_left
 {
 simp only [Act.put, sA_, s0_, sS_, i64_w, i32_w]
 rfl }
 refine pure_ (i := 42) (N := some 99) (v := undef) (a' := ?_) (bm_ 45 8796093022207) rfl rfl (any_of HT_.out (by kernel_rfl)) (fun _ _ _ h => h) (Or.inr ⟨by rfl, rfl⟩) ?_ ?_
 rotate_left
 {
 simp only [Act.put, sA_, s0_, sS_, i64_w, i32_w]
 rfl }
 refine pure_ (i := 43) (N := some 100) (v := ?_) (a' := ?_) (bm_ 45 17592186044415) rfl rfl (any_of HT_.out (by kernel_rfl)) (fun _ _ _ h => h) (Or.inl ⟨by rfl, ?_⟩) ?_ ?_
 rotate_left
 {
 intro w'
 go_simp
 with_reducible rfl }
 rotate_left
 {
 simp only [Act.put, sA_, s0_, sS_, i64_w, i32_w]
 rfl }
 refine pure_ (i := 44) (N := some 8) (v := ?_) (a' := ?_) (bm_ 45 35184372088831) rfl rfl (any_of HT_.out (by kernel_rfl)) (fun _ _ _ h => h) (Or.inl ⟨by rfl, ?_⟩) ?_ ?_
 rotate_left
 {
 intro w'
 go_simp
 with_reducible rfl }
 rotate_left
 {
 simp only [Act.put, sA_, s0_, sS_, i64_w, i32_w]
 rfl }
 refine done_ (done_of HT_.out (by kernel_rfl)) ?_
 try go_wp2
 go_ret
 exact ⟨by first | rfl | (simp [errW_none, errW_some] <;> rfl) | (simp [*, errW_none, errW_some] <;> rfl), by repeat (first | (with_reducible first | exact HB.out | apply below_alloc | apply pw_below_drewN | apply below_drew1 | refine below_set ?_ GE275.out | refine below_set ?_ GE283.out | refine below_set ?_ GE292.out) | exact HB.out)⟩ }}
 {
 replace c18 := Bool.eq_false_iff.mpr c18
 subst c18
 have H1 : (some false) = some r := by rw [if_neg (show ¬ (false = true) by decide)] at H; exact H
 clear H
 have H := H1
 clear H1
 obtain rfl := Option.some.inj H
 try go_wp2_with (first | ((with_reducible refine gate_dst (N := 34) rfl ?_); (try (refine gate_guard (by rfl) ?_; dsimp only)); refine Kd.R_lit k38 _ 38 ?hg (N := 34) ?hd (xs := ([(⟨x9_12, a1, a2, 0, 0⟩ : S38)] : List (S38))) (inner := [.int .u8 x9_12, .string a1, .string a2, .int .u16 0, .int .u16 0]) (ok := fun _ => True) (okp := fun _ => True) ?hr ?hp (fun _ hk => hk) trivial (Below.refl _ _) (Nat.le_refl _) (by simp) ?_; (case hd => rfl); (case hg => rfl); (case hr => first | (go_simp; done) | (go_simp; rfl)); (case hp => exact (Reps.c5 (show Kd.M k38 _ _ _ (⟨x9_12, a1, a2, 0, 0⟩ : S38) [.int .u8 x9_12, .string a1, .string a2, .int .u16 0, .int .u16 0] from (k38_mkM _ _ _ (⟨x9_12, a1, a2, 0, 0⟩ : S38) )) (Reps.none _ _))); intro v277 w146 ho147 hb hg_ hnew_; clear hg_ hnew_; (first | rw [← Ny276.out] at ho147 | (simp only [Int.reduceToNat] at ho147; rw [← Ny276.out] at ho147)); have n0_ := am_ (Kd.R_lower ho147 (below_size (by repeat (first | (with_reducible first | exact HB.out | apply below_alloc | apply pw_below_drewN | apply below_drew1 | refine below_set ?_ GE275.out) | exact HB.out)))); have n1_ := am_ (blk_below (g := gb275) (o := .cells #[.string a0_0, .int .u16 a0_1, .int .u16 a0_2] 32 (0, 0)) (by (with_reducible repeat (first | refine blk_drewN ?_ _ | refine blk_drew ?_ | refine blk_alloc ?_ _)); exact BK275.out) hb); have n2_ := am_ (below_step (by repeat (first | (with_reducible first | exact HB.out | apply below_alloc | apply pw_below_drewN | apply below_drew1 | refine below_set ?_ GE275.out) | exact HB.out)) hb); clear BK275; clear HB; have HO278 := n0_; have BK275 := n1_; have HB := n2_; clear n0_ n1_ n2_; clear hb ho147; have hcz148_0 : w146.cell? ⟨gb275, 0, none⟩ = some (.string a0_0) := (blk_cell BK275.out 0).trans rfl; have hcz148_1 : w146.cell? ⟨gb275, 1, none⟩ = some (.int .u16 a0_1) := (blk_cell BK275.out 1).trans rfl; have hcz148_2 : w146.cell? ⟨gb275, 2, none⟩ = some (.int .u16 a0_2) := (blk_cell BK275.out 2).trans rfl; have hfz148_0 := blk_frozen BK275.out 0; have hfz148_1 := blk_frozen BK275.out 1; have hfz148_2 := blk_frozen BK275.out 2; obtain ⟨Ao149, co149, eo149⟩ := Kd.R_slice HO278.out; subst eo149) | ((with_reducible refine gate_callee (f := 16) rfl ?_); refine goesL_ (some 36) rfl rfl Try.func16 (by kernel_rfl) rfl #[.slice Ao149 y276.length co149, .agg #[.string a0_0, .int .u16 a0_1, .int .u16 a0_2]] rfl (by (try simp only [List.map_toArray, List.map_cons, List.map_nil]); first | done | rfl | (simp only [List.length_drop, List.length_take]; rfl)) ?_; (with_reducible refine (rewrite_Ask.calls _ _ y276 a0_0 a0_1 a0_2 t279 t280 t281 true _ ?side1 ?side2 A15.out).mono ?_); (case side1 => repeat (first | exact (Kd.R_reads' HO278.out).2.2 | (with_reducible refine Kd.C_alloc ?_ _) | (with_reducible refine Kd.C_drewN ?_ _) | (with_reducible refine Kd.C_drew ?_))); (case side2 => exact (Kd.R_reads' HO278.out).2.1); rintro e w150 ⟨rfl, hb⟩; refine ⟨_, rfl, ?_⟩; have n0_ := am_ (Kd.R_below (by (with_reducible repeat (first | apply Kd.R_alloc | apply Kd.R_drewN | apply Kd.R_drew)); exact HO278.out) hb); have n1_ := am_ (blk_below (g := gb275) (o := .cells #[.string a0_0, .int .u16 a0_1, .int .u16 a0_2] 32 (0, 0)) (by (with_reducible repeat (first | refine blk_drewN ?_ _ | refine blk_drew ?_ | refine blk_alloc ?_ _)); exact BK275.out) hb); have n2_ := am_ (below_step (by repeat (first | (with_reducible first | exact HB.out | apply below_alloc | apply pw_below_drewN | apply below_drew1 | refine below_set ?_ GE275.out) | exact HB.out)) hb); clear HO278; clear BK275; clear HB; have HO278 := n0_; have BK275 := n1_; have HB := n2_; clear n0_ n1_ n2_; (try clear hb); (try clear hb2); (try clear hk); (try clear hi)) | ((with_reducible refine gate_dst (N := 10) rfl ?_); (try (refine gate_guard (by rfl) ?_; dsimp only)); refine box_event ?hg (N := 10) ?hd (cs := #[.string (⟨#[]⟩ : ByteArray), .int .u16 0, .int .u16 0]) (t := 32) ?hr ?_; (case hd => rfl); (case hg => rfl); (case hr => first | (go_simp; done) | (go_simp; rfl)); intro gb283 hg w151 hbox hb; have n0_ := am_ (Kd.R_below (by (with_reducible repeat (first | apply Kd.R_alloc | apply Kd.R_drewN | apply Kd.R_drew)); exact HO278.out) hb); have n1_ := am_ (blk_below (g := gb275) (o := .cells #[.string a0_0, .int .u16 a0_1, .int .u16 a0_2] 32 (0, 0)) (by (with_reducible repeat (first | refine blk_drewN ?_ _ | refine blk_drew ?_ | refine blk_alloc ?_ _)); exact BK275.out) hb); have n2_ := am_ (below_step (by repeat (first | (with_reducible first | exact HB.out | apply below_alloc | apply pw_below_drewN | apply below_drew1 | refine below_set ?_ GE275.out) | exact HB.out)) hb); have n3_ := am_ (hbox); have n4_ := am_ ((by rw [hg]; exact (below_size (by repeat (first | (with_reducible first | exact HB.out | apply below_alloc | apply pw_below_drewN | apply below_drew1 | refine below_set ?_ GE275.out) | exact HB.out))) : w.heap.size ≤ gb283)); have n5_ := am_ ((by rw [hg]; exact (below_size (by repeat (first | (with_reducible first | exact HB.out | apply below_alloc | apply pw_below_drewN | apply below_drew1 | refine below_set ?_ GE275.out) | exact HB.out))) : w.heap.size ≤ gb283)); have n6_ := am_ ((by rw [hg]; exact Nat.ne_of_lt (blk_lt (g := gb275) (o := .cells #[.string a0_0, .int .u16 a0_1, .int .u16 a0_2] 32 (0, 0)) (by (with_reducible repeat (first | refine blk_drewN ?_ _ | refine blk_drew ?_ | refine blk_alloc ?_ _)); exact BK275.out)) : gb275 ≠ gb283)); have n7_ := am_ ((by rw [hg]; exact Nat.ne_of_gt (blk_lt (g := gb275) (o := .cells #[.string a0_0, .int .u16 a0_1, .int .u16 a0_2] 32 (0, 0)) (by (with_reducible repeat (first | refine blk_drewN ?_ _ | refine blk_drew ?_ | refine blk_alloc ?_ _)); exact BK275.out)) : gb283 ≠ gb275)); clear HO278; clear BK275; clear HB; have HO278 := n0_; have BK275 := n1_; have HB := n2_; have BK283 := n3_; have GW283 := n4_; have GE283 := n5_; have NB275_283 := n6_; have NB283_275 := n7_; clear n0_ n1_ n2_ n3_ n4_ n5_ n6_ n7_; clear hb hbox hg; have hnb152 := NB283_275.out; have hnc152 := NB275_283.out; have hcz153_0 : w151.cell? ⟨gb283, 0, none⟩ = some (.string (⟨#[]⟩ : ByteArray)) := (blk_cell BK283.out 0).trans rfl; have hcz153_1 : w151.cell? ⟨gb283, 1, none⟩ = some (.int .u16 0) := (blk_cell BK283.out 1).trans rfl; have hcz153_2 : w151.cell? ⟨gb283, 2, none⟩ = some (.int .u16 0) := (blk_cell BK283.out 2).trans rfl; have hfz153_0 := blk_frozen BK283.out 0; have hfz153_1 := blk_frozen BK283.out 1; have hfz153_2 := blk_frozen BK283.out 2) | ((with_reducible refine gate_dst (N := 52) rfl ?_); (try (refine gate_guard (by rfl) ?_; dsimp only)); refine Kd.R_lit k38 _ 38 ?hg (N := 52) ?hd (xs := ([(⟨x9_12, a2, a1, 0, 0⟩ : S38)] : List (S38))) (inner := [.int .u8 x9_12, .string a2, .string a1, .int .u16 0, .int .u16 0]) (ok := fun _ => True) (okp := fun _ => True) ?hr ?hp (fun _ hk => hk) trivial (Below.refl _ _) (Nat.le_refl _) (by simp) ?_; (case hd => rfl); (case hg => rfl); (case hr => first | (go_simp; done) | (go_simp; rfl)); (case hp => exact (Reps.c5 (show Kd.M k38 _ _ _ (⟨x9_12, a2, a1, 0, 0⟩ : S38) [.int .u8 x9_12, .string a2, .string a1, .int .u16 0, .int .u16 0] from (k38_mkM _ _ _ (⟨x9_12, a2, a1, 0, 0⟩ : S38) )) (Reps.none _ _))); intro v286 w154 ho155 hb hg_ hnew_; clear hg_ hnew_; (first | rw [← Ny285.out] at ho155 | (simp only [Int.reduceToNat] at ho155; rw [← Ny285.out] at ho155)); have n0_ := am_ (Kd.R_elder' (by (with_reducible repeat (first | apply Kd.R_alloc | apply Kd.R_drewN | apply Kd.R_drew)); exact (Kd.R_mono (Kd.R_far (p := ⟨gb283, 2, none⟩) (Kd.R_far (p := ⟨gb283, 1, none⟩) (Kd.R_far (p := ⟨gb283, 0, none⟩) (Kd.R_types HO278.out BK283.out (by decide)) (fun _ hk => hk.2) (.string t279)) (fun _ hk => hk.2) (.int .u16 t280)) (fun _ hk => hk.2) (.int .u16 t281)) (fun _ h_ => h_.1))) (Kd.R_base ho155) hb); have n1_ := am_ (Kd.R_lower (Kd.R_new' ho155 (Kd.R_lt (by (with_reducible repeat (first | apply Kd.R_alloc | apply Kd.R_drewN | apply Kd.R_drew)); exact (Kd.R_mono (Kd.R_far (p := ⟨gb283, 2, none⟩) (Kd.R_far (p := ⟨gb283, 1, none⟩) (Kd.R_far (p := ⟨gb283, 0, none⟩) (Kd.R_types HO278.out BK283.out (by decide)) (fun _ hk => hk.2) (.string t279)) (fun _ hk => hk.2) (.int .u16 t280)) (fun _ hk => hk.2) (.int .u16 t281)) (fun _ h_ => h_.1))))) (below_size (by repeat (first | (with_reducible first | exact HB.out | apply below_alloc | apply pw_below_drewN | apply below_drew1 | refine below_set ?_ GE275.out | refine below_set ?_ GE283.out) | exact HB.out)))); have n2_ := am_ (blk_below (g := gb275) (o := .cells #[.string a0_0, .int .u16 a0_1, .int .u16 a0_2] 32 (0, 0)) (by (with_reducible repeat (first | refine blk_drewN ?_ _ | refine blk_drew ?_ | refine blk_alloc ?_ _)); refine blk_far ?_ NB275_283.out _; (with_reducible repeat (first | refine blk_drewN ?_ _ | refine blk_drew ?_ | refine blk_alloc ?_ _)); refine blk_far ?_ NB275_283.out _; (with_reducible repeat (first | refine blk_drewN ?_ _ | refine blk_drew ?_ | refine blk_alloc ?_ _)); refine blk_far ?_ NB275_283.out _; (with_reducible repeat (first | refine blk_drewN ?_ _ | refine blk_drew ?_ | refine blk_alloc ?_ _)); exact BK275.out) hb); have n3_ := am_ (blk_below (g := gb283) (o := .cells #[.string t279, .int .u16 t280, .int .u16 t281] 32 (0, 0)) (by (with_reducible repeat (first | refine blk_drewN ?_ _ | refine blk_drew ?_ | refine blk_alloc ?_ _)); refine blk_put (cs := #[.string t279, .int .u16 t280, .int .u16 0]) ?_ 2 _ rfl; (with_reducible repeat (first | refine blk_drewN ?_ _ | refine blk_drew ?_ | refine blk_alloc ?_ _)); refine blk_put (cs := #[.string t279, .int .u16 0, .int .u16 0]) ?_ 1 _ rfl; (with_reducible repeat (first | refine blk_drewN ?_ _ | refine blk_drew ?_ | refine blk_alloc ?_ _)); refine blk_put (cs := #[.string (⟨#[]⟩ : ByteArray), .int .u16 0, .int .u16 0]) ?_ 0 _ rfl; (with_reducible repeat (first | refine blk_drewN ?_ _ | refine blk_drew ?_ | refine blk_alloc ?_ _)); exact BK283.out) hb); have n4_ := am_ (below_step (by repeat (first | (with_reducible first | exact HB.out | apply below_alloc | apply pw_below_drewN | apply below_drew1 | refine below_set ?_ GE275.out | refine below_set ?_ GE283.out) | exact HB.out)) hb); clear HO278; clear BK275; clear BK283; clear HB; have HO278 := n0_; have HO287 := n1_; have BK275 := n2_; have BK283 := n3_; have HB := n4_; clear n0_ n1_ n2_ n3_ n4_; clear hb ho155; have hcz156_0 : w154.cell? ⟨gb283, 0, none⟩ = some (.string t279) := (blk_cell BK283.out 0).trans rfl; have hcz156_1 : w154.cell? ⟨gb283, 1, none⟩ = some (.int .u16 t280) := (blk_cell BK283.out 1).trans rfl; have hcz156_2 : w154.cell? ⟨gb283, 2, none⟩ = some (.int .u16 t281) := (blk_cell BK283.out 2).trans rfl; have hfz156_0 := blk_frozen BK283.out 0; have hfz156_1 := blk_frozen BK283.out 1; have hfz156_2 := blk_frozen BK283.out 2; obtain ⟨Ao157, co157, eo157⟩ := Kd.R_slice HO287.out; subst eo157) | ((with_reducible refine gate_callee (f := 16) rfl ?_); refine goesL_ (some 54) rfl rfl Try.func16 (by kernel_rfl) rfl #[.slice Ao157 y285.length co157, .agg #[.string t279, .int .u16 t280, .int .u16 t281]] rfl (by (try simp only [List.map_toArray, List.map_cons, List.map_nil]); first | done | rfl | (simp only [List.length_drop, List.length_take]; rfl)) ?_; (with_reducible refine (rewrite_Ask.calls _ _ y285 t279 t280 t281 t288 t289 t290 false _ ?side1 ?side2 A17.out).mono ?_); (case side1 => repeat (first | exact (Kd.R_reads' HO287.out).2.2 | (with_reducible refine Kd.C_alloc ?_ _) | (with_reducible refine Kd.C_drewN ?_ _) | (with_reducible refine Kd.C_drew ?_))); (case side2 => exact (Kd.R_reads' HO287.out).2.1); rintro e w158 ⟨rfl, hb⟩; refine ⟨_, rfl, ?_⟩; have n0_ := am_ (Kd.R_below (by (with_reducible repeat (first | apply Kd.R_alloc | apply Kd.R_drewN | apply Kd.R_drew)); exact HO278.out) hb); have n1_ := am_ (Kd.R_below (by (with_reducible repeat (first | apply Kd.R_alloc | apply Kd.R_drewN | apply Kd.R_drew)); exact HO287.out) hb); have n2_ := am_ (blk_below (g := gb275) (o := .cells #[.string a0_0, .int .u16 a0_1, .int .u16 a0_2] 32 (0, 0)) (by (with_reducible repeat (first | refine blk_drewN ?_ _ | refine blk_drew ?_ | refine blk_alloc ?_ _)); exact BK275.out) hb); have n3_ := am_ (blk_below (g := gb283) (o := .cells #[.string t279, .int .u16 t280, .int .u16 t281] 32 (0, 0)) (by (with_reducible repeat (first | refine blk_drewN ?_ _ | refine blk_drew ?_ | refine blk_alloc ?_ _)); exact BK283.out) hb); have n4_ := am_ (below_step (by repeat (first | (with_reducible first | exact HB.out | apply below_alloc | apply pw_below_drewN | apply below_drew1 | refine below_set ?_ GE275.out | refine below_set ?_ GE283.out) | exact HB.out)) hb); clear HO278; clear HO287; clear BK275; clear BK283; clear HB; have HO278 := n0_; have HO287 := n1_; have BK275 := n2_; have BK283 := n3_; have HB := n4_; clear n0_ n1_ n2_ n3_ n4_; (try clear hb); (try clear hb2); (try clear hk); (try clear hi)) | ((with_reducible refine gate_dst (N := 12) rfl ?_); (try (refine gate_guard (by rfl) ?_; dsimp only)); refine box_event ?hg (N := 12) ?hd (cs := #[.string (⟨#[]⟩ : ByteArray), .int .u16 0, .int .u16 0]) (t := 32) ?hr ?_; (case hd => rfl); (case hg => rfl); (case hr => first | (go_simp; done) | (go_simp; rfl)); intro gb292 hg w159 hbox hb; have n0_ := am_ (Kd.R_below (by (with_reducible repeat (first | apply Kd.R_alloc | apply Kd.R_drewN | apply Kd.R_drew)); exact HO278.out) hb); have n1_ := am_ (Kd.R_below (by (with_reducible repeat (first | apply Kd.R_alloc | apply Kd.R_drewN | apply Kd.R_drew)); exact HO287.out) hb); have n2_ := am_ (blk_below (g := gb275) (o := .cells #[.string a0_0, .int .u16 a0_1, .int .u16 a0_2] 32 (0, 0)) (by (with_reducible repeat (first | refine blk_drewN ?_ _ | refine blk_drew ?_ | refine blk_alloc ?_ _)); exact BK275.out) hb); have n3_ := am_ (blk_below (g := gb283) (o := .cells #[.string t279, .int .u16 t280, .int .u16 t281] 32 (0, 0)) (by (with_reducible repeat (first | refine blk_drewN ?_ _ | refine blk_drew ?_ | refine blk_alloc ?_ _)); exact BK283.out) hb); have n4_ := am_ (below_step (by repeat (first | (with_reducible first | exact HB.out | apply below_alloc | apply pw_below_drewN | apply below_drew1 | refine below_set ?_ GE275.out | refine below_set ?_ GE283.out) | exact HB.out)) hb); have n5_ := am_ (hbox); have n6_ := am_ ((by rw [hg]; exact (below_size (by repeat (first | (with_reducible first | exact HB.out | apply below_alloc | apply pw_below_drewN | apply below_drew1 | refine below_set ?_ GE275.out | refine below_set ?_ GE283.out) | exact HB.out))) : w.heap.size ≤ gb292)); have n7_ := am_ ((by rw [hg]; exact (below_size (by repeat (first | (with_reducible first | exact HB.out | apply below_alloc | apply pw_below_drewN | apply below_drew1 | refine below_set ?_ GE275.out | refine below_set ?_ GE283.out) | exact HB.out))) : w.heap.size ≤ gb292)); have n8_ := am_ ((by rw [hg]; exact Nat.ne_of_lt (blk_lt (g := gb275) (o := .cells #[.string a0_0, .int .u16 a0_1, .int .u16 a0_2] 32 (0, 0)) (by (with_reducible repeat (first | refine blk_drewN ?_ _ | refine blk_drew ?_ | refine blk_alloc ?_ _)); exact BK275.out)) : gb275 ≠ gb292)); have n9_ := am_ ((by rw [hg]; exact Nat.ne_of_gt (blk_lt (g := gb275) (o := .cells #[.string a0_0, .int .u16 a0_1, .int .u16 a0_2] 32 (0, 0)) (by (with_reducible repeat (first | refine blk_drewN ?_ _ | refine blk_drew ?_ | refine blk_alloc ?_ _)); exact BK275.out)) : gb292 ≠ gb275)); have n10_ := am_ ((by rw [hg]; exact Nat.ne_of_lt (blk_lt (g := gb283) (o := .cells #[.string t279, .int .u16 t280, .int .u16 t281] 32 (0, 0)) (by (with_reducible repeat (first | refine blk_drewN ?_ _ | refine blk_drew ?_ | refine blk_alloc ?_ _)); exact BK283.out)) : gb283 ≠ gb292)); have n11_ := am_ ((by rw [hg]; exact Nat.ne_of_gt (blk_lt (g := gb283) (o := .cells #[.string t279, .int .u16 t280, .int .u16 t281] 32 (0, 0)) (by (with_reducible repeat (first | refine blk_drewN ?_ _ | refine blk_drew ?_ | refine blk_alloc ?_ _)); exact BK283.out)) : gb292 ≠ gb283)); clear HO278; clear HO287; clear BK275; clear BK283; clear HB; have HO278 := n0_; have HO287 := n1_; have BK275 := n2_; have BK283 := n3_; have HB := n4_; have BK292 := n5_; have GW292 := n6_; have GE292 := n7_; have NB275_292 := n8_; have NB292_275 := n9_; have NB283_292 := n10_; have NB292_283 := n11_; clear n0_ n1_ n2_ n3_ n4_ n5_ n6_ n7_ n8_ n9_ n10_ n11_; clear hb hbox hg; have hnb160 := NB292_275.out; have hnc160 := NB275_292.out; have hnb161 := NB292_283.out; have hnc161 := NB283_292.out; have hcz162_0 : w159.cell? ⟨gb292, 0, none⟩ = some (.string (⟨#[]⟩ : ByteArray)) := (blk_cell BK292.out 0).trans rfl; have hcz162_1 : w159.cell? ⟨gb292, 1, none⟩ = some (.int .u16 0) := (blk_cell BK292.out 1).trans rfl; have hcz162_2 : w159.cell? ⟨gb292, 2, none⟩ = some (.int .u16 0) := (blk_cell BK292.out 2).trans rfl; have hfz162_0 := blk_frozen BK292.out 0; have hfz162_1 := blk_frozen BK292.out 1; have hfz162_2 := blk_frozen BK292.out 2))
 have n0_ : Aside0 (Kd.R k38 38 (((w159.setCell ⟨gb292, 0, none⟩ (.string t288)).setCell ⟨gb292, 1, none⟩ (.int .u16 t289)).setCell ⟨gb292, 2, none⟩ (.int .u16 t290)) w.heap.size (fun k_ => some k_ ≠ (.slice Ao157 y285.length co157 : Value).ownBlock) (.slice Ao149 y276.length co149) y276) := ⟨by (with_reducible repeat (first | apply Kd.R_alloc | apply Kd.R_drewN | apply Kd.R_drew)); exact Kd.R_mono (Kd.R_far (p := ⟨gb292, 2, none⟩) (Kd.R_far (p := ⟨gb292, 1, none⟩) (Kd.R_far (p := ⟨gb292, 0, none⟩) (Kd.R_types HO278.out BK292.out (by decide)) (fun _ hk => hk.2) (.string t288)) (fun _ hk => hk.2) (.int .u16 t289)) (fun _ hk => hk.2) (.int .u16 t290)) (fun _ hk => hk.1.2)⟩
 have n1_ : Aside0 (Kd.R k38 38 (((w159.setCell ⟨gb292, 0, none⟩ (.string t288)).setCell ⟨gb292, 1, none⟩ (.int .u16 t289)).setCell ⟨gb292, 2, none⟩ (.int .u16 t290)) w.heap.size (fun k_ => some k_ ≠ (.slice Ao149 y276.length co149 : Value).ownBlock) (.slice Ao157 y285.length co157) y285) := ⟨by (with_reducible repeat (first | apply Kd.R_alloc | apply Kd.R_drewN | apply Kd.R_drew)); exact Kd.R_mono (Kd.R_far (p := ⟨gb292, 2, none⟩) (Kd.R_far (p := ⟨gb292, 1, none⟩) (Kd.R_far (p := ⟨gb292, 0, none⟩) (Kd.R_types HO287.out BK292.out (by decide)) (fun _ hk => hk.2) (.string t288)) (fun _ hk => hk.2) (.int .u16 t289)) (fun _ hk => hk.2) (.int .u16 t290)) (fun _ hk => hk.1.2)⟩
 have n2_ : Aside0 ((((w159.setCell ⟨gb292, 0, none⟩ (.string t288)).setCell ⟨gb292, 1, none⟩ (.int .u16 t289)).setCell ⟨gb292, 2, none⟩ (.int .u16 t290)).heap[gb275]? = some (.cells #[.string a0_0, .int .u16 a0_1, .int .u16 a0_2] 32 (0, 0))) := ⟨by (with_reducible repeat (first | refine blk_drewN ?_ _ | refine blk_drew ?_ | refine blk_alloc ?_ _)); refine blk_far ?_ NB275_292.out _; (with_reducible repeat (first | refine blk_drewN ?_ _ | refine blk_drew ?_ | refine blk_alloc ?_ _)); refine blk_far ?_ NB275_292.out _; (with_reducible repeat (first | refine blk_drewN ?_ _ | refine blk_drew ?_ | refine blk_alloc ?_ _)); refine blk_far ?_ NB275_292.out _; (with_reducible repeat (first | refine blk_drewN ?_ _ | refine blk_drew ?_ | refine blk_alloc ?_ _)); exact BK275.out⟩
 have n3_ : Aside0 ((((w159.setCell ⟨gb292, 0, none⟩ (.string t288)).setCell ⟨gb292, 1, none⟩ (.int .u16 t289)).setCell ⟨gb292, 2, none⟩ (.int .u16 t290)).heap[gb283]? = some (.cells #[.string t279, .int .u16 t280, .int .u16 t281] 32 (0, 0))) := ⟨by (with_reducible repeat (first | refine blk_drewN ?_ _ | refine blk_drew ?_ | refine blk_alloc ?_ _)); refine blk_far ?_ NB283_292.out _; (with_reducible repeat (first | refine blk_drewN ?_ _ | refine blk_drew ?_ | refine blk_alloc ?_ _)); refine blk_far ?_ NB283_292.out _; (with_reducible repeat (first | refine blk_drewN ?_ _ | refine blk_drew ?_ | refine blk_alloc ?_ _)); refine blk_far ?_ NB283_292.out _; (with_reducible repeat (first | refine blk_drewN ?_ _ | refine blk_drew ?_ | refine blk_alloc ?_ _)); exact BK283.out⟩
 have n4_ : Aside0 ((((w159.setCell ⟨gb292, 0, none⟩ (.string t288)).setCell ⟨gb292, 1, none⟩ (.int .u16 t289)).setCell ⟨gb292, 2, none⟩ (.int .u16 t290)).heap[gb292]? = some (.cells #[.string t288, .int .u16 t289, .int .u16 t290] 32 (0, 0))) := ⟨by (with_reducible repeat (first | refine blk_drewN ?_ _ | refine blk_drew ?_ | refine blk_alloc ?_ _)); refine blk_put (cs := #[.string t288, .int .u16 t289, .int .u16 0]) ?_ 2 _ rfl; (with_reducible repeat (first | refine blk_drewN ?_ _ | refine blk_drew ?_ | refine blk_alloc ?_ _)); refine blk_put (cs := #[.string t288, .int .u16 0, .int .u16 0]) ?_ 1 _ rfl; (with_reducible repeat (first | refine blk_drewN ?_ _ | refine blk_drew ?_ | refine blk_alloc ?_ _)); refine blk_put (cs := #[.string (⟨#[]⟩ : ByteArray), .int .u16 0, .int .u16 0]) ?_ 0 _ rfl; (with_reducible repeat (first | refine blk_drewN ?_ _ | refine blk_drew ?_ | refine blk_alloc ?_ _)); exact BK292.out⟩
 have n5_ : Aside0 (Below w.heap.size w (((w159.setCell ⟨gb292, 0, none⟩ (.string t288)).setCell ⟨gb292, 1, none⟩ (.int .u16 t289)).setCell ⟨gb292, 2, none⟩ (.int .u16 t290))) := ⟨by repeat (first | (with_reducible first | exact HB.out | apply below_alloc | apply pw_below_drewN | apply below_drew1 | refine below_set ?_ GE275.out | refine below_set ?_ GE283.out | refine below_set ?_ GE292.out) | exact HB.out)⟩
 (try clear HO278)
 (try clear HO287)
 (try clear BK275)
 (try clear BK283)
 (try clear BK292)
 (try clear HB)
 generalize (((w159.setCell ⟨gb292, 0, none⟩ (.string t288)).setCell ⟨gb292, 1, none⟩ (.int .u16 t289)).setCell ⟨gb292, 2, none⟩ (.int .u16 t290)) = w163 at n0_ n1_ n2_ n3_ n4_ n5_ ⊢
 have HO278 := n0_
 have HO287 := n1_
 have BK275 := n2_
 have BK283 := n3_
 have BK292 := n4_
 have HB := n5_
 clear n0_ n1_ n2_ n3_ n4_ n5_
 have n0_ := am_ (Kd.R_drew HO278.out)
 have n1_ := am_ (Kd.R_drew HO287.out)
 have n2_ := am_ (blk_drew BK275.out)
 have n3_ := am_ (blk_drew BK283.out)
 have n4_ := am_ (blk_drew BK292.out)
 have n5_ := am_ (below_drew1 HB.out)
 clear HO278
 clear HO287
 clear BK275
 clear BK283
 clear BK292
 clear HB
 have HO278 := n0_
 have HO287 := n1_
 have BK275 := n2_
 have BK283 := n3_
 have BK292 := n4_
 have HB := n5_
 clear n0_ n1_ n2_ n3_ n4_ n5_
 refine start_ (n := 45) (S := fun w' => True) (ds := []) (bm_ 45 0) (by kernel_rfl) rfl rfl trivial (fun hHeld => ?_); refine with_tabW hearsaylaw25_RewriteThere.tab10 hearsaylaw25_RewriteThere.bits10 (fun HT_ HW_ => ?_)
 generalize w163.drew = w164 at HO278 HO287 BK275 BK283 BK292 HB hHeld ⊢
 refine pure_ (i := 0) (N := some 57) (v := ?_) (a' := ?_) (bm_ 45 1) rfl rfl (any_of HT_.out (by kernel_rfl)) (fun _ _ _ h => h) (Or.inl ⟨by rfl, ?_⟩) ?_ ?_
 rotate_left
 {
 intro w'
 go_simp
 with_reducible rfl }
 rotate_left
 {
 simp only [Act.put, sA_, s0_, sS_, i64_w, i32_w]
 rfl }
 refine pure_ (i := 1) (N := some 58) (v := ?_) (a' := ?_) (bm_ 45 3) rfl rfl (any_of HT_.out (by kernel_rfl)) (fun _ _ _ h => h) (Or.inl ⟨by rfl, ?_⟩) ?_ ?_
 rotate_left
 {
 intro w'
 go_simp
 with_reducible rfl }
 rotate_left
 {
 simp only [Act.put, sA_, s0_, sS_, i64_w, i32_w]
 rfl }
 refine pure_ (i := 2) (N := some 59) (v := undef) (a' := ?_) (bm_ 45 7) rfl rfl (any_of HT_.out (by kernel_rfl)) (fun _ _ _ h => h) (Or.inr ⟨by rfl, rfl⟩) ?_ ?_
 rotate_left
 {
 simp only [Act.put, sA_, s0_, sS_, i64_w, i32_w]
 rfl }
 refine pure_ (i := 3) (N := some 60) (v := undef) (a' := ?_) (bm_ 45 15) rfl rfl (any_of HT_.out (by kernel_rfl)) (fun _ _ _ h => h) (Or.inr ⟨by rfl, rfl⟩) ?_ ?_
 rotate_left
 {
 simp only [Act.put, sA_, s0_, sS_, i64_w, i32_w]
 rfl }
 refine pure_ (i := 4) (N := some 61) (v := undef) (a' := ?_) (bm_ 45 31) rfl rfl (any_of HT_.out (by kernel_rfl)) (fun _ _ _ h => h) (Or.inr ⟨by rfl, rfl⟩) ?_ ?_
 rotate_left
 {
 simp only [Act.put, sA_, s0_, sS_, i64_w, i32_w]
 rfl }
 refine pure_ (i := 5) (N := some 62) (v := undef) (a' := ?_) (bm_ 45 63) rfl rfl (any_of HT_.out (by kernel_rfl)) (fun _ _ _ h => h) (Or.inr ⟨by rfl, rfl⟩) ?_ ?_
 rotate_left
 {
 simp only [Act.put, sA_, s0_, sS_, i64_w, i32_w]
 rfl }
 refine pure_ (i := 6) (N := some 63) (v := undef) (a' := ?_) (bm_ 45 127) rfl rfl (any_of HT_.out (by kernel_rfl)) (fun _ _ _ h => h) (Or.inr ⟨by rfl, rfl⟩) ?_ ?_
 rotate_left
 {
 simp only [Act.put, sA_, s0_, sS_, i64_w, i32_w]
 rfl }
 refine pure_ (i := 7) (N := some 64) (v := ?_) (a' := ?_) (bm_ 45 255) rfl rfl (any_of HT_.out (by kernel_rfl)) (fun _ _ _ h => h) (Or.inl ⟨by rfl, ?_⟩) ?_ ?_
 rotate_left
 {
 intro w'
 go_simp
 with_reducible rfl }
 rotate_left
 {
 simp only [Act.put, sA_, s0_, sS_, i64_w, i32_w]
 rfl }
 refine pure_ (i := 8) (N := some 65) (v := ?_) (a' := ?_) (bm_ 45 511) rfl rfl (any_of HT_.out (by kernel_rfl)) (fun _ _ _ h => h) (Or.inl ⟨by rfl, ?_⟩) ?_ ?_
 rotate_left
 {
 intro w'
 go_simp
 with_reducible rfl }
 rotate_left
 {
 simp only [Act.put, sA_, s0_, sS_, i64_w, i32_w]
 rfl }
 refine pure_ (i := 9) (N := some 66) (v := undef) (a' := ?_) (bm_ 45 1023) rfl rfl (any_of HT_.out (by kernel_rfl)) (fun _ _ _ h => h) (Or.inr ⟨by rfl, rfl⟩) ?_ ?_
 rotate_left
 {
 simp only [Act.put, sA_, s0_, sS_, i64_w, i32_w]
 rfl }
 refine pure_ (i := 10) (N := some 67) (v := undef) (a' := ?_) (bm_ 45 2047) rfl rfl (any_of HT_.out (by kernel_rfl)) (fun _ _ _ h => h) (Or.inr ⟨by rfl, rfl⟩) ?_ ?_
 rotate_left
 {
 simp only [Act.put, sA_, s0_, sS_, i64_w, i32_w]
 rfl }
 refine pure_ (i := 11) (N := some 68) (v := undef) (a' := ?_) (bm_ 45 4095) rfl rfl (any_of HT_.out (by kernel_rfl)) (fun _ _ _ h => h) (Or.inr ⟨by rfl, rfl⟩) ?_ ?_
 rotate_left
 {
 simp only [Act.put, sA_, s0_, sS_, i64_w, i32_w]
 rfl }
 refine pure_ (i := 12) (N := some 69) (v := undef) (a' := ?_) (bm_ 45 8191) rfl rfl (any_of HT_.out (by kernel_rfl)) (fun _ _ _ h => h) (Or.inr ⟨by rfl, rfl⟩) ?_ ?_
 rotate_left
 {
 simp only [Act.put, sA_, s0_, sS_, i64_w, i32_w]
 rfl }
 refine pure_ (i := 13) (N := some 70) (v := undef) (a' := ?_) (bm_ 45 16383) rfl rfl (any_of HT_.out (by kernel_rfl)) (fun _ _ _ h => h) (Or.inr ⟨by rfl, rfl⟩) ?_ ?_
 rotate_left
 {
 simp only [Act.put, sA_, s0_, sS_, i64_w, i32_w]
 rfl }
 refine pure_ (i := 14) (N := some 71) (v := ?_) (a' := ?_) (bm_ 45 32767) rfl rfl (any_of HT_.out (by kernel_rfl)) (fun _ _ _ h => h) (Or.inl ⟨by rfl, ?_⟩) ?_ ?_
 rotate_left
 {
 intro w'
 go_simp
 with_reducible rfl }
 rotate_left
 {
 simp only [Act.put, sA_, s0_, sS_, i64_w, i32_w]
 rfl }
 refine pure_ (i := 15) (N := some 72) (v := ?_) (a' := ?_) (bm_ 45 65535) rfl rfl (any_of HT_.out (by kernel_rfl)) (fun _ _ _ h => h) (Or.inl ⟨by rfl, ?_⟩) ?_ ?_
 rotate_left
 {
 intro w'
 go_simp
 with_reducible rfl }
 rotate_left
 {
 simp only [Act.put, sA_, s0_, sS_, i64_w, i32_w]
 rfl }
 refine pure_ (i := 16) (N := some 73) (v := undef) (a' := ?_) (bm_ 45 131071) rfl rfl (any_of HT_.out (by kernel_rfl)) (fun _ _ _ h => h) (Or.inr ⟨by rfl, rfl⟩) ?_ ?_
 rotate_left
 {
 simp only [Act.put, sA_, s0_, sS_, i64_w, i32_w]
 rfl }
 refine pure_ (i := 17) (N := some 74) (v := undef) (a' := ?_) (bm_ 45 262143) rfl rfl (any_of HT_.out (by kernel_rfl)) (fun _ _ _ h => h) (Or.inr ⟨by rfl, rfl⟩) ?_ ?_
 rotate_left
 {
 simp only [Act.put, sA_, s0_, sS_, i64_w, i32_w]
 rfl }
 refine pure_ (i := 18) (N := some 75) (v := undef) (a' := ?_) (bm_ 45 524287) rfl rfl (any_of HT_.out (by kernel_rfl)) (fun _ _ _ h => h) (Or.inr ⟨by rfl, rfl⟩) ?_ ?_
 rotate_left
 {
 simp only [Act.put, sA_, s0_, sS_, i64_w, i32_w]
 rfl }
 refine pure_ (i := 19) (N := some 76) (v := undef) (a' := ?_) (bm_ 45 1048575) rfl rfl (any_of HT_.out (by kernel_rfl)) (fun _ _ _ h => h) (Or.inr ⟨by rfl, rfl⟩) ?_ ?_
 rotate_left
 {
 simp only [Act.put, sA_, s0_, sS_, i64_w, i32_w]
 rfl }
 refine pure_ (i := 20) (N := some 77) (v := undef) (a' := ?_) (bm_ 45 2097151) rfl rfl (any_of HT_.out (by kernel_rfl)) (fun _ _ _ h => h) (Or.inr ⟨by rfl, rfl⟩) ?_ ?_
 rotate_left
 {
 simp only [Act.put, sA_, s0_, sS_, i64_w, i32_w]
 rfl }
 refine pure_ (i := 21) (N := some 78) (v := ?_) (a' := ?_) (bm_ 45 4194303) rfl rfl (any_of HT_.out (by kernel_rfl)) (fun _ _ _ h => h) (Or.inl ⟨by rfl, ?_⟩) ?_ ?_
 rotate_left
 {
 intro w'
 go_simp
 with_reducible rfl }
 rotate_left
 {
 simp only [Act.put, sA_, s0_, sS_, i64_w, i32_w]
 rfl }
 refine pure_ (i := 22) (N := some 79) (v := ?_) (a' := ?_) (bm_ 45 8388607) rfl rfl (any_of HT_.out (by kernel_rfl)) (fun _ _ _ h => h) (Or.inl ⟨by rfl, ?_⟩) ?_ ?_
 rotate_left
 {
 intro w'
 go_simp
 with_reducible rfl }
 rotate_left
 {
 simp only [Act.put, sA_, s0_, sS_, i64_w, i32_w]
 rfl }
 refine pure_ (i := 23) (N := some 80) (v := undef) (a' := ?_) (bm_ 45 16777215) rfl rfl (any_of HT_.out (by kernel_rfl)) (fun _ _ _ h => h) (Or.inr ⟨by rfl, rfl⟩) ?_ ?_
 rotate_left
 {
 simp only [Act.put, sA_, s0_, sS_, i64_w, i32_w]
 rfl }
 refine pure_ (i := 24) (N := some 81) (v := undef) (a' := ?_) (bm_ 45 33554431) rfl rfl (any_of HT_.out (by kernel_rfl)) (fun _ _ _ h => h) (Or.inr ⟨by rfl, rfl⟩) ?_ ?_
 rotate_left
 {
 simp only [Act.put, sA_, s0_, sS_, i64_w, i32_w]
 rfl }
 refine pure_ (i := 25) (N := some 82) (v := undef) (a' := ?_) (bm_ 45 67108863) rfl rfl (any_of HT_.out (by kernel_rfl)) (fun _ _ _ h => h) (Or.inr ⟨by rfl, rfl⟩) ?_ ?_
 rotate_left
 {
 simp only [Act.put, sA_, s0_, sS_, i64_w, i32_w]
 rfl }
 refine pure_ (i := 26) (N := some 83) (v := undef) (a' := ?_) (bm_ 45 134217727) rfl rfl (any_of HT_.out (by kernel_rfl)) (fun _ _ _ h => h) (Or.inr ⟨by rfl, rfl⟩) ?_ ?_
 rotate_left
 {
 simp only [Act.put, sA_, s0_, sS_, i64_w, i32_w]
 rfl }
 refine pure_ (i := 27) (N := some 84) (v := undef) (a' := ?_) (bm_ 45 268435455) rfl rfl (any_of HT_.out (by kernel_rfl)) (fun _ _ _ h => h) (Or.inr ⟨by rfl, rfl⟩) ?_ ?_
 rotate_left
 {
 simp only [Act.put, sA_, s0_, sS_, i64_w, i32_w]
 rfl }
 refine pure_ (i := 28) (N := some 85) (v := undef) (a' := ?_) (bm_ 45 536870911) rfl rfl (any_of HT_.out (by kernel_rfl)) (fun _ _ _ h => h) (Or.inr ⟨by rfl, rfl⟩) ?_ ?_
 rotate_left
 {
 simp only [Act.put, sA_, s0_, sS_, i64_w, i32_w]
 rfl }
 refine pure_ (i := 29) (N := some 86) (v := undef) (a' := ?_) (bm_ 45 1073741823) rfl rfl (any_of HT_.out (by kernel_rfl)) (fun _ _ _ h => h) (Or.inr ⟨by rfl, rfl⟩) ?_ ?_
 rotate_left
 {
 simp only [Act.put, sA_, s0_, sS_, i64_w, i32_w]
 rfl }
 refine pure_ (i := 30) (N := some 87) (v := undef) (a' := ?_) (bm_ 45 2147483647) rfl rfl (any_of HT_.out (by kernel_rfl)) (fun _ _ _ h => h) (Or.inr ⟨by rfl, rfl⟩) ?_ ?_
 rotate_left
 {
 simp only [Act.put, sA_, s0_, sS_, i64_w, i32_w]
 rfl }
 refine pure_ (i := 31) (N := some 88) (v := undef) (a' := ?_) (bm_ 45 4294967295) rfl rfl (any_of HT_.out (by kernel_rfl)) (fun _ _ _ h => h) (Or.inr ⟨by rfl, rfl⟩) ?_ ?_
 rotate_left
 {
 simp only [Act.put, sA_, s0_, sS_, i64_w, i32_w]
 rfl }
 refine pure_ (i := 32) (N := some 89) (v := undef) (a' := ?_) (bm_ 45 8589934591) rfl rfl (any_of HT_.out (by kernel_rfl)) (fun _ _ _ h => h) (Or.inr ⟨by rfl, rfl⟩) ?_ ?_
 rotate_left
 {
 simp only [Act.put, sA_, s0_, sS_, i64_w, i32_w]
 rfl }
 refine pure_ (i := 33) (N := some 90) (v := undef) (a' := ?_) (bm_ 45 17179869183) rfl rfl (any_of HT_.out (by kernel_rfl)) (fun _ _ _ h => h) (Or.inr ⟨by rfl, rfl⟩) ?_ ?_
 rotate_left
 {
 simp only [Act.put, sA_, s0_, sS_, i64_w, i32_w]
 rfl }
 refine pure_ (i := 34) (N := some 91) (v := undef) (a' := ?_) (bm_ 45 34359738367) rfl rfl (any_of HT_.out (by kernel_rfl)) (fun _ _ _ h => h) (Or.inr ⟨by rfl, rfl⟩) ?_ ?_
 rotate_left
 {
 simp only [Act.put, sA_, s0_, sS_, i64_w, i32_w]
 rfl }
 refine pure_ (i := 35) (N := some 92) (v := undef) (a' := ?_) (bm_ 45 68719476735) rfl rfl (any_of HT_.out (by kernel_rfl)) (fun _ _ _ h => h) (Or.inr ⟨by rfl, rfl⟩) ?_ ?_
 rotate_left
 {
 simp only [Act.put, sA_, s0_, sS_, i64_w, i32_w]
 rfl }
 refine pure_ (i := 36) (N := some 93) (v := undef) (a' := ?_) (bm_ 45 137438953471) rfl rfl (any_of HT_.out (by kernel_rfl)) (fun _ _ _ h => h) (Or.inr ⟨by rfl, rfl⟩) ?_ ?_
 rotate_left
 {
 simp only [Act.put, sA_, s0_, sS_, i64_w, i32_w]
 rfl }
 refine pure_ (i := 37) (N := some 94) (v := undef) (a' := ?_) (bm_ 45 274877906943) rfl rfl (any_of HT_.out (by kernel_rfl)) (fun _ _ _ h => h) (Or.inr ⟨by rfl, rfl⟩) ?_ ?_
 rotate_left
 {
 simp only [Act.put, sA_, s0_, sS_, i64_w, i32_w]
 rfl }
 refine pure_ (i := 38) (N := some 95) (v := undef) (a' := ?_) (bm_ 45 549755813887) rfl rfl (any_of HT_.out (by kernel_rfl)) (fun _ _ _ h => h) (Or.inr ⟨by rfl, rfl⟩) ?_ ?_
 rotate_left
 {
 simp only [Act.put, sA_, s0_, sS_, i64_w, i32_w]
 rfl }
 refine pure_ (i := 39) (N := some 96) (v := undef) (a' := ?_) (bm_ 45 1099511627775) rfl rfl (any_of HT_.out (by kernel_rfl)) (fun _ _ _ h => h) (Or.inr ⟨by rfl, rfl⟩) ?_ ?_
 rotate_left
 {
 simp only [Act.put, sA_, s0_, sS_, i64_w, i32_w]
 rfl }
 refine pure_ (i := 40) (N := some 97) (v := ?_) (a' := ?_) (bm_ 45 2199023255551) rfl rfl (any_of HT_.out (by kernel_rfl)) (fun _ _ _ h => h) (Or.inl ⟨by rfl, ?_⟩) ?_ ?_
 rotate_left
 {
 intro w'
 go_simp
 with_reducible rfl }
 rotate_left
 {
 simp only [Act.put, sA_, s0_, sS_, i64_w, i32_w]
 rfl }
 refine pure_ (i := 41) (N := some 98) (v := ?_) (a' := ?_) (bm_ 45 4398046511103) rfl rfl (any_of HT_.out (by kernel_rfl)) (fun _ _ _ h => h) (Or.inl ⟨by rfl, ?_⟩) ?_ ?_
 rotate_left
 {
 intro w'
 go_simp
 with_reducible rfl }
 rotate_left
 {
 simp only [Act.put, sA_, s0_, sS_, i64_w, i32_w]
 rfl }
 refine pure_ (i := 42) (N := some 99) (v := undef) (a' := ?_) (bm_ 45 8796093022207) rfl rfl (any_of HT_.out (by kernel_rfl)) (fun _ _ _ h => h) (Or.inr ⟨by rfl, rfl⟩) ?_ ?_
 rotate_left
 {
 simp only [Act.put, sA_, s0_, sS_, i64_w, i32_w]
 rfl }
 refine pure_ (i := 43) (N := some 100) (v := ?_) (a' := ?_) (bm_ 45 17592186044415) rfl rfl (any_of HT_.out (by kernel_rfl)) (fun _ _ _ h => h) (Or.inl ⟨by rfl, ?_⟩) ?_ ?_
 rotate_left
 {
 intro w'
 go_simp
 with_reducible rfl }
 rotate_left
 {
 simp only [Act.put, sA_, s0_, sS_, i64_w, i32_w]
 rfl }
 refine pure_ (i := 44) (N := some 8) (v := ?_) (a' := ?_) (bm_ 45 35184372088831) rfl rfl (any_of HT_.out (by kernel_rfl)) (fun _ _ _ h => h) (Or.inl ⟨by rfl, ?_⟩) ?_ ?_
 rotate_left
 {
 intro w'
 go_simp
 with_reducible rfl }
 rotate_left
 {
 simp only [Act.put, sA_, s0_, sS_, i64_w, i32_w]
 rfl }
 refine done_ (done_of HT_.out (by kernel_rfl)) ?_
 try go_wp2
 go_ret
 exact ⟨by first | rfl | (simp [errW_none, errW_some] <;> rfl) | (simp [*, errW_none, errW_some] <;> rfl), by repeat (first | (with_reducible first | exact HB.out | apply below_alloc | apply pw_below_drewN | apply below_drew1 | refine below_set ?_ GE275.out | refine below_set ?_ GE283.out | refine below_set ?_ GE292.out) | exact HB.out)⟩ }}
 {
 replace c16 := Bool.eq_false_iff.mpr c16
 subst c16
 have H1 : (if (t279.toList == ([] : List UInt8) && (t280 == 0 && (t281 == 0))) = true then ((hearsaylaw25_asks.f).bind fun t284 => (some t284)) else (some false)) = some r := by rw [if_neg (show ¬ (false = true) by decide)] at H; exact H
 clear H
 have H := H1
 clear H1
 by_cases c165 : (t279.toList == ([] : List UInt8) && (t280 == 0 && (t281 == 0))) = true
 {
 rw [if_pos c165] at H
 have c165b0 : (t279.toList == ([] : List UInt8) && (t280 == 0 && (t281 == 0))) = true := c165
 have c165b7 : (t279.toList.isEmpty && (t280 == 0 && (t281 == 0))) = true := by simpa using c165
 (try (have c165b1 : decide (t279.toList = ([] : List UInt8) && (t280 == 0 && (t281 == 0))) = true := by simpa using c165))
 (try (have c165b2 : (t279.toList == ([] : List UInt8) && (t280 == 0 && (t281 == 0))) = true := by simpa using c165))
 clear c165
 replace H := Option.bind_eq_some_iff.mp H
 obtain ⟨t284, A1660, H⟩ := H
 replace H : (some t284) = some r := H
 have A166 := am_ A1660
 clear A1660
 obtain rfl := Option.some.inj H
 go_wp2_with (first | ((with_reducible refine gate_dst (N := 34) rfl ?_); (try (refine gate_guard (by rfl) ?_; dsimp only)); refine Kd.R_lit k38 _ 38 ?hg (N := 34) ?hd (xs := ([(⟨x9_12, a1, a2, 0, 0⟩ : S38)] : List (S38))) (inner := [.int .u8 x9_12, .string a1, .string a2, .int .u16 0, .int .u16 0]) (ok := fun _ => True) (okp := fun _ => True) ?hr ?hp (fun _ hk => hk) trivial (Below.refl _ _) (Nat.le_refl _) (by simp) ?_; (case hd => rfl); (case hg => rfl); (case hr => first | (go_simp; done) | (go_simp; rfl)); (case hp => exact (Reps.c5 (show Kd.M k38 _ _ _ (⟨x9_12, a1, a2, 0, 0⟩ : S38) [.int .u8 x9_12, .string a1, .string a2, .int .u16 0, .int .u16 0] from (k38_mkM _ _ _ (⟨x9_12, a1, a2, 0, 0⟩ : S38) )) (Reps.none _ _))); intro v277 w167 ho168 hb hg_ hnew_; clear hg_ hnew_; (first | rw [← Ny276.out] at ho168 | (simp only [Int.reduceToNat] at ho168; rw [← Ny276.out] at ho168)); have n0_ := am_ (Kd.R_lower ho168 (below_size (by repeat (first | (with_reducible first | exact HB.out | apply below_alloc | apply pw_below_drewN | apply below_drew1 | refine below_set ?_ GE275.out) | exact HB.out)))); have n1_ := am_ (blk_below (g := gb275) (o := .cells #[.string a0_0, .int .u16 a0_1, .int .u16 a0_2] 32 (0, 0)) (by (with_reducible repeat (first | refine blk_drewN ?_ _ | refine blk_drew ?_ | refine blk_alloc ?_ _)); exact BK275.out) hb); have n2_ := am_ (below_step (by repeat (first | (with_reducible first | exact HB.out | apply below_alloc | apply pw_below_drewN | apply below_drew1 | refine below_set ?_ GE275.out) | exact HB.out)) hb); clear BK275; clear HB; have HO278 := n0_; have BK275 := n1_; have HB := n2_; clear n0_ n1_ n2_; clear hb ho168; have hcz169_0 : w167.cell? ⟨gb275, 0, none⟩ = some (.string a0_0) := (blk_cell BK275.out 0).trans rfl; have hcz169_1 : w167.cell? ⟨gb275, 1, none⟩ = some (.int .u16 a0_1) := (blk_cell BK275.out 1).trans rfl; have hcz169_2 : w167.cell? ⟨gb275, 2, none⟩ = some (.int .u16 a0_2) := (blk_cell BK275.out 2).trans rfl; have hfz169_0 := blk_frozen BK275.out 0; have hfz169_1 := blk_frozen BK275.out 1; have hfz169_2 := blk_frozen BK275.out 2; obtain ⟨Ao170, co170, eo170⟩ := Kd.R_slice HO278.out; subst eo170) | ((with_reducible refine gate_callee (f := 16) rfl ?_); refine goesL_ (some 36) rfl rfl Try.func16 (by kernel_rfl) rfl #[.slice Ao170 y276.length co170, .agg #[.string a0_0, .int .u16 a0_1, .int .u16 a0_2]] rfl (by (try simp only [List.map_toArray, List.map_cons, List.map_nil]); first | done | rfl | (simp only [List.length_drop, List.length_take]; rfl)) ?_; (with_reducible refine (rewrite_Ask.calls _ _ y276 a0_0 a0_1 a0_2 t279 t280 t281 false _ ?side1 ?side2 A15.out).mono ?_); (case side1 => repeat (first | exact (Kd.R_reads' HO278.out).2.2 | (with_reducible refine Kd.C_alloc ?_ _) | (with_reducible refine Kd.C_drewN ?_ _) | (with_reducible refine Kd.C_drew ?_))); (case side2 => exact (Kd.R_reads' HO278.out).2.1); rintro e w171 ⟨rfl, hb⟩; refine ⟨_, rfl, ?_⟩; have n0_ := am_ (Kd.R_below (by (with_reducible repeat (first | apply Kd.R_alloc | apply Kd.R_drewN | apply Kd.R_drew)); exact HO278.out) hb); have n1_ := am_ (blk_below (g := gb275) (o := .cells #[.string a0_0, .int .u16 a0_1, .int .u16 a0_2] 32 (0, 0)) (by (with_reducible repeat (first | refine blk_drewN ?_ _ | refine blk_drew ?_ | refine blk_alloc ?_ _)); exact BK275.out) hb); have n2_ := am_ (below_step (by repeat (first | (with_reducible first | exact HB.out | apply below_alloc | apply pw_below_drewN | apply below_drew1 | refine below_set ?_ GE275.out) | exact HB.out)) hb); clear HO278; clear BK275; clear HB; have HO278 := n0_; have BK275 := n1_; have HB := n2_; clear n0_ n1_ n2_; (try clear hb); (try clear hb2); (try clear hk); (try clear hi)) | ((with_reducible refine gate_dst (N := 10) rfl ?_); (try (refine gate_guard (by rfl) ?_; dsimp only)); refine box_event ?hg (N := 10) ?hd (cs := #[.string (⟨#[]⟩ : ByteArray), .int .u16 0, .int .u16 0]) (t := 32) ?hr ?_; (case hd => rfl); (case hg => rfl); (case hr => first | (go_simp; done) | (go_simp; rfl)); intro gb283 hg w172 hbox hb; have n0_ := am_ (Kd.R_below (by (with_reducible repeat (first | apply Kd.R_alloc | apply Kd.R_drewN | apply Kd.R_drew)); exact HO278.out) hb); have n1_ := am_ (blk_below (g := gb275) (o := .cells #[.string a0_0, .int .u16 a0_1, .int .u16 a0_2] 32 (0, 0)) (by (with_reducible repeat (first | refine blk_drewN ?_ _ | refine blk_drew ?_ | refine blk_alloc ?_ _)); exact BK275.out) hb); have n2_ := am_ (below_step (by repeat (first | (with_reducible first | exact HB.out | apply below_alloc | apply pw_below_drewN | apply below_drew1 | refine below_set ?_ GE275.out) | exact HB.out)) hb); have n3_ := am_ (hbox); have n4_ := am_ ((by rw [hg]; exact (below_size (by repeat (first | (with_reducible first | exact HB.out | apply below_alloc | apply pw_below_drewN | apply below_drew1 | refine below_set ?_ GE275.out) | exact HB.out))) : w.heap.size ≤ gb283)); have n5_ := am_ ((by rw [hg]; exact (below_size (by repeat (first | (with_reducible first | exact HB.out | apply below_alloc | apply pw_below_drewN | apply below_drew1 | refine below_set ?_ GE275.out) | exact HB.out))) : w.heap.size ≤ gb283)); have n6_ := am_ ((by rw [hg]; exact Nat.ne_of_lt (blk_lt (g := gb275) (o := .cells #[.string a0_0, .int .u16 a0_1, .int .u16 a0_2] 32 (0, 0)) (by (with_reducible repeat (first | refine blk_drewN ?_ _ | refine blk_drew ?_ | refine blk_alloc ?_ _)); exact BK275.out)) : gb275 ≠ gb283)); have n7_ := am_ ((by rw [hg]; exact Nat.ne_of_gt (blk_lt (g := gb275) (o := .cells #[.string a0_0, .int .u16 a0_1, .int .u16 a0_2] 32 (0, 0)) (by (with_reducible repeat (first | refine blk_drewN ?_ _ | refine blk_drew ?_ | refine blk_alloc ?_ _)); exact BK275.out)) : gb283 ≠ gb275)); clear HO278; clear BK275; clear HB; have HO278 := n0_; have BK275 := n1_; have HB := n2_; have BK283 := n3_; have GW283 := n4_; have GE283 := n5_; have NB275_283 := n6_; have NB283_275 := n7_; clear n0_ n1_ n2_ n3_ n4_ n5_ n6_ n7_; clear hb hbox hg; have hnb173 := NB283_275.out; have hnc173 := NB275_283.out; have hcz174_0 : w172.cell? ⟨gb283, 0, none⟩ = some (.string (⟨#[]⟩ : ByteArray)) := (blk_cell BK283.out 0).trans rfl; have hcz174_1 : w172.cell? ⟨gb283, 1, none⟩ = some (.int .u16 0) := (blk_cell BK283.out 1).trans rfl; have hcz174_2 : w172.cell? ⟨gb283, 2, none⟩ = some (.int .u16 0) := (blk_cell BK283.out 2).trans rfl; have hfz174_0 := blk_frozen BK283.out 0; have hfz174_1 := blk_frozen BK283.out 1; have hfz174_2 := blk_frozen BK283.out 2) | (go_at_call 15; (with_reducible refine (hearsaylaw25_asks.calls  t284 _ A166.out).mono ?_); rintro e w175 ⟨rfl, hb⟩; have n0_ := am_ (Kd.R_below (by (with_reducible repeat (first | apply Kd.R_alloc | apply Kd.R_drewN | apply Kd.R_drew)); exact (Kd.R_mono (Kd.R_far (p := ⟨gb283, 2, none⟩) (Kd.R_far (p := ⟨gb283, 1, none⟩) (Kd.R_far (p := ⟨gb283, 0, none⟩) (Kd.R_types HO278.out BK283.out (by decide)) (fun _ hk => hk.2) (.string t279)) (fun _ hk => hk.2) (.int .u16 t280)) (fun _ hk => hk.2) (.int .u16 t281)) (fun _ h_ => h_.1))) hb); have n1_ := am_ (blk_below (g := gb275) (o := .cells #[.string a0_0, .int .u16 a0_1, .int .u16 a0_2] 32 (0, 0)) (by (with_reducible repeat (first | refine blk_drewN ?_ _ | refine blk_drew ?_ | refine blk_alloc ?_ _)); refine blk_far ?_ NB275_283.out _; (with_reducible repeat (first | refine blk_drewN ?_ _ | refine blk_drew ?_ | refine blk_alloc ?_ _)); refine blk_far ?_ NB275_283.out _; (with_reducible repeat (first | refine blk_drewN ?_ _ | refine blk_drew ?_ | refine blk_alloc ?_ _)); refine blk_far ?_ NB275_283.out _; (with_reducible repeat (first | refine blk_drewN ?_ _ | refine blk_drew ?_ | refine blk_alloc ?_ _)); exact BK275.out) hb); have n2_ := am_ (blk_below (g := gb283) (o := .cells #[.string t279, .int .u16 t280, .int .u16 t281] 32 (0, 0)) (by (with_reducible repeat (first | refine blk_drewN ?_ _ | refine blk_drew ?_ | refine blk_alloc ?_ _)); refine blk_put (cs := #[.string t279, .int .u16 t280, .int .u16 0]) ?_ 2 _ rfl; (with_reducible repeat (first | refine blk_drewN ?_ _ | refine blk_drew ?_ | refine blk_alloc ?_ _)); refine blk_put (cs := #[.string t279, .int .u16 0, .int .u16 0]) ?_ 1 _ rfl; (with_reducible repeat (first | refine blk_drewN ?_ _ | refine blk_drew ?_ | refine blk_alloc ?_ _)); refine blk_put (cs := #[.string (⟨#[]⟩ : ByteArray), .int .u16 0, .int .u16 0]) ?_ 0 _ rfl; (with_reducible repeat (first | refine blk_drewN ?_ _ | refine blk_drew ?_ | refine blk_alloc ?_ _)); exact BK283.out) hb); have n3_ := am_ (below_step (by repeat (first | (with_reducible first | exact HB.out | apply below_alloc | apply pw_below_drewN | apply below_drew1 | refine below_set ?_ GE275.out | refine below_set ?_ GE283.out) | exact HB.out)) hb); clear HO278; clear BK275; clear BK283; clear HB; have HO278 := n0_; have BK275 := n1_; have BK283 := n2_; have HB := n3_; clear n0_ n1_ n2_ n3_; (try clear hb); (try clear hb2); (try clear hk); (try clear hi)))
 go_ret
 exact ⟨by first | rfl | (simp [errW_none, errW_some] <;> rfl) | (simp [*, errW_none, errW_some] <;> rfl), by repeat (first | (with_reducible first | exact HB.out | apply below_alloc | apply pw_below_drewN | apply below_drew1 | refine below_set ?_ GE275.out | refine below_set ?_ GE283.out) | exact HB.out)⟩ }
 {
 rw [if_neg c165] at H
 have c165b0 : (t279.toList == ([] : List UInt8) && (t280 == 0 && (t281 == 0))) = false := by simpa using c165
 have c165b7 : (t279.toList.isEmpty && (t280 == 0 && (t281 == 0))) = false := by simpa using c165
 (try (have c165b1 : decide (t279.toList = ([] : List UInt8) && (t280 == 0 && (t281 == 0))) = false := by simpa using c165))
 (try (have c165b2 : (t279.toList == ([] : List UInt8) && (t280 == 0 && (t281 == 0))) = false := by simpa using c165))
 (try (have c165b3 : ¬ (t279.toList = ([] : List UInt8) && (t280 == 0 && (t281 == 0))) := by simpa using c165))
 clear c165
 obtain rfl := Option.some.inj H
 go_wp2_with (first | ((with_reducible refine gate_dst (N := 34) rfl ?_); (try (refine gate_guard (by rfl) ?_; dsimp only)); refine Kd.R_lit k38 _ 38 ?hg (N := 34) ?hd (xs := ([(⟨x9_12, a1, a2, 0, 0⟩ : S38)] : List (S38))) (inner := [.int .u8 x9_12, .string a1, .string a2, .int .u16 0, .int .u16 0]) (ok := fun _ => True) (okp := fun _ => True) ?hr ?hp (fun _ hk => hk) trivial (Below.refl _ _) (Nat.le_refl _) (by simp) ?_; (case hd => rfl); (case hg => rfl); (case hr => first | (go_simp; done) | (go_simp; rfl)); (case hp => exact (Reps.c5 (show Kd.M k38 _ _ _ (⟨x9_12, a1, a2, 0, 0⟩ : S38) [.int .u8 x9_12, .string a1, .string a2, .int .u16 0, .int .u16 0] from (k38_mkM _ _ _ (⟨x9_12, a1, a2, 0, 0⟩ : S38) )) (Reps.none _ _))); intro v277 w176 ho177 hb hg_ hnew_; clear hg_ hnew_; (first | rw [← Ny276.out] at ho177 | (simp only [Int.reduceToNat] at ho177; rw [← Ny276.out] at ho177)); have n0_ := am_ (Kd.R_lower ho177 (below_size (by repeat (first | (with_reducible first | exact HB.out | apply below_alloc | apply pw_below_drewN | apply below_drew1 | refine below_set ?_ GE275.out) | exact HB.out)))); have n1_ := am_ (blk_below (g := gb275) (o := .cells #[.string a0_0, .int .u16 a0_1, .int .u16 a0_2] 32 (0, 0)) (by (with_reducible repeat (first | refine blk_drewN ?_ _ | refine blk_drew ?_ | refine blk_alloc ?_ _)); exact BK275.out) hb); have n2_ := am_ (below_step (by repeat (first | (with_reducible first | exact HB.out | apply below_alloc | apply pw_below_drewN | apply below_drew1 | refine below_set ?_ GE275.out) | exact HB.out)) hb); clear BK275; clear HB; have HO278 := n0_; have BK275 := n1_; have HB := n2_; clear n0_ n1_ n2_; clear hb ho177; have hcz178_0 : w176.cell? ⟨gb275, 0, none⟩ = some (.string a0_0) := (blk_cell BK275.out 0).trans rfl; have hcz178_1 : w176.cell? ⟨gb275, 1, none⟩ = some (.int .u16 a0_1) := (blk_cell BK275.out 1).trans rfl; have hcz178_2 : w176.cell? ⟨gb275, 2, none⟩ = some (.int .u16 a0_2) := (blk_cell BK275.out 2).trans rfl; have hfz178_0 := blk_frozen BK275.out 0; have hfz178_1 := blk_frozen BK275.out 1; have hfz178_2 := blk_frozen BK275.out 2; obtain ⟨Ao179, co179, eo179⟩ := Kd.R_slice HO278.out; subst eo179) | ((with_reducible refine gate_callee (f := 16) rfl ?_); refine goesL_ (some 36) rfl rfl Try.func16 (by kernel_rfl) rfl #[.slice Ao179 y276.length co179, .agg #[.string a0_0, .int .u16 a0_1, .int .u16 a0_2]] rfl (by (try simp only [List.map_toArray, List.map_cons, List.map_nil]); first | done | rfl | (simp only [List.length_drop, List.length_take]; rfl)) ?_; (with_reducible refine (rewrite_Ask.calls _ _ y276 a0_0 a0_1 a0_2 t279 t280 t281 false _ ?side1 ?side2 A15.out).mono ?_); (case side1 => repeat (first | exact (Kd.R_reads' HO278.out).2.2 | (with_reducible refine Kd.C_alloc ?_ _) | (with_reducible refine Kd.C_drewN ?_ _) | (with_reducible refine Kd.C_drew ?_))); (case side2 => exact (Kd.R_reads' HO278.out).2.1); rintro e w180 ⟨rfl, hb⟩; refine ⟨_, rfl, ?_⟩; have n0_ := am_ (Kd.R_below (by (with_reducible repeat (first | apply Kd.R_alloc | apply Kd.R_drewN | apply Kd.R_drew)); exact HO278.out) hb); have n1_ := am_ (blk_below (g := gb275) (o := .cells #[.string a0_0, .int .u16 a0_1, .int .u16 a0_2] 32 (0, 0)) (by (with_reducible repeat (first | refine blk_drewN ?_ _ | refine blk_drew ?_ | refine blk_alloc ?_ _)); exact BK275.out) hb); have n2_ := am_ (below_step (by repeat (first | (with_reducible first | exact HB.out | apply below_alloc | apply pw_below_drewN | apply below_drew1 | refine below_set ?_ GE275.out) | exact HB.out)) hb); clear HO278; clear BK275; clear HB; have HO278 := n0_; have BK275 := n1_; have HB := n2_; clear n0_ n1_ n2_; (try clear hb); (try clear hb2); (try clear hk); (try clear hi)) | ((with_reducible refine gate_dst (N := 10) rfl ?_); (try (refine gate_guard (by rfl) ?_; dsimp only)); refine box_event ?hg (N := 10) ?hd (cs := #[.string (⟨#[]⟩ : ByteArray), .int .u16 0, .int .u16 0]) (t := 32) ?hr ?_; (case hd => rfl); (case hg => rfl); (case hr => first | (go_simp; done) | (go_simp; rfl)); intro gb283 hg w181 hbox hb; have n0_ := am_ (Kd.R_below (by (with_reducible repeat (first | apply Kd.R_alloc | apply Kd.R_drewN | apply Kd.R_drew)); exact HO278.out) hb); have n1_ := am_ (blk_below (g := gb275) (o := .cells #[.string a0_0, .int .u16 a0_1, .int .u16 a0_2] 32 (0, 0)) (by (with_reducible repeat (first | refine blk_drewN ?_ _ | refine blk_drew ?_ | refine blk_alloc ?_ _)); exact BK275.out) hb); have n2_ := am_ (below_step (by repeat (first | (with_reducible first | exact HB.out | apply below_alloc | apply pw_below_drewN | apply below_drew1 | refine below_set ?_ GE275.out) | exact HB.out)) hb); have n3_ := am_ (hbox); have n4_ := am_ ((by rw [hg]; exact (below_size (by repeat (first | (with_reducible first | exact HB.out | apply below_alloc | apply pw_below_drewN | apply below_drew1 | refine below_set ?_ GE275.out) | exact HB.out))) : w.heap.size ≤ gb283)); have n5_ := am_ ((by rw [hg]; exact (below_size (by repeat (first | (with_reducible first | exact HB.out | apply below_alloc | apply pw_below_drewN | apply below_drew1 | refine below_set ?_ GE275.out) | exact HB.out))) : w.heap.size ≤ gb283)); have n6_ := am_ ((by rw [hg]; exact Nat.ne_of_lt (blk_lt (g := gb275) (o := .cells #[.string a0_0, .int .u16 a0_1, .int .u16 a0_2] 32 (0, 0)) (by (with_reducible repeat (first | refine blk_drewN ?_ _ | refine blk_drew ?_ | refine blk_alloc ?_ _)); exact BK275.out)) : gb275 ≠ gb283)); have n7_ := am_ ((by rw [hg]; exact Nat.ne_of_gt (blk_lt (g := gb275) (o := .cells #[.string a0_0, .int .u16 a0_1, .int .u16 a0_2] 32 (0, 0)) (by (with_reducible repeat (first | refine blk_drewN ?_ _ | refine blk_drew ?_ | refine blk_alloc ?_ _)); exact BK275.out)) : gb283 ≠ gb275)); clear HO278; clear BK275; clear HB; have HO278 := n0_; have BK275 := n1_; have HB := n2_; have BK283 := n3_; have GW283 := n4_; have GE283 := n5_; have NB275_283 := n6_; have NB283_275 := n7_; clear n0_ n1_ n2_ n3_ n4_ n5_ n6_ n7_; clear hb hbox hg; have hnb182 := NB283_275.out; have hnc182 := NB275_283.out; have hcz183_0 : w181.cell? ⟨gb283, 0, none⟩ = some (.string (⟨#[]⟩ : ByteArray)) := (blk_cell BK283.out 0).trans rfl; have hcz183_1 : w181.cell? ⟨gb283, 1, none⟩ = some (.int .u16 0) := (blk_cell BK283.out 1).trans rfl; have hcz183_2 : w181.cell? ⟨gb283, 2, none⟩ = some (.int .u16 0) := (blk_cell BK283.out 2).trans rfl; have hfz183_0 := blk_frozen BK283.out 0; have hfz183_1 := blk_frozen BK283.out 1; have hfz183_2 := blk_frozen BK283.out 2))
 go_ret
 exact ⟨by first | rfl | (simp [errW_none, errW_some] <;> rfl) | (simp [*, errW_none, errW_some] <;> rfl), by repeat (first | (with_reducible first | exact HB.out | apply below_alloc | apply pw_below_drewN | apply below_drew1 | refine below_set ?_ GE275.out | refine below_set ?_ GE283.out) | exact HB.out)⟩ }}))}))
end Go.Proofs.Ytfcmphigmfdceaa.Print
