-- Written by a program of this session, built on the kit's print (it is not the print's own text).
import Derived.Test.YtafminohaofjnaaKinds
import Derived.Test.YtafminohaofjnaaF35
import Derived.Test.YtafminohaofjnaaF36
import Derived.Test.YtafminohaofjnaaF26PD
import Derived.Test.YtafminohaofjnaaXBits
namespace Go.Proofs.Ytafminohaofjnaa.Print
open Go.RowKit Go.Proofs.YtafminohaofjnaaW.PrintWords Go.Proofs.YtafminohaofjnaaW.PrintLast Go.Proofs.YtafminohaofjnaaW.PrintMore
set_option linter.unusedVariables false
set_option linter.unusedSimpArgs false

set_option maxHeartbeats 40000000 in
set_option maxRecDepth 100000 in
theorem hearsayref08_kindsP.calls (k : Nat) (a0 : ByteArray) (r1 : List Int) (r2 : Int) (r3 : Int) (w : World) (h : hearsayref08_kindsP.f k a0 = some (r1, r2, r3)) :
    Calls Try.prog 26 #[.string a0] w fun e w' => ∃ v0_ : Value, e = .returned (.tuple #[v0_, .int .i64 r2, .int .i64 r3]) ∧ Kd.R (Kd.int .i64) 3 w' w.heap.size (fun _ => True) v0_ r1 ∧ Below w.heap.size w w' := by
 have HB := Aside0.mk (Below.refl w.heap.size w)
 have H : (if 0 ≤ (a0.size : Int) then (if ((a0.size : Int) : Int).toNat ≤ 35184372088832 then (hearsayref08_kindsP.l0 k a0 (List.replicate ((a0.size : Int) : Int).toNat 0) ([] : List Int) 0) else (none)) else (none)) = some (r1, r2, r3) := h
 clear h
 by_cases c2 : 0 ≤ (a0.size : Int)
 { as_aux_lemma => (
 rw [if_pos c2] at H
 have c2b0 := eq_true c2
 have c2b1 : decide (0 ≤ (a0.size : Int)) = true := decide_eq_true c2
 clear c2
 by_cases c3 : ((a0.size : Int) : Int).toNat ≤ 35184372088832
 { as_aux_lemma => (
 rw [if_pos c3] at H
 have c3b0 := eq_true c3
 have c3b1 : decide (((a0.size : Int) : Int).toNat ≤ 35184372088832) = true := decide_eq_true c3
 clear c3
 obtain ⟨y104, hy104⟩ : ∃ y_ : List Int, y_ = (List.replicate ((a0.size : Int) : Int).toNat 0) := ⟨_, rfl⟩
 replace H : (hearsayref08_kindsP.l0 k a0 y104 ([] : List Int) 0) = some (r1, r2, r3) := by first | (rw [hy104]; with_reducible exact H) | (have H2_ := (Option.bind_some _ _).symm.trans H; rw [hy104]; with_reducible exact H2_) | (have H2_ := (Option.bind_some _ _).symm.trans H; with_reducible exact H2_) | with_reducible exact H | (rw [hy104]; exact H) | exact H
 have Ny104 := Aside0.mk hy104
 clear hy104
 have H' := Aside0.mk H
 clear H
 go_enter Try.func26, Try.ntmps26
 go_wp2_with (first | ((with_reducible refine gate_dst (N := 12) rfl ?_); (try (refine gate_guard (by rfl) ?_; dsimp only)); refine Kd.R_make (Kd.int .i64) _ 3 rfl (N := 12) rfl 53 _ _ rfl (a0.size : Int) rfl rfl Try.underlying53 (.int .i64 0) 8 info3 rfl (by decide) (by omega) 0 (ok := fun _ => True) (okp := fun _ => True) rfl (fun _ hk => hk) trivial (of_decide_eq_true (by first | (with_reducible assumption) | assumption)) (Nat.le_trans (Nat.mul_le_mul_right _ (of_decide_eq_true (by first | (with_reducible assumption) | assumption) : (a0.size : Int).toNat ≤ 35184372088832)) (by omega)) (Below.refl _ _) (Nat.le_refl _) ?_; intro v105 w4 ho5 hb hg_ hnew_; clear hg_ hnew_; (first | rw [← Ny104.out] at ho5 | (simp only [Int.reduceToNat] at ho5; rw [← Ny104.out] at ho5)); have n0_ := Aside0.mk (Kd.R_lower ho5 (below_size (by repeat (first | (with_reducible first | exact HB.out | apply below_alloc | apply pw_below_drewN | apply below_drew1) | exact HB.out)))); have n1_ := Aside0.mk (below_step (by repeat (first | (with_reducible first | exact HB.out | apply below_alloc | apply pw_below_drewN | apply below_drew1) | exact HB.out)) hb); clear HB; have HO106 := n0_; have HB := n1_; clear n0_ n1_; clear hb ho5))
 repeat (go_quiet (first | ((with_reducible refine gate_dst (N := 12) rfl ?_); (try (refine gate_guard (by rfl) ?_; dsimp only)); refine Kd.R_make (Kd.int .i64) _ 3 rfl (N := 12) rfl 53 _ _ rfl (a0.size : Int) rfl rfl Try.underlying53 (.int .i64 0) 8 info3 rfl (by decide) (by omega) 0 (ok := fun _ => True) (okp := fun _ => True) rfl (fun _ hk => hk) trivial (of_decide_eq_true (by first | (with_reducible assumption) | assumption)) (Nat.le_trans (Nat.mul_le_mul_right _ (of_decide_eq_true (by first | (with_reducible assumption) | assumption) : (a0.size : Int).toNat ≤ 35184372088832)) (by omega)) (Below.refl _ _) (Nat.le_refl _) ?_; intro v105 w4 ho5 hb hg_ hnew_; clear hg_ hnew_; (first | rw [← Ny104.out] at ho5 | (simp only [Int.reduceToNat] at ho5; rw [← Ny104.out] at ho5)); have n0_ := Aside0.mk (Kd.R_lower ho5 (below_size (by repeat (first | (with_reducible first | exact HB.out | apply below_alloc | apply pw_below_drewN | apply below_drew1) | exact HB.out)))); have n1_ := Aside0.mk (below_step (by repeat (first | (with_reducible first | exact HB.out | apply below_alloc | apply pw_below_drewN | apply below_drew1) | exact HB.out)) hb); clear HB; have HO106 := n0_; have HB := n1_; clear n0_ n1_; clear hb ho5)); try go_wp2_with (first | ((with_reducible refine gate_dst (N := 12) rfl ?_); (try (refine gate_guard (by rfl) ?_; dsimp only)); refine Kd.R_make (Kd.int .i64) _ 3 rfl (N := 12) rfl 53 _ _ rfl (a0.size : Int) rfl rfl Try.underlying53 (.int .i64 0) 8 info3 rfl (by decide) (by omega) 0 (ok := fun _ => True) (okp := fun _ => True) rfl (fun _ hk => hk) trivial (of_decide_eq_true (by first | (with_reducible assumption) | assumption)) (Nat.le_trans (Nat.mul_le_mul_right _ (of_decide_eq_true (by first | (with_reducible assumption) | assumption) : (a0.size : Int).toNat ≤ 35184372088832)) (by omega)) (Below.refl _ _) (Nat.le_refl _) ?_; intro v105 w4 ho5 hb hg_ hnew_; clear hg_ hnew_; (first | rw [← Ny104.out] at ho5 | (simp only [Int.reduceToNat] at ho5; rw [← Ny104.out] at ho5)); have n0_ := Aside0.mk (Kd.R_lower ho5 (below_size (by repeat (first | (with_reducible first | exact HB.out | apply below_alloc | apply pw_below_drewN | apply below_drew1) | exact HB.out)))); have n1_ := Aside0.mk (below_step (by repeat (first | (with_reducible first | exact HB.out | apply below_alloc | apply pw_below_drewN | apply below_drew1) | exact HB.out)) hb); clear HB; have HO106 := n0_; have HB := n1_; clear n0_ n1_; clear hb ho5)))
 go_loopg [6, 7] k (fun kq v6 v7 w' => ∃ (x5_1 : List Int) (x6_1 : List Int) (x7_1 : Int), v7 = .int .i64 x7_1 ∧ Aside0 (hearsayref08_kindsP.l0 kq a0 x5_1 x6_1 x7_1 = some (r1, r2, r3)) ∧ Aside0 (kq ≤ k) ∧ Aside0 (Kd.R (Kd.int .i64) 3 w' w.heap.size (fun k_ => some k_ ≠ (v6 : Value).ownBlock) v105 x5_1) ∧ Aside0 (Kd.R (Kd.int .i64) 3 w' w.heap.size (fun k_ => some k_ ≠ (v105 : Value).ownBlock) v6 x6_1) ∧ Aside0 (Below w.heap.size w w'))
 case atStart => exact ⟨(y104), (([] : List Int)), (0), (by first | rfl | (simp; done) | (simp [*]; done)), H', ⟨Nat.le_refl _⟩, ⟨by (with_reducible repeat (first | apply Kd.R_alloc | apply Kd.R_drewN | apply Kd.R_drew)); exact Kd.R_mono HO106.out (fun _ hk => (by simp [Value.ownBlock]))⟩, ⟨by first | exact Kd.R_nil _ _ _ _ _ | exact Kd.N_nil _ _ _ _ _ | exact Kd.V_nil _ _ _ _ _ | exact Kd.Q_nil _ _ _ _ _ | exact Kd.S_nil _ _ _ _ _⟩, ⟨by repeat (first | (with_reducible first | exact HB.out | apply below_alloc | apply pw_below_drewN | apply below_drew1) | exact HB.out)⟩⟩
 case round => (as_aux_lemma => (
 clear H'
 try clear c2
 try clear c2b0
 try clear c2b1
 try clear p2
 try clear c3
 try clear c3b0
 try clear c3b1
 obtain ⟨x5_1, x6_1, x7_1, rfl, HA, HK1, HO_5, HO_6, HB⟩ := hrel
 cases gk with
 | zero => exact absurd HA.out (by simp [hearsayref08_kindsP.l0])
 | succ k1 => (
 have H := HA.out
 clear HA
 simp only [hearsayref08_kindsP.l0] at H
 by_cases c6 : x7_1 < (a0.size : Int)
 { as_aux_lemma => (
 rw [if_pos c6] at H
 have c6b0 : decide (x7_1 < (a0.size : Int)) = true := decide_eq_true c6
 clear c6
 by_cases c7 : 0 ≤ x7_1
 { as_aux_lemma => (
 rw [if_pos c7] at H
 have c7b0 : decide (0 ≤ x7_1) = true := decide_eq_true c7
 clear c7
 by_cases c9 : x7_1 < (x5_1.length : Int)
 { as_aux_lemma => (
 rw [if_pos c9] at H
 have c9b0 : decide (x7_1 < (x5_1.length : Int)) = true := decide_eq_true c9
 clear c9
 obtain ⟨y108, hy108⟩ : ∃ y_ : List Int, y_ = (x5_1.set (x7_1 : Int).toNat 1) := ⟨_, rfl⟩
 replace H : (if (bt a0 x7_1) = 10 then (hearsayref08_kindsP.j1 k1 a0 y108 x6_1 x7_1 (bt a0 x7_1) ((x6_1.length : Int) == 0)) else (hearsayref08_kindsP.j1 k1 a0 y108 x6_1 x7_1 (bt a0 x7_1) false)) = some (r1, r2, r3) := by first | (rw [hy108]; with_reducible exact H) | (have H2_ := (Option.bind_some _ _).symm.trans H; rw [hy108]; with_reducible exact H2_) | (have H2_ := (Option.bind_some _ _).symm.trans H; with_reducible exact H2_) | with_reducible exact H | (rw [hy108]; exact H) | exact H
 have Ny108 := Aside0.mk hy108
 clear hy108
 have HC11 := Aside0.mk H
 clear H
 have p8 : 0 ≤ (x7_1 : Int) := of_decide_eq_true (by first | (with_reducible assumption) | assumption)
 have q8 : x7_1 < (a0.size : Int) := of_decide_eq_true (by first | (with_reducible assumption) | assumption)
 have hx8 := bt_at a0 x7_1
 replace p8 := eq_true p8
 replace q8 := eq_true q8
 have p10 : 0 ≤ (x7_1 : Int) := of_decide_eq_true (by first | (with_reducible assumption) | assumption)
 have q10 : (x7_1 : Int) < ((x5_1.length : Int) : Int) := of_decide_eq_true (by first | (with_reducible assumption) | assumption)
 obtain ⟨go10, co10, eo10, gb10, gl10, cl10, HG10⟩ := Kd.R_form HO_5.out (by omega)
 (first | cases eo10 | (injection eo10 with ea_ en_ ec_; (first | subst ea_ | (injection ea_ with ea_; subst ea_)); subst ec_; clear en_))
 have GB10 := Aside0.mk gb10
 have GG10 := Aside0.mk HG10
 clear gb10 gl10 HG10
 obtain ⟨hx10_0, hf10_0⟩ := Kd.R_celln 0 HO_5.out (x7_1 : Int) p10 q10
 replace p10 := eq_true p10
 replace q10 := eq_true q10
 have HP12 := Kd.R_putg HO_5.out (x7_1 : Int) 1
 go_upto_region 7 with (first | ((with_reducible refine gate_store (t := 3) (p := 22) rfl ?_); (try (rw [drewN_self wr]; generalize hq_ : World.drewN wr _ = wr; have n0_ := Aside0.mk (Kd.R_at hq_ HO_5.out); have n1_ := Aside0.mk (Kd.R_at hq_ HO_6.out); have n2_ := Aside0.mk (below_at hq_ HB.out); clear hq_ HO_5 HO_6 HB; have HO_5 := n0_; have HO_6 := n1_; have HB := n2_; clear n0_ n1_ n2_; (try (have HP12 := Kd.R_putg HO_5.out (x7_1 : Int) 1)))); refine store_event (t := 3) (p := 22) (v := ?vo_w13) (w1 := (wr.setCell ⟨go10, (x7_1 : Int).toNat, none⟩ (.int .i64 1))) ?hg ?ho ?hn ?hr ?_; (case ho => rfl); (case hg => rfl); (case hn => rfl); (case hr => first | (go_simp; done) | (go_simp; rfl)); intro w13 hw; have hg : wr.grownBy w13 (some go10) := (by rw [hw]; exact HP12.2); have hp_ : Kd.R (Kd.int .i64) 3 w13 w.heap.size (fun k_ => some k_ ≠ (u6 : Value).ownBlock) (.slice (some ⟨go10, 0, none⟩) x5_1.length co10) y108 := (by rw [hw, Ny108.out]; exact HP12.1); clear HP12; have n0_ := Aside0.mk (hp_); have n1_ := Aside0.mk (Kd.R_after (v := (.slice (some ⟨go10, 0, none⟩) x5_1.length co10)) (v1 := (.slice (some ⟨go10, 0, none⟩) x5_1.length co10)) (ok := (fun _ => True)) (by (with_reducible repeat (first | apply Kd.R_alloc | apply Kd.R_drewN | apply Kd.R_drew)); exact Kd.R_mono HO_6.out (fun _ hk => ⟨trivial, hk⟩)) hg (.inl rfl)); have n2_ := Aside0.mk ((by rw [hw]; exact below_set (HB.out) GB10.out : Below w.heap.size w w13)); clear HO_5; clear HO_6; clear HB; have HO_5 := n0_; have HO_6 := n1_; have HB := n2_; clear n0_ n1_ n2_; clear hg hw hp_))
 repeat (go_quiet (first | ((with_reducible refine gate_store (t := 3) (p := 22) rfl ?_); (try (rw [drewN_self wr]; generalize hq_ : World.drewN wr _ = wr; have n0_ := Aside0.mk (Kd.R_at hq_ HO_5.out); have n1_ := Aside0.mk (Kd.R_at hq_ HO_6.out); have n2_ := Aside0.mk (below_at hq_ HB.out); clear hq_ HO_5 HO_6 HB; have HO_5 := n0_; have HO_6 := n1_; have HB := n2_; clear n0_ n1_ n2_; (try (have HP12 := Kd.R_putg HO_5.out (x7_1 : Int) 1)))); refine store_event (t := 3) (p := 22) (v := ?vo_w13) (w1 := (wr.setCell ⟨go10, (x7_1 : Int).toNat, none⟩ (.int .i64 1))) ?hg ?ho ?hn ?hr ?_; (case ho => rfl); (case hg => rfl); (case hn => rfl); (case hr => first | (go_simp; done) | (go_simp; rfl)); intro w13 hw; have hg : wr.grownBy w13 (some go10) := (by rw [hw]; exact HP12.2); have hp_ : Kd.R (Kd.int .i64) 3 w13 w.heap.size (fun k_ => some k_ ≠ (u6 : Value).ownBlock) (.slice (some ⟨go10, 0, none⟩) x5_1.length co10) y108 := (by rw [hw, Ny108.out]; exact HP12.1); clear HP12; have n0_ := Aside0.mk (hp_); have n1_ := Aside0.mk (Kd.R_after (v := (.slice (some ⟨go10, 0, none⟩) x5_1.length co10)) (v1 := (.slice (some ⟨go10, 0, none⟩) x5_1.length co10)) (ok := (fun _ => True)) (by (with_reducible repeat (first | apply Kd.R_alloc | apply Kd.R_drewN | apply Kd.R_drew)); exact Kd.R_mono HO_6.out (fun _ hk => ⟨trivial, hk⟩)) hg (.inl rfl)); have n2_ := Aside0.mk ((by rw [hw]; exact below_set (HB.out) GB10.out : Below w.heap.size w w13)); clear HO_5; clear HO_6; clear HB; have HO_5 := n0_; have HO_6 := n1_; have HB := n2_; clear n0_ n1_ n2_; clear hg hw hp_)); go_upto_region 7 with (first | ((with_reducible refine gate_store (t := 3) (p := 22) rfl ?_); (try (rw [drewN_self wr]; generalize hq_ : World.drewN wr _ = wr; have n0_ := Aside0.mk (Kd.R_at hq_ HO_5.out); have n1_ := Aside0.mk (Kd.R_at hq_ HO_6.out); have n2_ := Aside0.mk (below_at hq_ HB.out); clear hq_ HO_5 HO_6 HB; have HO_5 := n0_; have HO_6 := n1_; have HB := n2_; clear n0_ n1_ n2_; (try (have HP12 := Kd.R_putg HO_5.out (x7_1 : Int) 1)))); refine store_event (t := 3) (p := 22) (v := ?vo_w13) (w1 := (wr.setCell ⟨go10, (x7_1 : Int).toNat, none⟩ (.int .i64 1))) ?hg ?ho ?hn ?hr ?_; (case ho => rfl); (case hg => rfl); (case hn => rfl); (case hr => first | (go_simp; done) | (go_simp; rfl)); intro w13 hw; have hg : wr.grownBy w13 (some go10) := (by rw [hw]; exact HP12.2); have hp_ : Kd.R (Kd.int .i64) 3 w13 w.heap.size (fun k_ => some k_ ≠ (u6 : Value).ownBlock) (.slice (some ⟨go10, 0, none⟩) x5_1.length co10) y108 := (by rw [hw, Ny108.out]; exact HP12.1); clear HP12; have n0_ := Aside0.mk (hp_); have n1_ := Aside0.mk (Kd.R_after (v := (.slice (some ⟨go10, 0, none⟩) x5_1.length co10)) (v1 := (.slice (some ⟨go10, 0, none⟩) x5_1.length co10)) (ok := (fun _ => True)) (by (with_reducible repeat (first | apply Kd.R_alloc | apply Kd.R_drewN | apply Kd.R_drew)); exact Kd.R_mono HO_6.out (fun _ hk => ⟨trivial, hk⟩)) hg (.inl rfl)); have n2_ := Aside0.mk ((by rw [hw]; exact below_set (HB.out) GB10.out : Below w.heap.size w w13)); clear HO_5; clear HO_6; clear HB; have HO_5 := n0_; have HO_6 := n1_; have HB := n2_; clear n0_ n1_ n2_; clear hg hw hp_)))
 (try simp only [Act.put, List.setIfInBounds_toArray, List.set_cons_zero, List.set_cons_succ])
 go_cut [23] (fun v23 wc => ∃ (kq : Nat) (x23_10 : Bool), v23 = .bool x23_10 ∧ Aside0 (hearsayref08_kindsP.j1 kq a0 y108 x6_1 x7_1 (bt a0 x7_1) x23_10 = some (r1, r2, r3)) ∧ Aside0 (kq ≤ k1) ∧ Aside0 (Kd.R (Kd.int .i64) 3 wc w.heap.size (fun k_ => some k_ ≠ (u6 : Value).ownBlock) (.slice (some ⟨go10, 0, none⟩) x5_1.length co10) y108) ∧ Aside0 (Kd.R (Kd.int .i64) 3 wc w.heap.size (fun k_ => some k_ ≠ ((.slice (some ⟨go10, 0, none⟩) x5_1.length co10) : Value).ownBlock) u6 x6_1) ∧ Aside0 (Below w.heap.size w wc))
 case first => (
 have H := HC11.out
 clear HC11
 by_cases c14 : (bt a0 x7_1) = 10
 {
 rw [if_pos c14] at H
 have c14b0 : ((bt a0 x7_1) == 10) = true := beq_iff_eq.mpr c14
 have c14b1 : ((bt a0 x7_1) != 10) = false := bne_eq_false_iff_eq.mpr c14
 clear c14
 (first | rw [c14b0] | (simp only [i64_w, i32_w]; rw [c14b0]) | skip)
 have H' := Aside0.mk H
 clear H
 obtain ⟨Ao15, co15, eo15⟩ := Kd.R_slice HO_6.out
 subst eo15
 go_wp2
 repeat (go_quiet (fail); try go_wp2)
 go_meet
 case rel => exact ⟨_, (((x6_1.length : Int) == 0)), (by first | rfl | (simp; done) | (simp [*]; done)), H', ⟨by have := HK1.out; first | omega | exact Nat.le_refl _⟩, ⟨by (with_reducible repeat (first | apply Kd.R_alloc | apply Kd.R_drewN | apply Kd.R_drew)); exact HO_5.out⟩, ⟨by (with_reducible repeat (first | apply Kd.R_alloc | apply Kd.R_drewN | apply Kd.R_drew)); exact Kd.R_mono HO_6.out (fun _ hk => hk.2)⟩, ⟨by repeat (first | (with_reducible first | exact HB.out | apply below_alloc | apply pw_below_drewN | apply below_drew1) | exact HB.out)⟩⟩ }
 {
 rw [if_neg c14] at H
 have c14b0 : ((bt a0 x7_1) == 10) = false := beq_eq_false_iff_ne.mpr c14
 have c14b1 : ((bt a0 x7_1) != 10) = true := bne_iff_ne.mpr c14
 (first | rw [c14b0] | (simp only [i64_w, i32_w]; rw [c14b0]) | skip)
 have H' := Aside0.mk H
 clear H
 go_wp2
 repeat (go_quiet (fail); try go_wp2)
 go_meet
 case rel => exact ⟨_, (false), (by first | rfl | (simp; done) | (simp [*]; done)), H', ⟨by have := HK1.out; first | omega | exact Nat.le_refl _⟩, ⟨by (with_reducible repeat (first | apply Kd.R_alloc | apply Kd.R_drewN | apply Kd.R_drew)); exact HO_5.out⟩, ⟨by (with_reducible repeat (first | apply Kd.R_alloc | apply Kd.R_drewN | apply Kd.R_drew)); exact Kd.R_mono HO_6.out (fun _ hk => hk.2)⟩, ⟨by repeat (first | (with_reducible first | exact HB.out | apply below_alloc | apply pw_below_drewN | apply below_drew1) | exact HB.out)⟩⟩ })
 case rest => (as_aux_lemma => (
 clear HC11
 try clear c1
 try clear p1
 try clear q1
 try clear hx1
 try clear hf1
 try clear c2
 try clear c2b0
 try clear c2b1
 try clear p2
 try clear c3
 try clear c3b0
 try clear c3b1
 try clear c6
 try clear c6b0
 try clear c7
 try clear c7b0
 try clear p8
 try clear q8
 try clear hx8
 try clear c9
 try clear c9b0
 try clear p10
 try clear q10
 try clear hx10
 try clear hf10
 try clear c14
 try clear c14b0
 try clear c14b1
 try clear hx10_0
 try clear p10
 try clear p2
 try clear p8
 try clear q10
 try clear q8
 obtain ⟨kq, x23_10, rfl, HA, HJ10, HO_5, HO_6, HB⟩ := hcut
 have hl5_10 := (Kd.R_reads' HO_5.out).1
 rw [hl5_10] at HO_5
 (try simp only [hl5_10])
 (try simp only [hl5_10] at HO_6)
 cases kq with
 | zero => exact absurd HA.out (by simp [hearsayref08_kindsP.j1])
 | succ kj10 => (
 have H := HA.out
 clear HA
 simp only [hearsayref08_kindsP.j1] at H
 by_cases c16 : x23_10 = true
 {
 subst c16
 have H1 : (if 0 ≤ x7_1 then (if x7_1 < (y108.length : Int) then (hearsayref08_kindsP.l0 kj10 a0 (y108.set (x7_1 : Int).toNat 2) x6_1 (wrap64 (x7_1 + 1))) else (none)) else (none)) = some (r1, r2, r3) := by rw [if_pos rfl] at H; exact H
 clear H
 have H := H1
 clear H1
 by_cases c17 : 0 ≤ x7_1
 {
 rw [if_pos c17] at H
 have c17b0 : decide (0 ≤ x7_1) = true := decide_eq_true c17
 clear c17
 by_cases c18 : x7_1 < (y108.length : Int)
 {
 rw [if_pos c18] at H
 have c18b0 : decide (x7_1 < (y108.length : Int)) = true := decide_eq_true c18
 clear c18
 obtain ⟨y109, hy109⟩ : ∃ y_ : List Int, y_ = (y108.set (x7_1 : Int).toNat 2) := ⟨_, rfl⟩
 replace H : (hearsayref08_kindsP.l0 kj10 a0 y109 x6_1 (wrap64 (x7_1 + 1))) = some (r1, r2, r3) := by first | (rw [hy109]; with_reducible exact H) | (have H2_ := (Option.bind_some _ _).symm.trans H; rw [hy109]; with_reducible exact H2_) | (have H2_ := (Option.bind_some _ _).symm.trans H; with_reducible exact H2_) | with_reducible exact H | (rw [hy109]; exact H) | exact H
 have Ny109 := Aside0.mk hy109
 clear hy109
 have H' := Aside0.mk H
 clear H
 have p19 : 0 ≤ (x7_1 : Int) := of_decide_eq_true (by first | (with_reducible assumption) | assumption)
 have q19 : (x7_1 : Int) < ((y108.length : Int) : Int) := of_decide_eq_true (by first | (with_reducible assumption) | assumption)
 obtain ⟨hx19_0, hf19_0⟩ := Kd.R_celln 0 HO_5.out (x7_1 : Int) p19 q19
 replace p19 := eq_true p19
 replace q19 := eq_true q19
 have HP20 := Kd.R_putg HO_5.out (x7_1 : Int) 2
 go_wp2_with (first | ((with_reducible refine gate_store (t := 3) (p := 33) rfl ?_); (try (rw [drewN_self wc]; generalize hq_ : World.drewN wc _ = wc; have n0_ := Aside0.mk (Kd.R_at hq_ HO_5.out); have n1_ := Aside0.mk (Kd.R_at hq_ HO_6.out); have n2_ := Aside0.mk (below_at hq_ HB.out); clear hq_ HO_5 HO_6 HB; have HO_5 := n0_; have HO_6 := n1_; have HB := n2_; clear n0_ n1_ n2_; (try (have HP20 := Kd.R_putg HO_5.out (x7_1 : Int) 2)))); refine store_event (t := 3) (p := 33) (v := ?vo_w21) (w1 := (wc.setCell ⟨go10, (x7_1 : Int).toNat, none⟩ (.int .i64 2))) ?hg ?ho ?hn ?hr ?_; (case ho => rfl); (case hg => rfl); (case hn => rfl); (case hr => first | (go_simp; done) | (go_simp; rfl)); intro w21 hw; have hg : wc.grownBy w21 (some go10) := (by rw [hw]; exact HP20.2); have hp_ : Kd.R (Kd.int .i64) 3 w21 w.heap.size (fun k_ => some k_ ≠ (u6 : Value).ownBlock) (.slice (some ⟨go10, 0, none⟩) y108.length co10) y109 := (by rw [hw, Ny109.out]; exact HP20.1); clear HP20; have n0_ := Aside0.mk (hp_); have n1_ := Aside0.mk (Kd.R_after (v := (.slice (some ⟨go10, 0, none⟩) y108.length co10)) (v1 := (.slice (some ⟨go10, 0, none⟩) y108.length co10)) (ok := (fun _ => True)) (by (with_reducible repeat (first | apply Kd.R_alloc | apply Kd.R_drewN | apply Kd.R_drew)); exact Kd.R_mono HO_6.out (fun _ hk => ⟨trivial, hk⟩)) hg (.inl rfl)); have n2_ := Aside0.mk ((by rw [hw]; exact below_set (HB.out) GB10.out : Below w.heap.size w w21)); clear HO_5; clear HO_6; clear HB; have HO_5 := n0_; have HO_6 := n1_; have HB := n2_; clear n0_ n1_ n2_; clear hg hw hp_))
 repeat (go_quiet (first | ((with_reducible refine gate_store (t := 3) (p := 33) rfl ?_); (try (rw [drewN_self wc]; generalize hq_ : World.drewN wc _ = wc; have n0_ := Aside0.mk (Kd.R_at hq_ HO_5.out); have n1_ := Aside0.mk (Kd.R_at hq_ HO_6.out); have n2_ := Aside0.mk (below_at hq_ HB.out); clear hq_ HO_5 HO_6 HB; have HO_5 := n0_; have HO_6 := n1_; have HB := n2_; clear n0_ n1_ n2_; (try (have HP20 := Kd.R_putg HO_5.out (x7_1 : Int) 2)))); refine store_event (t := 3) (p := 33) (v := ?vo_w21) (w1 := (wc.setCell ⟨go10, (x7_1 : Int).toNat, none⟩ (.int .i64 2))) ?hg ?ho ?hn ?hr ?_; (case ho => rfl); (case hg => rfl); (case hn => rfl); (case hr => first | (go_simp; done) | (go_simp; rfl)); intro w21 hw; have hg : wc.grownBy w21 (some go10) := (by rw [hw]; exact HP20.2); have hp_ : Kd.R (Kd.int .i64) 3 w21 w.heap.size (fun k_ => some k_ ≠ (u6 : Value).ownBlock) (.slice (some ⟨go10, 0, none⟩) y108.length co10) y109 := (by rw [hw, Ny109.out]; exact HP20.1); clear HP20; have n0_ := Aside0.mk (hp_); have n1_ := Aside0.mk (Kd.R_after (v := (.slice (some ⟨go10, 0, none⟩) y108.length co10)) (v1 := (.slice (some ⟨go10, 0, none⟩) y108.length co10)) (ok := (fun _ => True)) (by (with_reducible repeat (first | apply Kd.R_alloc | apply Kd.R_drewN | apply Kd.R_drew)); exact Kd.R_mono HO_6.out (fun _ hk => ⟨trivial, hk⟩)) hg (.inl rfl)); have n2_ := Aside0.mk ((by rw [hw]; exact below_set (HB.out) GB10.out : Below w.heap.size w w21)); clear HO_5; clear HO_6; clear HB; have HO_5 := n0_; have HO_6 := n1_; have HB := n2_; clear n0_ n1_ n2_; clear hg hw hp_)); try go_wp2_with (first | ((with_reducible refine gate_store (t := 3) (p := 33) rfl ?_); (try (rw [drewN_self wc]; generalize hq_ : World.drewN wc _ = wc; have n0_ := Aside0.mk (Kd.R_at hq_ HO_5.out); have n1_ := Aside0.mk (Kd.R_at hq_ HO_6.out); have n2_ := Aside0.mk (below_at hq_ HB.out); clear hq_ HO_5 HO_6 HB; have HO_5 := n0_; have HO_6 := n1_; have HB := n2_; clear n0_ n1_ n2_; (try (have HP20 := Kd.R_putg HO_5.out (x7_1 : Int) 2)))); refine store_event (t := 3) (p := 33) (v := ?vo_w21) (w1 := (wc.setCell ⟨go10, (x7_1 : Int).toNat, none⟩ (.int .i64 2))) ?hg ?ho ?hn ?hr ?_; (case ho => rfl); (case hg => rfl); (case hn => rfl); (case hr => first | (go_simp; done) | (go_simp; rfl)); intro w21 hw; have hg : wc.grownBy w21 (some go10) := (by rw [hw]; exact HP20.2); have hp_ : Kd.R (Kd.int .i64) 3 w21 w.heap.size (fun k_ => some k_ ≠ (u6 : Value).ownBlock) (.slice (some ⟨go10, 0, none⟩) y108.length co10) y109 := (by rw [hw, Ny109.out]; exact HP20.1); clear HP20; have n0_ := Aside0.mk (hp_); have n1_ := Aside0.mk (Kd.R_after (v := (.slice (some ⟨go10, 0, none⟩) y108.length co10)) (v1 := (.slice (some ⟨go10, 0, none⟩) y108.length co10)) (ok := (fun _ => True)) (by (with_reducible repeat (first | apply Kd.R_alloc | apply Kd.R_drewN | apply Kd.R_drew)); exact Kd.R_mono HO_6.out (fun _ hk => ⟨trivial, hk⟩)) hg (.inl rfl)); have n2_ := Aside0.mk ((by rw [hw]; exact below_set (HB.out) GB10.out : Below w.heap.size w w21)); clear HO_5; clear HO_6; clear HB; have HO_5 := n0_; have HO_6 := n1_; have HB := n2_; clear n0_ n1_ n2_; clear hg hw hp_)))
 (try simp only [← hl5_10])
 go_roundg kj10
 case measure => have := HK1.out; have := HJ10.out; omega
 case rel => exact ⟨(y109), (x6_1), (wrap64 (x7_1 + 1)), (by first | rfl | (simp; done) | (simp [*]; done)), H', ⟨by have := HK1.out; have := HJ10.out; omega⟩, ⟨by (try simp only [hl5_10]); (with_reducible repeat (first | apply Kd.R_alloc | apply Kd.R_drewN | apply Kd.R_drew)); exact HO_5.out⟩, ⟨by (try simp only [hl5_10]); (with_reducible repeat (first | apply Kd.R_alloc | apply Kd.R_drewN | apply Kd.R_drew)); exact Kd.R_mono HO_6.out (fun _ hk => hk.2)⟩, ⟨by repeat (first | (with_reducible first | exact HB.out | apply below_alloc | apply pw_below_drewN | apply below_drew1) | exact HB.out)⟩⟩ }
 {
 rw [if_neg c18] at H
 exact absurd H (by simp) }}
 {
 rw [if_neg c17] at H
 exact absurd H (by simp) }}
 { as_aux_lemma => (
 replace c16 := Bool.eq_false_iff.mpr c16
 subst c16
 have H1 : (if (bt a0 x7_1) = 59 then (hearsayref08_kindsP.l1 kj10 a0 y108 x6_1 x7_1) else (if (bt a0 x7_1) = 40 then (if x6_1.length < 17592186044416 then (hearsayref08_kindsP.l0 kj10 a0 y108 (x6_1 ++ [x7_1]) (wrap64 (x7_1 + 1))) else (none)) else (if (bt a0 x7_1) = 41 then (if (x6_1.length : Int) = 0 then (some (([] : List Int), x7_1, 81)) else (if 0 ≤ (wrap64 ((x6_1.length : Int) - 1)) then (if (wrap64 ((x6_1.length : Int) - 1)) ≤ (x6_1.length : Int) then (hearsayref08_kindsP.l0 kj10 a0 y108 (x6_1.take ((wrap64 ((x6_1.length : Int) - 1)) : Int).toNat) (wrap64 (x7_1 + 1))) else (none)) else (none))) else (if (bt a0 x7_1) = 34 then (if 0 ≤ x7_1 then (if x7_1 < (y108.length : Int) then (hearsayref08_kindsP.l2 kj10 a0 (y108.set (x7_1 : Int).toNat 5) x6_1 (wrap64 (x7_1 + 1)) x7_1) else (none)) else (none)) else ((hearsayref08_special.f (bt a0 x7_1)).bind fun t122 => (if t122 = true then (hearsayref08_kindsP.l0 kj10 a0 y108 x6_1 (wrap64 (x7_1 + 1))) else (if 0 ≤ x7_1 then (if x7_1 < (y108.length : Int) then ((some (y108.set (x7_1 : Int).toNat 3 : List Int)).bind fun y123 => ((hearsayref08_takes.f a0 x7_1).bind fun t124 => (if t124 = true then (if 0 ≤ (wrap64 (x7_1 + 1)) then (if (wrap64 (x7_1 + 1)) < (y108.length : Int) then (hearsayref08_kindsP.j5 kj10 a0 (y123.set ((wrap64 (x7_1 + 1)) : Int).toNat 4) x6_1 (wrap64 (x7_1 + 1))) else (none)) else (none)) else (hearsayref08_kindsP.j5 kj10 a0 y123 x6_1 x7_1)))) else (none)) else (none)))))))) = some (r1, r2, r3) := by rw [if_neg (show ¬ (false = true) by decide)] at H; exact H
 clear H
 have H := H1
 clear H1
 by_cases c22 : (bt a0 x7_1) = 59
 {
 rw [if_pos c22] at H
 have c22b0 : ((bt a0 x7_1) == 59) = true := beq_iff_eq.mpr c22
 have c22b1 : ((bt a0 x7_1) != 59) = false := bne_eq_false_iff_eq.mpr c22
 clear c22
 have H' := Aside0.mk H
 clear H
 go_wp2
 repeat (go_quiet (fail); try go_wp2)
 go_loopg [7] kj10 (fun kq v7 w' => ∃ (x5_3 : List Int) (x7_3 : Int), v7 = .int .i64 x7_3 ∧ Aside0 (hearsayref08_kindsP.l1 kq a0 x5_3 x6_1 x7_3 = some (r1, r2, r3)) ∧ Aside0 (kq ≤ kj10) ∧ Aside0 (Kd.R (Kd.int .i64) 3 w' w.heap.size (fun k_ => some k_ ≠ (u6 : Value).ownBlock) (.slice (some ⟨go10, 0, none⟩) y108.length co10) x5_3) ∧ Aside0 (Kd.R (Kd.int .i64) 3 w' w.heap.size (fun k_ => some k_ ≠ ((.slice (some ⟨go10, 0, none⟩) y108.length co10) : Value).ownBlock) u6 x6_1) ∧ Aside0 (Below w.heap.size w w'))
 case atStart => exact ⟨(y108), (x7_1), (by first | rfl | (simp; done) | (simp [*]; done)), H', ⟨Nat.le_refl _⟩, ⟨by (try simp only [hl5_10]); (with_reducible repeat (first | apply Kd.R_alloc | apply Kd.R_drewN | apply Kd.R_drew)); exact HO_5.out⟩, ⟨by (try simp only [hl5_10]); (with_reducible repeat (first | apply Kd.R_alloc | apply Kd.R_drewN | apply Kd.R_drew)); exact HO_6.out⟩, ⟨by repeat (first | (with_reducible first | exact HB.out | apply below_alloc | apply pw_below_drewN | apply below_drew1) | exact HB.out)⟩⟩
 case round => (
 clear H'
 try clear c1
 try clear p1
 try clear q1
 try clear hx1
 try clear hf1
 try clear c2
 try clear c2b0
 try clear c2b1
 try clear p2
 try clear c3
 try clear c3b0
 try clear c3b1
 try clear c6
 try clear c6b0
 try clear p6
 try clear c7
 try clear c7b0
 try clear p8
 try clear q8
 try clear hx8
 try clear c9
 try clear c9b0
 try clear p10
 try clear q10
 try clear hx10
 try clear hf10
 try clear c14
 try clear c14b0
 try clear c14b1
 try clear c16
 try clear c17
 try clear c17b0
 try clear c18
 try clear c18b0
 try clear p19
 try clear q19
 try clear hx19
 try clear hf19
 try clear c22
 try clear c22b0
 try clear c22b1
 try clear hx10_0
 try clear hx19_0
 try clear p1
 try clear p10
 try clear p19
 try clear p2
 try clear p8
 try clear q1
 try clear q10
 try clear q19
 try clear q8
 obtain ⟨x5_3, x7_3, rfl, HA, HK3, HO_5, HO_6, HB⟩ := hrel
 have hl5_3 := (Kd.R_reads' HO_5.out).1
 rw [hl5_3] at HO_5
 (try simp only [hl5_3])
 (try simp only [hl5_3] at HO_6)
 cases gk with
 | zero => exact absurd HA.out (by simp [hearsayref08_kindsP.l1])
 | succ k3 => (
 have H := HA.out
 clear HA
 simp only [hearsayref08_kindsP.l1] at H
 by_cases c23 : (wrap64 (x7_3 + 1)) < (a0.size : Int)
 {
 rw [if_pos c23] at H
 have c23b0 : decide ((wrap64 (x7_3 + 1)) < (a0.size : Int)) = true := decide_eq_true c23
 clear c23
 obtain ⟨ji24, hji24⟩ : ∃ j_ : Int, (wrap64 (x7_3 + 1)) = j_ := ⟨_, rfl⟩
 replace H : (if 0 ≤ (ji24) then (if (bt a0 (ji24)) = 10 then (hearsayref08_kindsP.l0 k3 a0 x5_3 x6_1 ji24) else (if (ji24) < (x5_3.length : Int) then (hearsayref08_kindsP.l1 k3 a0 (x5_3.set ((ji24) : Int).toNat 1) x6_1 ji24) else (none))) else (none)) = some (r1, r2, r3) := by first | (rw [hji24] at H; exact H) | (simp only [hji24] at H ⊢; exact H)
 (try rw [hji24] at c23b0)
 have hji24w : (IntKind.i64.wrap (x7_3 + 1)) = ji24 := (i64_w _).trans hji24
 by_cases c25 : 0 ≤ (ji24)
 {
 rw [if_pos c25] at H
 have c25b0 : decide (0 ≤ (ji24)) = true := decide_eq_true c25
 clear c25
 by_cases c27 : (bt a0 (ji24)) = 10
 {
 rw [if_pos c27] at H
 have c27b0 : ((bt a0 (ji24)) == 10) = true := beq_iff_eq.mpr c27
 have c27b1 : ((bt a0 (ji24)) != 10) = false := bne_eq_false_iff_eq.mpr c27
 clear c27
 have H' := Aside0.mk H
 clear H
 have p26 : 0 ≤ ((ji24) : Int) := of_decide_eq_true (by first | (with_reducible assumption) | assumption)
 have q26 : (ji24) < (a0.size : Int) := of_decide_eq_true (by first | (with_reducible assumption) | assumption)
 have hx26 := bt_at a0 (ji24)
 replace p26 := eq_true p26
 replace q26 := eq_true q26
 go_wp2
 repeat (go_quiet (fail); try go_wp2)
 (try simp only [← hl5_10, ← hl5_3])
 go_roundg k3
 case measure => have := HK1.out; have := HJ10.out; have := HK3.out; omega
 case rel => exact ⟨(x5_3), (x6_1), (ji24), (by first | rfl | (simp; done) | (simp only [← hji24] <;> (first | rfl | simp)) | (simp [*]; done)), H', ⟨by have := HK1.out; have := HJ10.out; have := HK3.out; omega⟩, ⟨by (try simp only [hl5_10]); (try simp only [hl5_3]); (with_reducible repeat (first | apply Kd.R_alloc | apply Kd.R_drewN | apply Kd.R_drew)); exact HO_5.out⟩, ⟨by (try simp only [hl5_10]); (try simp only [hl5_3]); (with_reducible repeat (first | apply Kd.R_alloc | apply Kd.R_drewN | apply Kd.R_drew)); exact HO_6.out⟩, ⟨by repeat (first | (with_reducible first | exact HB.out | apply below_alloc | apply pw_below_drewN | apply below_drew1) | exact HB.out)⟩⟩ }
 {
 rw [if_neg c27] at H
 have c27b0 : ((bt a0 (ji24)) == 10) = false := beq_eq_false_iff_ne.mpr c27
 have c27b1 : ((bt a0 (ji24)) != 10) = true := bne_iff_ne.mpr c27
 by_cases c28 : (ji24) < (x5_3.length : Int)
 {
 rw [if_pos c28] at H
 have c28b0 : decide ((ji24) < (x5_3.length : Int)) = true := decide_eq_true c28
 clear c28
 obtain ⟨y110, hy110⟩ : ∃ y_ : List Int, y_ = (x5_3.set ((ji24) : Int).toNat 1) := ⟨_, rfl⟩
 replace H : (hearsayref08_kindsP.l1 k3 a0 y110 x6_1 ji24) = some (r1, r2, r3) := by first | (rw [hy110]; with_reducible exact H) | (have H2_ := (Option.bind_some _ _).symm.trans H; rw [hy110]; with_reducible exact H2_) | (have H2_ := (Option.bind_some _ _).symm.trans H; with_reducible exact H2_) | with_reducible exact H | (rw [hy110]; exact H) | exact H
 have Ny110 := Aside0.mk hy110
 clear hy110
 have H' := Aside0.mk H
 clear H
 have p26 : 0 ≤ ((ji24) : Int) := of_decide_eq_true (by first | (with_reducible assumption) | assumption)
 have q26 : (ji24) < (a0.size : Int) := of_decide_eq_true (by first | (with_reducible assumption) | assumption)
 have hx26 := bt_at a0 (ji24)
 replace p26 := eq_true p26
 replace q26 := eq_true q26
 have p29 : 0 ≤ ((ji24) : Int) := of_decide_eq_true (by first | (with_reducible assumption) | assumption)
 have q29 : ((ji24) : Int) < ((x5_3.length : Int) : Int) := of_decide_eq_true (by first | (with_reducible assumption) | assumption)
 obtain ⟨hx29_0, hf29_0⟩ := Kd.R_celln 0 HO_5.out ((ji24) : Int) p29 q29
 replace p29 := eq_true p29
 replace q29 := eq_true q29
 have HP30 := Kd.R_putg HO_5.out ((ji24) : Int) 1
 go_wp2_with (first | ((with_reducible refine gate_store (t := 3) (p := 53) rfl ?_); (try (rw [drewN_self wr]; generalize hq_ : World.drewN wr _ = wr; have n0_ := Aside0.mk (Kd.R_at hq_ HO_5.out); have n1_ := Aside0.mk (Kd.R_at hq_ HO_6.out); have n2_ := Aside0.mk (below_at hq_ HB.out); clear hq_ HO_5 HO_6 HB; have HO_5 := n0_; have HO_6 := n1_; have HB := n2_; clear n0_ n1_ n2_; (try (have HP30 := Kd.R_putg HO_5.out ((ji24) : Int) 1)))); refine store_event (t := 3) (p := 53) (v := ?vo_w31) (w1 := (wr.setCell ⟨go10, ((ji24) : Int).toNat, none⟩ (.int .i64 1))) ?hg ?ho ?hn ?hr ?_; (case ho => rfl); (case hg => rfl); (case hn => rfl); (case hr => first | (go_simp; done) | (go_simp; rfl)); intro w31 hw; have hg : wr.grownBy w31 (some go10) := (by rw [hw]; exact HP30.2); have hp_ : Kd.R (Kd.int .i64) 3 w31 w.heap.size (fun k_ => some k_ ≠ (u6 : Value).ownBlock) (.slice (some ⟨go10, 0, none⟩) x5_3.length co10) y110 := (by rw [hw, Ny110.out]; exact HP30.1); clear HP30; have n0_ := Aside0.mk (hp_); have n1_ := Aside0.mk (Kd.R_after (v := (.slice (some ⟨go10, 0, none⟩) x5_3.length co10)) (v1 := (.slice (some ⟨go10, 0, none⟩) x5_3.length co10)) (ok := (fun _ => True)) (by (with_reducible repeat (first | apply Kd.R_alloc | apply Kd.R_drewN | apply Kd.R_drew)); exact Kd.R_mono HO_6.out (fun _ hk => ⟨trivial, hk⟩)) hg (.inl rfl)); have n2_ := Aside0.mk ((by rw [hw]; exact below_set (HB.out) GB10.out : Below w.heap.size w w31)); clear HO_5; clear HO_6; clear HB; have HO_5 := n0_; have HO_6 := n1_; have HB := n2_; clear n0_ n1_ n2_; clear hg hw hp_))
 repeat (go_quiet (first | ((with_reducible refine gate_store (t := 3) (p := 53) rfl ?_); (try (rw [drewN_self wr]; generalize hq_ : World.drewN wr _ = wr; have n0_ := Aside0.mk (Kd.R_at hq_ HO_5.out); have n1_ := Aside0.mk (Kd.R_at hq_ HO_6.out); have n2_ := Aside0.mk (below_at hq_ HB.out); clear hq_ HO_5 HO_6 HB; have HO_5 := n0_; have HO_6 := n1_; have HB := n2_; clear n0_ n1_ n2_; (try (have HP30 := Kd.R_putg HO_5.out ((ji24) : Int) 1)))); refine store_event (t := 3) (p := 53) (v := ?vo_w31) (w1 := (wr.setCell ⟨go10, ((ji24) : Int).toNat, none⟩ (.int .i64 1))) ?hg ?ho ?hn ?hr ?_; (case ho => rfl); (case hg => rfl); (case hn => rfl); (case hr => first | (go_simp; done) | (go_simp; rfl)); intro w31 hw; have hg : wr.grownBy w31 (some go10) := (by rw [hw]; exact HP30.2); have hp_ : Kd.R (Kd.int .i64) 3 w31 w.heap.size (fun k_ => some k_ ≠ (u6 : Value).ownBlock) (.slice (some ⟨go10, 0, none⟩) x5_3.length co10) y110 := (by rw [hw, Ny110.out]; exact HP30.1); clear HP30; have n0_ := Aside0.mk (hp_); have n1_ := Aside0.mk (Kd.R_after (v := (.slice (some ⟨go10, 0, none⟩) x5_3.length co10)) (v1 := (.slice (some ⟨go10, 0, none⟩) x5_3.length co10)) (ok := (fun _ => True)) (by (with_reducible repeat (first | apply Kd.R_alloc | apply Kd.R_drewN | apply Kd.R_drew)); exact Kd.R_mono HO_6.out (fun _ hk => ⟨trivial, hk⟩)) hg (.inl rfl)); have n2_ := Aside0.mk ((by rw [hw]; exact below_set (HB.out) GB10.out : Below w.heap.size w w31)); clear HO_5; clear HO_6; clear HB; have HO_5 := n0_; have HO_6 := n1_; have HB := n2_; clear n0_ n1_ n2_; clear hg hw hp_)); try go_wp2_with (first | ((with_reducible refine gate_store (t := 3) (p := 53) rfl ?_); (try (rw [drewN_self wr]; generalize hq_ : World.drewN wr _ = wr; have n0_ := Aside0.mk (Kd.R_at hq_ HO_5.out); have n1_ := Aside0.mk (Kd.R_at hq_ HO_6.out); have n2_ := Aside0.mk (below_at hq_ HB.out); clear hq_ HO_5 HO_6 HB; have HO_5 := n0_; have HO_6 := n1_; have HB := n2_; clear n0_ n1_ n2_; (try (have HP30 := Kd.R_putg HO_5.out ((ji24) : Int) 1)))); refine store_event (t := 3) (p := 53) (v := ?vo_w31) (w1 := (wr.setCell ⟨go10, ((ji24) : Int).toNat, none⟩ (.int .i64 1))) ?hg ?ho ?hn ?hr ?_; (case ho => rfl); (case hg => rfl); (case hn => rfl); (case hr => first | (go_simp; done) | (go_simp; rfl)); intro w31 hw; have hg : wr.grownBy w31 (some go10) := (by rw [hw]; exact HP30.2); have hp_ : Kd.R (Kd.int .i64) 3 w31 w.heap.size (fun k_ => some k_ ≠ (u6 : Value).ownBlock) (.slice (some ⟨go10, 0, none⟩) x5_3.length co10) y110 := (by rw [hw, Ny110.out]; exact HP30.1); clear HP30; have n0_ := Aside0.mk (hp_); have n1_ := Aside0.mk (Kd.R_after (v := (.slice (some ⟨go10, 0, none⟩) x5_3.length co10)) (v1 := (.slice (some ⟨go10, 0, none⟩) x5_3.length co10)) (ok := (fun _ => True)) (by (with_reducible repeat (first | apply Kd.R_alloc | apply Kd.R_drewN | apply Kd.R_drew)); exact Kd.R_mono HO_6.out (fun _ hk => ⟨trivial, hk⟩)) hg (.inl rfl)); have n2_ := Aside0.mk ((by rw [hw]; exact below_set (HB.out) GB10.out : Below w.heap.size w w31)); clear HO_5; clear HO_6; clear HB; have HO_5 := n0_; have HO_6 := n1_; have HB := n2_; clear n0_ n1_ n2_; clear hg hw hp_)))
 (try simp only [← hl5_3])
 go_roundg k3
 case measure => have := HK1.out; have := HJ10.out; have := HK3.out; omega
 case rel => exact ⟨(y110), (ji24), (by first | rfl | (simp; done) | (simp only [← hji24] <;> (first | rfl | simp)) | (simp [*]; done)), H', ⟨by have := HK1.out; have := HJ10.out; have := HK3.out; omega⟩, ⟨by (try simp only [hl5_10]); (try simp only [hl5_3]); (with_reducible repeat (first | apply Kd.R_alloc | apply Kd.R_drewN | apply Kd.R_drew)); exact HO_5.out⟩, ⟨by (try simp only [hl5_10]); (try simp only [hl5_3]); (with_reducible repeat (first | apply Kd.R_alloc | apply Kd.R_drewN | apply Kd.R_drew)); exact Kd.R_mono HO_6.out (fun _ hk => hk.2)⟩, ⟨by repeat (first | (with_reducible first | exact HB.out | apply below_alloc | apply pw_below_drewN | apply below_drew1) | exact HB.out)⟩⟩ }
 {
 rw [if_neg c28] at H
 exact absurd H (by simp) }}}
 {
 rw [if_neg c25] at H
 exact absurd H (by simp) }}
 {
 rw [if_neg c23] at H
 have c23b0 : decide ((wrap64 (x7_3 + 1)) < (a0.size : Int)) = false := decide_eq_false c23
 clear c23
 have H' := Aside0.mk H
 clear H
 go_wp2
 repeat (go_quiet (fail); try go_wp2)
 (try simp only [← hl5_10, ← hl5_3])
 go_roundg k3
 case measure => have := HK1.out; have := HJ10.out; have := HK3.out; omega
 case rel => exact ⟨(x5_3), (x6_1), (wrap64 (x7_3 + 1)), (by first | rfl | (simp; done) | (simp [*]; done)), H', ⟨by have := HK1.out; have := HJ10.out; have := HK3.out; omega⟩, ⟨by (try simp only [hl5_10]); (try simp only [hl5_3]); (with_reducible repeat (first | apply Kd.R_alloc | apply Kd.R_drewN | apply Kd.R_drew)); exact HO_5.out⟩, ⟨by (try simp only [hl5_10]); (try simp only [hl5_3]); (with_reducible repeat (first | apply Kd.R_alloc | apply Kd.R_drewN | apply Kd.R_drew)); exact HO_6.out⟩, ⟨by repeat (first | (with_reducible first | exact HB.out | apply below_alloc | apply pw_below_drewN | apply below_drew1) | exact HB.out)⟩⟩ }))}
 { as_aux_lemma => (
 rw [if_neg c22] at H
 have c22b0 : ((bt a0 x7_1) == 59) = false := beq_eq_false_iff_ne.mpr c22
 have c22b1 : ((bt a0 x7_1) != 59) = true := bne_iff_ne.mpr c22
 by_cases c32 : (bt a0 x7_1) = 40
 {
 rw [if_pos c32] at H
 have c32b0 : ((bt a0 x7_1) == 40) = true := beq_iff_eq.mpr c32
 have c32b1 : ((bt a0 x7_1) != 40) = false := bne_eq_false_iff_eq.mpr c32
 clear c32
 by_cases c33 : x6_1.length < 17592186044416
 {
 rw [if_pos c33] at H
 have LMc33 := Aside0.mk c33
 clear c33
 obtain ⟨y111, hy111⟩ : ∃ y_ : List Int, y_ = (x6_1 ++ [x7_1]) := ⟨_, rfl⟩
 replace H : (hearsayref08_kindsP.l0 kj10 a0 y108 y111 (wrap64 (x7_1 + 1))) = some (r1, r2, r3) := by first | (rw [hy111]; with_reducible exact H) | (have H2_ := (Option.bind_some _ _).symm.trans H; rw [hy111]; with_reducible exact H2_) | (have H2_ := (Option.bind_some _ _).symm.trans H; with_reducible exact H2_) | with_reducible exact H | (rw [hy111]; exact H) | exact H
 have Ny111 := Aside0.mk hy111
 clear hy111
 have H' := Aside0.mk H
 clear H
 go_wp2_with (first | ((with_reducible refine gate_builtin (b := .append) (xs := #[.tmp 57, .tmp 59]) rfl ?_); (try (refine gate_guard (by rfl) ?_; dsimp only)); at_builtin; refine Kd.R_append (Kd.int .i64) (w0 := w) w.heap.size rfl (.tmp 57) (.tmp 59) 53 3 (.int .i64 0) 8 rfl Try.underlying53 info3 rfl (by decide) (by omega) u6 x6_1 x7_1 [.int .i64 x7_1] (fun k_ => some k_ ≠ (.slice (some ⟨go10, 0, none⟩) y108.length co10 : Value).ownBlock) (fun _ => False) rfl rfl ?aP (fun _ hk => hk.elim) ?aF ?aO ?aB ?aS ?aL ?_; (case aP => exact rfl); (case aB => exact (by repeat (first | (with_reducible first | exact HB.out | apply below_alloc | apply pw_below_drewN | apply below_drew1) | exact HB.out))); (case aF => exact (fun k_ hk => Kd.fresh' (Kd.R_lt (by (with_reducible repeat (first | apply Kd.R_alloc | apply Kd.R_drewN | apply Kd.R_drew)); exact HO_5.out)) k_ hk)); (case aO => exact (by (with_reducible repeat (first | apply Kd.R_alloc | apply Kd.R_drewN | apply Kd.R_drew)); exact HO_6.out)); (case aS => exact (below_size (by repeat (first | (with_reducible first | exact HB.out | apply below_alloc | apply pw_below_drewN | apply below_drew1) | exact HB.out)))); (case aL => have := LMc33.out; omega); intro v112 w34 ho hb hg hat; rw [← Ny111.out] at ho; have n0_ := Aside0.mk (Kd.R_after (ok := (fun _ => True)) (by (with_reducible repeat (first | apply Kd.R_alloc | apply Kd.R_drewN | apply Kd.R_drew)); exact Kd.R_mono HO_5.out (fun _ hk => ⟨trivial, hk⟩)) hg hat); have n1_ := Aside0.mk (hb); have n2_ := Aside0.mk (ho); clear HO_5; clear HB; clear HO_6; have HO_5 := n0_; have HB := n1_; have HO113 := n2_; clear n0_ n1_ n2_; clear ho hb hg hat))
 repeat (go_quiet (first | ((with_reducible refine gate_builtin (b := .append) (xs := #[.tmp 57, .tmp 59]) rfl ?_); (try (refine gate_guard (by rfl) ?_; dsimp only)); at_builtin; refine Kd.R_append (Kd.int .i64) (w0 := w) w.heap.size rfl (.tmp 57) (.tmp 59) 53 3 (.int .i64 0) 8 rfl Try.underlying53 info3 rfl (by decide) (by omega) u6 x6_1 x7_1 [.int .i64 x7_1] (fun k_ => some k_ ≠ (.slice (some ⟨go10, 0, none⟩) y108.length co10 : Value).ownBlock) (fun _ => False) rfl rfl ?aP (fun _ hk => hk.elim) ?aF ?aO ?aB ?aS ?aL ?_; (case aP => exact rfl); (case aB => exact (by repeat (first | (with_reducible first | exact HB.out | apply below_alloc | apply pw_below_drewN | apply below_drew1) | exact HB.out))); (case aF => exact (fun k_ hk => Kd.fresh' (Kd.R_lt (by (with_reducible repeat (first | apply Kd.R_alloc | apply Kd.R_drewN | apply Kd.R_drew)); exact HO_5.out)) k_ hk)); (case aO => exact (by (with_reducible repeat (first | apply Kd.R_alloc | apply Kd.R_drewN | apply Kd.R_drew)); exact HO_6.out)); (case aS => exact (below_size (by repeat (first | (with_reducible first | exact HB.out | apply below_alloc | apply pw_below_drewN | apply below_drew1) | exact HB.out)))); (case aL => have := LMc33.out; omega); intro v112 w34 ho hb hg hat; rw [← Ny111.out] at ho; have n0_ := Aside0.mk (Kd.R_after (ok := (fun _ => True)) (by (with_reducible repeat (first | apply Kd.R_alloc | apply Kd.R_drewN | apply Kd.R_drew)); exact Kd.R_mono HO_5.out (fun _ hk => ⟨trivial, hk⟩)) hg hat); have n1_ := Aside0.mk (hb); have n2_ := Aside0.mk (ho); clear HO_5; clear HB; clear HO_6; have HO_5 := n0_; have HB := n1_; have HO113 := n2_; clear n0_ n1_ n2_; clear ho hb hg hat)); try go_wp2_with (first | ((with_reducible refine gate_builtin (b := .append) (xs := #[.tmp 57, .tmp 59]) rfl ?_); (try (refine gate_guard (by rfl) ?_; dsimp only)); at_builtin; refine Kd.R_append (Kd.int .i64) (w0 := w) w.heap.size rfl (.tmp 57) (.tmp 59) 53 3 (.int .i64 0) 8 rfl Try.underlying53 info3 rfl (by decide) (by omega) u6 x6_1 x7_1 [.int .i64 x7_1] (fun k_ => some k_ ≠ (.slice (some ⟨go10, 0, none⟩) y108.length co10 : Value).ownBlock) (fun _ => False) rfl rfl ?aP (fun _ hk => hk.elim) ?aF ?aO ?aB ?aS ?aL ?_; (case aP => exact rfl); (case aB => exact (by repeat (first | (with_reducible first | exact HB.out | apply below_alloc | apply pw_below_drewN | apply below_drew1) | exact HB.out))); (case aF => exact (fun k_ hk => Kd.fresh' (Kd.R_lt (by (with_reducible repeat (first | apply Kd.R_alloc | apply Kd.R_drewN | apply Kd.R_drew)); exact HO_5.out)) k_ hk)); (case aO => exact (by (with_reducible repeat (first | apply Kd.R_alloc | apply Kd.R_drewN | apply Kd.R_drew)); exact HO_6.out)); (case aS => exact (below_size (by repeat (first | (with_reducible first | exact HB.out | apply below_alloc | apply pw_below_drewN | apply below_drew1) | exact HB.out)))); (case aL => have := LMc33.out; omega); intro v112 w34 ho hb hg hat; rw [← Ny111.out] at ho; have n0_ := Aside0.mk (Kd.R_after (ok := (fun _ => True)) (by (with_reducible repeat (first | apply Kd.R_alloc | apply Kd.R_drewN | apply Kd.R_drew)); exact Kd.R_mono HO_5.out (fun _ hk => ⟨trivial, hk⟩)) hg hat); have n1_ := Aside0.mk (hb); have n2_ := Aside0.mk (ho); clear HO_5; clear HB; clear HO_6; have HO_5 := n0_; have HB := n1_; have HO113 := n2_; clear n0_ n1_ n2_; clear ho hb hg hat)))
 (try simp only [← hl5_10])
 go_roundg kj10
 case measure => have := HK1.out; have := HJ10.out; omega
 case rel => exact ⟨(y108), (y111), (wrap64 (x7_1 + 1)), (by first | rfl | (simp; done) | (simp [*]; done)), H', ⟨by have := HK1.out; have := HJ10.out; omega⟩, ⟨by (try simp only [hl5_10]); (with_reducible repeat (first | apply Kd.R_alloc | apply Kd.R_drewN | apply Kd.R_drew)); exact Kd.R_mono HO_5.out (fun _ hk => hk.2)⟩, ⟨by (try simp only [hl5_10]); (with_reducible repeat (first | apply Kd.R_alloc | apply Kd.R_drewN | apply Kd.R_drew)); exact HO113.out⟩, ⟨by repeat (first | (with_reducible first | exact HB.out | apply below_alloc | apply pw_below_drewN | apply below_drew1) | exact HB.out)⟩⟩ }
 {
 rw [if_neg c33] at H
 exact absurd H (by simp) }}
 { as_aux_lemma => (
 rw [if_neg c32] at H
 have c32b0 : ((bt a0 x7_1) == 40) = false := beq_eq_false_iff_ne.mpr c32
 have c32b1 : ((bt a0 x7_1) != 40) = true := bne_iff_ne.mpr c32
 by_cases c35 : (bt a0 x7_1) = 41
 {
 rw [if_pos c35] at H
 have c35b0 : ((bt a0 x7_1) == 41) = true := beq_iff_eq.mpr c35
 have c35b1 : ((bt a0 x7_1) != 41) = false := bne_eq_false_iff_eq.mpr c35
 clear c35
 by_cases c36 : (x6_1.length : Int) = 0
 {
 rw [if_pos c36] at H
 have c36b0 : ((x6_1.length : Int) == 0) = true := beq_iff_eq.mpr c36
 have c36b1 : ((x6_1.length : Int) != 0) = false := bne_eq_false_iff_eq.mpr c36
 clear c36
 simp only [Option.some.injEq, Prod.mk.injEq] at H
 obtain ⟨rfl, rfl, rfl⟩ := H
 obtain ⟨Ao37, co37, eo37⟩ := Kd.R_slice HO_6.out
 subst eo37
 go_wp2
 repeat (go_quiet (fail); try go_wp2)
 go_ret3
 exact ⟨_, by first | rfl | (simp [errW_none, errW_some] <;> rfl) | (simp [*, errW_none, errW_some] <;> rfl), by first | exact Kd.R_nil _ _ _ _ _ | exact Kd.N_nil _ _ _ _ _ | exact Kd.V_nil _ _ _ _ _ | exact Kd.Q_nil _ _ _ _ _ | exact Kd.S_nil _ _ _ _ _, by repeat (first | (with_reducible first | exact HB.out | apply below_alloc | apply pw_below_drewN | apply below_drew1) | exact HB.out)⟩ }
 {
 rw [if_neg c36] at H
 have c36b0 : ((x6_1.length : Int) == 0) = false := beq_eq_false_iff_ne.mpr c36
 have c36b1 : ((x6_1.length : Int) != 0) = true := bne_iff_ne.mpr c36
 have c36b2 : ¬ (x6_1 = []) := fun h_ => c36 (by rw [h_]; rfl)
 obtain ⟨ji38, hji38⟩ : ∃ j_ : Int, (wrap64 ((x6_1.length : Int) - 1)) = j_ := ⟨_, rfl⟩
 replace H : (if 0 ≤ (ji38) then (if (ji38) ≤ (x6_1.length : Int) then (hearsayref08_kindsP.l0 kj10 a0 y108 (x6_1.take ((ji38) : Int).toNat) (wrap64 (x7_1 + 1))) else (none)) else (none)) = some (r1, r2, r3) := by first | (rw [hji38] at H; exact H) | (simp only [hji38] at H ⊢; exact H)
 have hji38w : (IntKind.i64.wrap ((x6_1.length : Int) - 1)) = ji38 := (i64_w _).trans hji38
 by_cases c39 : 0 ≤ (ji38)
 {
 rw [if_pos c39] at H
 have c39b0 := eq_true c39
 have c39b1 : decide (0 ≤ (ji38)) = true := decide_eq_true c39
 clear c39
 by_cases c40 : (ji38) ≤ (x6_1.length : Int)
 {
 rw [if_pos c40] at H
 have c40b0 := eq_true c40
 have c40b1 : decide ((ji38) ≤ (x6_1.length : Int)) = true := decide_eq_true c40
 clear c40
 obtain ⟨y114, hy114⟩ : ∃ y_ : List Int, y_ = (x6_1.take ((ji38) : Int).toNat) := ⟨_, rfl⟩
 replace H : (hearsayref08_kindsP.l0 kj10 a0 y108 y114 (wrap64 (x7_1 + 1))) = some (r1, r2, r3) := by first | (rw [hy114]; with_reducible exact H) | (have H2_ := (Option.bind_some _ _).symm.trans H; rw [hy114]; with_reducible exact H2_) | (have H2_ := (Option.bind_some _ _).symm.trans H; with_reducible exact H2_) | with_reducible exact H | (rw [hy114]; exact H) | exact H
 have Ny114 := Aside0.mk hy114
 clear hy114
 have H' := Aside0.mk H
 clear H
 obtain ⟨Ao41, co41, eo41⟩ := Kd.R_slice HO_6.out
 subst eo41
 have q42 : ((ji38) : Int) ≤ ((x6_1.length : Int) : Int) := of_decide_eq_true (by first | (with_reducible assumption) | assumption)
 obtain ⟨i042, hi042, _, hsz42, _⟩ := info_parts info3
 have hcut42 := cut_to (P := Try.prog) 53 3 .i64 Try.underlying53 hi042 Ao41 x6_1.length co41 (ji38) (of_decide_eq_true (by first | (with_reducible assumption) | assumption)) q42 (Kd.R_reads' HO_6.out).2.1
 have hr42 := Kd.R_take (m := ((ji38) : Int).toNat) HO_6.out (by omega)
 have hy42 : y114.length = ((ji38) : Int).toNat := (by rw [Ny114.out, List.length_take]; omega)
 rw [← Ny114.out] at hr42
 rw [← hy42] at hr42 hcut42
 clear hy42 hi042 hsz42 HO_6
 have HO116 := Aside0.mk hr42
 clear hr42
 replace q42 := eq_true q42
 go_wp2
 repeat (go_quiet (fail); try go_wp2)
 (try simp only [← hl5_10])
 go_roundg kj10
 case measure => have := HK1.out; have := HJ10.out; omega
 case rel => exact ⟨(y108), (y114), (wrap64 (x7_1 + 1)), (by first | rfl | (simp; done) | (simp [*]; done)), H', ⟨by have := HK1.out; have := HJ10.out; omega⟩, ⟨by (try simp only [hl5_10]); (with_reducible repeat (first | apply Kd.R_alloc | apply Kd.R_drewN | apply Kd.R_drew)); exact Kd.R_mono HO_5.out (fun _ h_ => by revert h_; cases Ao41 <;> exact id)⟩, ⟨by (try simp only [hl5_10]); (with_reducible repeat (first | apply Kd.R_alloc | apply Kd.R_drewN | apply Kd.R_drew)); exact HO116.out⟩, ⟨by repeat (first | (with_reducible first | exact HB.out | apply below_alloc | apply pw_below_drewN | apply below_drew1) | exact HB.out)⟩⟩ }
 {
 rw [if_neg c40] at H
 exact absurd H (by simp) }}
 {
 rw [if_neg c39] at H
 exact absurd H (by simp) }}}
 { as_aux_lemma => (
 rw [if_neg c35] at H
 have c35b0 : ((bt a0 x7_1) == 41) = false := beq_eq_false_iff_ne.mpr c35
 have c35b1 : ((bt a0 x7_1) != 41) = true := bne_iff_ne.mpr c35
 by_cases c43 : (bt a0 x7_1) = 34
 { as_aux_lemma => (
 rw [if_pos c43] at H
 have c43b0 : ((bt a0 x7_1) == 34) = true := beq_iff_eq.mpr c43
 have c43b1 : ((bt a0 x7_1) != 34) = false := bne_eq_false_iff_eq.mpr c43
 clear c43
 by_cases c44 : 0 ≤ x7_1
 { as_aux_lemma => (
 rw [if_pos c44] at H
 have c44b0 : decide (0 ≤ x7_1) = true := decide_eq_true c44
 clear c44
 by_cases c45 : x7_1 < (y108.length : Int)
 { as_aux_lemma => (
 rw [if_pos c45] at H
 have c45b0 : decide (x7_1 < (y108.length : Int)) = true := decide_eq_true c45
 clear c45
 obtain ⟨y117, hy117⟩ : ∃ y_ : List Int, y_ = (y108.set (x7_1 : Int).toNat 5) := ⟨_, rfl⟩
 replace H : (hearsayref08_kindsP.l2 kj10 a0 y117 x6_1 (wrap64 (x7_1 + 1)) x7_1) = some (r1, r2, r3) := by first | (rw [hy117]; with_reducible exact H) | (have H2_ := (Option.bind_some _ _).symm.trans H; rw [hy117]; with_reducible exact H2_) | (have H2_ := (Option.bind_some _ _).symm.trans H; with_reducible exact H2_) | with_reducible exact H | (rw [hy117]; exact H) | exact H
 have Ny117 := Aside0.mk hy117
 clear hy117
 have H' := Aside0.mk H
 clear H
 have p46 : 0 ≤ (x7_1 : Int) := of_decide_eq_true (by first | (with_reducible assumption) | assumption)
 have q46 : (x7_1 : Int) < ((y108.length : Int) : Int) := of_decide_eq_true (by first | (with_reducible assumption) | assumption)
 obtain ⟨hx46_0, hf46_0⟩ := Kd.R_celln 0 HO_5.out (x7_1 : Int) p46 q46
 replace p46 := eq_true p46
 replace q46 := eq_true q46
 have HP47 := Kd.R_putg HO_5.out (x7_1 : Int) 5
 go_wp2_with (first | ((with_reducible refine gate_store (t := 3) (p := 78) rfl ?_); (try (rw [drewN_self wc]; generalize hq_ : World.drewN wc _ = wc; have n0_ := Aside0.mk (Kd.R_at hq_ HO_5.out); have n1_ := Aside0.mk (Kd.R_at hq_ HO_6.out); have n2_ := Aside0.mk (below_at hq_ HB.out); clear hq_ HO_5 HO_6 HB; have HO_5 := n0_; have HO_6 := n1_; have HB := n2_; clear n0_ n1_ n2_; (try (have HP47 := Kd.R_putg HO_5.out (x7_1 : Int) 5)))); refine store_event (t := 3) (p := 78) (v := ?vo_w48) (w1 := (wc.setCell ⟨go10, (x7_1 : Int).toNat, none⟩ (.int .i64 5))) ?hg ?ho ?hn ?hr ?_; (case ho => rfl); (case hg => rfl); (case hn => rfl); (case hr => first | (go_simp; done) | (go_simp; rfl)); intro w48 hw; have hg : wc.grownBy w48 (some go10) := (by rw [hw]; exact HP47.2); have hp_ : Kd.R (Kd.int .i64) 3 w48 w.heap.size (fun k_ => some k_ ≠ (u6 : Value).ownBlock) (.slice (some ⟨go10, 0, none⟩) y108.length co10) y117 := (by rw [hw, Ny117.out]; exact HP47.1); clear HP47; have n0_ := Aside0.mk (hp_); have n1_ := Aside0.mk (Kd.R_after (v := (.slice (some ⟨go10, 0, none⟩) y108.length co10)) (v1 := (.slice (some ⟨go10, 0, none⟩) y108.length co10)) (ok := (fun _ => True)) (by (with_reducible repeat (first | apply Kd.R_alloc | apply Kd.R_drewN | apply Kd.R_drew)); exact Kd.R_mono HO_6.out (fun _ hk => ⟨trivial, hk⟩)) hg (.inl rfl)); have n2_ := Aside0.mk ((by rw [hw]; exact below_set (HB.out) GB10.out : Below w.heap.size w w48)); clear HO_5; clear HO_6; clear HB; have HO_5 := n0_; have HO_6 := n1_; have HB := n2_; clear n0_ n1_ n2_; clear hg hw hp_))
 repeat (go_quiet (first | ((with_reducible refine gate_store (t := 3) (p := 78) rfl ?_); (try (rw [drewN_self wc]; generalize hq_ : World.drewN wc _ = wc; have n0_ := Aside0.mk (Kd.R_at hq_ HO_5.out); have n1_ := Aside0.mk (Kd.R_at hq_ HO_6.out); have n2_ := Aside0.mk (below_at hq_ HB.out); clear hq_ HO_5 HO_6 HB; have HO_5 := n0_; have HO_6 := n1_; have HB := n2_; clear n0_ n1_ n2_; (try (have HP47 := Kd.R_putg HO_5.out (x7_1 : Int) 5)))); refine store_event (t := 3) (p := 78) (v := ?vo_w48) (w1 := (wc.setCell ⟨go10, (x7_1 : Int).toNat, none⟩ (.int .i64 5))) ?hg ?ho ?hn ?hr ?_; (case ho => rfl); (case hg => rfl); (case hn => rfl); (case hr => first | (go_simp; done) | (go_simp; rfl)); intro w48 hw; have hg : wc.grownBy w48 (some go10) := (by rw [hw]; exact HP47.2); have hp_ : Kd.R (Kd.int .i64) 3 w48 w.heap.size (fun k_ => some k_ ≠ (u6 : Value).ownBlock) (.slice (some ⟨go10, 0, none⟩) y108.length co10) y117 := (by rw [hw, Ny117.out]; exact HP47.1); clear HP47; have n0_ := Aside0.mk (hp_); have n1_ := Aside0.mk (Kd.R_after (v := (.slice (some ⟨go10, 0, none⟩) y108.length co10)) (v1 := (.slice (some ⟨go10, 0, none⟩) y108.length co10)) (ok := (fun _ => True)) (by (with_reducible repeat (first | apply Kd.R_alloc | apply Kd.R_drewN | apply Kd.R_drew)); exact Kd.R_mono HO_6.out (fun _ hk => ⟨trivial, hk⟩)) hg (.inl rfl)); have n2_ := Aside0.mk ((by rw [hw]; exact below_set (HB.out) GB10.out : Below w.heap.size w w48)); clear HO_5; clear HO_6; clear HB; have HO_5 := n0_; have HO_6 := n1_; have HB := n2_; clear n0_ n1_ n2_; clear hg hw hp_)); try go_wp2_with (first | ((with_reducible refine gate_store (t := 3) (p := 78) rfl ?_); (try (rw [drewN_self wc]; generalize hq_ : World.drewN wc _ = wc; have n0_ := Aside0.mk (Kd.R_at hq_ HO_5.out); have n1_ := Aside0.mk (Kd.R_at hq_ HO_6.out); have n2_ := Aside0.mk (below_at hq_ HB.out); clear hq_ HO_5 HO_6 HB; have HO_5 := n0_; have HO_6 := n1_; have HB := n2_; clear n0_ n1_ n2_; (try (have HP47 := Kd.R_putg HO_5.out (x7_1 : Int) 5)))); refine store_event (t := 3) (p := 78) (v := ?vo_w48) (w1 := (wc.setCell ⟨go10, (x7_1 : Int).toNat, none⟩ (.int .i64 5))) ?hg ?ho ?hn ?hr ?_; (case ho => rfl); (case hg => rfl); (case hn => rfl); (case hr => first | (go_simp; done) | (go_simp; rfl)); intro w48 hw; have hg : wc.grownBy w48 (some go10) := (by rw [hw]; exact HP47.2); have hp_ : Kd.R (Kd.int .i64) 3 w48 w.heap.size (fun k_ => some k_ ≠ (u6 : Value).ownBlock) (.slice (some ⟨go10, 0, none⟩) y108.length co10) y117 := (by rw [hw, Ny117.out]; exact HP47.1); clear HP47; have n0_ := Aside0.mk (hp_); have n1_ := Aside0.mk (Kd.R_after (v := (.slice (some ⟨go10, 0, none⟩) y108.length co10)) (v1 := (.slice (some ⟨go10, 0, none⟩) y108.length co10)) (ok := (fun _ => True)) (by (with_reducible repeat (first | apply Kd.R_alloc | apply Kd.R_drewN | apply Kd.R_drew)); exact Kd.R_mono HO_6.out (fun _ hk => ⟨trivial, hk⟩)) hg (.inl rfl)); have n2_ := Aside0.mk ((by rw [hw]; exact below_set (HB.out) GB10.out : Below w.heap.size w w48)); clear HO_5; clear HO_6; clear HB; have HO_5 := n0_; have HO_6 := n1_; have HB := n2_; clear n0_ n1_ n2_; clear hg hw hp_)))
 go_loopg [7] kj10 (fun kq v7 w' => ∃ (x5_3 : List Int) (x7_3 : Int), v7 = .int .i64 x7_3 ∧ Aside0 (hearsayref08_kindsP.l2 kq a0 x5_3 x6_1 x7_3 x7_1 = some (r1, r2, r3)) ∧ Aside0 (kq ≤ kj10) ∧ Aside0 (Kd.R (Kd.int .i64) 3 w' w.heap.size (fun k_ => some k_ ≠ (u6 : Value).ownBlock) (.slice (some ⟨go10, 0, none⟩) y108.length co10) x5_3) ∧ Aside0 (Kd.R (Kd.int .i64) 3 w' w.heap.size (fun k_ => some k_ ≠ ((.slice (some ⟨go10, 0, none⟩) y108.length co10) : Value).ownBlock) u6 x6_1) ∧ Aside0 (Below w.heap.size w w'))
 case atStart => exact ⟨(y117), (wrap64 (x7_1 + 1)), (by first | rfl | (simp; done) | (simp [*]; done)), H', ⟨Nat.le_refl _⟩, ⟨by (try simp only [hl5_10]); (with_reducible repeat (first | apply Kd.R_alloc | apply Kd.R_drewN | apply Kd.R_drew)); exact HO_5.out⟩, ⟨by (try simp only [hl5_10]); (with_reducible repeat (first | apply Kd.R_alloc | apply Kd.R_drewN | apply Kd.R_drew)); exact Kd.R_mono HO_6.out (fun _ hk => hk.2)⟩, ⟨by repeat (first | (with_reducible first | exact HB.out | apply below_alloc | apply pw_below_drewN | apply below_drew1) | exact HB.out)⟩⟩
 case round => (as_aux_lemma => (
 clear H'
 try clear c1
 try clear p1
 try clear q1
 try clear hx1
 try clear hf1
 try clear c2
 try clear c2b0
 try clear c2b1
 try clear p2
 try clear q2
 try clear hx2
 try clear hf2
 try clear c3
 try clear c3b0
 try clear c3b1
 try clear c4
 try clear p4
 try clear q4
 try clear hx4
 try clear hf4
 try clear c6
 try clear c6b0
 try clear p6
 try clear c7
 try clear c7b0
 try clear p8
 try clear q8
 try clear hx8
 try clear c9
 try clear c9b0
 try clear p10
 try clear q10
 try clear hx10
 try clear hf10
 try clear c14
 try clear c14b0
 try clear c14b1
 try clear c16
 try clear c17
 try clear c17b0
 try clear c18
 try clear c18b0
 try clear p19
 try clear q19
 try clear hx19
 try clear hf19
 try clear c22
 try clear c22b0
 try clear c22b1
 try clear c23
 try clear c23b0
 try clear c25
 try clear c25b0
 try clear c26
 try clear p26
 try clear q26
 try clear hx26
 try clear c27
 try clear c27b0
 try clear c27b1
 try clear c28
 try clear c28b0
 try clear p29
 try clear q29
 try clear hx29
 try clear hf29
 try clear c32
 try clear c32b0
 try clear c32b1
 try clear c33
 try clear c35
 try clear c35b0
 try clear c35b1
 try clear c36
 try clear c36b0
 try clear c36b1
 try clear c36b2
 try clear c39
 try clear c39b0
 try clear c39b1
 try clear c40
 try clear c40b0
 try clear c40b1
 try clear q42
 try clear c43
 try clear c43b0
 try clear c43b1
 try clear c44
 try clear c44b0
 try clear c45
 try clear c45b0
 try clear p46
 try clear q46
 try clear hx46
 try clear hf46
 try clear hx10_0
 try clear hx19_0
 try clear hx29_0
 try clear hx46_0
 try clear p1
 try clear p10
 try clear p19
 try clear p2
 try clear p26
 try clear p29
 try clear p46
 try clear p6
 try clear p8
 try clear q1
 try clear q10
 try clear q19
 try clear q26
 try clear q29
 try clear q42
 try clear q46
 try clear q8
 obtain ⟨x5_3, x7_3, rfl, HA, HK3, HO_5, HO_6, HB⟩ := hrel
 have hl5_3 := (Kd.R_reads' HO_5.out).1
 rw [hl5_3] at HO_5
 (try simp only [hl5_3])
 (try simp only [hl5_3] at HO_6)
 cases gk with
 | zero => exact absurd HA.out (by simp [hearsayref08_kindsP.l2])
 | succ k3 => (
 have H := HA.out
 clear HA
 simp only [hearsayref08_kindsP.l2] at H
 have HC49 := Aside0.mk H
 clear H
 go_upto_region 23 with (fail)
 repeat (go_quiet (fail); go_upto_region 23 with (fail))
 go_cut [97] (fun v97 wc => ∃ (kq : Nat) (x97_48 : Bool), v97 = .bool x97_48 ∧ Aside0 (hearsayref08_kindsP.j4 kq a0 x5_3 x6_1 x7_3 x7_1 x97_48 = some (r1, r2, r3)) ∧ Aside0 (kq ≤ k3) ∧ Aside0 (Kd.R (Kd.int .i64) 3 wc w.heap.size (fun k_ => some k_ ≠ (u6 : Value).ownBlock) (.slice (some ⟨go10, 0, none⟩) x5_3.length co10) x5_3) ∧ Aside0 (Kd.R (Kd.int .i64) 3 wc w.heap.size (fun k_ => some k_ ≠ ((.slice (some ⟨go10, 0, none⟩) x5_3.length co10) : Value).ownBlock) u6 x6_1) ∧ Aside0 (Below w.heap.size w wc))
 case first => (
 have H := HC49.out
 clear HC49
 by_cases c50 : x7_3 < (a0.size : Int)
 {
 rw [if_pos c50] at H
 have c50b0 : decide (x7_3 < (a0.size : Int)) = true := decide_eq_true c50
 clear c50
 (first | rw [c50b0] | (simp only [i64_w, i32_w]; rw [c50b0]) | skip)
 by_cases c51 : 0 ≤ x7_3
 {
 rw [if_pos c51] at H
 have c51b0 : decide (0 ≤ x7_3) = true := decide_eq_true c51
 clear c51
 by_cases c53 : (bt a0 x7_3) = 10
 {
 rw [if_pos c53] at H
 have c53b0 : ((bt a0 x7_3) == 10) = true := beq_iff_eq.mpr c53
 have c53b1 : ((bt a0 x7_3) != 10) = false := bne_eq_false_iff_eq.mpr c53
 clear c53
 have H' := Aside0.mk H
 clear H
 have p52 : 0 ≤ (x7_3 : Int) := of_decide_eq_true (by first | (with_reducible assumption) | assumption)
 have q52 : x7_3 < (a0.size : Int) := of_decide_eq_true (by first | (with_reducible assumption) | assumption)
 have hx52 := bt_at a0 x7_3
 replace p52 := eq_true p52
 replace q52 := eq_true q52
 go_wp2
 repeat (go_quiet (fail); try go_wp2)
 go_meet
 case rel => exact ⟨_, (false), (by first | rfl | (simp; done) | (simp [*]; done)), H', ⟨by have := HK1.out; have := HJ10.out; have := HK3.out; first | omega | exact Nat.le_refl _⟩, ⟨by (try simp only [hl5_10]); (try simp only [hl5_3]); (with_reducible repeat (first | apply Kd.R_alloc | apply Kd.R_drewN | apply Kd.R_drew)); exact HO_5.out⟩, ⟨by (try simp only [hl5_10]); (try simp only [hl5_3]); (with_reducible repeat (first | apply Kd.R_alloc | apply Kd.R_drewN | apply Kd.R_drew)); exact HO_6.out⟩, ⟨by repeat (first | (with_reducible first | exact HB.out | apply below_alloc | apply pw_below_drewN | apply below_drew1) | exact HB.out)⟩⟩ }
 {
 rw [if_neg c53] at H
 have c53b0 : ((bt a0 x7_3) == 10) = false := beq_eq_false_iff_ne.mpr c53
 have c53b1 : ((bt a0 x7_3) != 10) = true := bne_iff_ne.mpr c53
 have H' := Aside0.mk H
 clear H
 have p52 : 0 ≤ (x7_3 : Int) := of_decide_eq_true (by first | (with_reducible assumption) | assumption)
 have q52 : x7_3 < (a0.size : Int) := of_decide_eq_true (by first | (with_reducible assumption) | assumption)
 have hx52 := bt_at a0 x7_3
 replace p52 := eq_true p52
 replace q52 := eq_true q52
 have p54 : 0 ≤ (x7_3 : Int) := of_decide_eq_true (by first | (with_reducible assumption) | assumption)
 have q54 : x7_3 < (a0.size : Int) := of_decide_eq_true (by first | (with_reducible assumption) | assumption)
 have hx54 := bt_at a0 x7_3
 replace p54 := eq_true p54
 replace q54 := eq_true q54
 go_wp2
 repeat (go_quiet (fail); try go_wp2)
 go_meet
 case rel => exact ⟨_, (((bt a0 x7_3) != 34)), (by first | rfl | (simp; done) | (simp [*]; done)), H', ⟨by have := HK1.out; have := HJ10.out; have := HK3.out; first | omega | exact Nat.le_refl _⟩, ⟨by (try simp only [hl5_10]); (try simp only [hl5_3]); (with_reducible repeat (first | apply Kd.R_alloc | apply Kd.R_drewN | apply Kd.R_drew)); exact HO_5.out⟩, ⟨by (try simp only [hl5_10]); (try simp only [hl5_3]); (with_reducible repeat (first | apply Kd.R_alloc | apply Kd.R_drewN | apply Kd.R_drew)); exact HO_6.out⟩, ⟨by repeat (first | (with_reducible first | exact HB.out | apply below_alloc | apply pw_below_drewN | apply below_drew1) | exact HB.out)⟩⟩ }}
 {
 rw [if_neg c51] at H
 exact absurd H (by simp) }}
 {
 rw [if_neg c50] at H
 have c50b0 : decide (x7_3 < (a0.size : Int)) = false := decide_eq_false c50
 clear c50
 (first | rw [c50b0] | (simp only [i64_w, i32_w]; rw [c50b0]) | skip)
 have H' := Aside0.mk H
 clear H
 go_wp2
 repeat (go_quiet (fail); try go_wp2)
 go_meet
 case rel => exact ⟨_, (false), (by first | rfl | (simp; done) | (simp [*]; done)), H', ⟨by have := HK1.out; have := HJ10.out; have := HK3.out; first | omega | exact Nat.le_refl _⟩, ⟨by (try simp only [hl5_10]); (try simp only [hl5_3]); (with_reducible repeat (first | apply Kd.R_alloc | apply Kd.R_drewN | apply Kd.R_drew)); exact HO_5.out⟩, ⟨by (try simp only [hl5_10]); (try simp only [hl5_3]); (with_reducible repeat (first | apply Kd.R_alloc | apply Kd.R_drewN | apply Kd.R_drew)); exact HO_6.out⟩, ⟨by repeat (first | (with_reducible first | exact HB.out | apply below_alloc | apply pw_below_drewN | apply below_drew1) | exact HB.out)⟩⟩ })
 case rest => (as_aux_lemma => (
 clear HC49
 try clear c1
 try clear p1
 try clear q1
 try clear hx1
 try clear hf1
 try clear c2
 try clear c2b0
 try clear c2b1
 try clear p2
 try clear q2
 try clear hx2
 try clear hf2
 try clear c3
 try clear c3b0
 try clear c3b1
 try clear c4
 try clear p4
 try clear q4
 try clear hx4
 try clear hf4
 try clear c5
 try clear p5
 try clear q5
 try clear hx5
 try clear c6
 try clear c6b0
 try clear p6
 try clear c7
 try clear c7b0
 try clear p8
 try clear q8
 try clear hx8
 try clear c9
 try clear c9b0
 try clear p10
 try clear q10
 try clear hx10
 try clear hf10
 try clear c14
 try clear c14b0
 try clear c14b1
 try clear c16
 try clear c17
 try clear c17b0
 try clear c18
 try clear c18b0
 try clear p19
 try clear q19
 try clear hx19
 try clear hf19
 try clear c22
 try clear c22b0
 try clear c22b1
 try clear c23
 try clear c23b0
 try clear c25
 try clear c25b0
 try clear c26
 try clear p26
 try clear q26
 try clear hx26
 try clear c27
 try clear c27b0
 try clear c27b1
 try clear c28
 try clear c28b0
 try clear p29
 try clear q29
 try clear hx29
 try clear hf29
 try clear c32
 try clear c32b0
 try clear c32b1
 try clear c33
 try clear c35
 try clear c35b0
 try clear c35b1
 try clear c36
 try clear c36b0
 try clear c36b1
 try clear c36b2
 try clear c39
 try clear c39b0
 try clear c39b1
 try clear c40
 try clear c40b0
 try clear c40b1
 try clear q42
 try clear c43
 try clear c43b0
 try clear c43b1
 try clear c44
 try clear c44b0
 try clear c45
 try clear c45b0
 try clear p46
 try clear q46
 try clear hx46
 try clear hf46
 try clear c50
 try clear c50b0
 try clear c51
 try clear c51b0
 try clear p52
 try clear q52
 try clear hx52
 try clear c53
 try clear c53b0
 try clear c53b1
 try clear p54
 try clear q54
 try clear hx54
 try clear hx10_0
 try clear hx19_0
 try clear hx29_0
 try clear hx46_0
 try clear p1
 try clear p10
 try clear p19
 try clear p2
 try clear p26
 try clear p29
 try clear p4
 try clear p46
 try clear p52
 try clear p54
 try clear p6
 try clear p8
 try clear q1
 try clear q10
 try clear q19
 try clear q2
 try clear q26
 try clear q29
 try clear q4
 try clear q42
 try clear q46
 try clear q52
 try clear q54
 try clear q8
 obtain ⟨kq, x97_48, rfl, HA, HJ48, HO_5, HO_6, HB⟩ := hcut
 cases kq with
 | zero => exact absurd HA.out (by simp [hearsayref08_kindsP.j4])
 | succ kj48 => (
 have H := HA.out
 clear HA
 simp only [hearsayref08_kindsP.j4] at H
 by_cases c55 : x97_48 = true
 {
 subst c55
 have H1 : (if 0 ≤ x7_3 then (if x7_3 < (x5_3.length : Int) then ((some (x5_3.set (x7_3 : Int).toNat 4 : List Int)).bind fun y118 => ((hearsayref08_takes.f a0 x7_3).bind fun t119 => (if t119 = true then (if 0 ≤ (wrap64 (x7_3 + 1)) then (if (wrap64 (x7_3 + 1)) < (x5_3.length : Int) then (hearsayref08_kindsP.l2 kj48 a0 (y118.set ((wrap64 (x7_3 + 1)) : Int).toNat 4) x6_1 (wrap64 ((wrap64 (x7_3 + 1)) + 1)) x7_1) else (none)) else (none)) else (hearsayref08_kindsP.l2 kj48 a0 y118 x6_1 (wrap64 (x7_3 + 1)) x7_1)))) else (none)) else (none)) = some (r1, r2, r3) := by rw [if_pos rfl] at H; exact H
 clear H
 have H := H1
 clear H1
 by_cases c56 : 0 ≤ x7_3
 {
 rw [if_pos c56] at H
 have c56b0 : decide (0 ≤ x7_3) = true := decide_eq_true c56
 clear c56
 by_cases c57 : x7_3 < (x5_3.length : Int)
 {
 rw [if_pos c57] at H
 have c57b0 : decide (x7_3 < (x5_3.length : Int)) = true := decide_eq_true c57
 clear c57
 obtain ⟨y118, hy118⟩ : ∃ y_ : List Int, y_ = (x5_3.set (x7_3 : Int).toNat 4) := ⟨_, rfl⟩
 replace H : ((hearsayref08_takes.f a0 x7_3).bind fun t119 => (if t119 = true then (if 0 ≤ (wrap64 (x7_3 + 1)) then (if (wrap64 (x7_3 + 1)) < (x5_3.length : Int) then (hearsayref08_kindsP.l2 kj48 a0 (y118.set ((wrap64 (x7_3 + 1)) : Int).toNat 4) x6_1 (wrap64 ((wrap64 (x7_3 + 1)) + 1)) x7_1) else (none)) else (none)) else (hearsayref08_kindsP.l2 kj48 a0 y118 x6_1 (wrap64 (x7_3 + 1)) x7_1))) = some (r1, r2, r3) := by first | (rw [hy118]; with_reducible exact H) | (have H2_ := (Option.bind_some _ _).symm.trans H; rw [hy118]; with_reducible exact H2_) | (have H2_ := (Option.bind_some _ _).symm.trans H; with_reducible exact H2_) | with_reducible exact H | (rw [hy118]; exact H) | exact H
 have Ny118 := Aside0.mk hy118
 clear hy118
 replace H := Option.bind_eq_some_iff.mp H
 obtain ⟨t119, A590, H⟩ := H
 replace H : (if t119 = true then (if 0 ≤ (wrap64 (x7_3 + 1)) then (if (wrap64 (x7_3 + 1)) < (x5_3.length : Int) then (hearsayref08_kindsP.l2 kj48 a0 (y118.set ((wrap64 (x7_3 + 1)) : Int).toNat 4) x6_1 (wrap64 ((wrap64 (x7_3 + 1)) + 1)) x7_1) else (none)) else (none)) else (hearsayref08_kindsP.l2 kj48 a0 y118 x6_1 (wrap64 (x7_3 + 1)) x7_1)) = some (r1, r2, r3) := H
 have A59 := Aside0.mk A590
 clear A590
 by_cases c60 : t119 = true
 {
 subst c60
 have H1 : (if 0 ≤ (wrap64 (x7_3 + 1)) then (if (wrap64 (x7_3 + 1)) < (x5_3.length : Int) then (hearsayref08_kindsP.l2 kj48 a0 (y118.set ((wrap64 (x7_3 + 1)) : Int).toNat 4) x6_1 (wrap64 ((wrap64 (x7_3 + 1)) + 1)) x7_1) else (none)) else (none)) = some (r1, r2, r3) := by rw [if_pos rfl] at H; exact H
 clear H
 have H := H1
 clear H1
 obtain ⟨ji61, hji61⟩ : ∃ j_ : Int, (wrap64 (x7_3 + 1)) = j_ := ⟨_, rfl⟩
 replace H : (if 0 ≤ (ji61) then (if (ji61) < (x5_3.length : Int) then (hearsayref08_kindsP.l2 kj48 a0 (y118.set ((ji61) : Int).toNat 4) x6_1 (wrap64 ((ji61) + 1)) x7_1) else (none)) else (none)) = some (r1, r2, r3) := by first | (rw [hji61] at H; exact H) | (simp only [hji61] at H ⊢; exact H)
 (try rw [hji61] at A59)
 have hji61w : (IntKind.i64.wrap (x7_3 + 1)) = ji61 := (i64_w _).trans hji61
 by_cases c62 : 0 ≤ (ji61)
 {
 rw [if_pos c62] at H
 have c62b0 : decide (0 ≤ (ji61)) = true := decide_eq_true c62
 clear c62
 by_cases c63 : (ji61) < (x5_3.length : Int)
 {
 rw [if_pos c63] at H
 have c63b0 : decide ((ji61) < (x5_3.length : Int)) = true := decide_eq_true c63
 clear c63
 obtain ⟨y120, hy120⟩ : ∃ y_ : List Int, y_ = (y118.set ((ji61) : Int).toNat 4) := ⟨_, rfl⟩
 replace H : (hearsayref08_kindsP.l2 kj48 a0 y120 x6_1 (wrap64 ((ji61) + 1)) x7_1) = some (r1, r2, r3) := by first | (rw [hy120]; with_reducible exact H) | (have H2_ := (Option.bind_some _ _).symm.trans H; rw [hy120]; with_reducible exact H2_) | (have H2_ := (Option.bind_some _ _).symm.trans H; with_reducible exact H2_) | with_reducible exact H | (rw [hy120]; exact H) | exact H
 have Ny120 := Aside0.mk hy120
 clear hy120
 have H' := Aside0.mk H
 clear H
 have p58 : 0 ≤ (x7_3 : Int) := of_decide_eq_true (by first | (with_reducible assumption) | assumption)
 have q58 : (x7_3 : Int) < ((x5_3.length : Int) : Int) := of_decide_eq_true (by first | (with_reducible assumption) | assumption)
 obtain ⟨hx58_0, hf58_0⟩ := Kd.R_celln 0 HO_5.out (x7_3 : Int) p58 q58
 replace p58 := eq_true p58
 replace q58 := eq_true q58
 have HP65 := Kd.R_putg HO_5.out (x7_3 : Int) 4
 go_wp2_with (first | ((with_reducible refine gate_store (t := 3) (p := 100) rfl ?_); (try (rw [drewN_self wc]; generalize hq_ : World.drewN wc _ = wc; have n0_ := Aside0.mk (Kd.R_at hq_ HO_5.out); have n1_ := Aside0.mk (Kd.R_at hq_ HO_6.out); have n2_ := Aside0.mk (below_at hq_ HB.out); clear hq_ HO_5 HO_6 HB; have HO_5 := n0_; have HO_6 := n1_; have HB := n2_; clear n0_ n1_ n2_; (try (have HP65 := Kd.R_putg HO_5.out (x7_3 : Int) 4)))); refine store_event (t := 3) (p := 100) (v := ?vo_w66) (w1 := (wc.setCell ⟨go10, (x7_3 : Int).toNat, none⟩ (.int .i64 4))) ?hg ?ho ?hn ?hr ?_; (case ho => rfl); (case hg => rfl); (case hn => rfl); (case hr => first | (go_simp; done) | (go_simp; rfl)); intro w66 hw; have hg : wc.grownBy w66 (some go10) := (by rw [hw]; exact HP65.2); have hp_ : Kd.R (Kd.int .i64) 3 w66 w.heap.size (fun k_ => some k_ ≠ (u6 : Value).ownBlock) (.slice (some ⟨go10, 0, none⟩) x5_3.length co10) y118 := (by rw [hw, Ny118.out]; exact HP65.1); clear HP65; have n0_ := Aside0.mk (hp_); have n1_ := Aside0.mk (Kd.R_after (v := (.slice (some ⟨go10, 0, none⟩) x5_3.length co10)) (v1 := (.slice (some ⟨go10, 0, none⟩) x5_3.length co10)) (ok := (fun _ => True)) (by (with_reducible repeat (first | apply Kd.R_alloc | apply Kd.R_drewN | apply Kd.R_drew)); exact Kd.R_mono HO_6.out (fun _ hk => ⟨trivial, hk⟩)) hg (.inl rfl)); have n2_ := Aside0.mk ((by rw [hw]; exact below_set (HB.out) GB10.out : Below w.heap.size w w66)); clear HO_5; clear HO_6; clear HB; have HO_5 := n0_; have HO_6 := n1_; have HB := n2_; clear n0_ n1_ n2_; clear hg hw hp_) | (go_at_call 35; (with_reducible refine (hearsayref08_takes.calls a0 x7_3 true _ A59.out).mono ?_); rintro e w' ⟨rfl, ⟨nd, rfl⟩⟩; (try first | exact ⟨rfl, _, World.drewN_drewN _ _ _⟩ | exact ⟨rfl, _, Eq.trans (World.drewN_drewN _ _ _) (congrArg (World.drewN _) (Nat.add_assoc _ _ _))⟩); have p64 : 0 ≤ ((ji61) : Int) := of_decide_eq_true (by first | (with_reducible assumption) | assumption); have q64 : ((ji61) : Int) < ((x5_3.length : Int) : Int) := of_decide_eq_true (by first | (with_reducible assumption) | assumption); obtain ⟨hx64_0, hf64_0⟩ := Kd.R_celln 0 HO_5.out ((ji61) : Int) p64 q64; replace p64 := eq_true p64; replace q64 := eq_true q64; obtain ⟨hy67_, hz67_⟩ := Kd.R_celln 0 HO_5.out ((ji61) : Int) (of_decide_eq_true (by first | (with_reducible assumption) | assumption)) (of_decide_eq_true (by first | (with_reducible assumption) | assumption)); have HP67 := Kd.R_putg HO_5.out ((ji61) : Int) 4) | ((with_reducible refine gate_store (t := 3) (p := 108) rfl ?_); (try (rw [drewN_self w66]; generalize hq_ : World.drewN w66 _ = w66; have n0_ := Aside0.mk (Kd.R_at hq_ HO_5.out); have n1_ := Aside0.mk (Kd.R_at hq_ HO_6.out); have n2_ := Aside0.mk (below_at hq_ HB.out); clear hq_ HO_5 HO_6 HB; have HO_5 := n0_; have HO_6 := n1_; have HB := n2_; clear n0_ n1_ n2_; (try (obtain ⟨hy67_, hz67_⟩ := Kd.R_celln 0 HO_5.out ((ji61) : Int) (of_decide_eq_true (by first | (with_reducible assumption) | assumption)) (of_decide_eq_true (by first | (with_reducible assumption) | assumption)))); (try (have HP67 := Kd.R_putg HO_5.out ((ji61) : Int) 4)))); refine store_event (t := 3) (p := 108) (v := ?vo_w68) (w1 := (w66.setCell ⟨go10, ((ji61) : Int).toNat, none⟩ (.int .i64 4))) ?hg ?ho ?hn ?hr ?_; (case ho => rfl); (case hg => rfl); (case hn => rfl); (case hr => first | (go_simp; done) | (go_simp; rfl)); intro w68 hw; have hg : w66.grownBy w68 (some go10) := (by rw [hw]; exact HP67.2); have hp_ : Kd.R (Kd.int .i64) 3 w68 w.heap.size (fun k_ => some k_ ≠ (u6 : Value).ownBlock) (.slice (some ⟨go10, 0, none⟩) x5_3.length co10) y120 := (by rw [hw, Ny120.out]; exact HP67.1); clear HP67; have n0_ := Aside0.mk (hp_); have n1_ := Aside0.mk (Kd.R_after (v := (.slice (some ⟨go10, 0, none⟩) x5_3.length co10)) (v1 := (.slice (some ⟨go10, 0, none⟩) x5_3.length co10)) (ok := (fun _ => True)) (by (with_reducible repeat (first | apply Kd.R_alloc | apply Kd.R_drewN | apply Kd.R_drew)); exact HO_6.out) hg (.inl rfl)); have n2_ := Aside0.mk ((by rw [hw]; exact below_set (HB.out) GB10.out : Below w.heap.size w w68)); clear HO_5; clear HO_6; clear HB; have HO_5 := n0_; have HO_6 := n1_; have HB := n2_; clear n0_ n1_ n2_; clear hg hw hp_))
 repeat (go_quiet (first | ((with_reducible refine gate_store (t := 3) (p := 100) rfl ?_); (try (rw [drewN_self wc]; generalize hq_ : World.drewN wc _ = wc; have n0_ := Aside0.mk (Kd.R_at hq_ HO_5.out); have n1_ := Aside0.mk (Kd.R_at hq_ HO_6.out); have n2_ := Aside0.mk (below_at hq_ HB.out); clear hq_ HO_5 HO_6 HB; have HO_5 := n0_; have HO_6 := n1_; have HB := n2_; clear n0_ n1_ n2_; (try (have HP65 := Kd.R_putg HO_5.out (x7_3 : Int) 4)))); refine store_event (t := 3) (p := 100) (v := ?vo_w66) (w1 := (wc.setCell ⟨go10, (x7_3 : Int).toNat, none⟩ (.int .i64 4))) ?hg ?ho ?hn ?hr ?_; (case ho => rfl); (case hg => rfl); (case hn => rfl); (case hr => first | (go_simp; done) | (go_simp; rfl)); intro w66 hw; have hg : wc.grownBy w66 (some go10) := (by rw [hw]; exact HP65.2); have hp_ : Kd.R (Kd.int .i64) 3 w66 w.heap.size (fun k_ => some k_ ≠ (u6 : Value).ownBlock) (.slice (some ⟨go10, 0, none⟩) x5_3.length co10) y118 := (by rw [hw, Ny118.out]; exact HP65.1); clear HP65; have n0_ := Aside0.mk (hp_); have n1_ := Aside0.mk (Kd.R_after (v := (.slice (some ⟨go10, 0, none⟩) x5_3.length co10)) (v1 := (.slice (some ⟨go10, 0, none⟩) x5_3.length co10)) (ok := (fun _ => True)) (by (with_reducible repeat (first | apply Kd.R_alloc | apply Kd.R_drewN | apply Kd.R_drew)); exact Kd.R_mono HO_6.out (fun _ hk => ⟨trivial, hk⟩)) hg (.inl rfl)); have n2_ := Aside0.mk ((by rw [hw]; exact below_set (HB.out) GB10.out : Below w.heap.size w w66)); clear HO_5; clear HO_6; clear HB; have HO_5 := n0_; have HO_6 := n1_; have HB := n2_; clear n0_ n1_ n2_; clear hg hw hp_) | (go_at_call 35; (with_reducible refine (hearsayref08_takes.calls a0 x7_3 true _ A59.out).mono ?_); rintro e w' ⟨rfl, ⟨nd, rfl⟩⟩; (try first | exact ⟨rfl, _, World.drewN_drewN _ _ _⟩ | exact ⟨rfl, _, Eq.trans (World.drewN_drewN _ _ _) (congrArg (World.drewN _) (Nat.add_assoc _ _ _))⟩); have p64 : 0 ≤ ((ji61) : Int) := of_decide_eq_true (by first | (with_reducible assumption) | assumption); have q64 : ((ji61) : Int) < ((x5_3.length : Int) : Int) := of_decide_eq_true (by first | (with_reducible assumption) | assumption); obtain ⟨hx64_0, hf64_0⟩ := Kd.R_celln 0 HO_5.out ((ji61) : Int) p64 q64; replace p64 := eq_true p64; replace q64 := eq_true q64; obtain ⟨hy67_, hz67_⟩ := Kd.R_celln 0 HO_5.out ((ji61) : Int) (of_decide_eq_true (by first | (with_reducible assumption) | assumption)) (of_decide_eq_true (by first | (with_reducible assumption) | assumption)); have HP67 := Kd.R_putg HO_5.out ((ji61) : Int) 4) | ((with_reducible refine gate_store (t := 3) (p := 108) rfl ?_); (try (rw [drewN_self w66]; generalize hq_ : World.drewN w66 _ = w66; have n0_ := Aside0.mk (Kd.R_at hq_ HO_5.out); have n1_ := Aside0.mk (Kd.R_at hq_ HO_6.out); have n2_ := Aside0.mk (below_at hq_ HB.out); clear hq_ HO_5 HO_6 HB; have HO_5 := n0_; have HO_6 := n1_; have HB := n2_; clear n0_ n1_ n2_; (try (obtain ⟨hy67_, hz67_⟩ := Kd.R_celln 0 HO_5.out ((ji61) : Int) (of_decide_eq_true (by first | (with_reducible assumption) | assumption)) (of_decide_eq_true (by first | (with_reducible assumption) | assumption)))); (try (have HP67 := Kd.R_putg HO_5.out ((ji61) : Int) 4)))); refine store_event (t := 3) (p := 108) (v := ?vo_w68) (w1 := (w66.setCell ⟨go10, ((ji61) : Int).toNat, none⟩ (.int .i64 4))) ?hg ?ho ?hn ?hr ?_; (case ho => rfl); (case hg => rfl); (case hn => rfl); (case hr => first | (go_simp; done) | (go_simp; rfl)); intro w68 hw; have hg : w66.grownBy w68 (some go10) := (by rw [hw]; exact HP67.2); have hp_ : Kd.R (Kd.int .i64) 3 w68 w.heap.size (fun k_ => some k_ ≠ (u6 : Value).ownBlock) (.slice (some ⟨go10, 0, none⟩) x5_3.length co10) y120 := (by rw [hw, Ny120.out]; exact HP67.1); clear HP67; have n0_ := Aside0.mk (hp_); have n1_ := Aside0.mk (Kd.R_after (v := (.slice (some ⟨go10, 0, none⟩) x5_3.length co10)) (v1 := (.slice (some ⟨go10, 0, none⟩) x5_3.length co10)) (ok := (fun _ => True)) (by (with_reducible repeat (first | apply Kd.R_alloc | apply Kd.R_drewN | apply Kd.R_drew)); exact HO_6.out) hg (.inl rfl)); have n2_ := Aside0.mk ((by rw [hw]; exact below_set (HB.out) GB10.out : Below w.heap.size w w68)); clear HO_5; clear HO_6; clear HB; have HO_5 := n0_; have HO_6 := n1_; have HB := n2_; clear n0_ n1_ n2_; clear hg hw hp_)); try go_wp2_with (first | ((with_reducible refine gate_store (t := 3) (p := 100) rfl ?_); (try (rw [drewN_self wc]; generalize hq_ : World.drewN wc _ = wc; have n0_ := Aside0.mk (Kd.R_at hq_ HO_5.out); have n1_ := Aside0.mk (Kd.R_at hq_ HO_6.out); have n2_ := Aside0.mk (below_at hq_ HB.out); clear hq_ HO_5 HO_6 HB; have HO_5 := n0_; have HO_6 := n1_; have HB := n2_; clear n0_ n1_ n2_; (try (have HP65 := Kd.R_putg HO_5.out (x7_3 : Int) 4)))); refine store_event (t := 3) (p := 100) (v := ?vo_w66) (w1 := (wc.setCell ⟨go10, (x7_3 : Int).toNat, none⟩ (.int .i64 4))) ?hg ?ho ?hn ?hr ?_; (case ho => rfl); (case hg => rfl); (case hn => rfl); (case hr => first | (go_simp; done) | (go_simp; rfl)); intro w66 hw; have hg : wc.grownBy w66 (some go10) := (by rw [hw]; exact HP65.2); have hp_ : Kd.R (Kd.int .i64) 3 w66 w.heap.size (fun k_ => some k_ ≠ (u6 : Value).ownBlock) (.slice (some ⟨go10, 0, none⟩) x5_3.length co10) y118 := (by rw [hw, Ny118.out]; exact HP65.1); clear HP65; have n0_ := Aside0.mk (hp_); have n1_ := Aside0.mk (Kd.R_after (v := (.slice (some ⟨go10, 0, none⟩) x5_3.length co10)) (v1 := (.slice (some ⟨go10, 0, none⟩) x5_3.length co10)) (ok := (fun _ => True)) (by (with_reducible repeat (first | apply Kd.R_alloc | apply Kd.R_drewN | apply Kd.R_drew)); exact Kd.R_mono HO_6.out (fun _ hk => ⟨trivial, hk⟩)) hg (.inl rfl)); have n2_ := Aside0.mk ((by rw [hw]; exact below_set (HB.out) GB10.out : Below w.heap.size w w66)); clear HO_5; clear HO_6; clear HB; have HO_5 := n0_; have HO_6 := n1_; have HB := n2_; clear n0_ n1_ n2_; clear hg hw hp_) | (go_at_call 35; (with_reducible refine (hearsayref08_takes.calls a0 x7_3 true _ A59.out).mono ?_); rintro e w' ⟨rfl, ⟨nd, rfl⟩⟩; (try first | exact ⟨rfl, _, World.drewN_drewN _ _ _⟩ | exact ⟨rfl, _, Eq.trans (World.drewN_drewN _ _ _) (congrArg (World.drewN _) (Nat.add_assoc _ _ _))⟩); have p64 : 0 ≤ ((ji61) : Int) := of_decide_eq_true (by first | (with_reducible assumption) | assumption); have q64 : ((ji61) : Int) < ((x5_3.length : Int) : Int) := of_decide_eq_true (by first | (with_reducible assumption) | assumption); obtain ⟨hx64_0, hf64_0⟩ := Kd.R_celln 0 HO_5.out ((ji61) : Int) p64 q64; replace p64 := eq_true p64; replace q64 := eq_true q64; obtain ⟨hy67_, hz67_⟩ := Kd.R_celln 0 HO_5.out ((ji61) : Int) (of_decide_eq_true (by first | (with_reducible assumption) | assumption)) (of_decide_eq_true (by first | (with_reducible assumption) | assumption)); have HP67 := Kd.R_putg HO_5.out ((ji61) : Int) 4) | ((with_reducible refine gate_store (t := 3) (p := 108) rfl ?_); (try (rw [drewN_self w66]; generalize hq_ : World.drewN w66 _ = w66; have n0_ := Aside0.mk (Kd.R_at hq_ HO_5.out); have n1_ := Aside0.mk (Kd.R_at hq_ HO_6.out); have n2_ := Aside0.mk (below_at hq_ HB.out); clear hq_ HO_5 HO_6 HB; have HO_5 := n0_; have HO_6 := n1_; have HB := n2_; clear n0_ n1_ n2_; (try (obtain ⟨hy67_, hz67_⟩ := Kd.R_celln 0 HO_5.out ((ji61) : Int) (of_decide_eq_true (by first | (with_reducible assumption) | assumption)) (of_decide_eq_true (by first | (with_reducible assumption) | assumption)))); (try (have HP67 := Kd.R_putg HO_5.out ((ji61) : Int) 4)))); refine store_event (t := 3) (p := 108) (v := ?vo_w68) (w1 := (w66.setCell ⟨go10, ((ji61) : Int).toNat, none⟩ (.int .i64 4))) ?hg ?ho ?hn ?hr ?_; (case ho => rfl); (case hg => rfl); (case hn => rfl); (case hr => first | (go_simp; done) | (go_simp; rfl)); intro w68 hw; have hg : w66.grownBy w68 (some go10) := (by rw [hw]; exact HP67.2); have hp_ : Kd.R (Kd.int .i64) 3 w68 w.heap.size (fun k_ => some k_ ≠ (u6 : Value).ownBlock) (.slice (some ⟨go10, 0, none⟩) x5_3.length co10) y120 := (by rw [hw, Ny120.out]; exact HP67.1); clear HP67; have n0_ := Aside0.mk (hp_); have n1_ := Aside0.mk (Kd.R_after (v := (.slice (some ⟨go10, 0, none⟩) x5_3.length co10)) (v1 := (.slice (some ⟨go10, 0, none⟩) x5_3.length co10)) (ok := (fun _ => True)) (by (with_reducible repeat (first | apply Kd.R_alloc | apply Kd.R_drewN | apply Kd.R_drew)); exact HO_6.out) hg (.inl rfl)); have n2_ := Aside0.mk ((by rw [hw]; exact below_set (HB.out) GB10.out : Below w.heap.size w w68)); clear HO_5; clear HO_6; clear HB; have HO_5 := n0_; have HO_6 := n1_; have HB := n2_; clear n0_ n1_ n2_; clear hg hw hp_)))
 (try simp only [← hl5_3])
 go_roundg kj48
 case measure => have := HK1.out; have := HJ10.out; have := HK3.out; have := HJ48.out; omega
 case rel => exact ⟨(y120), (wrap64 ((ji61) + 1)), (by first | rfl | (simp; done) | (simp only [← hji61] <;> (first | rfl | simp)) | (simp [*]; done)), H', ⟨by have := HK1.out; have := HJ10.out; have := HK3.out; have := HJ48.out; omega⟩, ⟨by (try simp only [hl5_10]); (try simp only [hl5_3]); (with_reducible repeat (first | apply Kd.R_alloc | apply Kd.R_drewN | apply Kd.R_drew)); exact HO_5.out⟩, ⟨by (try simp only [hl5_10]); (try simp only [hl5_3]); (with_reducible repeat (first | apply Kd.R_alloc | apply Kd.R_drewN | apply Kd.R_drew)); exact Kd.R_mono HO_6.out (fun _ hk => hk.2)⟩, ⟨by repeat (first | (with_reducible first | exact HB.out | apply below_alloc | apply pw_below_drewN | apply below_drew1) | exact HB.out)⟩⟩ }
 {
 rw [if_neg c63] at H
 exact absurd H (by simp) }}
 {
 rw [if_neg c62] at H
 exact absurd H (by simp) }}
 {
 replace c60 := Bool.eq_false_iff.mpr c60
 subst c60
 have H1 : (hearsayref08_kindsP.l2 kj48 a0 y118 x6_1 (wrap64 (x7_3 + 1)) x7_1) = some (r1, r2, r3) := by rw [if_neg (show ¬ (false = true) by decide)] at H; exact H
 clear H
 have H := H1
 clear H1
 have H' := Aside0.mk H
 clear H
 have p58 : 0 ≤ (x7_3 : Int) := of_decide_eq_true (by first | (with_reducible assumption) | assumption)
 have q58 : (x7_3 : Int) < ((x5_3.length : Int) : Int) := of_decide_eq_true (by first | (with_reducible assumption) | assumption)
 obtain ⟨hx58_0, hf58_0⟩ := Kd.R_celln 0 HO_5.out (x7_3 : Int) p58 q58
 replace p58 := eq_true p58
 replace q58 := eq_true q58
 have HP69 := Kd.R_putg HO_5.out (x7_3 : Int) 4
 go_wp2_with (first | ((with_reducible refine gate_store (t := 3) (p := 100) rfl ?_); (try (rw [drewN_self wc]; generalize hq_ : World.drewN wc _ = wc; have n0_ := Aside0.mk (Kd.R_at hq_ HO_5.out); have n1_ := Aside0.mk (Kd.R_at hq_ HO_6.out); have n2_ := Aside0.mk (below_at hq_ HB.out); clear hq_ HO_5 HO_6 HB; have HO_5 := n0_; have HO_6 := n1_; have HB := n2_; clear n0_ n1_ n2_; (try (have HP69 := Kd.R_putg HO_5.out (x7_3 : Int) 4)))); refine store_event (t := 3) (p := 100) (v := ?vo_w70) (w1 := (wc.setCell ⟨go10, (x7_3 : Int).toNat, none⟩ (.int .i64 4))) ?hg ?ho ?hn ?hr ?_; (case ho => rfl); (case hg => rfl); (case hn => rfl); (case hr => first | (go_simp; done) | (go_simp; rfl)); intro w70 hw; have hg : wc.grownBy w70 (some go10) := (by rw [hw]; exact HP69.2); have hp_ : Kd.R (Kd.int .i64) 3 w70 w.heap.size (fun k_ => some k_ ≠ (u6 : Value).ownBlock) (.slice (some ⟨go10, 0, none⟩) x5_3.length co10) y118 := (by rw [hw, Ny118.out]; exact HP69.1); clear HP69; have n0_ := Aside0.mk (hp_); have n1_ := Aside0.mk (Kd.R_after (v := (.slice (some ⟨go10, 0, none⟩) x5_3.length co10)) (v1 := (.slice (some ⟨go10, 0, none⟩) x5_3.length co10)) (ok := (fun _ => True)) (by (with_reducible repeat (first | apply Kd.R_alloc | apply Kd.R_drewN | apply Kd.R_drew)); exact Kd.R_mono HO_6.out (fun _ hk => ⟨trivial, hk⟩)) hg (.inl rfl)); have n2_ := Aside0.mk ((by rw [hw]; exact below_set (HB.out) GB10.out : Below w.heap.size w w70)); clear HO_5; clear HO_6; clear HB; have HO_5 := n0_; have HO_6 := n1_; have HB := n2_; clear n0_ n1_ n2_; clear hg hw hp_) | (go_at_call 35; (with_reducible refine (hearsayref08_takes.calls a0 x7_3 false _ A59.out).mono ?_); rintro e w' ⟨rfl, ⟨nd, rfl⟩⟩; (try first | exact ⟨rfl, _, World.drewN_drewN _ _ _⟩ | exact ⟨rfl, _, Eq.trans (World.drewN_drewN _ _ _) (congrArg (World.drewN _) (Nat.add_assoc _ _ _))⟩)))
 repeat (go_quiet (first | ((with_reducible refine gate_store (t := 3) (p := 100) rfl ?_); (try (rw [drewN_self wc]; generalize hq_ : World.drewN wc _ = wc; have n0_ := Aside0.mk (Kd.R_at hq_ HO_5.out); have n1_ := Aside0.mk (Kd.R_at hq_ HO_6.out); have n2_ := Aside0.mk (below_at hq_ HB.out); clear hq_ HO_5 HO_6 HB; have HO_5 := n0_; have HO_6 := n1_; have HB := n2_; clear n0_ n1_ n2_; (try (have HP69 := Kd.R_putg HO_5.out (x7_3 : Int) 4)))); refine store_event (t := 3) (p := 100) (v := ?vo_w70) (w1 := (wc.setCell ⟨go10, (x7_3 : Int).toNat, none⟩ (.int .i64 4))) ?hg ?ho ?hn ?hr ?_; (case ho => rfl); (case hg => rfl); (case hn => rfl); (case hr => first | (go_simp; done) | (go_simp; rfl)); intro w70 hw; have hg : wc.grownBy w70 (some go10) := (by rw [hw]; exact HP69.2); have hp_ : Kd.R (Kd.int .i64) 3 w70 w.heap.size (fun k_ => some k_ ≠ (u6 : Value).ownBlock) (.slice (some ⟨go10, 0, none⟩) x5_3.length co10) y118 := (by rw [hw, Ny118.out]; exact HP69.1); clear HP69; have n0_ := Aside0.mk (hp_); have n1_ := Aside0.mk (Kd.R_after (v := (.slice (some ⟨go10, 0, none⟩) x5_3.length co10)) (v1 := (.slice (some ⟨go10, 0, none⟩) x5_3.length co10)) (ok := (fun _ => True)) (by (with_reducible repeat (first | apply Kd.R_alloc | apply Kd.R_drewN | apply Kd.R_drew)); exact Kd.R_mono HO_6.out (fun _ hk => ⟨trivial, hk⟩)) hg (.inl rfl)); have n2_ := Aside0.mk ((by rw [hw]; exact below_set (HB.out) GB10.out : Below w.heap.size w w70)); clear HO_5; clear HO_6; clear HB; have HO_5 := n0_; have HO_6 := n1_; have HB := n2_; clear n0_ n1_ n2_; clear hg hw hp_) | (go_at_call 35; (with_reducible refine (hearsayref08_takes.calls a0 x7_3 false _ A59.out).mono ?_); rintro e w' ⟨rfl, ⟨nd, rfl⟩⟩; (try first | exact ⟨rfl, _, World.drewN_drewN _ _ _⟩ | exact ⟨rfl, _, Eq.trans (World.drewN_drewN _ _ _) (congrArg (World.drewN _) (Nat.add_assoc _ _ _))⟩))); try go_wp2_with (first | ((with_reducible refine gate_store (t := 3) (p := 100) rfl ?_); (try (rw [drewN_self wc]; generalize hq_ : World.drewN wc _ = wc; have n0_ := Aside0.mk (Kd.R_at hq_ HO_5.out); have n1_ := Aside0.mk (Kd.R_at hq_ HO_6.out); have n2_ := Aside0.mk (below_at hq_ HB.out); clear hq_ HO_5 HO_6 HB; have HO_5 := n0_; have HO_6 := n1_; have HB := n2_; clear n0_ n1_ n2_; (try (have HP69 := Kd.R_putg HO_5.out (x7_3 : Int) 4)))); refine store_event (t := 3) (p := 100) (v := ?vo_w70) (w1 := (wc.setCell ⟨go10, (x7_3 : Int).toNat, none⟩ (.int .i64 4))) ?hg ?ho ?hn ?hr ?_; (case ho => rfl); (case hg => rfl); (case hn => rfl); (case hr => first | (go_simp; done) | (go_simp; rfl)); intro w70 hw; have hg : wc.grownBy w70 (some go10) := (by rw [hw]; exact HP69.2); have hp_ : Kd.R (Kd.int .i64) 3 w70 w.heap.size (fun k_ => some k_ ≠ (u6 : Value).ownBlock) (.slice (some ⟨go10, 0, none⟩) x5_3.length co10) y118 := (by rw [hw, Ny118.out]; exact HP69.1); clear HP69; have n0_ := Aside0.mk (hp_); have n1_ := Aside0.mk (Kd.R_after (v := (.slice (some ⟨go10, 0, none⟩) x5_3.length co10)) (v1 := (.slice (some ⟨go10, 0, none⟩) x5_3.length co10)) (ok := (fun _ => True)) (by (with_reducible repeat (first | apply Kd.R_alloc | apply Kd.R_drewN | apply Kd.R_drew)); exact Kd.R_mono HO_6.out (fun _ hk => ⟨trivial, hk⟩)) hg (.inl rfl)); have n2_ := Aside0.mk ((by rw [hw]; exact below_set (HB.out) GB10.out : Below w.heap.size w w70)); clear HO_5; clear HO_6; clear HB; have HO_5 := n0_; have HO_6 := n1_; have HB := n2_; clear n0_ n1_ n2_; clear hg hw hp_) | (go_at_call 35; (with_reducible refine (hearsayref08_takes.calls a0 x7_3 false _ A59.out).mono ?_); rintro e w' ⟨rfl, ⟨nd, rfl⟩⟩; (try first | exact ⟨rfl, _, World.drewN_drewN _ _ _⟩ | exact ⟨rfl, _, Eq.trans (World.drewN_drewN _ _ _) (congrArg (World.drewN _) (Nat.add_assoc _ _ _))⟩))))
 (try simp only [← hl5_3])
 go_roundg kj48
 case measure => have := HK1.out; have := HJ10.out; have := HK3.out; have := HJ48.out; omega
 case rel => exact ⟨(y118), (wrap64 (x7_3 + 1)), (by first | rfl | (simp; done) | (simp [*]; done)), H', ⟨by have := HK1.out; have := HJ10.out; have := HK3.out; have := HJ48.out; omega⟩, ⟨by (try simp only [hl5_10]); (try simp only [hl5_3]); (with_reducible repeat (first | apply Kd.R_alloc | apply Kd.R_drewN | apply Kd.R_drew)); exact HO_5.out⟩, ⟨by (try simp only [hl5_10]); (try simp only [hl5_3]); (with_reducible repeat (first | apply Kd.R_alloc | apply Kd.R_drewN | apply Kd.R_drew)); exact Kd.R_mono HO_6.out (fun _ hk => hk.2)⟩, ⟨by repeat (first | (with_reducible first | exact HB.out | apply below_alloc | apply pw_below_drewN | apply below_drew1) | exact HB.out)⟩⟩ }}
 {
 rw [if_neg c57] at H
 exact absurd H (by simp) }}
 {
 rw [if_neg c56] at H
 exact absurd H (by simp) }}
 {
 replace c55 := Bool.eq_false_iff.mpr c55
 subst c55
 have H1 : (if x7_3 ≥ (a0.size : Int) then (some (([] : List Int), x7_1, 80)) else (if 0 ≤ x7_3 then (if x7_3 < (a0.size : Int) then (if (bt a0 x7_3) = 10 then (some (([] : List Int), x7_1, 80)) else (if x7_3 < (x5_3.length : Int) then (hearsayref08_kindsP.l0 kj48 a0 (x5_3.set (x7_3 : Int).toNat 4) x6_1 (wrap64 (x7_3 + 1))) else (none))) else (none)) else (none))) = some (r1, r2, r3) := by rw [if_neg (show ¬ (false = true) by decide)] at H; exact H
 clear H
 have H := H1
 clear H1
 by_cases c71 : x7_3 ≥ (a0.size : Int)
 {
 rw [if_pos c71] at H
 have c71b0 : decide ((a0.size : Int) ≤ x7_3) = true := decide_eq_true c71
 clear c71
 simp only [Option.some.injEq, Prod.mk.injEq] at H
 obtain ⟨rfl, rfl, rfl⟩ := H
 go_wp2
 repeat (go_quiet (fail); try go_wp2)
 go_ret3
 exact ⟨_, by first | rfl | (simp [errW_none, errW_some] <;> rfl) | (simp [*, errW_none, errW_some] <;> rfl), by first | exact Kd.R_nil _ _ _ _ _ | exact Kd.N_nil _ _ _ _ _ | exact Kd.V_nil _ _ _ _ _ | exact Kd.Q_nil _ _ _ _ _ | exact Kd.S_nil _ _ _ _ _, by repeat (first | (with_reducible first | exact HB.out | apply below_alloc | apply pw_below_drewN | apply below_drew1) | exact HB.out)⟩ }
 {
 rw [if_neg c71] at H
 have c71b0 : decide ((a0.size : Int) ≤ x7_3) = false := decide_eq_false c71
 clear c71
 by_cases c72 : 0 ≤ x7_3
 {
 rw [if_pos c72] at H
 have c72b0 : decide (0 ≤ x7_3) = true := decide_eq_true c72
 clear c72
 by_cases c73 : x7_3 < (a0.size : Int)
 {
 rw [if_pos c73] at H
 have c73b0 : decide (x7_3 < (a0.size : Int)) = true := decide_eq_true c73
 clear c73
 by_cases c75 : (bt a0 x7_3) = 10
 {
 rw [if_pos c75] at H
 have c75b0 : ((bt a0 x7_3) == 10) = true := beq_iff_eq.mpr c75
 have c75b1 : ((bt a0 x7_3) != 10) = false := bne_eq_false_iff_eq.mpr c75
 clear c75
 simp only [Option.some.injEq, Prod.mk.injEq] at H
 obtain ⟨rfl, rfl, rfl⟩ := H
 have p74 : 0 ≤ (x7_3 : Int) := of_decide_eq_true (by first | (with_reducible assumption) | assumption)
 have q74 : x7_3 < (a0.size : Int) := of_decide_eq_true (by first | (with_reducible assumption) | assumption)
 have hx74 := bt_at a0 x7_3
 replace p74 := eq_true p74
 replace q74 := eq_true q74
 go_wp2
 repeat (go_quiet (fail); try go_wp2)
 go_ret3
 exact ⟨_, by first | rfl | (simp [errW_none, errW_some] <;> rfl) | (simp [*, errW_none, errW_some] <;> rfl), by first | exact Kd.R_nil _ _ _ _ _ | exact Kd.N_nil _ _ _ _ _ | exact Kd.V_nil _ _ _ _ _ | exact Kd.Q_nil _ _ _ _ _ | exact Kd.S_nil _ _ _ _ _, by repeat (first | (with_reducible first | exact HB.out | apply below_alloc | apply pw_below_drewN | apply below_drew1) | exact HB.out)⟩ }
 {
 rw [if_neg c75] at H
 have c75b0 : ((bt a0 x7_3) == 10) = false := beq_eq_false_iff_ne.mpr c75
 have c75b1 : ((bt a0 x7_3) != 10) = true := bne_iff_ne.mpr c75
 by_cases c76 : x7_3 < (x5_3.length : Int)
 {
 rw [if_pos c76] at H
 have c76b0 : decide (x7_3 < (x5_3.length : Int)) = true := decide_eq_true c76
 clear c76
 obtain ⟨y121, hy121⟩ : ∃ y_ : List Int, y_ = (x5_3.set (x7_3 : Int).toNat 4) := ⟨_, rfl⟩
 replace H : (hearsayref08_kindsP.l0 kj48 a0 y121 x6_1 (wrap64 (x7_3 + 1))) = some (r1, r2, r3) := by first | (rw [hy121]; with_reducible exact H) | (have H2_ := (Option.bind_some _ _).symm.trans H; rw [hy121]; with_reducible exact H2_) | (have H2_ := (Option.bind_some _ _).symm.trans H; with_reducible exact H2_) | with_reducible exact H | (rw [hy121]; exact H) | exact H
 have Ny121 := Aside0.mk hy121
 clear hy121
 have H' := Aside0.mk H
 clear H
 have p74 : 0 ≤ (x7_3 : Int) := of_decide_eq_true (by first | (with_reducible assumption) | assumption)
 have q74 : x7_3 < (a0.size : Int) := of_decide_eq_true (by first | (with_reducible assumption) | assumption)
 have hx74 := bt_at a0 x7_3
 replace p74 := eq_true p74
 replace q74 := eq_true q74
 have p77 : 0 ≤ (x7_3 : Int) := of_decide_eq_true (by first | (with_reducible assumption) | assumption)
 have q77 : (x7_3 : Int) < ((x5_3.length : Int) : Int) := of_decide_eq_true (by first | (with_reducible assumption) | assumption)
 obtain ⟨hx77_0, hf77_0⟩ := Kd.R_celln 0 HO_5.out (x7_3 : Int) p77 q77
 replace p77 := eq_true p77
 replace q77 := eq_true q77
 have HP78 := Kd.R_putg HO_5.out (x7_3 : Int) 4
 go_wp2_with (first | ((with_reducible refine gate_store (t := 3) (p := 124) rfl ?_); (try (rw [drewN_self wc]; generalize hq_ : World.drewN wc _ = wc; have n0_ := Aside0.mk (Kd.R_at hq_ HO_5.out); have n1_ := Aside0.mk (Kd.R_at hq_ HO_6.out); have n2_ := Aside0.mk (below_at hq_ HB.out); clear hq_ HO_5 HO_6 HB; have HO_5 := n0_; have HO_6 := n1_; have HB := n2_; clear n0_ n1_ n2_; (try (have HP78 := Kd.R_putg HO_5.out (x7_3 : Int) 4)))); refine store_event (t := 3) (p := 124) (v := ?vo_w79) (w1 := (wc.setCell ⟨go10, (x7_3 : Int).toNat, none⟩ (.int .i64 4))) ?hg ?ho ?hn ?hr ?_; (case ho => rfl); (case hg => rfl); (case hn => rfl); (case hr => first | (go_simp; done) | (go_simp; rfl)); intro w79 hw; have hg : wc.grownBy w79 (some go10) := (by rw [hw]; exact HP78.2); have hp_ : Kd.R (Kd.int .i64) 3 w79 w.heap.size (fun k_ => some k_ ≠ (u6 : Value).ownBlock) (.slice (some ⟨go10, 0, none⟩) x5_3.length co10) y121 := (by rw [hw, Ny121.out]; exact HP78.1); clear HP78; have n0_ := Aside0.mk (hp_); have n1_ := Aside0.mk (Kd.R_after (v := (.slice (some ⟨go10, 0, none⟩) x5_3.length co10)) (v1 := (.slice (some ⟨go10, 0, none⟩) x5_3.length co10)) (ok := (fun _ => True)) (by (with_reducible repeat (first | apply Kd.R_alloc | apply Kd.R_drewN | apply Kd.R_drew)); exact Kd.R_mono HO_6.out (fun _ hk => ⟨trivial, hk⟩)) hg (.inl rfl)); have n2_ := Aside0.mk ((by rw [hw]; exact below_set (HB.out) GB10.out : Below w.heap.size w w79)); clear HO_5; clear HO_6; clear HB; have HO_5 := n0_; have HO_6 := n1_; have HB := n2_; clear n0_ n1_ n2_; clear hg hw hp_))
 repeat (go_quiet (first | ((with_reducible refine gate_store (t := 3) (p := 124) rfl ?_); (try (rw [drewN_self wc]; generalize hq_ : World.drewN wc _ = wc; have n0_ := Aside0.mk (Kd.R_at hq_ HO_5.out); have n1_ := Aside0.mk (Kd.R_at hq_ HO_6.out); have n2_ := Aside0.mk (below_at hq_ HB.out); clear hq_ HO_5 HO_6 HB; have HO_5 := n0_; have HO_6 := n1_; have HB := n2_; clear n0_ n1_ n2_; (try (have HP78 := Kd.R_putg HO_5.out (x7_3 : Int) 4)))); refine store_event (t := 3) (p := 124) (v := ?vo_w79) (w1 := (wc.setCell ⟨go10, (x7_3 : Int).toNat, none⟩ (.int .i64 4))) ?hg ?ho ?hn ?hr ?_; (case ho => rfl); (case hg => rfl); (case hn => rfl); (case hr => first | (go_simp; done) | (go_simp; rfl)); intro w79 hw; have hg : wc.grownBy w79 (some go10) := (by rw [hw]; exact HP78.2); have hp_ : Kd.R (Kd.int .i64) 3 w79 w.heap.size (fun k_ => some k_ ≠ (u6 : Value).ownBlock) (.slice (some ⟨go10, 0, none⟩) x5_3.length co10) y121 := (by rw [hw, Ny121.out]; exact HP78.1); clear HP78; have n0_ := Aside0.mk (hp_); have n1_ := Aside0.mk (Kd.R_after (v := (.slice (some ⟨go10, 0, none⟩) x5_3.length co10)) (v1 := (.slice (some ⟨go10, 0, none⟩) x5_3.length co10)) (ok := (fun _ => True)) (by (with_reducible repeat (first | apply Kd.R_alloc | apply Kd.R_drewN | apply Kd.R_drew)); exact Kd.R_mono HO_6.out (fun _ hk => ⟨trivial, hk⟩)) hg (.inl rfl)); have n2_ := Aside0.mk ((by rw [hw]; exact below_set (HB.out) GB10.out : Below w.heap.size w w79)); clear HO_5; clear HO_6; clear HB; have HO_5 := n0_; have HO_6 := n1_; have HB := n2_; clear n0_ n1_ n2_; clear hg hw hp_)); try go_wp2_with (first | ((with_reducible refine gate_store (t := 3) (p := 124) rfl ?_); (try (rw [drewN_self wc]; generalize hq_ : World.drewN wc _ = wc; have n0_ := Aside0.mk (Kd.R_at hq_ HO_5.out); have n1_ := Aside0.mk (Kd.R_at hq_ HO_6.out); have n2_ := Aside0.mk (below_at hq_ HB.out); clear hq_ HO_5 HO_6 HB; have HO_5 := n0_; have HO_6 := n1_; have HB := n2_; clear n0_ n1_ n2_; (try (have HP78 := Kd.R_putg HO_5.out (x7_3 : Int) 4)))); refine store_event (t := 3) (p := 124) (v := ?vo_w79) (w1 := (wc.setCell ⟨go10, (x7_3 : Int).toNat, none⟩ (.int .i64 4))) ?hg ?ho ?hn ?hr ?_; (case ho => rfl); (case hg => rfl); (case hn => rfl); (case hr => first | (go_simp; done) | (go_simp; rfl)); intro w79 hw; have hg : wc.grownBy w79 (some go10) := (by rw [hw]; exact HP78.2); have hp_ : Kd.R (Kd.int .i64) 3 w79 w.heap.size (fun k_ => some k_ ≠ (u6 : Value).ownBlock) (.slice (some ⟨go10, 0, none⟩) x5_3.length co10) y121 := (by rw [hw, Ny121.out]; exact HP78.1); clear HP78; have n0_ := Aside0.mk (hp_); have n1_ := Aside0.mk (Kd.R_after (v := (.slice (some ⟨go10, 0, none⟩) x5_3.length co10)) (v1 := (.slice (some ⟨go10, 0, none⟩) x5_3.length co10)) (ok := (fun _ => True)) (by (with_reducible repeat (first | apply Kd.R_alloc | apply Kd.R_drewN | apply Kd.R_drew)); exact Kd.R_mono HO_6.out (fun _ hk => ⟨trivial, hk⟩)) hg (.inl rfl)); have n2_ := Aside0.mk ((by rw [hw]; exact below_set (HB.out) GB10.out : Below w.heap.size w w79)); clear HO_5; clear HO_6; clear HB; have HO_5 := n0_; have HO_6 := n1_; have HB := n2_; clear n0_ n1_ n2_; clear hg hw hp_)))
 (try simp only [← hl5_10, ← hl5_3])
 go_roundg kj48
 case measure => have := HK1.out; have := HJ10.out; have := HK3.out; have := HJ48.out; omega
 case rel => exact ⟨(y121), (x6_1), (wrap64 (x7_3 + 1)), (by first | rfl | (simp; done) | (simp [*]; done)), H', ⟨by have := HK1.out; have := HJ10.out; have := HK3.out; have := HJ48.out; omega⟩, ⟨by (try simp only [hl5_10]); (try simp only [hl5_3]); (with_reducible repeat (first | apply Kd.R_alloc | apply Kd.R_drewN | apply Kd.R_drew)); exact HO_5.out⟩, ⟨by (try simp only [hl5_10]); (try simp only [hl5_3]); (with_reducible repeat (first | apply Kd.R_alloc | apply Kd.R_drewN | apply Kd.R_drew)); exact Kd.R_mono HO_6.out (fun _ hk => hk.2)⟩, ⟨by repeat (first | (with_reducible first | exact HB.out | apply below_alloc | apply pw_below_drewN | apply below_drew1) | exact HB.out)⟩⟩ }
 {
 rw [if_neg c76] at H
 exact absurd H (by simp) }}}
 {
 rw [if_neg c73] at H
 exact absurd H (by simp) }}
 {
 rw [if_neg c72] at H
 exact absurd H (by simp) }}})))))))}
 {
 rw [if_neg c45] at H
 exact absurd H (by simp) })}
 {
 rw [if_neg c44] at H
 exact absurd H (by simp) })}
 { as_aux_lemma => (
 rw [if_neg c43] at H
 have c43b0 : ((bt a0 x7_1) == 34) = false := beq_eq_false_iff_ne.mpr c43
 have c43b1 : ((bt a0 x7_1) != 34) = true := bne_iff_ne.mpr c43
 replace H := Option.bind_eq_some_iff.mp H
 obtain ⟨t122, A800, H⟩ := H
 replace H : (if t122 = true then (hearsayref08_kindsP.l0 kj10 a0 y108 x6_1 (wrap64 (x7_1 + 1))) else (if 0 ≤ x7_1 then (if x7_1 < (y108.length : Int) then ((some (y108.set (x7_1 : Int).toNat 3 : List Int)).bind fun y123 => ((hearsayref08_takes.f a0 x7_1).bind fun t124 => (if t124 = true then (if 0 ≤ (wrap64 (x7_1 + 1)) then (if (wrap64 (x7_1 + 1)) < (y108.length : Int) then (hearsayref08_kindsP.j5 kj10 a0 (y123.set ((wrap64 (x7_1 + 1)) : Int).toNat 4) x6_1 (wrap64 (x7_1 + 1))) else (none)) else (none)) else (hearsayref08_kindsP.j5 kj10 a0 y123 x6_1 x7_1)))) else (none)) else (none))) = some (r1, r2, r3) := H
 have A80 := Aside0.mk A800
 clear A800
 by_cases c81 : t122 = true
 {
 subst c81
 have H1 : (hearsayref08_kindsP.l0 kj10 a0 y108 x6_1 (wrap64 (x7_1 + 1))) = some (r1, r2, r3) := by rw [if_pos rfl] at H; exact H
 clear H
 have H := H1
 clear H1
 have H' := Aside0.mk H
 clear H
 go_wp2_with (first | (go_at_call 36; (with_reducible refine (hearsayref08_special.calls (bt a0 x7_1) true _ A80.out).mono ?_); rintro e w' ⟨rfl, ⟨nd, rfl⟩⟩; (try first | exact ⟨rfl, _, World.drewN_drewN _ _ _⟩ | exact ⟨rfl, _, Eq.trans (World.drewN_drewN _ _ _) (congrArg (World.drewN _) (Nat.add_assoc _ _ _))⟩)))
 repeat (go_quiet (first | (go_at_call 36; (with_reducible refine (hearsayref08_special.calls (bt a0 x7_1) true _ A80.out).mono ?_); rintro e w' ⟨rfl, ⟨nd, rfl⟩⟩; (try first | exact ⟨rfl, _, World.drewN_drewN _ _ _⟩ | exact ⟨rfl, _, Eq.trans (World.drewN_drewN _ _ _) (congrArg (World.drewN _) (Nat.add_assoc _ _ _))⟩))); try go_wp2_with (first | (go_at_call 36; (with_reducible refine (hearsayref08_special.calls (bt a0 x7_1) true _ A80.out).mono ?_); rintro e w' ⟨rfl, ⟨nd, rfl⟩⟩; (try first | exact ⟨rfl, _, World.drewN_drewN _ _ _⟩ | exact ⟨rfl, _, Eq.trans (World.drewN_drewN _ _ _) (congrArg (World.drewN _) (Nat.add_assoc _ _ _))⟩))))
 (try simp only [← hl5_10])
 go_roundg kj10
 case measure => have := HK1.out; have := HJ10.out; omega
 case rel => exact ⟨(y108), (x6_1), (wrap64 (x7_1 + 1)), (by first | rfl | (simp; done) | (simp [*]; done)), H', ⟨by have := HK1.out; have := HJ10.out; omega⟩, ⟨by (try simp only [hl5_10]); (with_reducible repeat (first | apply Kd.R_alloc | apply Kd.R_drewN | apply Kd.R_drew)); exact HO_5.out⟩, ⟨by (try simp only [hl5_10]); (with_reducible repeat (first | apply Kd.R_alloc | apply Kd.R_drewN | apply Kd.R_drew)); exact HO_6.out⟩, ⟨by repeat (first | (with_reducible first | exact HB.out | apply below_alloc | apply pw_below_drewN | apply below_drew1) | exact HB.out)⟩⟩ }
 { as_aux_lemma => (
 replace c81 := Bool.eq_false_iff.mpr c81
 subst c81
 have H1 : (if 0 ≤ x7_1 then (if x7_1 < (y108.length : Int) then ((some (y108.set (x7_1 : Int).toNat 3 : List Int)).bind fun y123 => ((hearsayref08_takes.f a0 x7_1).bind fun t124 => (if t124 = true then (if 0 ≤ (wrap64 (x7_1 + 1)) then (if (wrap64 (x7_1 + 1)) < (y108.length : Int) then (hearsayref08_kindsP.j5 kj10 a0 (y123.set ((wrap64 (x7_1 + 1)) : Int).toNat 4) x6_1 (wrap64 (x7_1 + 1))) else (none)) else (none)) else (hearsayref08_kindsP.j5 kj10 a0 y123 x6_1 x7_1)))) else (none)) else (none)) = some (r1, r2, r3) := by rw [if_neg (show ¬ (false = true) by decide)] at H; exact H
 clear H
 have H := H1
 clear H1
 by_cases c82 : 0 ≤ x7_1
 { as_aux_lemma => (
 rw [if_pos c82] at H
 have c82b0 : decide (0 ≤ x7_1) = true := decide_eq_true c82
 clear c82
 by_cases c83 : x7_1 < (y108.length : Int)
 { as_aux_lemma => (
 rw [if_pos c83] at H
 have c83b0 : decide (x7_1 < (y108.length : Int)) = true := decide_eq_true c83
 clear c83
 obtain ⟨y123, hy123⟩ : ∃ y_ : List Int, y_ = (y108.set (x7_1 : Int).toNat 3) := ⟨_, rfl⟩
 replace H : ((hearsayref08_takes.f a0 x7_1).bind fun t124 => (if t124 = true then (if 0 ≤ (wrap64 (x7_1 + 1)) then (if (wrap64 (x7_1 + 1)) < (y108.length : Int) then (hearsayref08_kindsP.j5 kj10 a0 (y123.set ((wrap64 (x7_1 + 1)) : Int).toNat 4) x6_1 (wrap64 (x7_1 + 1))) else (none)) else (none)) else (hearsayref08_kindsP.j5 kj10 a0 y123 x6_1 x7_1))) = some (r1, r2, r3) := by first | (rw [hy123]; with_reducible exact H) | (have H2_ := (Option.bind_some _ _).symm.trans H; rw [hy123]; with_reducible exact H2_) | (have H2_ := (Option.bind_some _ _).symm.trans H; with_reducible exact H2_) | with_reducible exact H | (rw [hy123]; exact H) | exact H
 have Ny123 := Aside0.mk hy123
 clear hy123
 replace H := Option.bind_eq_some_iff.mp H
 obtain ⟨t124, A850, H⟩ := H
 replace H : (if t124 = true then (if 0 ≤ (wrap64 (x7_1 + 1)) then (if (wrap64 (x7_1 + 1)) < (y108.length : Int) then (hearsayref08_kindsP.j5 kj10 a0 (y123.set ((wrap64 (x7_1 + 1)) : Int).toNat 4) x6_1 (wrap64 (x7_1 + 1))) else (none)) else (none)) else (hearsayref08_kindsP.j5 kj10 a0 y123 x6_1 x7_1)) = some (r1, r2, r3) := H
 have A85 := Aside0.mk A850
 clear A850
 have HC86 := Aside0.mk H
 clear H
 go_upto_if 134 with (first | (go_at_call 36; (with_reducible refine (hearsayref08_special.calls (bt a0 x7_1) false _ A80.out).mono ?_); rintro e w' ⟨rfl, ⟨nd, rfl⟩⟩; (try first | exact ⟨rfl, _, World.drewN_drewN _ _ _⟩ | exact ⟨rfl, _, Eq.trans (World.drewN_drewN _ _ _) (congrArg (World.drewN _) (Nat.add_assoc _ _ _))⟩); have p84 : 0 ≤ (x7_1 : Int) := of_decide_eq_true (by first | (with_reducible assumption) | assumption); have q84 : (x7_1 : Int) < ((y108.length : Int) : Int) := of_decide_eq_true (by first | (with_reducible assumption) | assumption); obtain ⟨hx84_0, hf84_0⟩ := Kd.R_celln 0 HO_5.out (x7_1 : Int) p84 q84; replace p84 := eq_true p84; replace q84 := eq_true q84; obtain ⟨hy87_, hz87_⟩ := Kd.R_celln 0 HO_5.out (x7_1 : Int) (of_decide_eq_true (by first | (with_reducible assumption) | assumption)) (of_decide_eq_true (by first | (with_reducible assumption) | assumption)); have HP87 := Kd.R_putg HO_5.out (x7_1 : Int) 3) | ((with_reducible refine gate_store (t := 3) (p := 131) rfl ?_); (try (rw [drewN_self wc]; generalize hq_ : World.drewN wc _ = wc; have n0_ := Aside0.mk (Kd.R_at hq_ HO_5.out); have n1_ := Aside0.mk (Kd.R_at hq_ HO_6.out); have n2_ := Aside0.mk (below_at hq_ HB.out); clear hq_ HO_5 HO_6 HB; have HO_5 := n0_; have HO_6 := n1_; have HB := n2_; clear n0_ n1_ n2_; (try (obtain ⟨hy87_, hz87_⟩ := Kd.R_celln 0 HO_5.out (x7_1 : Int) (of_decide_eq_true (by first | (with_reducible assumption) | assumption)) (of_decide_eq_true (by first | (with_reducible assumption) | assumption)))); (try (have HP87 := Kd.R_putg HO_5.out (x7_1 : Int) 3)))); refine store_event (t := 3) (p := 131) (v := ?vo_w88) (w1 := (wc.setCell ⟨go10, (x7_1 : Int).toNat, none⟩ (.int .i64 3))) ?hg ?ho ?hn ?hr ?_; (case ho => rfl); (case hg => rfl); (case hn => rfl); (case hr => first | (go_simp; done) | (go_simp; rfl)); intro w88 hw; have hg : wc.grownBy w88 (some go10) := (by rw [hw]; exact HP87.2); have hp_ : Kd.R (Kd.int .i64) 3 w88 w.heap.size (fun k_ => some k_ ≠ (u6 : Value).ownBlock) (.slice (some ⟨go10, 0, none⟩) y108.length co10) y123 := (by rw [hw, Ny123.out]; exact HP87.1); clear HP87; have n0_ := Aside0.mk (hp_); have n1_ := Aside0.mk (Kd.R_after (v := (.slice (some ⟨go10, 0, none⟩) y108.length co10)) (v1 := (.slice (some ⟨go10, 0, none⟩) y108.length co10)) (ok := (fun _ => True)) (by (with_reducible repeat (first | apply Kd.R_alloc | apply Kd.R_drewN | apply Kd.R_drew)); exact Kd.R_mono HO_6.out (fun _ hk => ⟨trivial, hk⟩)) hg (.inl rfl)); have n2_ := Aside0.mk ((by rw [hw]; exact below_set (HB.out) GB10.out : Below w.heap.size w w88)); clear HO_5; clear HO_6; clear HB; have HO_5 := n0_; have HO_6 := n1_; have HB := n2_; clear n0_ n1_ n2_; clear hg hw hp_) | (go_at_call 35; (with_reducible refine (hearsayref08_takes.calls a0 x7_1 t124 _ A85.out).mono ?_); rintro e w' ⟨rfl, ⟨nd, rfl⟩⟩; (try first | exact ⟨rfl, _, World.drewN_drewN _ _ _⟩ | exact ⟨rfl, _, Eq.trans (World.drewN_drewN _ _ _) (congrArg (World.drewN _) (Nat.add_assoc _ _ _))⟩)))
 repeat (go_quiet (first | (go_at_call 36; (with_reducible refine (hearsayref08_special.calls (bt a0 x7_1) false _ A80.out).mono ?_); rintro e w' ⟨rfl, ⟨nd, rfl⟩⟩; (try first | exact ⟨rfl, _, World.drewN_drewN _ _ _⟩ | exact ⟨rfl, _, Eq.trans (World.drewN_drewN _ _ _) (congrArg (World.drewN _) (Nat.add_assoc _ _ _))⟩); have p84 : 0 ≤ (x7_1 : Int) := of_decide_eq_true (by first | (with_reducible assumption) | assumption); have q84 : (x7_1 : Int) < ((y108.length : Int) : Int) := of_decide_eq_true (by first | (with_reducible assumption) | assumption); obtain ⟨hx84_0, hf84_0⟩ := Kd.R_celln 0 HO_5.out (x7_1 : Int) p84 q84; replace p84 := eq_true p84; replace q84 := eq_true q84; obtain ⟨hy87_, hz87_⟩ := Kd.R_celln 0 HO_5.out (x7_1 : Int) (of_decide_eq_true (by first | (with_reducible assumption) | assumption)) (of_decide_eq_true (by first | (with_reducible assumption) | assumption)); have HP87 := Kd.R_putg HO_5.out (x7_1 : Int) 3) | ((with_reducible refine gate_store (t := 3) (p := 131) rfl ?_); (try (rw [drewN_self wc]; generalize hq_ : World.drewN wc _ = wc; have n0_ := Aside0.mk (Kd.R_at hq_ HO_5.out); have n1_ := Aside0.mk (Kd.R_at hq_ HO_6.out); have n2_ := Aside0.mk (below_at hq_ HB.out); clear hq_ HO_5 HO_6 HB; have HO_5 := n0_; have HO_6 := n1_; have HB := n2_; clear n0_ n1_ n2_; (try (obtain ⟨hy87_, hz87_⟩ := Kd.R_celln 0 HO_5.out (x7_1 : Int) (of_decide_eq_true (by first | (with_reducible assumption) | assumption)) (of_decide_eq_true (by first | (with_reducible assumption) | assumption)))); (try (have HP87 := Kd.R_putg HO_5.out (x7_1 : Int) 3)))); refine store_event (t := 3) (p := 131) (v := ?vo_w88) (w1 := (wc.setCell ⟨go10, (x7_1 : Int).toNat, none⟩ (.int .i64 3))) ?hg ?ho ?hn ?hr ?_; (case ho => rfl); (case hg => rfl); (case hn => rfl); (case hr => first | (go_simp; done) | (go_simp; rfl)); intro w88 hw; have hg : wc.grownBy w88 (some go10) := (by rw [hw]; exact HP87.2); have hp_ : Kd.R (Kd.int .i64) 3 w88 w.heap.size (fun k_ => some k_ ≠ (u6 : Value).ownBlock) (.slice (some ⟨go10, 0, none⟩) y108.length co10) y123 := (by rw [hw, Ny123.out]; exact HP87.1); clear HP87; have n0_ := Aside0.mk (hp_); have n1_ := Aside0.mk (Kd.R_after (v := (.slice (some ⟨go10, 0, none⟩) y108.length co10)) (v1 := (.slice (some ⟨go10, 0, none⟩) y108.length co10)) (ok := (fun _ => True)) (by (with_reducible repeat (first | apply Kd.R_alloc | apply Kd.R_drewN | apply Kd.R_drew)); exact Kd.R_mono HO_6.out (fun _ hk => ⟨trivial, hk⟩)) hg (.inl rfl)); have n2_ := Aside0.mk ((by rw [hw]; exact below_set (HB.out) GB10.out : Below w.heap.size w w88)); clear HO_5; clear HO_6; clear HB; have HO_5 := n0_; have HO_6 := n1_; have HB := n2_; clear n0_ n1_ n2_; clear hg hw hp_) | (go_at_call 35; (with_reducible refine (hearsayref08_takes.calls a0 x7_1 t124 _ A85.out).mono ?_); rintro e w' ⟨rfl, ⟨nd, rfl⟩⟩; (try first | exact ⟨rfl, _, World.drewN_drewN _ _ _⟩ | exact ⟨rfl, _, Eq.trans (World.drewN_drewN _ _ _) (congrArg (World.drewN _) (Nat.add_assoc _ _ _))⟩))); go_upto_if 134 with (first | (go_at_call 36; (with_reducible refine (hearsayref08_special.calls (bt a0 x7_1) false _ A80.out).mono ?_); rintro e w' ⟨rfl, ⟨nd, rfl⟩⟩; (try first | exact ⟨rfl, _, World.drewN_drewN _ _ _⟩ | exact ⟨rfl, _, Eq.trans (World.drewN_drewN _ _ _) (congrArg (World.drewN _) (Nat.add_assoc _ _ _))⟩); have p84 : 0 ≤ (x7_1 : Int) := of_decide_eq_true (by first | (with_reducible assumption) | assumption); have q84 : (x7_1 : Int) < ((y108.length : Int) : Int) := of_decide_eq_true (by first | (with_reducible assumption) | assumption); obtain ⟨hx84_0, hf84_0⟩ := Kd.R_celln 0 HO_5.out (x7_1 : Int) p84 q84; replace p84 := eq_true p84; replace q84 := eq_true q84; obtain ⟨hy87_, hz87_⟩ := Kd.R_celln 0 HO_5.out (x7_1 : Int) (of_decide_eq_true (by first | (with_reducible assumption) | assumption)) (of_decide_eq_true (by first | (with_reducible assumption) | assumption)); have HP87 := Kd.R_putg HO_5.out (x7_1 : Int) 3) | ((with_reducible refine gate_store (t := 3) (p := 131) rfl ?_); (try (rw [drewN_self wc]; generalize hq_ : World.drewN wc _ = wc; have n0_ := Aside0.mk (Kd.R_at hq_ HO_5.out); have n1_ := Aside0.mk (Kd.R_at hq_ HO_6.out); have n2_ := Aside0.mk (below_at hq_ HB.out); clear hq_ HO_5 HO_6 HB; have HO_5 := n0_; have HO_6 := n1_; have HB := n2_; clear n0_ n1_ n2_; (try (obtain ⟨hy87_, hz87_⟩ := Kd.R_celln 0 HO_5.out (x7_1 : Int) (of_decide_eq_true (by first | (with_reducible assumption) | assumption)) (of_decide_eq_true (by first | (with_reducible assumption) | assumption)))); (try (have HP87 := Kd.R_putg HO_5.out (x7_1 : Int) 3)))); refine store_event (t := 3) (p := 131) (v := ?vo_w88) (w1 := (wc.setCell ⟨go10, (x7_1 : Int).toNat, none⟩ (.int .i64 3))) ?hg ?ho ?hn ?hr ?_; (case ho => rfl); (case hg => rfl); (case hn => rfl); (case hr => first | (go_simp; done) | (go_simp; rfl)); intro w88 hw; have hg : wc.grownBy w88 (some go10) := (by rw [hw]; exact HP87.2); have hp_ : Kd.R (Kd.int .i64) 3 w88 w.heap.size (fun k_ => some k_ ≠ (u6 : Value).ownBlock) (.slice (some ⟨go10, 0, none⟩) y108.length co10) y123 := (by rw [hw, Ny123.out]; exact HP87.1); clear HP87; have n0_ := Aside0.mk (hp_); have n1_ := Aside0.mk (Kd.R_after (v := (.slice (some ⟨go10, 0, none⟩) y108.length co10)) (v1 := (.slice (some ⟨go10, 0, none⟩) y108.length co10)) (ok := (fun _ => True)) (by (with_reducible repeat (first | apply Kd.R_alloc | apply Kd.R_drewN | apply Kd.R_drew)); exact Kd.R_mono HO_6.out (fun _ hk => ⟨trivial, hk⟩)) hg (.inl rfl)); have n2_ := Aside0.mk ((by rw [hw]; exact below_set (HB.out) GB10.out : Below w.heap.size w w88)); clear HO_5; clear HO_6; clear HB; have HO_5 := n0_; have HO_6 := n1_; have HB := n2_; clear n0_ n1_ n2_; clear hg hw hp_) | (go_at_call 35; (with_reducible refine (hearsayref08_takes.calls a0 x7_1 t124 _ A85.out).mono ?_); rintro e w' ⟨rfl, ⟨nd, rfl⟩⟩; (try first | exact ⟨rfl, _, World.drewN_drewN _ _ _⟩ | exact ⟨rfl, _, Eq.trans (World.drewN_drewN _ _ _) (congrArg (World.drewN _) (Nat.add_assoc _ _ _))⟩))))
 (try simp only [Act.put, List.setIfInBounds_toArray, List.set_cons_zero, List.set_cons_succ])
 go_cut [7] (fun v7 wc => ∃ (kq : Nat) (x5_85 : List Int) (x7_85 : Int), v7 = .int .i64 x7_85 ∧ Aside0 (hearsayref08_kindsP.j5 kq a0 x5_85 x6_1 x7_85 = some (r1, r2, r3)) ∧ Aside0 (kq ≤ kj10) ∧ Aside0 (Kd.R (Kd.int .i64) 3 wc w.heap.size (fun k_ => some k_ ≠ (u6 : Value).ownBlock) (.slice (some ⟨go10, 0, none⟩) y108.length co10) x5_85) ∧ Aside0 (Kd.R (Kd.int .i64) 3 wc w.heap.size (fun k_ => some k_ ≠ ((.slice (some ⟨go10, 0, none⟩) y108.length co10) : Value).ownBlock) u6 x6_1) ∧ Aside0 (Below w.heap.size w wc))
 case first => (
 have H := HC86.out
 clear HC86
 by_cases c89 : t124 = true
 {
 subst c89
 have H1 : (if 0 ≤ (wrap64 (x7_1 + 1)) then (if (wrap64 (x7_1 + 1)) < (y108.length : Int) then (hearsayref08_kindsP.j5 kj10 a0 (y123.set ((wrap64 (x7_1 + 1)) : Int).toNat 4) x6_1 (wrap64 (x7_1 + 1))) else (none)) else (none)) = some (r1, r2, r3) := by rw [if_pos rfl] at H; exact H
 clear H
 have H := H1
 clear H1
 obtain ⟨ji90, hji90⟩ : ∃ j_ : Int, (wrap64 (x7_1 + 1)) = j_ := ⟨_, rfl⟩
 replace H : (if 0 ≤ (ji90) then (if (ji90) < (y108.length : Int) then (hearsayref08_kindsP.j5 kj10 a0 (y123.set ((ji90) : Int).toNat 4) x6_1 ji90) else (none)) else (none)) = some (r1, r2, r3) := by first | (rw [hji90] at H; exact H) | (simp only [hji90] at H ⊢; exact H)
 have hji90w : (IntKind.i64.wrap (x7_1 + 1)) = ji90 := (i64_w _).trans hji90
 by_cases c91 : 0 ≤ (ji90)
 {
 rw [if_pos c91] at H
 have c91b0 : decide (0 ≤ (ji90)) = true := decide_eq_true c91
 clear c91
 (first | rw [c91b0] | (simp only [i64_w, i32_w]; rw [c91b0]) | skip)
 by_cases c92 : (ji90) < (y108.length : Int)
 {
 rw [if_pos c92] at H
 have c92b0 : decide ((ji90) < (y108.length : Int)) = true := decide_eq_true c92
 clear c92
 obtain ⟨y125, hy125⟩ : ∃ y_ : List Int, y_ = (y123.set ((ji90) : Int).toNat 4) := ⟨_, rfl⟩
 replace H : (hearsayref08_kindsP.j5 kj10 a0 y125 x6_1 ji90) = some (r1, r2, r3) := by first | (rw [hy125]; with_reducible exact H) | (have H2_ := (Option.bind_some _ _).symm.trans H; rw [hy125]; with_reducible exact H2_) | (have H2_ := (Option.bind_some _ _).symm.trans H; with_reducible exact H2_) | with_reducible exact H | (rw [hy125]; exact H) | exact H
 have Ny125 := Aside0.mk hy125
 clear hy125
 have H' := Aside0.mk H
 clear H
 have p93 : 0 ≤ ((ji90) : Int) := of_decide_eq_true (by first | (with_reducible assumption) | assumption)
 have q93 : ((ji90) : Int) < ((y108.length : Int) : Int) := of_decide_eq_true (by first | (with_reducible assumption) | assumption)
 obtain ⟨hx93_0, hf93_0⟩ := Kd.R_celln 0 HO_5.out ((ji90) : Int) p93 q93
 replace p93 := eq_true p93
 replace q93 := eq_true q93
 have HP94 := Kd.R_putg HO_5.out ((ji90) : Int) 4
 go_wp2
 have hp5_ := Kd.R_putn (Kd.R_drewN HO_5.out nd) (ji90 : Int) 4
 rw [← Ny125.out] at hp5_
 have hg5_ := (Kd.R_putg (Kd.R_drewN HO_5.out nd) (ji90 : Int) 4).2
 have h6_ := Kd.R_after (v := (.slice (some ⟨go10, 0, none⟩) y108.length co10)) (v1 := (.slice (some ⟨go10, 0, none⟩) y108.length co10)) (ok := (fun _ => True)) (Kd.R_drewN HO_6.out nd) hg5_ (.inl rfl)
 have hb_ : Below w.heap.size w ((w88.drewN nd).setCell ⟨go10, (ji90 : Int).toNat, none⟩ (.int .i64 4)) := below_set (pw_below_drewN HB.out nd) GB10.out
 clear HO_5 HO_6 HB HP94
 have HO_5 := Aside0.mk hp5_
 have HO_6 := Aside0.mk h6_
 have HB := Aside0.mk hb_
 clear hp5_ hg5_ h6_ hb_
 go_meet
 case rel => exact ⟨_, (y125), (ji90), (by first | rfl | (simp; done) | (simp only [← hji90] <;> (first | rfl | simp)) | (simp [*]; done)), H', ⟨by have := HK1.out; have := HJ10.out; first | omega | exact Nat.le_refl _⟩, ⟨by (try simp only [hl5_10]); (with_reducible repeat (first | apply Kd.R_alloc | apply Kd.R_drewN | apply Kd.R_drew)); exact HO_5.out⟩, ⟨by (try simp only [hl5_10]); (with_reducible repeat (first | apply Kd.R_alloc | apply Kd.R_drewN | apply Kd.R_drew)); exact Kd.R_mono HO_6.out (fun _ hk => hk.2)⟩, ⟨by repeat (first | (with_reducible first | exact HB.out | apply below_alloc | apply pw_below_drewN | apply below_drew1) | exact HB.out)⟩⟩ }
 {
 rw [if_neg c92] at H
 exact absurd H (by simp) }}
 {
 rw [if_neg c91] at H
 exact absurd H (by simp) }}
 {
 replace c89 := Bool.eq_false_iff.mpr c89
 subst c89
 have H1 : (hearsayref08_kindsP.j5 kj10 a0 y123 x6_1 x7_1) = some (r1, r2, r3) := by rw [if_neg (show ¬ (false = true) by decide)] at H; exact H
 clear H
 have H := H1
 clear H1
 have H' := Aside0.mk H
 clear H
 go_wp2
 repeat (go_quiet (fail); try go_wp2)
 go_meet
 case rel => exact ⟨_, (y123), (x7_1), (by first | rfl | (simp; done) | (simp [*]; done)), H', ⟨by have := HK1.out; have := HJ10.out; first | omega | exact Nat.le_refl _⟩, ⟨by (try simp only [hl5_10]); (with_reducible repeat (first | apply Kd.R_alloc | apply Kd.R_drewN | apply Kd.R_drew)); exact HO_5.out⟩, ⟨by (try simp only [hl5_10]); (with_reducible repeat (first | apply Kd.R_alloc | apply Kd.R_drewN | apply Kd.R_drew)); exact Kd.R_mono HO_6.out (fun _ hk => hk.2)⟩, ⟨by repeat (first | (with_reducible first | exact HB.out | apply below_alloc | apply pw_below_drewN | apply below_drew1) | exact HB.out)⟩⟩ })
 case rest => (as_aux_lemma => (
 clear HC86
 try clear c1
 try clear p1
 try clear q1
 try clear hx1
 try clear hf1
 try clear c2
 try clear c2b0
 try clear c2b1
 try clear p2
 try clear q2
 try clear hx2
 try clear hf2
 try clear c3
 try clear c3b0
 try clear c3b1
 try clear c4
 try clear p4
 try clear q4
 try clear hx4
 try clear hf4
 try clear c5
 try clear p5
 try clear q5
 try clear hx5
 try clear hf5
 try clear c6
 try clear c6b0
 try clear p6
 try clear q6
 try clear hx6
 try clear hf6
 try clear c7
 try clear c7b0
 try clear p7
 try clear q7
 try clear hx7
 try clear hf7
 try clear c8
 try clear p8
 try clear q8
 try clear hx8
 try clear hf8
 try clear c9
 try clear c9b0
 try clear p9
 try clear q9
 try clear hx9
 try clear hf9
 try clear p10
 try clear q10
 try clear hx10
 try clear hf10
 try clear c14
 try clear c14b0
 try clear c14b1
 try clear c16
 try clear c17
 try clear c17b0
 try clear c18
 try clear c18b0
 try clear p19
 try clear q19
 try clear hx19
 try clear hf19
 try clear c22
 try clear c22b0
 try clear c22b1
 try clear c23
 try clear c23b0
 try clear c25
 try clear c25b0
 try clear c26
 try clear p26
 try clear q26
 try clear hx26
 try clear c27
 try clear c27b0
 try clear c27b1
 try clear c28
 try clear c28b0
 try clear p29
 try clear q29
 try clear hx29
 try clear hf29
 try clear c32
 try clear c32b0
 try clear c32b1
 try clear c33
 try clear c35
 try clear c35b0
 try clear c35b1
 try clear c36
 try clear c36b0
 try clear c36b1
 try clear c36b2
 try clear c39
 try clear c39b0
 try clear c39b1
 try clear c40
 try clear c40b0
 try clear c40b1
 try clear q42
 try clear c43
 try clear c43b0
 try clear c43b1
 try clear c44
 try clear c44b0
 try clear c45
 try clear c45b0
 try clear p46
 try clear q46
 try clear hx46
 try clear hf46
 try clear c50
 try clear c50b0
 try clear c51
 try clear c51b0
 try clear p52
 try clear q52
 try clear hx52
 try clear c53
 try clear c53b0
 try clear c53b1
 try clear p54
 try clear q54
 try clear hx54
 try clear c55
 try clear c56
 try clear c56b0
 try clear c57
 try clear c57b0
 try clear p58
 try clear q58
 try clear hx58
 try clear hf58
 try clear c60
 try clear c62
 try clear c62b0
 try clear c63
 try clear c63b0
 try clear p64
 try clear q64
 try clear hx64
 try clear hf64
 try clear c71
 try clear c71b0
 try clear c72
 try clear c72b0
 try clear c73
 try clear c73b0
 try clear p74
 try clear q74
 try clear hx74
 try clear c75
 try clear c75b0
 try clear c75b1
 try clear c76
 try clear c76b0
 try clear p77
 try clear q77
 try clear hx77
 try clear hf77
 try clear c81
 try clear c82
 try clear c82b0
 try clear c83
 try clear c83b0
 try clear p84
 try clear q84
 try clear hx84
 try clear hf84
 try clear c89
 try clear c91
 try clear c91b0
 try clear c92
 try clear c92b0
 try clear p93
 try clear q93
 try clear hx93
 try clear hf93
 try clear hx10_0
 try clear hx19_0
 try clear hx29_0
 try clear hx46_0
 try clear hx58_0
 try clear hx64_0
 try clear hx77_0
 try clear hx84_0
 try clear hx93_0
 try clear p1
 try clear p10
 try clear p19
 try clear p2
 try clear p26
 try clear p29
 try clear p4
 try clear p46
 try clear p5
 try clear p52
 try clear p54
 try clear p58
 try clear p6
 try clear p64
 try clear p74
 try clear p77
 try clear p8
 try clear p84
 try clear p93
 try clear q1
 try clear q10
 try clear q19
 try clear q2
 try clear q26
 try clear q29
 try clear q4
 try clear q42
 try clear q46
 try clear q5
 try clear q52
 try clear q54
 try clear q58
 try clear q64
 try clear q74
 try clear q77
 try clear q8
 try clear q84
 try clear q93
 obtain ⟨kq, x5_85, x7_85, rfl, HA, HJ85, HO_5, HO_6, HB⟩ := hcut
 have hl5_85 := (Kd.R_reads' HO_5.out).1
 rw [hl5_85] at HO_5
 (try simp only [hl5_85])
 (try simp only [hl5_85] at HO_6)
 cases kq with
 | zero => exact absurd HA.out (by simp [hearsayref08_kindsP.j5])
 | succ kj85 => (
 have H := HA.out
 clear HA
 simp only [hearsayref08_kindsP.j5] at H
 have H' := Aside0.mk H
 clear H
 go_wp2
 repeat (go_quiet (fail); try go_wp2)
 go_loopg [7] kj85 (fun kq v7 w' => ∃ (x5_4 : List Int) (x7_4 : Int), v7 = .int .i64 x7_4 ∧ Aside0 (hearsayref08_kindsP.l3 kq a0 x5_4 x6_1 x7_4 = some (r1, r2, r3)) ∧ Aside0 (kq ≤ kj85) ∧ Aside0 (Kd.R (Kd.int .i64) 3 w' w.heap.size (fun k_ => some k_ ≠ (u6 : Value).ownBlock) (.slice (some ⟨go10, 0, none⟩) x5_85.length co10) x5_4) ∧ Aside0 (Kd.R (Kd.int .i64) 3 w' w.heap.size (fun k_ => some k_ ≠ ((.slice (some ⟨go10, 0, none⟩) x5_85.length co10) : Value).ownBlock) u6 x6_1) ∧ Aside0 (Below w.heap.size w w'))
 case atStart => exact ⟨(x5_85), (x7_85), (by first | rfl | (simp; done) | (simp [*]; done)), H', ⟨Nat.le_refl _⟩, ⟨by (try simp only [hl5_10]); (try simp only [hl5_85]); (with_reducible repeat (first | apply Kd.R_alloc | apply Kd.R_drewN | apply Kd.R_drew)); exact HO_5.out⟩, ⟨by (try simp only [hl5_10]); (try simp only [hl5_85]); (with_reducible repeat (first | apply Kd.R_alloc | apply Kd.R_drewN | apply Kd.R_drew)); exact HO_6.out⟩, ⟨by repeat (first | (with_reducible first | exact HB.out | apply below_alloc | apply pw_below_drewN | apply below_drew1) | exact HB.out)⟩⟩
 case round => (as_aux_lemma => (
 clear H'
 try clear c1
 try clear p1
 try clear q1
 try clear hx1
 try clear hf1
 try clear c2
 try clear c2b0
 try clear c2b1
 try clear p2
 try clear q2
 try clear hx2
 try clear hf2
 try clear c3
 try clear c3b0
 try clear c3b1
 try clear c4
 try clear p4
 try clear q4
 try clear hx4
 try clear hf4
 try clear c5
 try clear p5
 try clear q5
 try clear hx5
 try clear hf5
 try clear c6
 try clear c6b0
 try clear p6
 try clear q6
 try clear hx6
 try clear hf6
 try clear c7
 try clear c7b0
 try clear p7
 try clear q7
 try clear hx7
 try clear hf7
 try clear c8
 try clear p8
 try clear q8
 try clear hx8
 try clear hf8
 try clear c9
 try clear c9b0
 try clear p9
 try clear q9
 try clear hx9
 try clear hf9
 try clear p10
 try clear q10
 try clear hx10
 try clear hf10
 try clear c14
 try clear c14b0
 try clear c14b1
 try clear c16
 try clear c17
 try clear c17b0
 try clear c18
 try clear c18b0
 try clear p19
 try clear q19
 try clear hx19
 try clear hf19
 try clear c22
 try clear c22b0
 try clear c22b1
 try clear c23
 try clear c23b0
 try clear c25
 try clear c25b0
 try clear c26
 try clear p26
 try clear q26
 try clear hx26
 try clear c27
 try clear c27b0
 try clear c27b1
 try clear c28
 try clear c28b0
 try clear p29
 try clear q29
 try clear hx29
 try clear hf29
 try clear c32
 try clear c32b0
 try clear c32b1
 try clear c33
 try clear c35
 try clear c35b0
 try clear c35b1
 try clear c36
 try clear c36b0
 try clear c36b1
 try clear c36b2
 try clear c39
 try clear c39b0
 try clear c39b1
 try clear c40
 try clear c40b0
 try clear c40b1
 try clear q42
 try clear c43
 try clear c43b0
 try clear c43b1
 try clear c44
 try clear c44b0
 try clear c45
 try clear c45b0
 try clear p46
 try clear q46
 try clear hx46
 try clear hf46
 try clear c50
 try clear c50b0
 try clear c51
 try clear c51b0
 try clear p52
 try clear q52
 try clear hx52
 try clear c53
 try clear c53b0
 try clear c53b1
 try clear p54
 try clear q54
 try clear hx54
 try clear c55
 try clear c56
 try clear c56b0
 try clear c57
 try clear c57b0
 try clear p58
 try clear q58
 try clear hx58
 try clear hf58
 try clear c60
 try clear c62
 try clear c62b0
 try clear c63
 try clear c63b0
 try clear p64
 try clear q64
 try clear hx64
 try clear hf64
 try clear c71
 try clear c71b0
 try clear c72
 try clear c72b0
 try clear c73
 try clear c73b0
 try clear p74
 try clear q74
 try clear hx74
 try clear c75
 try clear c75b0
 try clear c75b1
 try clear c76
 try clear c76b0
 try clear p77
 try clear q77
 try clear hx77
 try clear hf77
 try clear c81
 try clear c82
 try clear c82b0
 try clear c83
 try clear c83b0
 try clear p84
 try clear q84
 try clear hx84
 try clear hf84
 try clear c89
 try clear c91
 try clear c91b0
 try clear c92
 try clear c92b0
 try clear p93
 try clear q93
 try clear hx93
 try clear hf93
 try clear hx10_0
 try clear hx19_0
 try clear hx29_0
 try clear hx46_0
 try clear hx58_0
 try clear hx64_0
 try clear hx77_0
 try clear hx84_0
 try clear hx93_0
 try clear p1
 try clear p10
 try clear p19
 try clear p2
 try clear p26
 try clear p29
 try clear p4
 try clear p46
 try clear p5
 try clear p52
 try clear p54
 try clear p58
 try clear p6
 try clear p64
 try clear p7
 try clear p74
 try clear p77
 try clear p8
 try clear p84
 try clear p9
 try clear p93
 try clear q1
 try clear q10
 try clear q19
 try clear q2
 try clear q26
 try clear q29
 try clear q4
 try clear q42
 try clear q46
 try clear q5
 try clear q52
 try clear q54
 try clear q58
 try clear q6
 try clear q64
 try clear q7
 try clear q74
 try clear q77
 try clear q8
 try clear q84
 try clear q9
 try clear q93
 obtain ⟨x5_4, x7_4, rfl, HA, HK4, HO_5, HO_6, HB⟩ := hrel
 have hl5_4 := (Kd.R_reads' HO_5.out).1
 rw [hl5_4] at HO_5
 (try simp only [hl5_4])
 (try simp only [hl5_4] at HO_6)
 cases gk with
 | zero => exact absurd HA.out (by simp [hearsayref08_kindsP.l3])
 | succ k4 => (
 have H := HA.out
 clear HA
 simp only [hearsayref08_kindsP.l3] at H
 have HC96 := Aside0.mk H
 clear H
 go_upto_region 37 with (fail)
 repeat (go_quiet (fail); go_upto_region 37 with (fail))
 go_cut [152] (fun v152 wc => ∃ (kq : Nat) (x152_95 : Bool), v152 = .bool x152_95 ∧ Aside0 (hearsayref08_kindsP.j7 kq a0 x5_4 x6_1 x7_4 x152_95 = some (r1, r2, r3)) ∧ Aside0 (kq ≤ k4) ∧ Aside0 (Kd.R (Kd.int .i64) 3 wc w.heap.size (fun k_ => some k_ ≠ (u6 : Value).ownBlock) (.slice (some ⟨go10, 0, none⟩) x5_4.length co10) x5_4) ∧ Aside0 (Kd.R (Kd.int .i64) 3 wc w.heap.size (fun k_ => some k_ ≠ ((.slice (some ⟨go10, 0, none⟩) x5_4.length co10) : Value).ownBlock) u6 x6_1) ∧ Aside0 (Below w.heap.size w wc))
 case first => (
 have H := HC96.out
 clear HC96
 by_cases c97 : (wrap64 (x7_4 + 1)) < (a0.size : Int)
 {
 rw [if_pos c97] at H
 have c97b0 : decide ((wrap64 (x7_4 + 1)) < (a0.size : Int)) = true := decide_eq_true c97
 clear c97
 (first | rw [c97b0] | (simp only [i64_w, i32_w]; rw [c97b0]) | skip)
 obtain ⟨ji98, hji98⟩ : ∃ j_ : Int, (wrap64 (x7_4 + 1)) = j_ := ⟨_, rfl⟩
 replace H : (if 0 ≤ (ji98) then ((hearsayref08_special.f (bt a0 (ji98))).bind fun t126 => (hearsayref08_kindsP.j7 k4 a0 x5_4 x6_1 x7_4 (!t126))) else (none)) = some (r1, r2, r3) := by first | (rw [hji98] at H; exact H) | (simp only [hji98] at H ⊢; exact H)
 (try rw [hji98] at c97b0)
 have hji98w : (IntKind.i64.wrap (x7_4 + 1)) = ji98 := (i64_w _).trans hji98
 by_cases c99 : 0 ≤ (ji98)
 {
 rw [if_pos c99] at H
 have c99b0 : decide (0 ≤ (ji98)) = true := decide_eq_true c99
 clear c99
 replace H := Option.bind_eq_some_iff.mp H
 obtain ⟨t126, A1010, H⟩ := H
 replace H : (hearsayref08_kindsP.j7 k4 a0 x5_4 x6_1 x7_4 (!t126)) = some (r1, r2, r3) := H
 have A101 := Aside0.mk A1010
 clear A1010
 have H' := Aside0.mk H
 clear H
 have p100 : 0 ≤ ((ji98) : Int) := of_decide_eq_true (by first | (with_reducible assumption) | assumption)
 have q100 : (ji98) < (a0.size : Int) := of_decide_eq_true (by first | (with_reducible assumption) | assumption)
 have hx100 := bt_at a0 (ji98)
 replace p100 := eq_true p100
 replace q100 := eq_true q100
 go_wp2_with (first | (go_at_call 36; (with_reducible refine (hearsayref08_special.calls (bt a0 (ji98)) t126 _ A101.out).mono ?_); rintro e w' ⟨rfl, ⟨nd, rfl⟩⟩; (try first | exact ⟨rfl, _, World.drewN_drewN _ _ _⟩ | exact ⟨rfl, _, Eq.trans (World.drewN_drewN _ _ _) (congrArg (World.drewN _) (Nat.add_assoc _ _ _))⟩)))
 repeat (go_quiet (first | (go_at_call 36; (with_reducible refine (hearsayref08_special.calls (bt a0 (ji98)) t126 _ A101.out).mono ?_); rintro e w' ⟨rfl, ⟨nd, rfl⟩⟩; (try first | exact ⟨rfl, _, World.drewN_drewN _ _ _⟩ | exact ⟨rfl, _, Eq.trans (World.drewN_drewN _ _ _) (congrArg (World.drewN _) (Nat.add_assoc _ _ _))⟩))); try go_wp2_with (first | (go_at_call 36; (with_reducible refine (hearsayref08_special.calls (bt a0 (ji98)) t126 _ A101.out).mono ?_); rintro e w' ⟨rfl, ⟨nd, rfl⟩⟩; (try first | exact ⟨rfl, _, World.drewN_drewN _ _ _⟩ | exact ⟨rfl, _, Eq.trans (World.drewN_drewN _ _ _) (congrArg (World.drewN _) (Nat.add_assoc _ _ _))⟩))))
 go_meet
 case rel => exact ⟨_, (!t126), (by first | rfl | (simp; done) | (simp [*]; done)), H', ⟨by have := HK1.out; have := HJ10.out; have := HJ85.out; have := HK4.out; first | omega | exact Nat.le_refl _⟩, ⟨by (try simp only [hl5_10]); (try simp only [hl5_85]); (try simp only [hl5_4]); (with_reducible repeat (first | apply Kd.R_alloc | apply Kd.R_drewN | apply Kd.R_drew)); exact HO_5.out⟩, ⟨by (try simp only [hl5_10]); (try simp only [hl5_85]); (try simp only [hl5_4]); (with_reducible repeat (first | apply Kd.R_alloc | apply Kd.R_drewN | apply Kd.R_drew)); exact HO_6.out⟩, ⟨by repeat (first | (with_reducible first | exact HB.out | apply below_alloc | apply pw_below_drewN | apply below_drew1) | exact HB.out)⟩⟩ }
 {
 rw [if_neg c99] at H
 exact absurd H (by simp) }}
 {
 rw [if_neg c97] at H
 have c97b0 : decide ((wrap64 (x7_4 + 1)) < (a0.size : Int)) = false := decide_eq_false c97
 clear c97
 (first | rw [c97b0] | (simp only [i64_w, i32_w]; rw [c97b0]) | skip)
 have H' := Aside0.mk H
 clear H
 go_wp2
 repeat (go_quiet (fail); try go_wp2)
 go_meet
 case rel => exact ⟨_, (false), (by first | rfl | (simp; done) | (simp [*]; done)), H', ⟨by have := HK1.out; have := HJ10.out; have := HJ85.out; have := HK4.out; first | omega | exact Nat.le_refl _⟩, ⟨by (try simp only [hl5_10]); (try simp only [hl5_85]); (try simp only [hl5_4]); (with_reducible repeat (first | apply Kd.R_alloc | apply Kd.R_drewN | apply Kd.R_drew)); exact HO_5.out⟩, ⟨by (try simp only [hl5_10]); (try simp only [hl5_85]); (try simp only [hl5_4]); (with_reducible repeat (first | apply Kd.R_alloc | apply Kd.R_drewN | apply Kd.R_drew)); exact HO_6.out⟩, ⟨by repeat (first | (with_reducible first | exact HB.out | apply below_alloc | apply pw_below_drewN | apply below_drew1) | exact HB.out)⟩⟩ })
 case rest => (as_aux_lemma => (
 clear HC96
 try clear c1
 try clear p1
 try clear q1
 try clear hx1
 try clear hf1
 try clear c2
 try clear c2b0
 try clear c2b1
 try clear p2
 try clear q2
 try clear hx2
 try clear hf2
 try clear c3
 try clear c3b0
 try clear c3b1
 try clear c4
 try clear p4
 try clear q4
 try clear hx4
 try clear hf4
 try clear c5
 try clear p5
 try clear q5
 try clear hx5
 try clear hf5
 try clear c6
 try clear c6b0
 try clear p6
 try clear q6
 try clear hx6
 try clear hf6
 try clear c7
 try clear c7b0
 try clear p7
 try clear q7
 try clear hx7
 try clear hf7
 try clear c8
 try clear p8
 try clear q8
 try clear hx8
 try clear hf8
 try clear c9
 try clear c9b0
 try clear p9
 try clear q9
 try clear hx9
 try clear hf9
 try clear p10
 try clear q10
 try clear hx10
 try clear hf10
 try clear c14
 try clear c14b0
 try clear c14b1
 try clear c16
 try clear c17
 try clear c17b0
 try clear c18
 try clear c18b0
 try clear p19
 try clear q19
 try clear hx19
 try clear hf19
 try clear c22
 try clear c22b0
 try clear c22b1
 try clear c23
 try clear c23b0
 try clear c25
 try clear c25b0
 try clear c26
 try clear p26
 try clear q26
 try clear hx26
 try clear c27
 try clear c27b0
 try clear c27b1
 try clear c28
 try clear c28b0
 try clear p29
 try clear q29
 try clear hx29
 try clear hf29
 try clear c32
 try clear c32b0
 try clear c32b1
 try clear c33
 try clear c35
 try clear c35b0
 try clear c35b1
 try clear c36
 try clear c36b0
 try clear c36b1
 try clear c36b2
 try clear c39
 try clear c39b0
 try clear c39b1
 try clear c40
 try clear c40b0
 try clear c40b1
 try clear q42
 try clear c43
 try clear c43b0
 try clear c43b1
 try clear c44
 try clear c44b0
 try clear c45
 try clear c45b0
 try clear p46
 try clear q46
 try clear hx46
 try clear hf46
 try clear c50
 try clear c50b0
 try clear c51
 try clear c51b0
 try clear p52
 try clear q52
 try clear hx52
 try clear c53
 try clear c53b0
 try clear c53b1
 try clear p54
 try clear q54
 try clear hx54
 try clear c55
 try clear c56
 try clear c56b0
 try clear c57
 try clear c57b0
 try clear p58
 try clear q58
 try clear hx58
 try clear hf58
 try clear c60
 try clear c62
 try clear c62b0
 try clear c63
 try clear c63b0
 try clear p64
 try clear q64
 try clear hx64
 try clear hf64
 try clear c71
 try clear c71b0
 try clear c72
 try clear c72b0
 try clear c73
 try clear c73b0
 try clear p74
 try clear q74
 try clear hx74
 try clear c75
 try clear c75b0
 try clear c75b1
 try clear c76
 try clear c76b0
 try clear p77
 try clear q77
 try clear hx77
 try clear hf77
 try clear c81
 try clear c82
 try clear c82b0
 try clear c83
 try clear c83b0
 try clear p84
 try clear q84
 try clear hx84
 try clear hf84
 try clear c89
 try clear c91
 try clear c91b0
 try clear c92
 try clear c92b0
 try clear p93
 try clear q93
 try clear hx93
 try clear hf93
 try clear c97
 try clear c97b0
 try clear c99
 try clear c99b0
 try clear p100
 try clear q100
 try clear hx100
 try clear hx10_0
 try clear hx19_0
 try clear hx29_0
 try clear hx46_0
 try clear hx58_0
 try clear hx64_0
 try clear hx77_0
 try clear hx84_0
 try clear hx93_0
 try clear p1
 try clear p10
 try clear p100
 try clear p19
 try clear p2
 try clear p26
 try clear p29
 try clear p4
 try clear p46
 try clear p5
 try clear p52
 try clear p54
 try clear p58
 try clear p6
 try clear p64
 try clear p7
 try clear p74
 try clear p77
 try clear p8
 try clear p84
 try clear p9
 try clear p93
 try clear q1
 try clear q10
 try clear q100
 try clear q19
 try clear q2
 try clear q26
 try clear q29
 try clear q4
 try clear q42
 try clear q46
 try clear q5
 try clear q52
 try clear q54
 try clear q58
 try clear q6
 try clear q64
 try clear q7
 try clear q74
 try clear q77
 try clear q8
 try clear q84
 try clear q9
 try clear q93
 obtain ⟨kq, x152_95, rfl, HA, HJ95, HO_5, HO_6, HB⟩ := hcut
 cases kq with
 | zero => exact absurd HA.out (by simp [hearsayref08_kindsP.j7])
 | succ kj95 => (
 have H := HA.out
 clear HA
 simp only [hearsayref08_kindsP.j7] at H
 by_cases c102 : x152_95 = true
 {
 subst c102
 have H1 : (if 0 ≤ (wrap64 (x7_4 + 1)) then (if (wrap64 (x7_4 + 1)) < (x5_4.length : Int) then ((some (x5_4.set ((wrap64 (x7_4 + 1)) : Int).toNat 4 : List Int)).bind fun y127 => ((hearsayref08_takes.f a0 (wrap64 (x7_4 + 1))).bind fun t128 => (if t128 = true then (if 0 ≤ (wrap64 ((wrap64 (x7_4 + 1)) + 1)) then (if (wrap64 ((wrap64 (x7_4 + 1)) + 1)) < (x5_4.length : Int) then (hearsayref08_kindsP.l3 kj95 a0 (y127.set ((wrap64 ((wrap64 (x7_4 + 1)) + 1)) : Int).toNat 4) x6_1 (wrap64 ((wrap64 (x7_4 + 1)) + 1))) else (none)) else (none)) else (hearsayref08_kindsP.l3 kj95 a0 y127 x6_1 (wrap64 (x7_4 + 1)))))) else (none)) else (none)) = some (r1, r2, r3) := by rw [if_pos rfl] at H; exact H
 clear H
 have H := H1
 clear H1
 obtain ⟨ji103, hji103⟩ : ∃ j_ : Int, (wrap64 (x7_4 + 1)) = j_ := ⟨_, rfl⟩
 replace H : (if 0 ≤ (ji103) then (if (ji103) < (x5_4.length : Int) then ((some (x5_4.set ((ji103) : Int).toNat 4 : List Int)).bind fun y127 => ((hearsayref08_takes.f a0 (ji103)).bind fun t128 => (if t128 = true then (if 0 ≤ (wrap64 ((ji103) + 1)) then (if (wrap64 ((ji103) + 1)) < (x5_4.length : Int) then (hearsayref08_kindsP.l3 kj95 a0 (y127.set ((wrap64 ((ji103) + 1)) : Int).toNat 4) x6_1 (wrap64 ((ji103) + 1))) else (none)) else (none)) else (hearsayref08_kindsP.l3 kj95 a0 y127 x6_1 ji103)))) else (none)) else (none)) = some (r1, r2, r3) := by first | (rw [hji103] at H; exact H) | (simp only [hji103] at H ⊢; exact H)
 have hji103w : (IntKind.i64.wrap (x7_4 + 1)) = ji103 := (i64_w _).trans hji103
 by_cases c104 : 0 ≤ (ji103)
 {
 rw [if_pos c104] at H
 have c104b0 : decide (0 ≤ (ji103)) = true := decide_eq_true c104
 clear c104
 by_cases c105 : (ji103) < (x5_4.length : Int)
 {
 rw [if_pos c105] at H
 have c105b0 : decide ((ji103) < (x5_4.length : Int)) = true := decide_eq_true c105
 clear c105
 obtain ⟨y127, hy127⟩ : ∃ y_ : List Int, y_ = (x5_4.set ((ji103) : Int).toNat 4) := ⟨_, rfl⟩
 replace H : ((hearsayref08_takes.f a0 (ji103)).bind fun t128 => (if t128 = true then (if 0 ≤ (wrap64 ((ji103) + 1)) then (if (wrap64 ((ji103) + 1)) < (x5_4.length : Int) then (hearsayref08_kindsP.l3 kj95 a0 (y127.set ((wrap64 ((ji103) + 1)) : Int).toNat 4) x6_1 (wrap64 ((ji103) + 1))) else (none)) else (none)) else (hearsayref08_kindsP.l3 kj95 a0 y127 x6_1 ji103))) = some (r1, r2, r3) := by first | (rw [hy127]; with_reducible exact H) | (have H2_ := (Option.bind_some _ _).symm.trans H; rw [hy127]; with_reducible exact H2_) | (have H2_ := (Option.bind_some _ _).symm.trans H; with_reducible exact H2_) | with_reducible exact H | (rw [hy127]; exact H) | exact H
 have Ny127 := Aside0.mk hy127
 clear hy127
 replace H := Option.bind_eq_some_iff.mp H
 obtain ⟨t128, A1070, H⟩ := H
 replace H : (if t128 = true then (if 0 ≤ (wrap64 ((ji103) + 1)) then (if (wrap64 ((ji103) + 1)) < (x5_4.length : Int) then (hearsayref08_kindsP.l3 kj95 a0 (y127.set ((wrap64 ((ji103) + 1)) : Int).toNat 4) x6_1 (wrap64 ((ji103) + 1))) else (none)) else (none)) else (hearsayref08_kindsP.l3 kj95 a0 y127 x6_1 ji103)) = some (r1, r2, r3) := H
 have A107 := Aside0.mk A1070
 clear A1070
 by_cases c108 : t128 = true
 {
 subst c108
 have H1 : (if 0 ≤ (wrap64 ((ji103) + 1)) then (if (wrap64 ((ji103) + 1)) < (x5_4.length : Int) then (hearsayref08_kindsP.l3 kj95 a0 (y127.set ((wrap64 ((ji103) + 1)) : Int).toNat 4) x6_1 (wrap64 ((ji103) + 1))) else (none)) else (none)) = some (r1, r2, r3) := by rw [if_pos rfl] at H; exact H
 clear H
 have H := H1
 clear H1
 obtain ⟨ji109, hji109⟩ : ∃ j_ : Int, (wrap64 ((ji103) + 1)) = j_ := ⟨_, rfl⟩
 replace H : (if 0 ≤ (ji109) then (if (ji109) < (x5_4.length : Int) then (hearsayref08_kindsP.l3 kj95 a0 (y127.set ((ji109) : Int).toNat 4) x6_1 ji109) else (none)) else (none)) = some (r1, r2, r3) := by first | (rw [hji109] at H; exact H) | (simp only [hji109] at H ⊢; exact H)
 (try rw [hji109] at A107)
 have hji109w : (IntKind.i64.wrap ((ji103) + 1)) = ji109 := (i64_w _).trans hji109
 by_cases c110 : 0 ≤ (ji109)
 {
 rw [if_pos c110] at H
 have c110b0 : decide (0 ≤ (ji109)) = true := decide_eq_true c110
 clear c110
 by_cases c111 : (ji109) < (x5_4.length : Int)
 {
 rw [if_pos c111] at H
 have c111b0 : decide ((ji109) < (x5_4.length : Int)) = true := decide_eq_true c111
 clear c111
 obtain ⟨y129, hy129⟩ : ∃ y_ : List Int, y_ = (y127.set ((ji109) : Int).toNat 4) := ⟨_, rfl⟩
 replace H : (hearsayref08_kindsP.l3 kj95 a0 y129 x6_1 ji109) = some (r1, r2, r3) := by first | (rw [hy129]; with_reducible exact H) | (have H2_ := (Option.bind_some _ _).symm.trans H; rw [hy129]; with_reducible exact H2_) | (have H2_ := (Option.bind_some _ _).symm.trans H; with_reducible exact H2_) | with_reducible exact H | (rw [hy129]; exact H) | exact H
 have Ny129 := Aside0.mk hy129
 clear hy129
 have H' := Aside0.mk H
 clear H
 have p106 : 0 ≤ ((ji103) : Int) := of_decide_eq_true (by first | (with_reducible assumption) | assumption)
 have q106 : ((ji103) : Int) < ((x5_4.length : Int) : Int) := of_decide_eq_true (by first | (with_reducible assumption) | assumption)
 obtain ⟨hx106_0, hf106_0⟩ := Kd.R_celln 0 HO_5.out ((ji103) : Int) p106 q106
 replace p106 := eq_true p106
 replace q106 := eq_true q106
 have HP113 := Kd.R_putg HO_5.out ((ji103) : Int) 4
 go_wp2_with (first | ((with_reducible refine gate_store (t := 3) (p := 157) rfl ?_); (try (rw [drewN_self wc]; generalize hq_ : World.drewN wc _ = wc; have n0_ := Aside0.mk (Kd.R_at hq_ HO_5.out); have n1_ := Aside0.mk (Kd.R_at hq_ HO_6.out); have n2_ := Aside0.mk (below_at hq_ HB.out); clear hq_ HO_5 HO_6 HB; have HO_5 := n0_; have HO_6 := n1_; have HB := n2_; clear n0_ n1_ n2_; (try (have HP113 := Kd.R_putg HO_5.out ((ji103) : Int) 4)))); refine store_event (t := 3) (p := 157) (v := ?vo_w114) (w1 := (wc.setCell ⟨go10, ((ji103) : Int).toNat, none⟩ (.int .i64 4))) ?hg ?ho ?hn ?hr ?_; (case ho => rfl); (case hg => rfl); (case hn => rfl); (case hr => first | (go_simp; done) | (go_simp; rfl)); intro w114 hw; have hg : wc.grownBy w114 (some go10) := (by rw [hw]; exact HP113.2); have hp_ : Kd.R (Kd.int .i64) 3 w114 w.heap.size (fun k_ => some k_ ≠ (u6 : Value).ownBlock) (.slice (some ⟨go10, 0, none⟩) x5_4.length co10) y127 := (by rw [hw, Ny127.out]; exact HP113.1); clear HP113; have n0_ := Aside0.mk (hp_); have n1_ := Aside0.mk (Kd.R_after (v := (.slice (some ⟨go10, 0, none⟩) x5_4.length co10)) (v1 := (.slice (some ⟨go10, 0, none⟩) x5_4.length co10)) (ok := (fun _ => True)) (by (with_reducible repeat (first | apply Kd.R_alloc | apply Kd.R_drewN | apply Kd.R_drew)); exact Kd.R_mono HO_6.out (fun _ hk => ⟨trivial, hk⟩)) hg (.inl rfl)); have n2_ := Aside0.mk ((by rw [hw]; exact below_set (HB.out) GB10.out : Below w.heap.size w w114)); clear HO_5; clear HO_6; clear HB; have HO_5 := n0_; have HO_6 := n1_; have HB := n2_; clear n0_ n1_ n2_; clear hg hw hp_) | (go_at_call 35; (with_reducible refine (hearsayref08_takes.calls a0 ji103 true _ A107.out).mono ?_); rintro e w' ⟨rfl, ⟨nd, rfl⟩⟩; (try first | exact ⟨rfl, _, World.drewN_drewN _ _ _⟩ | exact ⟨rfl, _, Eq.trans (World.drewN_drewN _ _ _) (congrArg (World.drewN _) (Nat.add_assoc _ _ _))⟩); have p112 : 0 ≤ ((ji109) : Int) := of_decide_eq_true (by first | (with_reducible assumption) | assumption); have q112 : ((ji109) : Int) < ((x5_4.length : Int) : Int) := of_decide_eq_true (by first | (with_reducible assumption) | assumption); obtain ⟨hx112_0, hf112_0⟩ := Kd.R_celln 0 HO_5.out ((ji109) : Int) p112 q112; replace p112 := eq_true p112; replace q112 := eq_true q112; obtain ⟨hy115_, hz115_⟩ := Kd.R_celln 0 HO_5.out ((ji109) : Int) (of_decide_eq_true (by first | (with_reducible assumption) | assumption)) (of_decide_eq_true (by first | (with_reducible assumption) | assumption)); have HP115 := Kd.R_putg HO_5.out ((ji109) : Int) 4) | ((with_reducible refine gate_store (t := 3) (p := 165) rfl ?_); (try (rw [drewN_self w114]; generalize hq_ : World.drewN w114 _ = w114; have n0_ := Aside0.mk (Kd.R_at hq_ HO_5.out); have n1_ := Aside0.mk (Kd.R_at hq_ HO_6.out); have n2_ := Aside0.mk (below_at hq_ HB.out); clear hq_ HO_5 HO_6 HB; have HO_5 := n0_; have HO_6 := n1_; have HB := n2_; clear n0_ n1_ n2_; (try (obtain ⟨hy115_, hz115_⟩ := Kd.R_celln 0 HO_5.out ((ji109) : Int) (of_decide_eq_true (by first | (with_reducible assumption) | assumption)) (of_decide_eq_true (by first | (with_reducible assumption) | assumption)))); (try (have HP115 := Kd.R_putg HO_5.out ((ji109) : Int) 4)))); refine store_event (t := 3) (p := 165) (v := ?vo_w116) (w1 := (w114.setCell ⟨go10, ((ji109) : Int).toNat, none⟩ (.int .i64 4))) ?hg ?ho ?hn ?hr ?_; (case ho => rfl); (case hg => rfl); (case hn => rfl); (case hr => first | (go_simp; done) | (go_simp; rfl)); intro w116 hw; have hg : w114.grownBy w116 (some go10) := (by rw [hw]; exact HP115.2); have hp_ : Kd.R (Kd.int .i64) 3 w116 w.heap.size (fun k_ => some k_ ≠ (u6 : Value).ownBlock) (.slice (some ⟨go10, 0, none⟩) x5_4.length co10) y129 := (by rw [hw, Ny129.out]; exact HP115.1); clear HP115; have n0_ := Aside0.mk (hp_); have n1_ := Aside0.mk (Kd.R_after (v := (.slice (some ⟨go10, 0, none⟩) x5_4.length co10)) (v1 := (.slice (some ⟨go10, 0, none⟩) x5_4.length co10)) (ok := (fun _ => True)) (by (with_reducible repeat (first | apply Kd.R_alloc | apply Kd.R_drewN | apply Kd.R_drew)); exact HO_6.out) hg (.inl rfl)); have n2_ := Aside0.mk ((by rw [hw]; exact below_set (HB.out) GB10.out : Below w.heap.size w w116)); clear HO_5; clear HO_6; clear HB; have HO_5 := n0_; have HO_6 := n1_; have HB := n2_; clear n0_ n1_ n2_; clear hg hw hp_))
 repeat (go_quiet (first | ((with_reducible refine gate_store (t := 3) (p := 157) rfl ?_); (try (rw [drewN_self wc]; generalize hq_ : World.drewN wc _ = wc; have n0_ := Aside0.mk (Kd.R_at hq_ HO_5.out); have n1_ := Aside0.mk (Kd.R_at hq_ HO_6.out); have n2_ := Aside0.mk (below_at hq_ HB.out); clear hq_ HO_5 HO_6 HB; have HO_5 := n0_; have HO_6 := n1_; have HB := n2_; clear n0_ n1_ n2_; (try (have HP113 := Kd.R_putg HO_5.out ((ji103) : Int) 4)))); refine store_event (t := 3) (p := 157) (v := ?vo_w114) (w1 := (wc.setCell ⟨go10, ((ji103) : Int).toNat, none⟩ (.int .i64 4))) ?hg ?ho ?hn ?hr ?_; (case ho => rfl); (case hg => rfl); (case hn => rfl); (case hr => first | (go_simp; done) | (go_simp; rfl)); intro w114 hw; have hg : wc.grownBy w114 (some go10) := (by rw [hw]; exact HP113.2); have hp_ : Kd.R (Kd.int .i64) 3 w114 w.heap.size (fun k_ => some k_ ≠ (u6 : Value).ownBlock) (.slice (some ⟨go10, 0, none⟩) x5_4.length co10) y127 := (by rw [hw, Ny127.out]; exact HP113.1); clear HP113; have n0_ := Aside0.mk (hp_); have n1_ := Aside0.mk (Kd.R_after (v := (.slice (some ⟨go10, 0, none⟩) x5_4.length co10)) (v1 := (.slice (some ⟨go10, 0, none⟩) x5_4.length co10)) (ok := (fun _ => True)) (by (with_reducible repeat (first | apply Kd.R_alloc | apply Kd.R_drewN | apply Kd.R_drew)); exact Kd.R_mono HO_6.out (fun _ hk => ⟨trivial, hk⟩)) hg (.inl rfl)); have n2_ := Aside0.mk ((by rw [hw]; exact below_set (HB.out) GB10.out : Below w.heap.size w w114)); clear HO_5; clear HO_6; clear HB; have HO_5 := n0_; have HO_6 := n1_; have HB := n2_; clear n0_ n1_ n2_; clear hg hw hp_) | (go_at_call 35; (with_reducible refine (hearsayref08_takes.calls a0 ji103 true _ A107.out).mono ?_); rintro e w' ⟨rfl, ⟨nd, rfl⟩⟩; (try first | exact ⟨rfl, _, World.drewN_drewN _ _ _⟩ | exact ⟨rfl, _, Eq.trans (World.drewN_drewN _ _ _) (congrArg (World.drewN _) (Nat.add_assoc _ _ _))⟩); have p112 : 0 ≤ ((ji109) : Int) := of_decide_eq_true (by first | (with_reducible assumption) | assumption); have q112 : ((ji109) : Int) < ((x5_4.length : Int) : Int) := of_decide_eq_true (by first | (with_reducible assumption) | assumption); obtain ⟨hx112_0, hf112_0⟩ := Kd.R_celln 0 HO_5.out ((ji109) : Int) p112 q112; replace p112 := eq_true p112; replace q112 := eq_true q112; obtain ⟨hy115_, hz115_⟩ := Kd.R_celln 0 HO_5.out ((ji109) : Int) (of_decide_eq_true (by first | (with_reducible assumption) | assumption)) (of_decide_eq_true (by first | (with_reducible assumption) | assumption)); have HP115 := Kd.R_putg HO_5.out ((ji109) : Int) 4) | ((with_reducible refine gate_store (t := 3) (p := 165) rfl ?_); (try (rw [drewN_self w114]; generalize hq_ : World.drewN w114 _ = w114; have n0_ := Aside0.mk (Kd.R_at hq_ HO_5.out); have n1_ := Aside0.mk (Kd.R_at hq_ HO_6.out); have n2_ := Aside0.mk (below_at hq_ HB.out); clear hq_ HO_5 HO_6 HB; have HO_5 := n0_; have HO_6 := n1_; have HB := n2_; clear n0_ n1_ n2_; (try (obtain ⟨hy115_, hz115_⟩ := Kd.R_celln 0 HO_5.out ((ji109) : Int) (of_decide_eq_true (by first | (with_reducible assumption) | assumption)) (of_decide_eq_true (by first | (with_reducible assumption) | assumption)))); (try (have HP115 := Kd.R_putg HO_5.out ((ji109) : Int) 4)))); refine store_event (t := 3) (p := 165) (v := ?vo_w116) (w1 := (w114.setCell ⟨go10, ((ji109) : Int).toNat, none⟩ (.int .i64 4))) ?hg ?ho ?hn ?hr ?_; (case ho => rfl); (case hg => rfl); (case hn => rfl); (case hr => first | (go_simp; done) | (go_simp; rfl)); intro w116 hw; have hg : w114.grownBy w116 (some go10) := (by rw [hw]; exact HP115.2); have hp_ : Kd.R (Kd.int .i64) 3 w116 w.heap.size (fun k_ => some k_ ≠ (u6 : Value).ownBlock) (.slice (some ⟨go10, 0, none⟩) x5_4.length co10) y129 := (by rw [hw, Ny129.out]; exact HP115.1); clear HP115; have n0_ := Aside0.mk (hp_); have n1_ := Aside0.mk (Kd.R_after (v := (.slice (some ⟨go10, 0, none⟩) x5_4.length co10)) (v1 := (.slice (some ⟨go10, 0, none⟩) x5_4.length co10)) (ok := (fun _ => True)) (by (with_reducible repeat (first | apply Kd.R_alloc | apply Kd.R_drewN | apply Kd.R_drew)); exact HO_6.out) hg (.inl rfl)); have n2_ := Aside0.mk ((by rw [hw]; exact below_set (HB.out) GB10.out : Below w.heap.size w w116)); clear HO_5; clear HO_6; clear HB; have HO_5 := n0_; have HO_6 := n1_; have HB := n2_; clear n0_ n1_ n2_; clear hg hw hp_)); try go_wp2_with (first | ((with_reducible refine gate_store (t := 3) (p := 157) rfl ?_); (try (rw [drewN_self wc]; generalize hq_ : World.drewN wc _ = wc; have n0_ := Aside0.mk (Kd.R_at hq_ HO_5.out); have n1_ := Aside0.mk (Kd.R_at hq_ HO_6.out); have n2_ := Aside0.mk (below_at hq_ HB.out); clear hq_ HO_5 HO_6 HB; have HO_5 := n0_; have HO_6 := n1_; have HB := n2_; clear n0_ n1_ n2_; (try (have HP113 := Kd.R_putg HO_5.out ((ji103) : Int) 4)))); refine store_event (t := 3) (p := 157) (v := ?vo_w114) (w1 := (wc.setCell ⟨go10, ((ji103) : Int).toNat, none⟩ (.int .i64 4))) ?hg ?ho ?hn ?hr ?_; (case ho => rfl); (case hg => rfl); (case hn => rfl); (case hr => first | (go_simp; done) | (go_simp; rfl)); intro w114 hw; have hg : wc.grownBy w114 (some go10) := (by rw [hw]; exact HP113.2); have hp_ : Kd.R (Kd.int .i64) 3 w114 w.heap.size (fun k_ => some k_ ≠ (u6 : Value).ownBlock) (.slice (some ⟨go10, 0, none⟩) x5_4.length co10) y127 := (by rw [hw, Ny127.out]; exact HP113.1); clear HP113; have n0_ := Aside0.mk (hp_); have n1_ := Aside0.mk (Kd.R_after (v := (.slice (some ⟨go10, 0, none⟩) x5_4.length co10)) (v1 := (.slice (some ⟨go10, 0, none⟩) x5_4.length co10)) (ok := (fun _ => True)) (by (with_reducible repeat (first | apply Kd.R_alloc | apply Kd.R_drewN | apply Kd.R_drew)); exact Kd.R_mono HO_6.out (fun _ hk => ⟨trivial, hk⟩)) hg (.inl rfl)); have n2_ := Aside0.mk ((by rw [hw]; exact below_set (HB.out) GB10.out : Below w.heap.size w w114)); clear HO_5; clear HO_6; clear HB; have HO_5 := n0_; have HO_6 := n1_; have HB := n2_; clear n0_ n1_ n2_; clear hg hw hp_) | (go_at_call 35; (with_reducible refine (hearsayref08_takes.calls a0 ji103 true _ A107.out).mono ?_); rintro e w' ⟨rfl, ⟨nd, rfl⟩⟩; (try first | exact ⟨rfl, _, World.drewN_drewN _ _ _⟩ | exact ⟨rfl, _, Eq.trans (World.drewN_drewN _ _ _) (congrArg (World.drewN _) (Nat.add_assoc _ _ _))⟩); have p112 : 0 ≤ ((ji109) : Int) := of_decide_eq_true (by first | (with_reducible assumption) | assumption); have q112 : ((ji109) : Int) < ((x5_4.length : Int) : Int) := of_decide_eq_true (by first | (with_reducible assumption) | assumption); obtain ⟨hx112_0, hf112_0⟩ := Kd.R_celln 0 HO_5.out ((ji109) : Int) p112 q112; replace p112 := eq_true p112; replace q112 := eq_true q112; obtain ⟨hy115_, hz115_⟩ := Kd.R_celln 0 HO_5.out ((ji109) : Int) (of_decide_eq_true (by first | (with_reducible assumption) | assumption)) (of_decide_eq_true (by first | (with_reducible assumption) | assumption)); have HP115 := Kd.R_putg HO_5.out ((ji109) : Int) 4) | ((with_reducible refine gate_store (t := 3) (p := 165) rfl ?_); (try (rw [drewN_self w114]; generalize hq_ : World.drewN w114 _ = w114; have n0_ := Aside0.mk (Kd.R_at hq_ HO_5.out); have n1_ := Aside0.mk (Kd.R_at hq_ HO_6.out); have n2_ := Aside0.mk (below_at hq_ HB.out); clear hq_ HO_5 HO_6 HB; have HO_5 := n0_; have HO_6 := n1_; have HB := n2_; clear n0_ n1_ n2_; (try (obtain ⟨hy115_, hz115_⟩ := Kd.R_celln 0 HO_5.out ((ji109) : Int) (of_decide_eq_true (by first | (with_reducible assumption) | assumption)) (of_decide_eq_true (by first | (with_reducible assumption) | assumption)))); (try (have HP115 := Kd.R_putg HO_5.out ((ji109) : Int) 4)))); refine store_event (t := 3) (p := 165) (v := ?vo_w116) (w1 := (w114.setCell ⟨go10, ((ji109) : Int).toNat, none⟩ (.int .i64 4))) ?hg ?ho ?hn ?hr ?_; (case ho => rfl); (case hg => rfl); (case hn => rfl); (case hr => first | (go_simp; done) | (go_simp; rfl)); intro w116 hw; have hg : w114.grownBy w116 (some go10) := (by rw [hw]; exact HP115.2); have hp_ : Kd.R (Kd.int .i64) 3 w116 w.heap.size (fun k_ => some k_ ≠ (u6 : Value).ownBlock) (.slice (some ⟨go10, 0, none⟩) x5_4.length co10) y129 := (by rw [hw, Ny129.out]; exact HP115.1); clear HP115; have n0_ := Aside0.mk (hp_); have n1_ := Aside0.mk (Kd.R_after (v := (.slice (some ⟨go10, 0, none⟩) x5_4.length co10)) (v1 := (.slice (some ⟨go10, 0, none⟩) x5_4.length co10)) (ok := (fun _ => True)) (by (with_reducible repeat (first | apply Kd.R_alloc | apply Kd.R_drewN | apply Kd.R_drew)); exact HO_6.out) hg (.inl rfl)); have n2_ := Aside0.mk ((by rw [hw]; exact below_set (HB.out) GB10.out : Below w.heap.size w w116)); clear HO_5; clear HO_6; clear HB; have HO_5 := n0_; have HO_6 := n1_; have HB := n2_; clear n0_ n1_ n2_; clear hg hw hp_)))
 (try simp only [← hl5_4])
 go_roundg kj95
 case measure => have := HK1.out; have := HJ10.out; have := HJ85.out; have := HK4.out; have := HJ95.out; omega
 case rel => exact ⟨(y129), (ji109), (by first | rfl | (simp; done) | (simp only [← hji109] <;> (first | rfl | simp)) | (simp [*]; done)), H', ⟨by have := HK1.out; have := HJ10.out; have := HJ85.out; have := HK4.out; have := HJ95.out; omega⟩, ⟨by (try simp only [hl5_10]); (try simp only [hl5_85]); (try simp only [hl5_4]); (with_reducible repeat (first | apply Kd.R_alloc | apply Kd.R_drewN | apply Kd.R_drew)); exact HO_5.out⟩, ⟨by (try simp only [hl5_10]); (try simp only [hl5_85]); (try simp only [hl5_4]); (with_reducible repeat (first | apply Kd.R_alloc | apply Kd.R_drewN | apply Kd.R_drew)); exact Kd.R_mono HO_6.out (fun _ hk => hk.2)⟩, ⟨by repeat (first | (with_reducible first | exact HB.out | apply below_alloc | apply pw_below_drewN | apply below_drew1) | exact HB.out)⟩⟩ }
 {
 rw [if_neg c111] at H
 exact absurd H (by simp) }}
 {
 rw [if_neg c110] at H
 exact absurd H (by simp) }}
 {
 replace c108 := Bool.eq_false_iff.mpr c108
 subst c108
 have H1 : (hearsayref08_kindsP.l3 kj95 a0 y127 x6_1 ji103) = some (r1, r2, r3) := by rw [if_neg (show ¬ (false = true) by decide)] at H; exact H
 clear H
 have H := H1
 clear H1
 have H' := Aside0.mk H
 clear H
 have p106 : 0 ≤ ((ji103) : Int) := of_decide_eq_true (by first | (with_reducible assumption) | assumption)
 have q106 : ((ji103) : Int) < ((x5_4.length : Int) : Int) := of_decide_eq_true (by first | (with_reducible assumption) | assumption)
 obtain ⟨hx106_0, hf106_0⟩ := Kd.R_celln 0 HO_5.out ((ji103) : Int) p106 q106
 replace p106 := eq_true p106
 replace q106 := eq_true q106
 have HP117 := Kd.R_putg HO_5.out ((ji103) : Int) 4
 go_wp2_with (first | ((with_reducible refine gate_store (t := 3) (p := 157) rfl ?_); (try (rw [drewN_self wc]; generalize hq_ : World.drewN wc _ = wc; have n0_ := Aside0.mk (Kd.R_at hq_ HO_5.out); have n1_ := Aside0.mk (Kd.R_at hq_ HO_6.out); have n2_ := Aside0.mk (below_at hq_ HB.out); clear hq_ HO_5 HO_6 HB; have HO_5 := n0_; have HO_6 := n1_; have HB := n2_; clear n0_ n1_ n2_; (try (have HP117 := Kd.R_putg HO_5.out ((ji103) : Int) 4)))); refine store_event (t := 3) (p := 157) (v := ?vo_w118) (w1 := (wc.setCell ⟨go10, ((ji103) : Int).toNat, none⟩ (.int .i64 4))) ?hg ?ho ?hn ?hr ?_; (case ho => rfl); (case hg => rfl); (case hn => rfl); (case hr => first | (go_simp; done) | (go_simp; rfl)); intro w118 hw; have hg : wc.grownBy w118 (some go10) := (by rw [hw]; exact HP117.2); have hp_ : Kd.R (Kd.int .i64) 3 w118 w.heap.size (fun k_ => some k_ ≠ (u6 : Value).ownBlock) (.slice (some ⟨go10, 0, none⟩) x5_4.length co10) y127 := (by rw [hw, Ny127.out]; exact HP117.1); clear HP117; have n0_ := Aside0.mk (hp_); have n1_ := Aside0.mk (Kd.R_after (v := (.slice (some ⟨go10, 0, none⟩) x5_4.length co10)) (v1 := (.slice (some ⟨go10, 0, none⟩) x5_4.length co10)) (ok := (fun _ => True)) (by (with_reducible repeat (first | apply Kd.R_alloc | apply Kd.R_drewN | apply Kd.R_drew)); exact Kd.R_mono HO_6.out (fun _ hk => ⟨trivial, hk⟩)) hg (.inl rfl)); have n2_ := Aside0.mk ((by rw [hw]; exact below_set (HB.out) GB10.out : Below w.heap.size w w118)); clear HO_5; clear HO_6; clear HB; have HO_5 := n0_; have HO_6 := n1_; have HB := n2_; clear n0_ n1_ n2_; clear hg hw hp_) | (go_at_call 35; (with_reducible refine (hearsayref08_takes.calls a0 ji103 false _ A107.out).mono ?_); rintro e w' ⟨rfl, ⟨nd, rfl⟩⟩; (try first | exact ⟨rfl, _, World.drewN_drewN _ _ _⟩ | exact ⟨rfl, _, Eq.trans (World.drewN_drewN _ _ _) (congrArg (World.drewN _) (Nat.add_assoc _ _ _))⟩)))
 repeat (go_quiet (first | ((with_reducible refine gate_store (t := 3) (p := 157) rfl ?_); (try (rw [drewN_self wc]; generalize hq_ : World.drewN wc _ = wc; have n0_ := Aside0.mk (Kd.R_at hq_ HO_5.out); have n1_ := Aside0.mk (Kd.R_at hq_ HO_6.out); have n2_ := Aside0.mk (below_at hq_ HB.out); clear hq_ HO_5 HO_6 HB; have HO_5 := n0_; have HO_6 := n1_; have HB := n2_; clear n0_ n1_ n2_; (try (have HP117 := Kd.R_putg HO_5.out ((ji103) : Int) 4)))); refine store_event (t := 3) (p := 157) (v := ?vo_w118) (w1 := (wc.setCell ⟨go10, ((ji103) : Int).toNat, none⟩ (.int .i64 4))) ?hg ?ho ?hn ?hr ?_; (case ho => rfl); (case hg => rfl); (case hn => rfl); (case hr => first | (go_simp; done) | (go_simp; rfl)); intro w118 hw; have hg : wc.grownBy w118 (some go10) := (by rw [hw]; exact HP117.2); have hp_ : Kd.R (Kd.int .i64) 3 w118 w.heap.size (fun k_ => some k_ ≠ (u6 : Value).ownBlock) (.slice (some ⟨go10, 0, none⟩) x5_4.length co10) y127 := (by rw [hw, Ny127.out]; exact HP117.1); clear HP117; have n0_ := Aside0.mk (hp_); have n1_ := Aside0.mk (Kd.R_after (v := (.slice (some ⟨go10, 0, none⟩) x5_4.length co10)) (v1 := (.slice (some ⟨go10, 0, none⟩) x5_4.length co10)) (ok := (fun _ => True)) (by (with_reducible repeat (first | apply Kd.R_alloc | apply Kd.R_drewN | apply Kd.R_drew)); exact Kd.R_mono HO_6.out (fun _ hk => ⟨trivial, hk⟩)) hg (.inl rfl)); have n2_ := Aside0.mk ((by rw [hw]; exact below_set (HB.out) GB10.out : Below w.heap.size w w118)); clear HO_5; clear HO_6; clear HB; have HO_5 := n0_; have HO_6 := n1_; have HB := n2_; clear n0_ n1_ n2_; clear hg hw hp_) | (go_at_call 35; (with_reducible refine (hearsayref08_takes.calls a0 ji103 false _ A107.out).mono ?_); rintro e w' ⟨rfl, ⟨nd, rfl⟩⟩; (try first | exact ⟨rfl, _, World.drewN_drewN _ _ _⟩ | exact ⟨rfl, _, Eq.trans (World.drewN_drewN _ _ _) (congrArg (World.drewN _) (Nat.add_assoc _ _ _))⟩))); try go_wp2_with (first | ((with_reducible refine gate_store (t := 3) (p := 157) rfl ?_); (try (rw [drewN_self wc]; generalize hq_ : World.drewN wc _ = wc; have n0_ := Aside0.mk (Kd.R_at hq_ HO_5.out); have n1_ := Aside0.mk (Kd.R_at hq_ HO_6.out); have n2_ := Aside0.mk (below_at hq_ HB.out); clear hq_ HO_5 HO_6 HB; have HO_5 := n0_; have HO_6 := n1_; have HB := n2_; clear n0_ n1_ n2_; (try (have HP117 := Kd.R_putg HO_5.out ((ji103) : Int) 4)))); refine store_event (t := 3) (p := 157) (v := ?vo_w118) (w1 := (wc.setCell ⟨go10, ((ji103) : Int).toNat, none⟩ (.int .i64 4))) ?hg ?ho ?hn ?hr ?_; (case ho => rfl); (case hg => rfl); (case hn => rfl); (case hr => first | (go_simp; done) | (go_simp; rfl)); intro w118 hw; have hg : wc.grownBy w118 (some go10) := (by rw [hw]; exact HP117.2); have hp_ : Kd.R (Kd.int .i64) 3 w118 w.heap.size (fun k_ => some k_ ≠ (u6 : Value).ownBlock) (.slice (some ⟨go10, 0, none⟩) x5_4.length co10) y127 := (by rw [hw, Ny127.out]; exact HP117.1); clear HP117; have n0_ := Aside0.mk (hp_); have n1_ := Aside0.mk (Kd.R_after (v := (.slice (some ⟨go10, 0, none⟩) x5_4.length co10)) (v1 := (.slice (some ⟨go10, 0, none⟩) x5_4.length co10)) (ok := (fun _ => True)) (by (with_reducible repeat (first | apply Kd.R_alloc | apply Kd.R_drewN | apply Kd.R_drew)); exact Kd.R_mono HO_6.out (fun _ hk => ⟨trivial, hk⟩)) hg (.inl rfl)); have n2_ := Aside0.mk ((by rw [hw]; exact below_set (HB.out) GB10.out : Below w.heap.size w w118)); clear HO_5; clear HO_6; clear HB; have HO_5 := n0_; have HO_6 := n1_; have HB := n2_; clear n0_ n1_ n2_; clear hg hw hp_) | (go_at_call 35; (with_reducible refine (hearsayref08_takes.calls a0 ji103 false _ A107.out).mono ?_); rintro e w' ⟨rfl, ⟨nd, rfl⟩⟩; (try first | exact ⟨rfl, _, World.drewN_drewN _ _ _⟩ | exact ⟨rfl, _, Eq.trans (World.drewN_drewN _ _ _) (congrArg (World.drewN _) (Nat.add_assoc _ _ _))⟩))))
 (try simp only [← hl5_4])
 go_roundg kj95
 case measure => have := HK1.out; have := HJ10.out; have := HJ85.out; have := HK4.out; have := HJ95.out; omega
 case rel => exact ⟨(y127), (ji103), (by first | rfl | (simp; done) | (simp only [← hji103] <;> (first | rfl | simp)) | (simp [*]; done)), H', ⟨by have := HK1.out; have := HJ10.out; have := HJ85.out; have := HK4.out; have := HJ95.out; omega⟩, ⟨by (try simp only [hl5_10]); (try simp only [hl5_85]); (try simp only [hl5_4]); (with_reducible repeat (first | apply Kd.R_alloc | apply Kd.R_drewN | apply Kd.R_drew)); exact HO_5.out⟩, ⟨by (try simp only [hl5_10]); (try simp only [hl5_85]); (try simp only [hl5_4]); (with_reducible repeat (first | apply Kd.R_alloc | apply Kd.R_drewN | apply Kd.R_drew)); exact Kd.R_mono HO_6.out (fun _ hk => hk.2)⟩, ⟨by repeat (first | (with_reducible first | exact HB.out | apply below_alloc | apply pw_below_drewN | apply below_drew1) | exact HB.out)⟩⟩ }}
 {
 rw [if_neg c105] at H
 exact absurd H (by simp) }}
 {
 rw [if_neg c104] at H
 exact absurd H (by simp) }}
 {
 replace c102 := Bool.eq_false_iff.mpr c102
 subst c102
 have H1 : (hearsayref08_kindsP.l0 kj95 a0 x5_4 x6_1 (wrap64 (x7_4 + 1))) = some (r1, r2, r3) := by rw [if_neg (show ¬ (false = true) by decide)] at H; exact H
 clear H
 have H := H1
 clear H1
 have H' := Aside0.mk H
 clear H
 go_wp2
 repeat (go_quiet (fail); try go_wp2)
 (try simp only [← hl5_10, ← hl5_85, ← hl5_4])
 go_roundg kj95
 case measure => have := HK1.out; have := HJ10.out; have := HJ85.out; have := HK4.out; have := HJ95.out; omega
 case rel => exact ⟨(x5_4), (x6_1), (wrap64 (x7_4 + 1)), (by first | rfl | (simp; done) | (simp [*]; done)), H', ⟨by have := HK1.out; have := HJ10.out; have := HJ85.out; have := HK4.out; have := HJ95.out; omega⟩, ⟨by (try simp only [hl5_10]); (try simp only [hl5_85]); (try simp only [hl5_4]); (with_reducible repeat (first | apply Kd.R_alloc | apply Kd.R_drewN | apply Kd.R_drew)); exact HO_5.out⟩, ⟨by (try simp only [hl5_10]); (try simp only [hl5_85]); (try simp only [hl5_4]); (with_reducible repeat (first | apply Kd.R_alloc | apply Kd.R_drewN | apply Kd.R_drew)); exact HO_6.out⟩, ⟨by repeat (first | (with_reducible first | exact HB.out | apply below_alloc | apply pw_below_drewN | apply below_drew1) | exact HB.out)⟩⟩ }))))))))))}
 {
 rw [if_neg c83] at H
 exact absurd H (by simp) })}
 {
 rw [if_neg c82] at H
 exact absurd H (by simp) })})})})})})}))))}
 {
 rw [if_neg c9] at H
 exact absurd H (by simp) })}
 {
 rw [if_neg c7] at H
 exact absurd H (by simp) })}
 {
 rw [if_neg c6] at H
 have c6b0 : decide (x7_1 < (a0.size : Int)) = false := decide_eq_false c6
 clear c6
 by_cases c119 : (x6_1.length : Int) > 0
 {
 rw [if_pos c119] at H
 have c119b0 : decide (0 < (x6_1.length : Int)) = true := decide_eq_true c119
 have c119b1 : decide (0 < x6_1.length) = true := decide_eq_true (by omega)
 clear c119
 by_cases c120 : 0 < (x6_1.length : Int)
 {
 rw [if_pos c120] at H
 have c120b0 : decide (0 < (x6_1.length : Int)) = true := decide_eq_true c120
 have c120b1 : decide (0 < x6_1.length) = true := decide_eq_true (by omega)
 clear c120
 simp only [Option.some.injEq, Prod.mk.injEq] at H
 obtain ⟨rfl, rfl, rfl⟩ := H
 obtain ⟨Ao121, co121, eo121⟩ := Kd.R_slice HO_6.out
 subst eo121
 have p107 : 0 ≤ (0 : Int) := (by omega)
 have q107 : 0 < (x6_1.length : Int) := of_decide_eq_true (by first | (with_reducible assumption) | assumption)
 obtain ⟨ad107, e107, hx107_0⟩ := Kd.at_int (Kd.R_reads' HO_6.out).2.2 0 p107 q107
 cases e107
 have qi107 : (0 < x6_1.length) = True := eq_true (by omega)
 (try rw [show ((0 : Int)).toNat = 0 from rfl] at hx107_0)
 (try rw [Addr.add_zero'] at hx107_0)
 replace p107 := eq_true p107
 replace q107 := eq_true q107
 go_wp2
 repeat (go_quiet (fail); try go_wp2)
 go_ret3
 exact ⟨_, by first | rfl | (simp [errW_none, errW_some] <;> rfl) | (simp [*, errW_none, errW_some] <;> rfl), by first | exact Kd.R_nil _ _ _ _ _ | exact Kd.N_nil _ _ _ _ _ | exact Kd.V_nil _ _ _ _ _ | exact Kd.Q_nil _ _ _ _ _ | exact Kd.S_nil _ _ _ _ _, by repeat (first | (with_reducible first | exact HB.out | apply below_alloc | apply pw_below_drewN | apply below_drew1) | exact HB.out)⟩ }
 {
 rw [if_neg c120] at H
 exact absurd H (by simp) }}
 {
 rw [if_neg c119] at H
 have c119b0 : decide (0 < (x6_1.length : Int)) = false := decide_eq_false c119
 have c119b1 : decide (0 < x6_1.length) = false := decide_eq_false (by omega)
 clear c119
 simp only [Option.some.injEq, Prod.mk.injEq] at H
 obtain ⟨rfl, rfl, rfl⟩ := H
 obtain ⟨Ao122, co122, eo122⟩ := Kd.R_slice HO_6.out
 subst eo122
 go_wp2
 repeat (go_quiet (fail); try go_wp2)
 go_ret3
 exact ⟨_, by first | rfl | (simp [errW_none, errW_some] <;> rfl) | (simp [*, errW_none, errW_some] <;> rfl), by (with_reducible repeat (first | apply Kd.R_alloc | apply Kd.R_drewN | apply Kd.R_drew)); exact Kd.R_mono HO_5.out (fun _ hk => trivial), by repeat (first | (with_reducible first | exact HB.out | apply below_alloc | apply pw_below_drewN | apply below_drew1) | exact HB.out)⟩ }}))))}
 {
 rw [if_neg c3] at H
 exact absurd H (by simp) })}
 {
 rw [if_neg c2] at H
 exact absurd H (by simp) }
end Go.Proofs.Ytafminohaofjnaa.Print
