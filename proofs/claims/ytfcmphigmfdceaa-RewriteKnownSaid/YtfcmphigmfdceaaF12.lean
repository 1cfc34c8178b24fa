-- Written by a program of this session, built on the kit's print (it is not the print's own text).
import Derived.Test.YtfcmphigmfdceaaKinds
import Derived.Test.YtfcmphigmfdceaaF29
namespace Go.Proofs.Ytfcmphigmfdceaa.Print
open Go.RowKit Go.Proofs.YtfcmphigmfdceaaW.PrintWords Go.Proofs.YtfcmphigmfdceaaW.PrintLast Go.Proofs.YtfcmphigmfdceaaW.PrintMore
set_option linter.unusedVariables false
set_option linter.unusedSimpArgs false

/-! ### rewrite_Check: function 12 -/
mutual
def rewrite_Check.l0 : Nat → List (S38) → Int → Int → Option (Int)
  | 0, _, _, _ => none
  | k + 1, x8, x9, x10 => if x10 < x9 then (if 0 ≤ x10 then (if x10 < (x8.length : Int) then (if ((rd_T38 x8 x10).f0) = 1 then (rewrite_Check.j1 k x8 x9 x10 ((rd_T38 x8 x10).f0) (((rd_T38 x8 x10).f0) == 1) ((rd_T38 x8 x10).f0) ((rd_T38 x8 x10).f1) ((rd_T38 x8 x10).f2) ((rd_T38 x8 x10).f3) ((rd_T38 x8 x10).f4)) else (if ((rd_T38 x8 x10).f0) = 2 then (rewrite_Check.j1 k x8 x9 x10 ((rd_T38 x8 x10).f0) (((rd_T38 x8 x10).f0) == 2) ((rd_T38 x8 x10).f0) ((rd_T38 x8 x10).f1) ((rd_T38 x8 x10).f2) ((rd_T38 x8 x10).f3) ((rd_T38 x8 x10).f4)) else (rewrite_Check.j1 k x8 x9 x10 ((rd_T38 x8 x10).f0) (((rd_T38 x8 x10).f0) == 3) ((rd_T38 x8 x10).f0) ((rd_T38 x8 x10).f1) ((rd_T38 x8 x10).f2) ((rd_T38 x8 x10).f3) ((rd_T38 x8 x10).f4)))) else (none)) else (none)) else (some 0)
def rewrite_Check.j1 : Nat → List (S38) → Int → Int → Int → Bool → Int → ByteArray → ByteArray → Int → Int → Option (Int)
  | 0, _, _, _, _, _, _, _, _, _, _ => none
  | k + 1, x8, x9, x10, x15, x16, x121000, x121001, x121002, x121003, x121004 => if x16 = true then ((name_Check.f k x121001).bind fun t121 => (if t121 = 0 then ((name_Check.f k x121002).bind fun t122 => (if t122 = 0 then (if x121003 = 0 then (if x121004 = 0 then (rewrite_Check.l0 k x8 x9 (wrap64 (x10 + 1))) else (some 250)) else (some 250)) else (some 250))) else (some 250))) else (if x15 = 4 then (if x121001.toList = ([] : List UInt8) then (if x121002.toList = ([] : List UInt8) then (if x121003 = 0 then (some 250) else (if x121004 = 0 then (some 250) else (rewrite_Check.l0 k x8 x9 (wrap64 (x10 + 1))))) else (some 250)) else (some 250)) else (some 250))
end
def rewrite_Check.f (k : Nat) (l0 : List (S38)) : Option (Int) := if (l0.length : Int) > 32 then (some 2) else (rewrite_Check.l0 k l0 (l0.length : Int) 0)
theorem rewrite_Check.mono_l : ∀ k, (∀ y0 y1 y2, LeO (rewrite_Check.l0 k y0 y1 y2) (rewrite_Check.l0 (k + 1) y0 y1 y2)) ∧ (∀ y0 y1 y2 y3 y4 y5 y6 y7 y8 y9, LeO (rewrite_Check.j1 k y0 y1 y2 y3 y4 y5 y6 y7 y8 y9) (rewrite_Check.j1 (k + 1) y0 y1 y2 y3 y4 y5 y6 y7 y8 y9))
  | 0 => ⟨fun _ _ _ r h => by simp [rewrite_Check.l0] at h, fun _ _ _ _ _ _ _ _ _ _ r h => by simp [rewrite_Check.j1] at h⟩
  | k + 1 => by
    obtain ⟨ih0, ih1⟩ := rewrite_Check.mono_l k
    refine ⟨?_, ?_⟩
    · intro y0 y1 y2
      unfold rewrite_Check.l0
      repeat' first
      | (with_reducible exact ih0 _ _ _)
      | (with_reducible exact ih1 _ _ _ _ _ _ _ _ _ _)
      | (with_reducible exact name_Check.mono _ _)
      | (with_reducible exact LeO.refl _)
      | (with_reducible exact LeO.none _)
      | (with_reducible refine LeO.ite ?_ ?_)
      | (with_reducible refine LeO.bind ?_ (fun _ => ?_))
      | exact ih0 _ _ _
      | exact ih1 _ _ _ _ _ _ _ _ _ _
      | exact name_Check.mono _ _
      | exact LeO.none _
      | refine LeO.ite ?_ ?_
      | refine LeO.bind ?_ (fun _ => ?_)
    · intro y0 y1 y2 y3 y4 y5 y6 y7 y8 y9
      unfold rewrite_Check.j1
      repeat' first
      | (with_reducible exact ih0 _ _ _)
      | (with_reducible exact ih1 _ _ _ _ _ _ _ _ _ _)
      | (with_reducible exact name_Check.mono _ _)
      | (with_reducible exact LeO.refl _)
      | (with_reducible exact LeO.none _)
      | (with_reducible refine LeO.ite ?_ ?_)
      | (with_reducible refine LeO.bind ?_ (fun _ => ?_))
      | exact ih0 _ _ _
      | exact ih1 _ _ _ _ _ _ _ _ _ _
      | exact name_Check.mono _ _
      | exact LeO.none _
      | refine LeO.ite ?_ ?_
      | refine LeO.bind ?_ (fun _ => ?_)
theorem rewrite_Check.mono : ∀ a0 k, LeO (rewrite_Check.f k a0) (rewrite_Check.f (k + 1) a0) := by
  intro a0 k
  obtain ⟨ih0, ih1⟩ := rewrite_Check.mono_l k
  unfold rewrite_Check.f
  repeat' first
      | (with_reducible exact ih0 _ _ _)
      | (with_reducible exact ih1 _ _ _ _ _ _ _ _ _ _)
      | (with_reducible exact name_Check.mono _ _)
      | (with_reducible exact LeO.refl _)
      | (with_reducible exact LeO.none _)
      | (with_reducible refine LeO.ite ?_ ?_)
      | (with_reducible refine LeO.bind ?_ (fun _ => ?_))
      | exact ih0 _ _ _
      | exact ih1 _ _ _ _ _ _ _ _ _ _
      | exact name_Check.mono _ _
      | exact LeO.none _
      | refine LeO.ite ?_ ?_
      | refine LeO.bind ?_ (fun _ => ?_)
set_option maxHeartbeats 8000000 in
set_option maxRecDepth 100000 in
theorem rewrite_Check.calls (k : Nat) (A0 : Option Addr) (c0 : Nat) (l0 : List (S38)) (r : Int) (w : World) (hr0 : Kd.C k38 w A0 l0.length l0) (hc0 : l0.length ≤ c0) (h : rewrite_Check.f k l0 = some r) :
    Calls Try.prog 12 #[.slice A0 l0.length c0] w fun e w' => e = .returned (.int .i64 r) ∧ Below w.heap.size w w' := by
  have hu38 := Try.underlying38
  have HR0 := Aside0.mk hr0
  have HC0 := Aside0.mk hc0
  clear hr0 hc0
  have HB := Aside0.mk (Below.refl w.heap.size w)
  have H : (if (l0.length : Int) > 32 then (some 2) else (rewrite_Check.l0 k l0 (l0.length : Int) 0)) = some r := h
  clear h
  by_cases c2 : (l0.length : Int) > 32
  · rw [if_pos c2] at H
    have c2b0 : decide (32 < (l0.length : Int)) = true := decide_eq_true c2
    have c2b1 : decide (32 < l0.length) = true := decide_eq_true (by omega)
    clear c2
    obtain rfl := Option.some.inj H
    go_enter Try.func12, Try.ntmps12
    go_wp2
    go_ret
    exact ⟨by first | rfl | (simp [errW_none, errW_some] <;> rfl) | (simp [*, errW_none, errW_some] <;> rfl), by repeat (first | (with_reducible first | exact HB.out | apply below_alloc | apply pw_below_drewN | apply below_drew1) | exact HB.out)⟩
  · rw [if_neg c2] at H
    have c2b0 : decide (32 < (l0.length : Int)) = false := decide_eq_false c2
    have c2b1 : decide (32 < l0.length) = false := decide_eq_false (by omega)
    clear c2
    have H' := Aside0.mk H
    clear H
    go_enter Try.func12, Try.ntmps12
    go_wp2
    go_loopg [10] k (fun kq v10 w' => ∃ (x10_1 : Int), v10 = .int .i64 x10_1 ∧ Aside0 (rewrite_Check.l0 kq l0 (l0.length : Int) x10_1 = some r) ∧ Aside0 (kq ≤ k) ∧ Aside0 (Below w.heap.size w w'))
    case atStart => exact ⟨(0), (by first | rfl | (simp; done) | (simp [*]; done)), H', ⟨Nat.le_refl _⟩, ⟨by repeat (first | (with_reducible first | exact HB.out | apply below_alloc | apply pw_below_drewN | apply below_drew1) | exact HB.out)⟩⟩
    case round =>
      clear H'
      try clear c1
      try clear c2
      try clear c2b0
      try clear c2b1
      try clear p2
      obtain ⟨x10_1, rfl, HA, HK1, HB⟩ := hrel
      cases gk with
      | zero => exact absurd HA.out (by simp [rewrite_Check.l0])
      | succ k1 =>
        have H := HA.out
        clear HA
        simp only [rewrite_Check.l0] at H
        by_cases c3 : x10_1 < (l0.length : Int)
        · rw [if_pos c3] at H
          have c3b0 : decide (x10_1 < (l0.length : Int)) = true := decide_eq_true c3
          clear c3
          by_cases c4 : 0 ≤ x10_1
          · rw [if_pos c4] at H
            have c4b0 : decide (0 ≤ x10_1) = true := decide_eq_true c4
            clear c4
            by_cases c5 : x10_1 < (l0.length : Int)
            · rw [if_pos c5] at H
              have c5b0 : decide (x10_1 < (l0.length : Int)) = true := decide_eq_true c5
              clear c5
              have HC6 := Aside0.mk H
              clear H
              have p119 : 0 ≤ (x10_1 : Int) := of_decide_eq_true (by first | (with_reducible assumption) | assumption)
              have q119 : x10_1 < (l0.length : Int) := of_decide_eq_true (by first | (with_reducible assumption) | assumption)
              obtain ⟨ad119, e119, hx119_0, hx119_1, hx119_2, hx119_3, hx119_4⟩ := at_T38 HR0.out x10_1 p119 q119
              cases e119
              replace hx119_0 := (HB.out.cell (World.block_lt_of_cell? w _ hx119_0)).trans hx119_0
              replace hx119_1 := (HB.out.cell (World.block_lt_of_cell? w _ hx119_1)).trans hx119_1
              replace hx119_2 := (HB.out.cell (World.block_lt_of_cell? w _ hx119_2)).trans hx119_2
              replace hx119_3 := (HB.out.cell (World.block_lt_of_cell? w _ hx119_3)).trans hx119_3
              replace hx119_4 := (HB.out.cell (World.block_lt_of_cell? w _ hx119_4)).trans hx119_4
              replace p119 := eq_true p119
              replace q119 := eq_true q119
              go_upto_if 16 with (first | ((with_reducible refine gate_dst (N := 4) rfl ?_); refine box_event ?hg (N := 4) ?hd (cs := #[.int .u8 0, .string (⟨#[]⟩ : ByteArray), .string (⟨#[]⟩ : ByteArray), .int .u16 0, .int .u16 0]) (t := 38) ?hr ?_; (case hd => rfl); (case hg => rfl); (case hr => first | (go_simp; done) | (go_simp; rfl)); intro gb120 hg w7 hbox hb; have n0_ := Aside0.mk (below_step (by repeat (first | (with_reducible first | exact HB.out | apply below_alloc | apply pw_below_drewN | apply below_drew1) | exact HB.out)) hb); have n1_ := Aside0.mk (hbox); have n2_ := Aside0.mk ((by rw [hg]; exact (below_size (by repeat (first | (with_reducible first | exact HB.out | apply below_alloc | apply pw_below_drewN | apply below_drew1) | exact HB.out))) : w.heap.size ≤ gb120)); have n3_ := Aside0.mk ((by rw [hg]; exact (below_size (by repeat (first | (with_reducible first | exact HB.out | apply below_alloc | apply pw_below_drewN | apply below_drew1) | exact HB.out))) : w.heap.size ≤ gb120)); clear HB; have HB := n0_; have BK120 := n1_; have GW120 := n2_; have GE120 := n3_; clear n0_ n1_ n2_ n3_; clear hb hbox hg; have hcz8_0 : w7.cell? ⟨gb120, 0, none⟩ = some (.int .u8 0) := (blk_cell BK120.out 0).trans rfl; have hcz8_1 : w7.cell? ⟨gb120, 1, none⟩ = some (.string (⟨#[]⟩ : ByteArray)) := (blk_cell BK120.out 1).trans rfl; have hcz8_2 : w7.cell? ⟨gb120, 2, none⟩ = some (.string (⟨#[]⟩ : ByteArray)) := (blk_cell BK120.out 2).trans rfl; have hcz8_3 : w7.cell? ⟨gb120, 3, none⟩ = some (.int .u16 0) := (blk_cell BK120.out 3).trans rfl; have hcz8_4 : w7.cell? ⟨gb120, 4, none⟩ = some (.int .u16 0) := (blk_cell BK120.out 4).trans rfl; have hfz8_0 := blk_frozen BK120.out 0; have hfz8_1 := blk_frozen BK120.out 1; have hfz8_2 := blk_frozen BK120.out 2; have hfz8_3 := blk_frozen BK120.out 3; have hfz8_4 := blk_frozen BK120.out 4))
              (try simp only [Act.put, List.setIfInBounds_toArray, List.set_cons_zero, List.set_cons_succ])
              go_cut [16] (fun v16 wc => ∃ (kq : Nat) (x16_5 : Bool), v16 = .bool x16_5 ∧ Aside0 (rewrite_Check.j1 kq l0 (l0.length : Int) x10_1 ((rd_T38 l0 x10_1).f0) x16_5 ((rd_T38 l0 x10_1).f0) ((rd_T38 l0 x10_1).f1) ((rd_T38 l0 x10_1).f2) ((rd_T38 l0 x10_1).f3) ((rd_T38 l0 x10_1).f4) = some r) ∧ Aside0 (kq ≤ k1) ∧ Aside0 (wc.heap[gb120]? = some (.cells #[.int .u8 ((rd_T38 l0 x10_1).f0), .string ((rd_T38 l0 x10_1).f1), .string ((rd_T38 l0 x10_1).f2), .int .u16 ((rd_T38 l0 x10_1).f3), .int .u16 ((rd_T38 l0 x10_1).f4)] 38 (0, 0))) ∧ Aside0 (Below w.heap.size w wc))
              case first =>
                have H := HC6.out
                clear HC6
                by_cases c9 : ((rd_T38 l0 x10_1).f0) = 1
                · rw [if_pos c9] at H
                  have c9b0 : (((rd_T38 l0 x10_1).f0) == 1) = true := beq_iff_eq.mpr c9
                  have c9b1 : (((rd_T38 l0 x10_1).f0) != 1) = false := bne_eq_false_iff_eq.mpr c9
                  clear c9
                  (first | rw [c9b0] | (simp only [i64_w, i32_w]; rw [c9b0]) | skip)
                  have H' := Aside0.mk H
                  clear H
                  go_wp2
                  go_meet
                  case rel => exact ⟨_, ((((rd_T38 l0 x10_1).f0) == 1)), (by first | rfl | (simp; done) | (simp [*]; done)), H', ⟨by have := HK1.out; first | omega | exact Nat.le_refl _⟩, ⟨by (with_reducible repeat (first | refine blk_drewN ?_ _ | refine blk_drew ?_ | refine blk_alloc ?_ _)); refine blk_put (cs := #[.int .u8 ((rd_T38 l0 x10_1).f0), .string ((rd_T38 l0 x10_1).f1), .string ((rd_T38 l0 x10_1).f2), .int .u16 ((rd_T38 l0 x10_1).f3), .int .u16 0]) ?_ 4 _ rfl; (with_reducible repeat (first | refine blk_drewN ?_ _ | refine blk_drew ?_ | refine blk_alloc ?_ _)); refine blk_put (cs := #[.int .u8 ((rd_T38 l0 x10_1).f0), .string ((rd_T38 l0 x10_1).f1), .string ((rd_T38 l0 x10_1).f2), .int .u16 0, .int .u16 0]) ?_ 3 _ rfl; (with_reducible repeat (first | refine blk_drewN ?_ _ | refine blk_drew ?_ | refine blk_alloc ?_ _)); refine blk_put (cs := #[.int .u8 ((rd_T38 l0 x10_1).f0), .string ((rd_T38 l0 x10_1).f1), .string (⟨#[]⟩ : ByteArray), .int .u16 0, .int .u16 0]) ?_ 2 _ rfl; (with_reducible repeat (first | refine blk_drewN ?_ _ | refine blk_drew ?_ | refine blk_alloc ?_ _)); refine blk_put (cs := #[.int .u8 ((rd_T38 l0 x10_1).f0), .string (⟨#[]⟩ : ByteArray), .string (⟨#[]⟩ : ByteArray), .int .u16 0, .int .u16 0]) ?_ 1 _ rfl; (with_reducible repeat (first | refine blk_drewN ?_ _ | refine blk_drew ?_ | refine blk_alloc ?_ _)); refine blk_put (cs := #[.int .u8 0, .string (⟨#[]⟩ : ByteArray), .string (⟨#[]⟩ : ByteArray), .int .u16 0, .int .u16 0]) ?_ 0 _ rfl; (with_reducible repeat (first | refine blk_drewN ?_ _ | refine blk_drew ?_ | refine blk_alloc ?_ _)); exact BK120.out⟩, ⟨by repeat (first | (with_reducible first | exact HB.out | apply below_alloc | apply pw_below_drewN | apply below_drew1 | refine below_set ?_ GE120.out) | exact HB.out)⟩⟩
                · rw [if_neg c9] at H
                  have c9b0 : (((rd_T38 l0 x10_1).f0) == 1) = false := beq_eq_false_iff_ne.mpr c9
                  have c9b1 : (((rd_T38 l0 x10_1).f0) != 1) = true := bne_iff_ne.mpr c9
                  (first | rw [c9b0] | (simp only [i64_w, i32_w]; rw [c9b0]) | skip)
                  by_cases c10 : ((rd_T38 l0 x10_1).f0) = 2
                  · rw [if_pos c10] at H
                    have c10b0 : (((rd_T38 l0 x10_1).f0) == 2) = true := beq_iff_eq.mpr c10
                    have c10b1 : (((rd_T38 l0 x10_1).f0) != 2) = false := bne_eq_false_iff_eq.mpr c10
                    clear c10
                    have H' := Aside0.mk H
                    clear H
                    go_wp2
                    go_meet
                    case rel => exact ⟨_, ((((rd_T38 l0 x10_1).f0) == 2)), (by first | rfl | (simp; done) | (simp [*]; done)), H', ⟨by have := HK1.out; first | omega | exact Nat.le_refl _⟩, ⟨by (with_reducible repeat (first | refine blk_drewN ?_ _ | refine blk_drew ?_ | refine blk_alloc ?_ _)); refine blk_put (cs := #[.int .u8 ((rd_T38 l0 x10_1).f0), .string ((rd_T38 l0 x10_1).f1), .string ((rd_T38 l0 x10_1).f2), .int .u16 ((rd_T38 l0 x10_1).f3), .int .u16 0]) ?_ 4 _ rfl; (with_reducible repeat (first | refine blk_drewN ?_ _ | refine blk_drew ?_ | refine blk_alloc ?_ _)); refine blk_put (cs := #[.int .u8 ((rd_T38 l0 x10_1).f0), .string ((rd_T38 l0 x10_1).f1), .string ((rd_T38 l0 x10_1).f2), .int .u16 0, .int .u16 0]) ?_ 3 _ rfl; (with_reducible repeat (first | refine blk_drewN ?_ _ | refine blk_drew ?_ | refine blk_alloc ?_ _)); refine blk_put (cs := #[.int .u8 ((rd_T38 l0 x10_1).f0), .string ((rd_T38 l0 x10_1).f1), .string (⟨#[]⟩ : ByteArray), .int .u16 0, .int .u16 0]) ?_ 2 _ rfl; (with_reducible repeat (first | refine blk_drewN ?_ _ | refine blk_drew ?_ | refine blk_alloc ?_ _)); refine blk_put (cs := #[.int .u8 ((rd_T38 l0 x10_1).f0), .string (⟨#[]⟩ : ByteArray), .string (⟨#[]⟩ : ByteArray), .int .u16 0, .int .u16 0]) ?_ 1 _ rfl; (with_reducible repeat (first | refine blk_drewN ?_ _ | refine blk_drew ?_ | refine blk_alloc ?_ _)); refine blk_put (cs := #[.int .u8 0, .string (⟨#[]⟩ : ByteArray), .string (⟨#[]⟩ : ByteArray), .int .u16 0, .int .u16 0]) ?_ 0 _ rfl; (with_reducible repeat (first | refine blk_drewN ?_ _ | refine blk_drew ?_ | refine blk_alloc ?_ _)); exact BK120.out⟩, ⟨by repeat (first | (with_reducible first | exact HB.out | apply below_alloc | apply pw_below_drewN | apply below_drew1 | refine below_set ?_ GE120.out) | exact HB.out)⟩⟩
                  · rw [if_neg c10] at H
                    have c10b0 : (((rd_T38 l0 x10_1).f0) == 2) = false := beq_eq_false_iff_ne.mpr c10
                    have c10b1 : (((rd_T38 l0 x10_1).f0) != 2) = true := bne_iff_ne.mpr c10
                    have H' := Aside0.mk H
                    clear H
                    go_wp2
                    go_meet
                    case rel => exact ⟨_, ((((rd_T38 l0 x10_1).f0) == 3)), (by first | rfl | (simp; done) | (simp [*]; done)), H', ⟨by have := HK1.out; first | omega | exact Nat.le_refl _⟩, ⟨by (with_reducible repeat (first | refine blk_drewN ?_ _ | refine blk_drew ?_ | refine blk_alloc ?_ _)); refine blk_put (cs := #[.int .u8 ((rd_T38 l0 x10_1).f0), .string ((rd_T38 l0 x10_1).f1), .string ((rd_T38 l0 x10_1).f2), .int .u16 ((rd_T38 l0 x10_1).f3), .int .u16 0]) ?_ 4 _ rfl; (with_reducible repeat (first | refine blk_drewN ?_ _ | refine blk_drew ?_ | refine blk_alloc ?_ _)); refine blk_put (cs := #[.int .u8 ((rd_T38 l0 x10_1).f0), .string ((rd_T38 l0 x10_1).f1), .string ((rd_T38 l0 x10_1).f2), .int .u16 0, .int .u16 0]) ?_ 3 _ rfl; (with_reducible repeat (first | refine blk_drewN ?_ _ | refine blk_drew ?_ | refine blk_alloc ?_ _)); refine blk_put (cs := #[.int .u8 ((rd_T38 l0 x10_1).f0), .string ((rd_T38 l0 x10_1).f1), .string (⟨#[]⟩ : ByteArray), .int .u16 0, .int .u16 0]) ?_ 2 _ rfl; (with_reducible repeat (first | refine blk_drewN ?_ _ | refine blk_drew ?_ | refine blk_alloc ?_ _)); refine blk_put (cs := #[.int .u8 ((rd_T38 l0 x10_1).f0), .string (⟨#[]⟩ : ByteArray), .string (⟨#[]⟩ : ByteArray), .int .u16 0, .int .u16 0]) ?_ 1 _ rfl; (with_reducible repeat (first | refine blk_drewN ?_ _ | refine blk_drew ?_ | refine blk_alloc ?_ _)); refine blk_put (cs := #[.int .u8 0, .string (⟨#[]⟩ : ByteArray), .string (⟨#[]⟩ : ByteArray), .int .u16 0, .int .u16 0]) ?_ 0 _ rfl; (with_reducible repeat (first | refine blk_drewN ?_ _ | refine blk_drew ?_ | refine blk_alloc ?_ _)); exact BK120.out⟩, ⟨by repeat (first | (with_reducible first | exact HB.out | apply below_alloc | apply pw_below_drewN | apply below_drew1 | refine below_set ?_ GE120.out) | exact HB.out)⟩⟩
              case rest =>
                clear HC6
                try clear c1
                try clear p1
                try clear q1
                try clear hx1
                try clear c2
                try clear c2b0
                try clear c2b1
                try clear p2
                try clear c3
                try clear c3b0
                try clear c4
                try clear c4b0
                try clear c5
                try clear c5b0
                try clear c9
                try clear c9b0
                try clear c9b1
                try clear c10
                try clear c10b0
                try clear c10b1
                try clear hcz8_0
                try clear hcz8_1
                try clear hcz8_2
                try clear hcz8_3
                try clear hcz8_4
                try clear hfz8_0
                try clear hfz8_1
                try clear hfz8_2
                try clear hfz8_3
                try clear hfz8_4
                try clear hx119_0
                try clear hx119_1
                try clear hx119_2
                try clear hx119_3
                try clear hx119_4
                try clear p119
                try clear p2
                try clear q119
                obtain ⟨kq, x16_5, rfl, HA, HJ5, BK120, HB⟩ := hcut
                cases kq with
                | zero => exact absurd HA.out (by simp [rewrite_Check.j1])
                | succ kj5 =>
                  have H := HA.out
                  clear HA
                  simp only [rewrite_Check.j1] at H
                  by_cases c11 : x16_5 = true
                  · subst c11
                    have H1 : ((name_Check.f kj5 ((rd_T38 l0 x10_1).f1)).bind fun t121 => (if t121 = 0 then ((name_Check.f kj5 ((rd_T38 l0 x10_1).f2)).bind fun t122 => (if t122 = 0 then (if ((rd_T38 l0 x10_1).f3) = 0 then (if ((rd_T38 l0 x10_1).f4) = 0 then (rewrite_Check.l0 kj5 l0 (l0.length : Int) (wrap64 (x10_1 + 1))) else (some 250)) else (some 250)) else (some 250))) else (some 250))) = some r := by rw [if_pos rfl] at H; exact H
                    clear H
                    have H := H1
                    clear H1
                    replace H := Option.bind_eq_some_iff.mp H
                    obtain ⟨t121, A120, H⟩ := H
                    replace H : (if t121 = 0 then ((name_Check.f kj5 ((rd_T38 l0 x10_1).f2)).bind fun t122 => (if t122 = 0 then (if ((rd_T38 l0 x10_1).f3) = 0 then (if ((rd_T38 l0 x10_1).f4) = 0 then (rewrite_Check.l0 kj5 l0 (l0.length : Int) (wrap64 (x10_1 + 1))) else (some 250)) else (some 250)) else (some 250))) else (some 250)) = some r := H
                    have A12 := Aside0.mk A120
                    clear A120
                    by_cases c13 : t121 = 0
                    · rw [if_pos c13] at H
                      have c13b0 : (t121 == 0) = true := beq_iff_eq.mpr c13
                      have c13b1 : (t121 != 0) = false := bne_eq_false_iff_eq.mpr c13
                      clear c13
                      replace H := Option.bind_eq_some_iff.mp H
                      obtain ⟨t122, A140, H⟩ := H
                      replace H : (if t122 = 0 then (if ((rd_T38 l0 x10_1).f3) = 0 then (if ((rd_T38 l0 x10_1).f4) = 0 then (rewrite_Check.l0 kj5 l0 (l0.length : Int) (wrap64 (x10_1 + 1))) else (some 250)) else (some 250)) else (some 250)) = some r := H
                      have A14 := Aside0.mk A140
                      clear A140
                      by_cases c15 : t122 = 0
                      · rw [if_pos c15] at H
                        have c15b0 : (t122 == 0) = true := beq_iff_eq.mpr c15
                        have c15b1 : (t122 != 0) = false := bne_eq_false_iff_eq.mpr c15
                        clear c15
                        by_cases c16 : ((rd_T38 l0 x10_1).f3) = 0
                        · rw [if_pos c16] at H
                          have c16b0 : (((rd_T38 l0 x10_1).f3) == 0) = true := beq_iff_eq.mpr c16
                          have c16b1 : (((rd_T38 l0 x10_1).f3) != 0) = false := bne_eq_false_iff_eq.mpr c16
                          clear c16
                          by_cases c17 : ((rd_T38 l0 x10_1).f4) = 0
                          · rw [if_pos c17] at H
                            have c17b0 : (((rd_T38 l0 x10_1).f4) == 0) = true := beq_iff_eq.mpr c17
                            have c17b1 : (((rd_T38 l0 x10_1).f4) != 0) = false := bne_eq_false_iff_eq.mpr c17
                            clear c17
                            have H' := Aside0.mk H
                            clear H
                            have hcz18_0 : wc.cell? ⟨gb120, 0, none⟩ = some (.int .u8 ((rd_T38 l0 x10_1).f0)) := (blk_cell BK120.out 0).trans rfl
                            have hcz18_1 : wc.cell? ⟨gb120, 1, none⟩ = some (.string ((rd_T38 l0 x10_1).f1)) := (blk_cell BK120.out 1).trans rfl
                            have hcz18_2 : wc.cell? ⟨gb120, 2, none⟩ = some (.string ((rd_T38 l0 x10_1).f2)) := (blk_cell BK120.out 2).trans rfl
                            have hcz18_3 : wc.cell? ⟨gb120, 3, none⟩ = some (.int .u16 ((rd_T38 l0 x10_1).f3)) := (blk_cell BK120.out 3).trans rfl
                            have hcz18_4 : wc.cell? ⟨gb120, 4, none⟩ = some (.int .u16 ((rd_T38 l0 x10_1).f4)) := (blk_cell BK120.out 4).trans rfl
                            have hfz18_0 := blk_frozen BK120.out 0
                            have hfz18_1 := blk_frozen BK120.out 1
                            have hfz18_2 := blk_frozen BK120.out 2
                            have hfz18_3 := blk_frozen BK120.out 3
                            have hfz18_4 := blk_frozen BK120.out 4
                            go_wp2_with (first | ((with_reducible refine gate_callee (f := 29) rfl ?_); refine goesL_ (some 22) rfl rfl Try.func29 (by kernel_rfl) rfl #[.string ((rd_T38 l0 x10_1).f1)] rfl (by (try simp only [List.map_toArray, List.map_cons, List.map_nil]); first | done | rfl | (simp only [List.length_drop, List.length_take]; rfl)) ?_; (with_reducible refine (name_Check.calls kj5 ((rd_T38 l0 x10_1).f1) t121 _ A12.out).mono ?_); rintro e w19 ⟨rfl, hb⟩; refine ⟨_, rfl, ?_⟩; have n0_ := Aside0.mk (blk_below (g := gb120) (o := .cells #[.int .u8 ((rd_T38 l0 x10_1).f0), .string ((rd_T38 l0 x10_1).f1), .string ((rd_T38 l0 x10_1).f2), .int .u16 ((rd_T38 l0 x10_1).f3), .int .u16 ((rd_T38 l0 x10_1).f4)] 38 (0, 0)) (by (with_reducible repeat (first | refine blk_drewN ?_ _ | refine blk_drew ?_ | refine blk_alloc ?_ _)); exact BK120.out) hb); have n1_ := Aside0.mk (below_step (by repeat (first | (with_reducible first | exact HB.out | apply below_alloc | apply pw_below_drewN | apply below_drew1 | refine below_set ?_ GE120.out) | exact HB.out)) hb); clear BK120; clear HB; have BK120 := n0_; have HB := n1_; clear n0_ n1_; (try clear hb); (try clear hb2); (try clear hk); (try clear hi); have hcz20_0 : w19.cell? ⟨gb120, 0, none⟩ = some (.int .u8 ((rd_T38 l0 x10_1).f0)) := (blk_cell BK120.out 0).trans rfl; have hcz20_1 : w19.cell? ⟨gb120, 1, none⟩ = some (.string ((rd_T38 l0 x10_1).f1)) := (blk_cell BK120.out 1).trans rfl; have hcz20_2 : w19.cell? ⟨gb120, 2, none⟩ = some (.string ((rd_T38 l0 x10_1).f2)) := (blk_cell BK120.out 2).trans rfl; have hcz20_3 : w19.cell? ⟨gb120, 3, none⟩ = some (.int .u16 ((rd_T38 l0 x10_1).f3)) := (blk_cell BK120.out 3).trans rfl; have hcz20_4 : w19.cell? ⟨gb120, 4, none⟩ = some (.int .u16 ((rd_T38 l0 x10_1).f4)) := (blk_cell BK120.out 4).trans rfl; have hfz20_0 := blk_frozen BK120.out 0; have hfz20_1 := blk_frozen BK120.out 1; have hfz20_2 := blk_frozen BK120.out 2; have hfz20_3 := blk_frozen BK120.out 3; have hfz20_4 := blk_frozen BK120.out 4) | (go_at_call 29; (with_reducible refine (name_Check.calls kj5 ((rd_T38 l0 x10_1).f2) t122 _ A14.out).mono ?_); rintro e w21 ⟨rfl, hb⟩; have n0_ := Aside0.mk (blk_below (g := gb120) (o := .cells #[.int .u8 ((rd_T38 l0 x10_1).f0), .string ((rd_T38 l0 x10_1).f1), .string ((rd_T38 l0 x10_1).f2), .int .u16 ((rd_T38 l0 x10_1).f3), .int .u16 ((rd_T38 l0 x10_1).f4)] 38 (0, 0)) (by (with_reducible repeat (first | refine blk_drewN ?_ _ | refine blk_drew ?_ | refine blk_alloc ?_ _)); exact BK120.out) hb); have n1_ := Aside0.mk (below_step (by repeat (first | (with_reducible first | exact HB.out | apply below_alloc | apply pw_below_drewN | apply below_drew1 | refine below_set ?_ GE120.out) | exact HB.out)) hb); clear BK120; clear HB; have BK120 := n0_; have HB := n1_; clear n0_ n1_; (try clear hb); (try clear hb2); (try clear hk); (try clear hi); have hcz22_0 : w21.cell? ⟨gb120, 0, none⟩ = some (.int .u8 ((rd_T38 l0 x10_1).f0)) := (blk_cell BK120.out 0).trans rfl; have hcz22_1 : w21.cell? ⟨gb120, 1, none⟩ = some (.string ((rd_T38 l0 x10_1).f1)) := (blk_cell BK120.out 1).trans rfl; have hcz22_2 : w21.cell? ⟨gb120, 2, none⟩ = some (.string ((rd_T38 l0 x10_1).f2)) := (blk_cell BK120.out 2).trans rfl; have hcz22_3 : w21.cell? ⟨gb120, 3, none⟩ = some (.int .u16 ((rd_T38 l0 x10_1).f3)) := (blk_cell BK120.out 3).trans rfl; have hcz22_4 : w21.cell? ⟨gb120, 4, none⟩ = some (.int .u16 ((rd_T38 l0 x10_1).f4)) := (blk_cell BK120.out 4).trans rfl; have hfz22_0 := blk_frozen BK120.out 0; have hfz22_1 := blk_frozen BK120.out 1; have hfz22_2 := blk_frozen BK120.out 2; have hfz22_3 := blk_frozen BK120.out 3; have hfz22_4 := blk_frozen BK120.out 4))
                            go_roundg kj5
                            case measure => have := HK1.out; have := HJ5.out; omega
                            case rel => exact ⟨(wrap64 (x10_1 + 1)), (by first | rfl | (simp; done) | (simp [*]; done)), H', ⟨by have := HK1.out; have := HJ5.out; omega⟩, ⟨by repeat (first | (with_reducible first | exact HB.out | apply below_alloc | apply pw_below_drewN | apply below_drew1 | refine below_set ?_ GE120.out) | exact HB.out)⟩⟩
                          · rw [if_neg c17] at H
                            have c17b0 : (((rd_T38 l0 x10_1).f4) == 0) = false := beq_eq_false_iff_ne.mpr c17
                            have c17b1 : (((rd_T38 l0 x10_1).f4) != 0) = true := bne_iff_ne.mpr c17
                            obtain rfl := Option.some.inj H
                            have hcz23_0 : wc.cell? ⟨gb120, 0, none⟩ = some (.int .u8 ((rd_T38 l0 x10_1).f0)) := (blk_cell BK120.out 0).trans rfl
                            have hcz23_1 : wc.cell? ⟨gb120, 1, none⟩ = some (.string ((rd_T38 l0 x10_1).f1)) := (blk_cell BK120.out 1).trans rfl
                            have hcz23_2 : wc.cell? ⟨gb120, 2, none⟩ = some (.string ((rd_T38 l0 x10_1).f2)) := (blk_cell BK120.out 2).trans rfl
                            have hcz23_3 : wc.cell? ⟨gb120, 3, none⟩ = some (.int .u16 ((rd_T38 l0 x10_1).f3)) := (blk_cell BK120.out 3).trans rfl
                            have hcz23_4 : wc.cell? ⟨gb120, 4, none⟩ = some (.int .u16 ((rd_T38 l0 x10_1).f4)) := (blk_cell BK120.out 4).trans rfl
                            have hfz23_0 := blk_frozen BK120.out 0
                            have hfz23_1 := blk_frozen BK120.out 1
                            have hfz23_2 := blk_frozen BK120.out 2
                            have hfz23_3 := blk_frozen BK120.out 3
                            have hfz23_4 := blk_frozen BK120.out 4
                            go_wp2_with (first | ((with_reducible refine gate_callee (f := 29) rfl ?_); refine goesL_ (some 22) rfl rfl Try.func29 (by kernel_rfl) rfl #[.string ((rd_T38 l0 x10_1).f1)] rfl (by (try simp only [List.map_toArray, List.map_cons, List.map_nil]); first | done | rfl | (simp only [List.length_drop, List.length_take]; rfl)) ?_; (with_reducible refine (name_Check.calls kj5 ((rd_T38 l0 x10_1).f1) t121 _ A12.out).mono ?_); rintro e w24 ⟨rfl, hb⟩; refine ⟨_, rfl, ?_⟩; have n0_ := Aside0.mk (blk_below (g := gb120) (o := .cells #[.int .u8 ((rd_T38 l0 x10_1).f0), .string ((rd_T38 l0 x10_1).f1), .string ((rd_T38 l0 x10_1).f2), .int .u16 ((rd_T38 l0 x10_1).f3), .int .u16 ((rd_T38 l0 x10_1).f4)] 38 (0, 0)) (by (with_reducible repeat (first | refine blk_drewN ?_ _ | refine blk_drew ?_ | refine blk_alloc ?_ _)); exact BK120.out) hb); have n1_ := Aside0.mk (below_step (by repeat (first | (with_reducible first | exact HB.out | apply below_alloc | apply pw_below_drewN | apply below_drew1 | refine below_set ?_ GE120.out) | exact HB.out)) hb); clear BK120; clear HB; have BK120 := n0_; have HB := n1_; clear n0_ n1_; (try clear hb); (try clear hb2); (try clear hk); (try clear hi); have hcz25_0 : w24.cell? ⟨gb120, 0, none⟩ = some (.int .u8 ((rd_T38 l0 x10_1).f0)) := (blk_cell BK120.out 0).trans rfl; have hcz25_1 : w24.cell? ⟨gb120, 1, none⟩ = some (.string ((rd_T38 l0 x10_1).f1)) := (blk_cell BK120.out 1).trans rfl; have hcz25_2 : w24.cell? ⟨gb120, 2, none⟩ = some (.string ((rd_T38 l0 x10_1).f2)) := (blk_cell BK120.out 2).trans rfl; have hcz25_3 : w24.cell? ⟨gb120, 3, none⟩ = some (.int .u16 ((rd_T38 l0 x10_1).f3)) := (blk_cell BK120.out 3).trans rfl; have hcz25_4 : w24.cell? ⟨gb120, 4, none⟩ = some (.int .u16 ((rd_T38 l0 x10_1).f4)) := (blk_cell BK120.out 4).trans rfl; have hfz25_0 := blk_frozen BK120.out 0; have hfz25_1 := blk_frozen BK120.out 1; have hfz25_2 := blk_frozen BK120.out 2; have hfz25_3 := blk_frozen BK120.out 3; have hfz25_4 := blk_frozen BK120.out 4) | (go_at_call 29; (with_reducible refine (name_Check.calls kj5 ((rd_T38 l0 x10_1).f2) t122 _ A14.out).mono ?_); rintro e w26 ⟨rfl, hb⟩; have n0_ := Aside0.mk (blk_below (g := gb120) (o := .cells #[.int .u8 ((rd_T38 l0 x10_1).f0), .string ((rd_T38 l0 x10_1).f1), .string ((rd_T38 l0 x10_1).f2), .int .u16 ((rd_T38 l0 x10_1).f3), .int .u16 ((rd_T38 l0 x10_1).f4)] 38 (0, 0)) (by (with_reducible repeat (first | refine blk_drewN ?_ _ | refine blk_drew ?_ | refine blk_alloc ?_ _)); exact BK120.out) hb); have n1_ := Aside0.mk (below_step (by repeat (first | (with_reducible first | exact HB.out | apply below_alloc | apply pw_below_drewN | apply below_drew1 | refine below_set ?_ GE120.out) | exact HB.out)) hb); clear BK120; clear HB; have BK120 := n0_; have HB := n1_; clear n0_ n1_; (try clear hb); (try clear hb2); (try clear hk); (try clear hi); have hcz27_0 : w26.cell? ⟨gb120, 0, none⟩ = some (.int .u8 ((rd_T38 l0 x10_1).f0)) := (blk_cell BK120.out 0).trans rfl; have hcz27_1 : w26.cell? ⟨gb120, 1, none⟩ = some (.string ((rd_T38 l0 x10_1).f1)) := (blk_cell BK120.out 1).trans rfl; have hcz27_2 : w26.cell? ⟨gb120, 2, none⟩ = some (.string ((rd_T38 l0 x10_1).f2)) := (blk_cell BK120.out 2).trans rfl; have hcz27_3 : w26.cell? ⟨gb120, 3, none⟩ = some (.int .u16 ((rd_T38 l0 x10_1).f3)) := (blk_cell BK120.out 3).trans rfl; have hcz27_4 : w26.cell? ⟨gb120, 4, none⟩ = some (.int .u16 ((rd_T38 l0 x10_1).f4)) := (blk_cell BK120.out 4).trans rfl; have hfz27_0 := blk_frozen BK120.out 0; have hfz27_1 := blk_frozen BK120.out 1; have hfz27_2 := blk_frozen BK120.out 2; have hfz27_3 := blk_frozen BK120.out 3; have hfz27_4 := blk_frozen BK120.out 4))
                            go_ret
                            exact ⟨by first | rfl | (simp [errW_none, errW_some] <;> rfl) | (simp [*, errW_none, errW_some] <;> rfl), by repeat (first | (with_reducible first | exact HB.out | apply below_alloc | apply pw_below_drewN | apply below_drew1 | refine below_set ?_ GE120.out) | exact HB.out)⟩
                        · rw [if_neg c16] at H
                          have c16b0 : (((rd_T38 l0 x10_1).f3) == 0) = false := beq_eq_false_iff_ne.mpr c16
                          have c16b1 : (((rd_T38 l0 x10_1).f3) != 0) = true := bne_iff_ne.mpr c16
                          obtain rfl := Option.some.inj H
                          have hcz28_0 : wc.cell? ⟨gb120, 0, none⟩ = some (.int .u8 ((rd_T38 l0 x10_1).f0)) := (blk_cell BK120.out 0).trans rfl
                          have hcz28_1 : wc.cell? ⟨gb120, 1, none⟩ = some (.string ((rd_T38 l0 x10_1).f1)) := (blk_cell BK120.out 1).trans rfl
                          have hcz28_2 : wc.cell? ⟨gb120, 2, none⟩ = some (.string ((rd_T38 l0 x10_1).f2)) := (blk_cell BK120.out 2).trans rfl
                          have hcz28_3 : wc.cell? ⟨gb120, 3, none⟩ = some (.int .u16 ((rd_T38 l0 x10_1).f3)) := (blk_cell BK120.out 3).trans rfl
                          have hcz28_4 : wc.cell? ⟨gb120, 4, none⟩ = some (.int .u16 ((rd_T38 l0 x10_1).f4)) := (blk_cell BK120.out 4).trans rfl
                          have hfz28_0 := blk_frozen BK120.out 0
                          have hfz28_1 := blk_frozen BK120.out 1
                          have hfz28_2 := blk_frozen BK120.out 2
                          have hfz28_3 := blk_frozen BK120.out 3
                          have hfz28_4 := blk_frozen BK120.out 4
                          go_wp2_with (first | ((with_reducible refine gate_callee (f := 29) rfl ?_); refine goesL_ (some 22) rfl rfl Try.func29 (by kernel_rfl) rfl #[.string ((rd_T38 l0 x10_1).f1)] rfl (by (try simp only [List.map_toArray, List.map_cons, List.map_nil]); first | done | rfl | (simp only [List.length_drop, List.length_take]; rfl)) ?_; (with_reducible refine (name_Check.calls kj5 ((rd_T38 l0 x10_1).f1) t121 _ A12.out).mono ?_); rintro e w29 ⟨rfl, hb⟩; refine ⟨_, rfl, ?_⟩; have n0_ := Aside0.mk (blk_below (g := gb120) (o := .cells #[.int .u8 ((rd_T38 l0 x10_1).f0), .string ((rd_T38 l0 x10_1).f1), .string ((rd_T38 l0 x10_1).f2), .int .u16 ((rd_T38 l0 x10_1).f3), .int .u16 ((rd_T38 l0 x10_1).f4)] 38 (0, 0)) (by (with_reducible repeat (first | refine blk_drewN ?_ _ | refine blk_drew ?_ | refine blk_alloc ?_ _)); exact BK120.out) hb); have n1_ := Aside0.mk (below_step (by repeat (first | (with_reducible first | exact HB.out | apply below_alloc | apply pw_below_drewN | apply below_drew1 | refine below_set ?_ GE120.out) | exact HB.out)) hb); clear BK120; clear HB; have BK120 := n0_; have HB := n1_; clear n0_ n1_; (try clear hb); (try clear hb2); (try clear hk); (try clear hi); have hcz30_0 : w29.cell? ⟨gb120, 0, none⟩ = some (.int .u8 ((rd_T38 l0 x10_1).f0)) := (blk_cell BK120.out 0).trans rfl; have hcz30_1 : w29.cell? ⟨gb120, 1, none⟩ = some (.string ((rd_T38 l0 x10_1).f1)) := (blk_cell BK120.out 1).trans rfl; have hcz30_2 : w29.cell? ⟨gb120, 2, none⟩ = some (.string ((rd_T38 l0 x10_1).f2)) := (blk_cell BK120.out 2).trans rfl; have hcz30_3 : w29.cell? ⟨gb120, 3, none⟩ = some (.int .u16 ((rd_T38 l0 x10_1).f3)) := (blk_cell BK120.out 3).trans rfl; have hcz30_4 : w29.cell? ⟨gb120, 4, none⟩ = some (.int .u16 ((rd_T38 l0 x10_1).f4)) := (blk_cell BK120.out 4).trans rfl; have hfz30_0 := blk_frozen BK120.out 0; have hfz30_1 := blk_frozen BK120.out 1; have hfz30_2 := blk_frozen BK120.out 2; have hfz30_3 := blk_frozen BK120.out 3; have hfz30_4 := blk_frozen BK120.out 4) | (go_at_call 29; (with_reducible refine (name_Check.calls kj5 ((rd_T38 l0 x10_1).f2) t122 _ A14.out).mono ?_); rintro e w31 ⟨rfl, hb⟩; have n0_ := Aside0.mk (blk_below (g := gb120) (o := .cells #[.int .u8 ((rd_T38 l0 x10_1).f0), .string ((rd_T38 l0 x10_1).f1), .string ((rd_T38 l0 x10_1).f2), .int .u16 ((rd_T38 l0 x10_1).f3), .int .u16 ((rd_T38 l0 x10_1).f4)] 38 (0, 0)) (by (with_reducible repeat (first | refine blk_drewN ?_ _ | refine blk_drew ?_ | refine blk_alloc ?_ _)); exact BK120.out) hb); have n1_ := Aside0.mk (below_step (by repeat (first | (with_reducible first | exact HB.out | apply below_alloc | apply pw_below_drewN | apply below_drew1 | refine below_set ?_ GE120.out) | exact HB.out)) hb); clear BK120; clear HB; have BK120 := n0_; have HB := n1_; clear n0_ n1_; (try clear hb); (try clear hb2); (try clear hk); (try clear hi); have hcz32_0 : w31.cell? ⟨gb120, 0, none⟩ = some (.int .u8 ((rd_T38 l0 x10_1).f0)) := (blk_cell BK120.out 0).trans rfl; have hcz32_1 : w31.cell? ⟨gb120, 1, none⟩ = some (.string ((rd_T38 l0 x10_1).f1)) := (blk_cell BK120.out 1).trans rfl; have hcz32_2 : w31.cell? ⟨gb120, 2, none⟩ = some (.string ((rd_T38 l0 x10_1).f2)) := (blk_cell BK120.out 2).trans rfl; have hcz32_3 : w31.cell? ⟨gb120, 3, none⟩ = some (.int .u16 ((rd_T38 l0 x10_1).f3)) := (blk_cell BK120.out 3).trans rfl; have hcz32_4 : w31.cell? ⟨gb120, 4, none⟩ = some (.int .u16 ((rd_T38 l0 x10_1).f4)) := (blk_cell BK120.out 4).trans rfl; have hfz32_0 := blk_frozen BK120.out 0; have hfz32_1 := blk_frozen BK120.out 1; have hfz32_2 := blk_frozen BK120.out 2; have hfz32_3 := blk_frozen BK120.out 3; have hfz32_4 := blk_frozen BK120.out 4))
                          go_ret
                          exact ⟨by first | rfl | (simp [errW_none, errW_some] <;> rfl) | (simp [*, errW_none, errW_some] <;> rfl), by repeat (first | (with_reducible first | exact HB.out | apply below_alloc | apply pw_below_drewN | apply below_drew1 | refine below_set ?_ GE120.out) | exact HB.out)⟩
                      · rw [if_neg c15] at H
                        have c15b0 : (t122 == 0) = false := beq_eq_false_iff_ne.mpr c15
                        have c15b1 : (t122 != 0) = true := bne_iff_ne.mpr c15
                        obtain rfl := Option.some.inj H
                        have hcz33_0 : wc.cell? ⟨gb120, 0, none⟩ = some (.int .u8 ((rd_T38 l0 x10_1).f0)) := (blk_cell BK120.out 0).trans rfl
                        have hcz33_1 : wc.cell? ⟨gb120, 1, none⟩ = some (.string ((rd_T38 l0 x10_1).f1)) := (blk_cell BK120.out 1).trans rfl
                        have hcz33_2 : wc.cell? ⟨gb120, 2, none⟩ = some (.string ((rd_T38 l0 x10_1).f2)) := (blk_cell BK120.out 2).trans rfl
                        have hcz33_3 : wc.cell? ⟨gb120, 3, none⟩ = some (.int .u16 ((rd_T38 l0 x10_1).f3)) := (blk_cell BK120.out 3).trans rfl
                        have hcz33_4 : wc.cell? ⟨gb120, 4, none⟩ = some (.int .u16 ((rd_T38 l0 x10_1).f4)) := (blk_cell BK120.out 4).trans rfl
                        have hfz33_0 := blk_frozen BK120.out 0
                        have hfz33_1 := blk_frozen BK120.out 1
                        have hfz33_2 := blk_frozen BK120.out 2
                        have hfz33_3 := blk_frozen BK120.out 3
                        have hfz33_4 := blk_frozen BK120.out 4
                        go_wp2_with (first | ((with_reducible refine gate_callee (f := 29) rfl ?_); refine goesL_ (some 22) rfl rfl Try.func29 (by kernel_rfl) rfl #[.string ((rd_T38 l0 x10_1).f1)] rfl (by (try simp only [List.map_toArray, List.map_cons, List.map_nil]); first | done | rfl | (simp only [List.length_drop, List.length_take]; rfl)) ?_; (with_reducible refine (name_Check.calls kj5 ((rd_T38 l0 x10_1).f1) t121 _ A12.out).mono ?_); rintro e w34 ⟨rfl, hb⟩; refine ⟨_, rfl, ?_⟩; have n0_ := Aside0.mk (blk_below (g := gb120) (o := .cells #[.int .u8 ((rd_T38 l0 x10_1).f0), .string ((rd_T38 l0 x10_1).f1), .string ((rd_T38 l0 x10_1).f2), .int .u16 ((rd_T38 l0 x10_1).f3), .int .u16 ((rd_T38 l0 x10_1).f4)] 38 (0, 0)) (by (with_reducible repeat (first | refine blk_drewN ?_ _ | refine blk_drew ?_ | refine blk_alloc ?_ _)); exact BK120.out) hb); have n1_ := Aside0.mk (below_step (by repeat (first | (with_reducible first | exact HB.out | apply below_alloc | apply pw_below_drewN | apply below_drew1 | refine below_set ?_ GE120.out) | exact HB.out)) hb); clear BK120; clear HB; have BK120 := n0_; have HB := n1_; clear n0_ n1_; (try clear hb); (try clear hb2); (try clear hk); (try clear hi); have hcz35_0 : w34.cell? ⟨gb120, 0, none⟩ = some (.int .u8 ((rd_T38 l0 x10_1).f0)) := (blk_cell BK120.out 0).trans rfl; have hcz35_1 : w34.cell? ⟨gb120, 1, none⟩ = some (.string ((rd_T38 l0 x10_1).f1)) := (blk_cell BK120.out 1).trans rfl; have hcz35_2 : w34.cell? ⟨gb120, 2, none⟩ = some (.string ((rd_T38 l0 x10_1).f2)) := (blk_cell BK120.out 2).trans rfl; have hcz35_3 : w34.cell? ⟨gb120, 3, none⟩ = some (.int .u16 ((rd_T38 l0 x10_1).f3)) := (blk_cell BK120.out 3).trans rfl; have hcz35_4 : w34.cell? ⟨gb120, 4, none⟩ = some (.int .u16 ((rd_T38 l0 x10_1).f4)) := (blk_cell BK120.out 4).trans rfl; have hfz35_0 := blk_frozen BK120.out 0; have hfz35_1 := blk_frozen BK120.out 1; have hfz35_2 := blk_frozen BK120.out 2; have hfz35_3 := blk_frozen BK120.out 3; have hfz35_4 := blk_frozen BK120.out 4) | (go_at_call 29; (with_reducible refine (name_Check.calls kj5 ((rd_T38 l0 x10_1).f2) t122 _ A14.out).mono ?_); rintro e w36 ⟨rfl, hb⟩; have n0_ := Aside0.mk (blk_below (g := gb120) (o := .cells #[.int .u8 ((rd_T38 l0 x10_1).f0), .string ((rd_T38 l0 x10_1).f1), .string ((rd_T38 l0 x10_1).f2), .int .u16 ((rd_T38 l0 x10_1).f3), .int .u16 ((rd_T38 l0 x10_1).f4)] 38 (0, 0)) (by (with_reducible repeat (first | refine blk_drewN ?_ _ | refine blk_drew ?_ | refine blk_alloc ?_ _)); exact BK120.out) hb); have n1_ := Aside0.mk (below_step (by repeat (first | (with_reducible first | exact HB.out | apply below_alloc | apply pw_below_drewN | apply below_drew1 | refine below_set ?_ GE120.out) | exact HB.out)) hb); clear BK120; clear HB; have BK120 := n0_; have HB := n1_; clear n0_ n1_; (try clear hb); (try clear hb2); (try clear hk); (try clear hi)))
                        go_ret
                        exact ⟨by first | rfl | (simp [errW_none, errW_some] <;> rfl) | (simp [*, errW_none, errW_some] <;> rfl), by repeat (first | (with_reducible first | exact HB.out | apply below_alloc | apply pw_below_drewN | apply below_drew1 | refine below_set ?_ GE120.out) | exact HB.out)⟩
                    · rw [if_neg c13] at H
                      have c13b0 : (t121 == 0) = false := beq_eq_false_iff_ne.mpr c13
                      have c13b1 : (t121 != 0) = true := bne_iff_ne.mpr c13
                      obtain rfl := Option.some.inj H
                      have hcz37_0 : wc.cell? ⟨gb120, 0, none⟩ = some (.int .u8 ((rd_T38 l0 x10_1).f0)) := (blk_cell BK120.out 0).trans rfl
                      have hcz37_1 : wc.cell? ⟨gb120, 1, none⟩ = some (.string ((rd_T38 l0 x10_1).f1)) := (blk_cell BK120.out 1).trans rfl
                      have hcz37_2 : wc.cell? ⟨gb120, 2, none⟩ = some (.string ((rd_T38 l0 x10_1).f2)) := (blk_cell BK120.out 2).trans rfl
                      have hcz37_3 : wc.cell? ⟨gb120, 3, none⟩ = some (.int .u16 ((rd_T38 l0 x10_1).f3)) := (blk_cell BK120.out 3).trans rfl
                      have hcz37_4 : wc.cell? ⟨gb120, 4, none⟩ = some (.int .u16 ((rd_T38 l0 x10_1).f4)) := (blk_cell BK120.out 4).trans rfl
                      have hfz37_0 := blk_frozen BK120.out 0
                      have hfz37_1 := blk_frozen BK120.out 1
                      have hfz37_2 := blk_frozen BK120.out 2
                      have hfz37_3 := blk_frozen BK120.out 3
                      have hfz37_4 := blk_frozen BK120.out 4
                      go_wp2_with (first | ((with_reducible refine gate_callee (f := 29) rfl ?_); refine goesL_ (some 22) rfl rfl Try.func29 (by kernel_rfl) rfl #[.string ((rd_T38 l0 x10_1).f1)] rfl (by (try simp only [List.map_toArray, List.map_cons, List.map_nil]); first | done | rfl | (simp only [List.length_drop, List.length_take]; rfl)) ?_; (with_reducible refine (name_Check.calls kj5 ((rd_T38 l0 x10_1).f1) t121 _ A12.out).mono ?_); rintro e w38 ⟨rfl, hb⟩; refine ⟨_, rfl, ?_⟩; have n0_ := Aside0.mk (blk_below (g := gb120) (o := .cells #[.int .u8 ((rd_T38 l0 x10_1).f0), .string ((rd_T38 l0 x10_1).f1), .string ((rd_T38 l0 x10_1).f2), .int .u16 ((rd_T38 l0 x10_1).f3), .int .u16 ((rd_T38 l0 x10_1).f4)] 38 (0, 0)) (by (with_reducible repeat (first | refine blk_drewN ?_ _ | refine blk_drew ?_ | refine blk_alloc ?_ _)); exact BK120.out) hb); have n1_ := Aside0.mk (below_step (by repeat (first | (with_reducible first | exact HB.out | apply below_alloc | apply pw_below_drewN | apply below_drew1 | refine below_set ?_ GE120.out) | exact HB.out)) hb); clear BK120; clear HB; have BK120 := n0_; have HB := n1_; clear n0_ n1_; (try clear hb); (try clear hb2); (try clear hk); (try clear hi)))
                      go_ret
                      exact ⟨by first | rfl | (simp [errW_none, errW_some] <;> rfl) | (simp [*, errW_none, errW_some] <;> rfl), by repeat (first | (with_reducible first | exact HB.out | apply below_alloc | apply pw_below_drewN | apply below_drew1 | refine below_set ?_ GE120.out) | exact HB.out)⟩
                  · replace c11 := Bool.eq_false_iff.mpr c11
                    subst c11
                    have H1 : (if ((rd_T38 l0 x10_1).f0) = 4 then (if ((rd_T38 l0 x10_1).f1).toList = ([] : List UInt8) then (if ((rd_T38 l0 x10_1).f2).toList = ([] : List UInt8) then (if ((rd_T38 l0 x10_1).f3) = 0 then (some 250) else (if ((rd_T38 l0 x10_1).f4) = 0 then (some 250) else (rewrite_Check.l0 kj5 l0 (l0.length : Int) (wrap64 (x10_1 + 1))))) else (some 250)) else (some 250)) else (some 250)) = some r := by rw [if_neg (show ¬ (false = true) by decide)] at H; exact H
                    clear H
                    have H := H1
                    clear H1
                    by_cases c39 : ((rd_T38 l0 x10_1).f0) = 4
                    · rw [if_pos c39] at H
                      have c39b0 : (((rd_T38 l0 x10_1).f0) == 4) = true := beq_iff_eq.mpr c39
                      have c39b1 : (((rd_T38 l0 x10_1).f0) != 4) = false := bne_eq_false_iff_eq.mpr c39
                      clear c39
                      by_cases c40 : ((rd_T38 l0 x10_1).f1).toList = ([] : List UInt8)
                      · rw [if_pos c40] at H
                        have c40b0 : (((rd_T38 l0 x10_1).f1).toList == ([] : List UInt8)) = true := beq_iff_eq.mpr c40
                        have c40b1 : (((rd_T38 l0 x10_1).f1).toList != ([] : List UInt8)) = false := bne_eq_false_iff_eq.mpr c40
                        clear c40
                        by_cases c41 : ((rd_T38 l0 x10_1).f2).toList = ([] : List UInt8)
                        · rw [if_pos c41] at H
                          have c41b0 : (((rd_T38 l0 x10_1).f2).toList == ([] : List UInt8)) = true := beq_iff_eq.mpr c41
                          have c41b1 : (((rd_T38 l0 x10_1).f2).toList != ([] : List UInt8)) = false := bne_eq_false_iff_eq.mpr c41
                          clear c41
                          by_cases c42 : ((rd_T38 l0 x10_1).f3) = 0
                          · rw [if_pos c42] at H
                            have c42b0 : (((rd_T38 l0 x10_1).f3) == 0) = true := beq_iff_eq.mpr c42
                            have c42b1 : (((rd_T38 l0 x10_1).f3) != 0) = false := bne_eq_false_iff_eq.mpr c42
                            clear c42
                            obtain rfl := Option.some.inj H
                            have hcz43_0 : wc.cell? ⟨gb120, 0, none⟩ = some (.int .u8 ((rd_T38 l0 x10_1).f0)) := (blk_cell BK120.out 0).trans rfl
                            have hcz43_1 : wc.cell? ⟨gb120, 1, none⟩ = some (.string ((rd_T38 l0 x10_1).f1)) := (blk_cell BK120.out 1).trans rfl
                            have hcz43_2 : wc.cell? ⟨gb120, 2, none⟩ = some (.string ((rd_T38 l0 x10_1).f2)) := (blk_cell BK120.out 2).trans rfl
                            have hcz43_3 : wc.cell? ⟨gb120, 3, none⟩ = some (.int .u16 ((rd_T38 l0 x10_1).f3)) := (blk_cell BK120.out 3).trans rfl
                            have hcz43_4 : wc.cell? ⟨gb120, 4, none⟩ = some (.int .u16 ((rd_T38 l0 x10_1).f4)) := (blk_cell BK120.out 4).trans rfl
                            have hfz43_0 := blk_frozen BK120.out 0
                            have hfz43_1 := blk_frozen BK120.out 1
                            have hfz43_2 := blk_frozen BK120.out 2
                            have hfz43_3 := blk_frozen BK120.out 3
                            have hfz43_4 := blk_frozen BK120.out 4
                            go_wp2
                            go_ret
                            exact ⟨by first | rfl | (simp [errW_none, errW_some] <;> rfl) | (simp [*, errW_none, errW_some] <;> rfl), by repeat (first | (with_reducible first | exact HB.out | apply below_alloc | apply pw_below_drewN | apply below_drew1 | refine below_set ?_ GE120.out) | exact HB.out)⟩
                          · rw [if_neg c42] at H
                            have c42b0 : (((rd_T38 l0 x10_1).f3) == 0) = false := beq_eq_false_iff_ne.mpr c42
                            have c42b1 : (((rd_T38 l0 x10_1).f3) != 0) = true := bne_iff_ne.mpr c42
                            by_cases c44 : ((rd_T38 l0 x10_1).f4) = 0
                            · rw [if_pos c44] at H
                              have c44b0 : (((rd_T38 l0 x10_1).f4) == 0) = true := beq_iff_eq.mpr c44
                              have c44b1 : (((rd_T38 l0 x10_1).f4) != 0) = false := bne_eq_false_iff_eq.mpr c44
                              clear c44
                              obtain rfl := Option.some.inj H
                              have hcz45_0 : wc.cell? ⟨gb120, 0, none⟩ = some (.int .u8 ((rd_T38 l0 x10_1).f0)) := (blk_cell BK120.out 0).trans rfl
                              have hcz45_1 : wc.cell? ⟨gb120, 1, none⟩ = some (.string ((rd_T38 l0 x10_1).f1)) := (blk_cell BK120.out 1).trans rfl
                              have hcz45_2 : wc.cell? ⟨gb120, 2, none⟩ = some (.string ((rd_T38 l0 x10_1).f2)) := (blk_cell BK120.out 2).trans rfl
                              have hcz45_3 : wc.cell? ⟨gb120, 3, none⟩ = some (.int .u16 ((rd_T38 l0 x10_1).f3)) := (blk_cell BK120.out 3).trans rfl
                              have hcz45_4 : wc.cell? ⟨gb120, 4, none⟩ = some (.int .u16 ((rd_T38 l0 x10_1).f4)) := (blk_cell BK120.out 4).trans rfl
                              have hfz45_0 := blk_frozen BK120.out 0
                              have hfz45_1 := blk_frozen BK120.out 1
                              have hfz45_2 := blk_frozen BK120.out 2
                              have hfz45_3 := blk_frozen BK120.out 3
                              have hfz45_4 := blk_frozen BK120.out 4
                              go_wp2
                              go_ret
                              exact ⟨by first | rfl | (simp [errW_none, errW_some] <;> rfl) | (simp [*, errW_none, errW_some] <;> rfl), by repeat (first | (with_reducible first | exact HB.out | apply below_alloc | apply pw_below_drewN | apply below_drew1 | refine below_set ?_ GE120.out) | exact HB.out)⟩
                            · rw [if_neg c44] at H
                              have c44b0 : (((rd_T38 l0 x10_1).f4) == 0) = false := beq_eq_false_iff_ne.mpr c44
                              have c44b1 : (((rd_T38 l0 x10_1).f4) != 0) = true := bne_iff_ne.mpr c44
                              have H' := Aside0.mk H
                              clear H
                              have hcz46_0 : wc.cell? ⟨gb120, 0, none⟩ = some (.int .u8 ((rd_T38 l0 x10_1).f0)) := (blk_cell BK120.out 0).trans rfl
                              have hcz46_1 : wc.cell? ⟨gb120, 1, none⟩ = some (.string ((rd_T38 l0 x10_1).f1)) := (blk_cell BK120.out 1).trans rfl
                              have hcz46_2 : wc.cell? ⟨gb120, 2, none⟩ = some (.string ((rd_T38 l0 x10_1).f2)) := (blk_cell BK120.out 2).trans rfl
                              have hcz46_3 : wc.cell? ⟨gb120, 3, none⟩ = some (.int .u16 ((rd_T38 l0 x10_1).f3)) := (blk_cell BK120.out 3).trans rfl
                              have hcz46_4 : wc.cell? ⟨gb120, 4, none⟩ = some (.int .u16 ((rd_T38 l0 x10_1).f4)) := (blk_cell BK120.out 4).trans rfl
                              have hfz46_0 := blk_frozen BK120.out 0
                              have hfz46_1 := blk_frozen BK120.out 1
                              have hfz46_2 := blk_frozen BK120.out 2
                              have hfz46_3 := blk_frozen BK120.out 3
                              have hfz46_4 := blk_frozen BK120.out 4
                              go_wp2
                              go_roundg kj5
                              case measure => have := HK1.out; have := HJ5.out; omega
                              case rel => exact ⟨(wrap64 (x10_1 + 1)), (by first | rfl | (simp; done) | (simp [*]; done)), H', ⟨by have := HK1.out; have := HJ5.out; omega⟩, ⟨by repeat (first | (with_reducible first | exact HB.out | apply below_alloc | apply pw_below_drewN | apply below_drew1 | refine below_set ?_ GE120.out) | exact HB.out)⟩⟩
                        · rw [if_neg c41] at H
                          have c41b0 : (((rd_T38 l0 x10_1).f2).toList == ([] : List UInt8)) = false := beq_eq_false_iff_ne.mpr c41
                          have c41b1 : (((rd_T38 l0 x10_1).f2).toList != ([] : List UInt8)) = true := bne_iff_ne.mpr c41
                          obtain rfl := Option.some.inj H
                          have hcz47_0 : wc.cell? ⟨gb120, 0, none⟩ = some (.int .u8 ((rd_T38 l0 x10_1).f0)) := (blk_cell BK120.out 0).trans rfl
                          have hcz47_1 : wc.cell? ⟨gb120, 1, none⟩ = some (.string ((rd_T38 l0 x10_1).f1)) := (blk_cell BK120.out 1).trans rfl
                          have hcz47_2 : wc.cell? ⟨gb120, 2, none⟩ = some (.string ((rd_T38 l0 x10_1).f2)) := (blk_cell BK120.out 2).trans rfl
                          have hcz47_3 : wc.cell? ⟨gb120, 3, none⟩ = some (.int .u16 ((rd_T38 l0 x10_1).f3)) := (blk_cell BK120.out 3).trans rfl
                          have hcz47_4 : wc.cell? ⟨gb120, 4, none⟩ = some (.int .u16 ((rd_T38 l0 x10_1).f4)) := (blk_cell BK120.out 4).trans rfl
                          have hfz47_0 := blk_frozen BK120.out 0
                          have hfz47_1 := blk_frozen BK120.out 1
                          have hfz47_2 := blk_frozen BK120.out 2
                          have hfz47_3 := blk_frozen BK120.out 3
                          have hfz47_4 := blk_frozen BK120.out 4
                          go_wp2
                          go_ret
                          exact ⟨by first | rfl | (simp [errW_none, errW_some] <;> rfl) | (simp [*, errW_none, errW_some] <;> rfl), by repeat (first | (with_reducible first | exact HB.out | apply below_alloc | apply pw_below_drewN | apply below_drew1 | refine below_set ?_ GE120.out) | exact HB.out)⟩
                      · rw [if_neg c40] at H
                        have c40b0 : (((rd_T38 l0 x10_1).f1).toList == ([] : List UInt8)) = false := beq_eq_false_iff_ne.mpr c40
                        have c40b1 : (((rd_T38 l0 x10_1).f1).toList != ([] : List UInt8)) = true := bne_iff_ne.mpr c40
                        obtain rfl := Option.some.inj H
                        have hcz48_0 : wc.cell? ⟨gb120, 0, none⟩ = some (.int .u8 ((rd_T38 l0 x10_1).f0)) := (blk_cell BK120.out 0).trans rfl
                        have hcz48_1 : wc.cell? ⟨gb120, 1, none⟩ = some (.string ((rd_T38 l0 x10_1).f1)) := (blk_cell BK120.out 1).trans rfl
                        have hcz48_2 : wc.cell? ⟨gb120, 2, none⟩ = some (.string ((rd_T38 l0 x10_1).f2)) := (blk_cell BK120.out 2).trans rfl
                        have hcz48_3 : wc.cell? ⟨gb120, 3, none⟩ = some (.int .u16 ((rd_T38 l0 x10_1).f3)) := (blk_cell BK120.out 3).trans rfl
                        have hcz48_4 : wc.cell? ⟨gb120, 4, none⟩ = some (.int .u16 ((rd_T38 l0 x10_1).f4)) := (blk_cell BK120.out 4).trans rfl
                        have hfz48_0 := blk_frozen BK120.out 0
                        have hfz48_1 := blk_frozen BK120.out 1
                        have hfz48_2 := blk_frozen BK120.out 2
                        have hfz48_3 := blk_frozen BK120.out 3
                        have hfz48_4 := blk_frozen BK120.out 4
                        go_wp2
                        go_ret
                        exact ⟨by first | rfl | (simp [errW_none, errW_some] <;> rfl) | (simp [*, errW_none, errW_some] <;> rfl), by repeat (first | (with_reducible first | exact HB.out | apply below_alloc | apply pw_below_drewN | apply below_drew1 | refine below_set ?_ GE120.out) | exact HB.out)⟩
                    · rw [if_neg c39] at H
                      have c39b0 : (((rd_T38 l0 x10_1).f0) == 4) = false := beq_eq_false_iff_ne.mpr c39
                      have c39b1 : (((rd_T38 l0 x10_1).f0) != 4) = true := bne_iff_ne.mpr c39
                      obtain rfl := Option.some.inj H
                      go_wp2
                      go_ret
                      exact ⟨by first | rfl | (simp [errW_none, errW_some] <;> rfl) | (simp [*, errW_none, errW_some] <;> rfl), by repeat (first | (with_reducible first | exact HB.out | apply below_alloc | apply pw_below_drewN | apply below_drew1 | refine below_set ?_ GE120.out) | exact HB.out)⟩
            · rw [if_neg c5] at H
              exact absurd H (by simp)
          · rw [if_neg c4] at H
            exact absurd H (by simp)
        · rw [if_neg c3] at H
          have c3b0 : decide (x10_1 < (l0.length : Int)) = false := decide_eq_false c3
          clear c3
          obtain rfl := Option.some.inj H
          go_wp2
          go_ret
          exact ⟨by first | rfl | (simp [errW_none, errW_some] <;> rfl) | (simp [*, errW_none, errW_some] <;> rfl), by repeat (first | (with_reducible first | exact HB.out | apply below_alloc | apply pw_below_drewN | apply below_drew1) | exact HB.out)⟩

end Go.Proofs.Ytfcmphigmfdceaa.Print
