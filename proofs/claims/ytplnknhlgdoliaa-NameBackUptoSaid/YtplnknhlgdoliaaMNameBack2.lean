/- A part of the proof of NameBackSaid: 11 texts in one. -/
import Derived.Test.YtplnknhlgdoliaaMNameBack1
section
-- Written by a program of this session, built on the kit's print (it is not the print's own text).
namespace Go.Proofs.Ytplnknhlgdoliaa.Print
open Go.RowKit Go.Proofs.YtplnknhlgdoliaaW.PrintWords Go.Proofs.YtplnknhlgdoliaaW.PrintLast Go.Proofs.YtplnknhlgdoliaaW.PrintMore
attribute [local go_sem] max2_int min2_int max_two min_two max_three min_three max_four min_four   -- for this text's walks alone
set_option linter.unusedVariables false
set_option linter.unusedSimpArgs false

/-! ### hearsayref01_text: function 60 -/
mutual
def hearsayref01_text.l0 : Nat → ByteArray → ByteArray → Int → Option (Int)
  | 0, _, _, _ => none
  | k + 1, x0, x1, x5 => if x5 < (x0.size : Int) then (hearsayref01_text.j1 k x0 x1 x5 (decide (x5 < (x1.size : Int)))) else (hearsayref01_text.j1 k x0 x1 x5 false)
def hearsayref01_text.j1 : Nat → ByteArray → ByteArray → Int → Bool → Option (Int)
  | 0, _, _, _, _ => none
  | k + 1, x0, x1, x5, x15 => if x15 = true then (if 0 ≤ x5 then (if x5 < (x0.size : Int) then (if x5 < (x1.size : Int) then (if (bt x0 x5) = (bt x1 x5) then (hearsayref01_text.l0 k x0 x1 (wrap64 (x5 + 1))) else (if (bt x0 x5) < (bt x1 x5) then (some (-1)) else (some 1))) else (none)) else (none)) else (none)) else (if (x0.size : Int) = (x1.size : Int) then (some 0) else (if (x0.size : Int) < (x1.size : Int) then (some (-1)) else (some 1)))
end
def hearsayref01_text.f (k : Nat) (a0 : ByteArray) (a1 : ByteArray) : Option (Int) := hearsayref01_text.l0 k a0 a1 0
theorem hearsayref01_text.mono_l : ∀ k, (∀ y0 y1 y2, LeO (hearsayref01_text.l0 k y0 y1 y2) (hearsayref01_text.l0 (k + 1) y0 y1 y2)) ∧ (∀ y0 y1 y2 y3, LeO (hearsayref01_text.j1 k y0 y1 y2 y3) (hearsayref01_text.j1 (k + 1) y0 y1 y2 y3))
  | 0 => ⟨fun _ _ _ r h => by simp [hearsayref01_text.l0] at h, fun _ _ _ _ r h => by simp [hearsayref01_text.j1] at h⟩
  | k + 1 => by
    obtain ⟨ih0, ih1⟩ := hearsayref01_text.mono_l k
    refine ⟨?_, ?_⟩
    · intro y0 y1 y2
      unfold hearsayref01_text.l0
      repeat' first
      | (with_reducible exact ih0 _ _ _)
      | (with_reducible exact ih1 _ _ _ _)
      | (with_reducible exact LeO.refl _)
      | (with_reducible exact LeO.none _)
      | (with_reducible refine LeO.ite ?_ ?_)
      | (with_reducible refine LeO.bind ?_ (fun _ => ?_))
      | exact ih0 _ _ _
      | exact ih1 _ _ _ _
      | exact LeO.none _
      | refine LeO.ite ?_ ?_
      | refine LeO.bind ?_ (fun _ => ?_)
    · intro y0 y1 y2 y3
      unfold hearsayref01_text.j1
      repeat' first
      | (with_reducible exact ih0 _ _ _)
      | (with_reducible exact ih1 _ _ _ _)
      | (with_reducible exact LeO.refl _)
      | (with_reducible exact LeO.none _)
      | (with_reducible refine LeO.ite ?_ ?_)
      | (with_reducible refine LeO.bind ?_ (fun _ => ?_))
      | exact ih0 _ _ _
      | exact ih1 _ _ _ _
      | exact LeO.none _
      | refine LeO.ite ?_ ?_
      | refine LeO.bind ?_ (fun _ => ?_)
theorem hearsayref01_text.mono : ∀ a0 a1 k, LeO (hearsayref01_text.f k a0 a1) (hearsayref01_text.f (k + 1) a0 a1) := by
  intro a0 a1 k
  obtain ⟨ih0, ih1⟩ := hearsayref01_text.mono_l k
  unfold hearsayref01_text.f
  repeat' first
      | (with_reducible exact ih0 _ _ _)
      | (with_reducible exact ih1 _ _ _ _)
      | (with_reducible exact LeO.refl _)
      | (with_reducible exact LeO.none _)
      | (with_reducible refine LeO.ite ?_ ?_)
      | (with_reducible refine LeO.bind ?_ (fun _ => ?_))
      | exact ih0 _ _ _
      | exact ih1 _ _ _ _
      | exact LeO.none _
      | refine LeO.ite ?_ ?_
      | refine LeO.bind ?_ (fun _ => ?_)
set_option maxHeartbeats 8000000 in
set_option maxRecDepth 100000 in
theorem hearsayref01_text.calls (k : Nat) (a0 : ByteArray) (a1 : ByteArray) (r : Int) (w : World) (h : hearsayref01_text.f k a0 a1 = some r) :
    Calls Try.prog 60 #[.string a0, .string a1] w fun e w' => e = .returned (.int .i64 r) ∧ Drawn0 w w' := by
  have H : (hearsayref01_text.l0 k a0 a1 0) = some r := h
  clear h
  have H' := Aside0.mk H
  clear H
  go_enter Try.func60, Try.ntmps60
  go_wp2
  repeat (go_quiet (fail); try go_wp2)
  go_loopg [5] k (fun kq v5 w' => ∃ (x5_1 : Int), v5 = .int .i64 x5_1 ∧ Aside0 (hearsayref01_text.l0 kq a0 a1 x5_1 = some r) ∧ Aside0 (kq ≤ k) ∧ Drawn0 w w')
  case atStart => exact ⟨(0), (by first | rfl | (simp; done) | (simp [*]; done)), H', ⟨Nat.le_refl _⟩, by repeat (first | exact Drawn0.refl _ | apply Drawn0.step)⟩
  case round =>
    clear H'
    try clear p2
    obtain ⟨x5_1, rfl, HA, HK1, ⟨m1, rfl⟩⟩ := hrel
    cases gk with
    | zero => exact absurd HA.out (by simp [hearsayref01_text.l0])
    | succ k1 =>
      have H := HA.out
      clear HA
      simp only [hearsayref01_text.l0] at H
      have HC3 := Aside0.mk H
      clear H
      go_upto_region 2 with (fail)
      repeat (go_quiet (fail); go_upto_region 2 with (fail))
      go_cut [15] (fun v15 wc => ∃ (kq : Nat) (x15_2 : Bool), v15 = .bool x15_2 ∧ Aside0 (hearsayref01_text.j1 kq a0 a1 x5_1 x15_2 = some r) ∧ Aside0 (kq ≤ k1) ∧ Drawn0 w wc)
      case first =>
        have H := HC3.out
        clear HC3
        by_cases c4 : x5_1 < (a0.size : Int)
        · rw [if_pos c4] at H
          have c4b0 : decide (x5_1 < (a0.size : Int)) = true := decide_eq_true c4
          clear c4
          (first | rw [c4b0] | (simp only [i64_w, i32_w]; rw [c4b0]) | skip)
          have H' := Aside0.mk H
          clear H
          go_wp2
          repeat (go_quiet (fail); try go_wp2)
          go_meet
          case rel => exact ⟨_, (decide (x5_1 < (a1.size : Int))), (by first | rfl | (simp; done) | (simp [*]; done)), H', ⟨by have := HK1.out; first | omega | exact Nat.le_refl _⟩, by repeat (first | exact Drawn0.refl _ | apply Drawn0.step)⟩
        · rw [if_neg c4] at H
          have c4b0 : decide (x5_1 < (a0.size : Int)) = false := decide_eq_false c4
          clear c4
          (first | rw [c4b0] | (simp only [i64_w, i32_w]; rw [c4b0]) | skip)
          have H' := Aside0.mk H
          clear H
          go_wp2
          repeat (go_quiet (fail); try go_wp2)
          go_meet
          case rel => exact ⟨_, (false), (by first | rfl | (simp; done) | (simp [*]; done)), H', ⟨by have := HK1.out; first | omega | exact Nat.le_refl _⟩, by repeat (first | exact Drawn0.refl _ | apply Drawn0.step)⟩
      case rest =>
        clear HC3
        try clear p2
        try clear c4
        try clear c4b0
        try clear p2
        obtain ⟨kq, x15_2, rfl, HA, HJ2, ⟨mc2, rfl⟩⟩ := hcut
        cases kq with
        | zero => exact absurd HA.out (by simp [hearsayref01_text.j1])
        | succ kj2 =>
          have H := HA.out
          clear HA
          simp only [hearsayref01_text.j1] at H
          by_cases c5 : x15_2 = true
          · subst c5
            have H1 : (if 0 ≤ x5_1 then (if x5_1 < (a0.size : Int) then (if x5_1 < (a1.size : Int) then (if (bt a0 x5_1) = (bt a1 x5_1) then (hearsayref01_text.l0 kj2 a0 a1 (wrap64 (x5_1 + 1))) else (if (bt a0 x5_1) < (bt a1 x5_1) then (some (-1)) else (some 1))) else (none)) else (none)) else (none)) = some r := by rw [if_pos rfl] at H; exact H
            clear H
            have H := H1
            clear H1
            by_cases c6 : 0 ≤ x5_1
            · rw [if_pos c6] at H
              have c6b0 : decide (0 ≤ x5_1) = true := decide_eq_true c6
              clear c6
              by_cases c7 : x5_1 < (a0.size : Int)
              · rw [if_pos c7] at H
                have c7b0 : decide (x5_1 < (a0.size : Int)) = true := decide_eq_true c7
                clear c7
                by_cases c9 : x5_1 < (a1.size : Int)
                · rw [if_pos c9] at H
                  have c9b0 : decide (x5_1 < (a1.size : Int)) = true := decide_eq_true c9
                  clear c9
                  by_cases c11 : (bt a0 x5_1) = (bt a1 x5_1)
                  · rw [if_pos c11] at H
                    have c11b0 : ((bt a0 x5_1) == (bt a1 x5_1)) = true := beq_iff_eq.mpr c11
                    have c11b1 : ((bt a0 x5_1) != (bt a1 x5_1)) = false := bne_eq_false_iff_eq.mpr c11
                    clear c11
                    have H' := Aside0.mk H
                    clear H
                    have p8 : 0 ≤ (x5_1 : Int) := of_decide_eq_true (by first | (with_reducible assumption) | assumption)
                    have q8 : x5_1 < (a0.size : Int) := of_decide_eq_true (by first | (with_reducible assumption) | assumption)
                    have hx8 := bt_at a0 x5_1
                    replace p8 := eq_true p8
                    replace q8 := eq_true q8
                    have p10 : 0 ≤ (x5_1 : Int) := of_decide_eq_true (by first | (with_reducible assumption) | assumption)
                    have q10 : x5_1 < (a1.size : Int) := of_decide_eq_true (by first | (with_reducible assumption) | assumption)
                    have hx10 := bt_at a1 x5_1
                    replace p10 := eq_true p10
                    replace q10 := eq_true q10
                    go_wp2
                    repeat (go_quiet (fail); try go_wp2)
                    go_roundg kj2
                    case measure => have := HK1.out; have := HJ2.out; omega
                    case rel => exact ⟨(wrap64 (x5_1 + 1)), (by first | rfl | (simp; done) | (simp [*]; done)), H', ⟨by have := HK1.out; have := HJ2.out; omega⟩, by repeat (first | exact Drawn0.refl _ | apply Drawn0.step)⟩
                  · rw [if_neg c11] at H
                    have c11b0 : ((bt a0 x5_1) == (bt a1 x5_1)) = false := beq_eq_false_iff_ne.mpr c11
                    have c11b1 : ((bt a0 x5_1) != (bt a1 x5_1)) = true := bne_iff_ne.mpr c11
                    by_cases c14 : (bt a0 x5_1) < (bt a1 x5_1)
                    · rw [if_pos c14] at H
                      have c14b0 : decide ((bt a0 x5_1) < (bt a1 x5_1)) = true := decide_eq_true c14
                      clear c14
                      obtain rfl := Option.some.inj H
                      have p8 : 0 ≤ (x5_1 : Int) := of_decide_eq_true (by first | (with_reducible assumption) | assumption)
                      have q8 : x5_1 < (a0.size : Int) := of_decide_eq_true (by first | (with_reducible assumption) | assumption)
                      have hx8 := bt_at a0 x5_1
                      replace p8 := eq_true p8
                      replace q8 := eq_true q8
                      have p10 : 0 ≤ (x5_1 : Int) := of_decide_eq_true (by first | (with_reducible assumption) | assumption)
                      have q10 : x5_1 < (a1.size : Int) := of_decide_eq_true (by first | (with_reducible assumption) | assumption)
                      have hx10 := bt_at a1 x5_1
                      replace p10 := eq_true p10
                      replace q10 := eq_true q10
                      have p12 : 0 ≤ (x5_1 : Int) := of_decide_eq_true (by first | (with_reducible assumption) | assumption)
                      have q12 : x5_1 < (a0.size : Int) := of_decide_eq_true (by first | (with_reducible assumption) | assumption)
                      have hx12 := bt_at a0 x5_1
                      replace p12 := eq_true p12
                      replace q12 := eq_true q12
                      have p13 : 0 ≤ (x5_1 : Int) := of_decide_eq_true (by first | (with_reducible assumption) | assumption)
                      have q13 : x5_1 < (a1.size : Int) := of_decide_eq_true (by first | (with_reducible assumption) | assumption)
                      have hx13 := bt_at a1 x5_1
                      replace p13 := eq_true p13
                      replace q13 := eq_true q13
                      go_wp2
                      repeat (go_quiet (fail); try go_wp2)
                      go_ret
                      exact ⟨by first | rfl | (simp; done) | (simp [*]; done), by repeat (first | exact Drawn0.refl _ | apply Drawn0.step)⟩
                    · rw [if_neg c14] at H
                      have c14b0 : decide ((bt a0 x5_1) < (bt a1 x5_1)) = false := decide_eq_false c14
                      clear c14
                      obtain rfl := Option.some.inj H
                      have p8 : 0 ≤ (x5_1 : Int) := of_decide_eq_true (by first | (with_reducible assumption) | assumption)
                      have q8 : x5_1 < (a0.size : Int) := of_decide_eq_true (by first | (with_reducible assumption) | assumption)
                      have hx8 := bt_at a0 x5_1
                      replace p8 := eq_true p8
                      replace q8 := eq_true q8
                      have p10 : 0 ≤ (x5_1 : Int) := of_decide_eq_true (by first | (with_reducible assumption) | assumption)
                      have q10 : x5_1 < (a1.size : Int) := of_decide_eq_true (by first | (with_reducible assumption) | assumption)
                      have hx10 := bt_at a1 x5_1
                      replace p10 := eq_true p10
                      replace q10 := eq_true q10
                      have p12 : 0 ≤ (x5_1 : Int) := of_decide_eq_true (by first | (with_reducible assumption) | assumption)
                      have q12 : x5_1 < (a0.size : Int) := of_decide_eq_true (by first | (with_reducible assumption) | assumption)
                      have hx12 := bt_at a0 x5_1
                      replace p12 := eq_true p12
                      replace q12 := eq_true q12
                      have p13 : 0 ≤ (x5_1 : Int) := of_decide_eq_true (by first | (with_reducible assumption) | assumption)
                      have q13 : x5_1 < (a1.size : Int) := of_decide_eq_true (by first | (with_reducible assumption) | assumption)
                      have hx13 := bt_at a1 x5_1
                      replace p13 := eq_true p13
                      replace q13 := eq_true q13
                      go_wp2
                      repeat (go_quiet (fail); try go_wp2)
                      go_ret
                      exact ⟨by first | rfl | (simp; done) | (simp [*]; done), by repeat (first | exact Drawn0.refl _ | apply Drawn0.step)⟩
                · rw [if_neg c9] at H
                  exact absurd H (by simp)
              · rw [if_neg c7] at H
                exact absurd H (by simp)
            · rw [if_neg c6] at H
              exact absurd H (by simp)
          · replace c5 := Bool.eq_false_iff.mpr c5
            subst c5
            have H1 : (if (a0.size : Int) = (a1.size : Int) then (some 0) else (if (a0.size : Int) < (a1.size : Int) then (some (-1)) else (some 1))) = some r := by rw [if_neg (show ¬ (false = true) by decide)] at H; exact H
            clear H
            have H := H1
            clear H1
            by_cases c15 : (a0.size : Int) = (a1.size : Int)
            · rw [if_pos c15] at H
              have c15b0 : ((a0.size : Int) == (a1.size : Int)) = true := beq_iff_eq.mpr c15
              have c15b1 : ((a0.size : Int) != (a1.size : Int)) = false := bne_eq_false_iff_eq.mpr c15
              have c15b2 : (a0.size == a1.size) = true := by first | simpa using c15 | (simp at c15 ⊢; omega)
              clear c15
              obtain rfl := Option.some.inj H
              go_wp2
              repeat (go_quiet (fail); try go_wp2)
              go_ret
              exact ⟨by first | rfl | (simp; done) | (simp [*]; done), by repeat (first | exact Drawn0.refl _ | apply Drawn0.step)⟩
            · rw [if_neg c15] at H
              have c15b0 : ((a0.size : Int) == (a1.size : Int)) = false := beq_eq_false_iff_ne.mpr c15
              have c15b1 : ((a0.size : Int) != (a1.size : Int)) = true := bne_iff_ne.mpr c15
              have c15b2 : (a0.size == a1.size) = false := by first | simpa using c15 | (simp at c15 ⊢; omega)
              by_cases c16 : (a0.size : Int) < (a1.size : Int)
              · rw [if_pos c16] at H
                have c16b0 : decide ((a0.size : Int) < (a1.size : Int)) = true := decide_eq_true c16
                have c16b1 : decide (a0.size < a1.size) = true := decide_eq_true (Int.ofNat_lt.mp c16)
                clear c16
                obtain rfl := Option.some.inj H
                go_wp2
                repeat (go_quiet (fail); try go_wp2)
                go_ret
                exact ⟨by first | rfl | (simp; done) | (simp [*]; done), by repeat (first | exact Drawn0.refl _ | apply Drawn0.step)⟩
              · rw [if_neg c16] at H
                have c16b0 : decide ((a0.size : Int) < (a1.size : Int)) = false := decide_eq_false c16
                have c16b1 : decide (a0.size < a1.size) = false := decide_eq_false (fun h => c16 (Int.ofNat_lt.mpr h))
                clear c16
                obtain rfl := Option.some.inj H
                go_wp2
                repeat (go_quiet (fail); try go_wp2)
                go_ret
                exact ⟨by first | rfl | (simp; done) | (simp [*]; done), by repeat (first | exact Drawn0.refl _ | apply Drawn0.step)⟩

end Go.Proofs.Ytplnknhlgdoliaa.Print
end
section
-- Written by a program of this session, built on the kit's print (it is not the print's own text).
namespace Go.Proofs.Ytplnknhlgdoliaa.Print
open Go.RowKit Go.Proofs.YtplnknhlgdoliaaW.PrintWords Go.Proofs.YtplnknhlgdoliaaW.PrintLast Go.Proofs.YtplnknhlgdoliaaW.PrintMore
attribute [local go_sem] max2_int min2_int max_two min_two max_three min_three max_four min_four   -- for this text's walks alone
set_option linter.unusedVariables false
set_option linter.unusedSimpArgs false

/-! ### hearsayref01_Cmp: function 42 -/
mutual
def hearsayref01_Cmp.j0 : Nat → ByteArray → ByteArray → List ByteArray → Bool → List ByteArray → Bool → Bool → Option (Int)
  | 0, _, _, _, _, _, _, _ => none
  | k + 1, x0, x1, x5, x6, x7, x8, x26 => if x26 = true then ((hearsayref01_text.f k x0 x1).bind fun t387 => (some t387)) else (if x6 = true then (if x8 = true then (hearsayref01_Cmp.l0 k x5 x7 1) else (some (-1))) else (some 1))
def hearsayref01_Cmp.l0 : Nat → List ByteArray → List ByteArray → Int → Option (Int)
  | 0, _, _, _ => none
  | k + 1, x5, x7, x9 => if x9 ≤ (x5.length : Int) then (hearsayref01_Cmp.j2 k x5 x7 x9 (decide (x9 ≤ (x7.length : Int)))) else (hearsayref01_Cmp.j2 k x5 x7 x9 false)
def hearsayref01_Cmp.j2 : Nat → List ByteArray → List ByteArray → Int → Bool → Option (Int)
  | 0, _, _, _, _ => none
  | k + 1, x5, x7, x9, x43 => if x43 = true then (if 0 ≤ (wrap64 ((x5.length : Int) - x9)) then (if (wrap64 ((x5.length : Int) - x9)) < (x5.length : Int) then ((hearsayref01_Low.f (rdOf ByteArray.empty x5 (wrap64 ((x5.length : Int) - x9)))).bind fun t389 => (if 0 ≤ (wrap64 ((x7.length : Int) - x9)) then (if (wrap64 ((x7.length : Int) - x9)) < (x7.length : Int) then ((hearsayref01_Low.f (rdOf ByteArray.empty x7 (wrap64 ((x7.length : Int) - x9)))).bind fun t391 => ((hearsayref01_text.f k t389 t391).bind fun t392 => (if t392 = 0 then (hearsayref01_Cmp.l0 k x5 x7 (wrap64 (x9 + 1))) else (some t392)))) else (none)) else (none))) else (none)) else (none)) else (if (x5.length : Int) = (x7.length : Int) then (some 0) else (if (x5.length : Int) < (x7.length : Int) then (some (-1)) else (some 1)))
end
def hearsayref01_Cmp.f (k : Nat) (a0 : ByteArray) (a1 : ByteArray) : Option (Int) := (hearsayref01_Split.f k a0).bind fun bt379 => ((hearsayref01_Split.f k a1).bind fun bt383 => (if bt379.2 = true then (hearsayref01_Cmp.j0 k a0 a1 bt379.1 bt379.2 bt383.1 bt383.2 false) else (hearsayref01_Cmp.j0 k a0 a1 bt379.1 bt379.2 bt383.1 bt383.2 (!bt383.2))))
theorem hearsayref01_Cmp.mono_l : ∀ k, (∀ y0 y1 y2 y3 y4 y5 y6, LeO (hearsayref01_Cmp.j0 k y0 y1 y2 y3 y4 y5 y6) (hearsayref01_Cmp.j0 (k + 1) y0 y1 y2 y3 y4 y5 y6)) ∧ (∀ y0 y1 y2, LeO (hearsayref01_Cmp.l0 k y0 y1 y2) (hearsayref01_Cmp.l0 (k + 1) y0 y1 y2)) ∧ (∀ y0 y1 y2 y3, LeO (hearsayref01_Cmp.j2 k y0 y1 y2 y3) (hearsayref01_Cmp.j2 (k + 1) y0 y1 y2 y3))
  | 0 => ⟨fun _ _ _ _ _ _ _ r h => by simp [hearsayref01_Cmp.j0] at h, fun _ _ _ r h => by simp [hearsayref01_Cmp.l0] at h, fun _ _ _ _ r h => by simp [hearsayref01_Cmp.j2] at h⟩
  | k + 1 => by
    obtain ⟨ih0, ih1, ih2⟩ := hearsayref01_Cmp.mono_l k
    refine ⟨?_, ?_, ?_⟩
    · intro y0 y1 y2 y3 y4 y5 y6
      unfold hearsayref01_Cmp.j0
      repeat' first
      | (with_reducible exact ih0 _ _ _ _ _ _ _)
      | (with_reducible exact ih1 _ _ _)
      | (with_reducible exact ih2 _ _ _ _)
      | (with_reducible exact hearsayref01_Split.mono _ _)
      | (with_reducible exact hearsayref01_text.mono _ _ _)
      | (with_reducible exact LeO.refl _)
      | (with_reducible exact LeO.none _)
      | (with_reducible refine LeO.ite ?_ ?_)
      | (with_reducible refine LeO.bind ?_ (fun _ => ?_))
      | exact ih0 _ _ _ _ _ _ _
      | exact ih1 _ _ _
      | exact ih2 _ _ _ _
      | exact hearsayref01_Split.mono _ _
      | exact hearsayref01_text.mono _ _ _
      | exact LeO.none _
      | refine LeO.ite ?_ ?_
      | refine LeO.bind ?_ (fun _ => ?_)
    · intro y0 y1 y2
      unfold hearsayref01_Cmp.l0
      repeat' first
      | (with_reducible exact ih0 _ _ _ _ _ _ _)
      | (with_reducible exact ih1 _ _ _)
      | (with_reducible exact ih2 _ _ _ _)
      | (with_reducible exact hearsayref01_Split.mono _ _)
      | (with_reducible exact hearsayref01_text.mono _ _ _)
      | (with_reducible exact LeO.refl _)
      | (with_reducible exact LeO.none _)
      | (with_reducible refine LeO.ite ?_ ?_)
      | (with_reducible refine LeO.bind ?_ (fun _ => ?_))
      | exact ih0 _ _ _ _ _ _ _
      | exact ih1 _ _ _
      | exact ih2 _ _ _ _
      | exact hearsayref01_Split.mono _ _
      | exact hearsayref01_text.mono _ _ _
      | exact LeO.none _
      | refine LeO.ite ?_ ?_
      | refine LeO.bind ?_ (fun _ => ?_)
    · intro y0 y1 y2 y3
      unfold hearsayref01_Cmp.j2
      repeat' first
      | (with_reducible exact ih0 _ _ _ _ _ _ _)
      | (with_reducible exact ih1 _ _ _)
      | (with_reducible exact ih2 _ _ _ _)
      | (with_reducible exact hearsayref01_Split.mono _ _)
      | (with_reducible exact hearsayref01_text.mono _ _ _)
      | (with_reducible exact LeO.refl _)
      | (with_reducible exact LeO.none _)
      | (with_reducible refine LeO.ite ?_ ?_)
      | (with_reducible refine LeO.bind ?_ (fun _ => ?_))
      | exact ih0 _ _ _ _ _ _ _
      | exact ih1 _ _ _
      | exact ih2 _ _ _ _
      | exact hearsayref01_Split.mono _ _
      | exact hearsayref01_text.mono _ _ _
      | exact LeO.none _
      | refine LeO.ite ?_ ?_
      | refine LeO.bind ?_ (fun _ => ?_)
theorem hearsayref01_Cmp.mono : ∀ a0 a1 k, LeO (hearsayref01_Cmp.f k a0 a1) (hearsayref01_Cmp.f (k + 1) a0 a1) := by
  intro a0 a1 k
  obtain ⟨ih0, ih1, ih2⟩ := hearsayref01_Cmp.mono_l k
  unfold hearsayref01_Cmp.f
  repeat' first
      | (with_reducible exact ih0 _ _ _ _ _ _ _)
      | (with_reducible exact ih1 _ _ _)
      | (with_reducible exact ih2 _ _ _ _)
      | (with_reducible exact hearsayref01_Split.mono _ _)
      | (with_reducible exact hearsayref01_text.mono _ _ _)
      | (with_reducible exact LeO.refl _)
      | (with_reducible exact LeO.none _)
      | (with_reducible refine LeO.ite ?_ ?_)
      | (with_reducible refine LeO.bind ?_ (fun _ => ?_))
      | exact ih0 _ _ _ _ _ _ _
      | exact ih1 _ _ _
      | exact ih2 _ _ _ _
      | exact hearsayref01_Split.mono _ _
      | exact hearsayref01_text.mono _ _ _
      | exact LeO.none _
      | refine LeO.ite ?_ ?_
      | refine LeO.bind ?_ (fun _ => ?_)
def hearsayref01_Cmp.T12 : Bool × List (List Nat × List Nat) := (true, [([], []), ([], []), ([1], [1]), ([], []), ([2, 3], [2, 3]), ([0, 4], [0, 4]), ([5], [5]), ([6], [6]), ([], []), ([], []), ([9], [9]), ([], []), ([10, 11], [10, 11]), ([8, 12], [8, 12]), ([13], [13]), ([14, 7], [14]), ([7, 15, 15], [7, 15]), ([16, 16, 0, 1, 2, 3, 4, 5, 6, 7, 8, 9, 10, 11, 12, 13, 14, 15, 16], [16])])
def hearsayref01_Cmp.B12 : List Nat := [0, 0, 2, 0, 14, 31, 63, 127, 0, 0, 512, 0, 3584, 7936, 16128, 32767, 65535, 131071]
theorem hearsayref01_Cmp.tab12 : rtab .any (opsOf Try.f42 12) = hearsayref01_Cmp.T12 := by kernel_rfl
theorem hearsayref01_Cmp.bits12 : waitsOk hearsayref01_Cmp.T12.2 hearsayref01_Cmp.B12 = true := by kernel_rfl
set_option maxHeartbeats 8000000 in
set_option maxRecDepth 100000 in
theorem hearsayref01_Cmp.calls (k : Nat) (a0 : ByteArray) (a1 : ByteArray) (r : Int) (w : World) (h : hearsayref01_Cmp.f k a0 a1 = some r) :
    Calls Try.prog 42 #[.string a0, .string a1] w fun e w' => e = .returned (.int .i64 r) ∧ Below w.heap.size w w' := by
  have HB := Aside0.mk (Below.refl w.heap.size w)
  have H : ((hearsayref01_Split.f k a0).bind fun bt379 => ((hearsayref01_Split.f k a1).bind fun bt383 => (if bt379.2 = true then (hearsayref01_Cmp.j0 k a0 a1 bt379.1 bt379.2 bt383.1 bt383.2 false) else (hearsayref01_Cmp.j0 k a0 a1 bt379.1 bt379.2 bt383.1 bt383.2 (!bt383.2))))) = some r := h
  clear h
  replace H := Option.bind_eq_some_iff.mp H
  obtain ⟨⟨t379, t380⟩, A30, H⟩ := H
  replace H : ((hearsayref01_Split.f k a1).bind fun bt383 => (if t380 = true then (hearsayref01_Cmp.j0 k a0 a1 t379 t380 bt383.1 bt383.2 false) else (hearsayref01_Cmp.j0 k a0 a1 t379 t380 bt383.1 bt383.2 (!bt383.2)))) = some r := H
  have A3 := Aside0.mk A30
  clear A30
  replace H := Option.bind_eq_some_iff.mp H
  obtain ⟨⟨t383, t384⟩, A40, H⟩ := H
  replace H : (if t380 = true then (hearsayref01_Cmp.j0 k a0 a1 t379 t380 t383 t384 false) else (hearsayref01_Cmp.j0 k a0 a1 t379 t380 t383 t384 (!t384))) = some r := H
  have A4 := Aside0.mk A40
  clear A40
  have HC5 := Aside0.mk H
  clear H
  go_enter Try.func42, Try.ntmps42
  go_upto_region 3 with (first | ((with_reducible refine gate_callee (f := 13) rfl ?_); refine goesL_ (some 13) rfl rfl Try.func13 (by kernel_rfl) rfl #[.string a0] rfl (by (try simp only [List.map_toArray, List.map_cons, List.map_nil]); first | done | rfl | (simp only [List.length_drop, List.length_take]; rfl)) ?_; (with_reducible refine (hearsayref01_Split.calls k a0 t379 t380 _ A3.out).mono ?_); rintro e w6 ⟨v381, rfl, ho0, hb⟩; refine ⟨_, rfl, ?_⟩; have n0_ := Aside0.mk (Kd.R_lower ho0 (below_size (by repeat (first | (with_reducible first | exact HB.out | apply below_alloc | apply pw_below_drewN | apply below_drew1) | exact HB.out)))); have n1_ := Aside0.mk (below_step (by repeat (first | (with_reducible first | exact HB.out | apply below_alloc | apply pw_below_drewN | apply below_drew1) | exact HB.out)) hb); clear HB; have HO382 := n0_; have HB := n1_; clear n0_ n1_; (try clear hb); (try clear hb2); (try clear hk); (try clear hi); (try clear ho0)) | ((with_reducible refine gate_callee (f := 13) rfl ?_); refine goesL_ (some 18) rfl rfl Try.func13 (by kernel_rfl) rfl #[.string a1] rfl (by (try simp only [List.map_toArray, List.map_cons, List.map_nil]); first | done | rfl | (simp only [List.length_drop, List.length_take]; rfl)) ?_; (with_reducible refine (hearsayref01_Split.calls k a1 t383 t384 _ A4.out).mono ?_); rintro e w7 ⟨v385, rfl, ho0, hb⟩; refine ⟨_, rfl, ?_⟩; have n0_ := Aside0.mk (Kd.R_elder' (by (with_reducible repeat (first | apply Kd.R_alloc | apply Kd.R_drewN | apply Kd.R_drew)); exact HO382.out) (Kd.R_base ho0) hb); have n1_ := Aside0.mk (Kd.R_lower (Kd.R_new' ho0 (Kd.R_lt (by (with_reducible repeat (first | apply Kd.R_alloc | apply Kd.R_drewN | apply Kd.R_drew)); exact HO382.out))) (below_size (by repeat (first | (with_reducible first | exact HB.out | apply below_alloc | apply pw_below_drewN | apply below_drew1) | exact HB.out)))); have n2_ := Aside0.mk (below_step (by repeat (first | (with_reducible first | exact HB.out | apply below_alloc | apply pw_below_drewN | apply below_drew1) | exact HB.out)) hb); clear HO382; clear HB; have HO382 := n0_; have HO386 := n1_; have HB := n2_; clear n0_ n1_ n2_; (try clear hb); (try clear hb2); (try clear hk); (try clear hi); (try clear ho0)))
  (try simp only [Act.put, List.setIfInBounds_toArray, List.set_cons_zero, List.set_cons_succ])
  go_cut [26] (fun v26 wc => ∃ (kq : Nat) (x26_4 : Bool), v26 = .bool x26_4 ∧ Aside0 (hearsayref01_Cmp.j0 kq a0 a1 t379 t380 t383 t384 x26_4 = some r) ∧ Aside0 (kq ≤ k) ∧ Aside0 (Kd.R Kd.string 9 wc w.heap.size (fun k_ => some k_ ≠ (v385 : Value).ownBlock) v381 t379) ∧ Aside0 (Kd.R Kd.string 9 wc w.heap.size (fun k_ => some k_ ≠ (v381 : Value).ownBlock) v385 t383) ∧ Aside0 (Below w.heap.size w wc))
  case first =>
    have H := HC5.out
    clear HC5
    by_cases c8 : t380 = true
    · subst c8
      have H1 : (hearsayref01_Cmp.j0 k a0 a1 t379 true t383 t384 false) = some r := by rw [if_pos rfl] at H; exact H
      clear H
      have H := H1
      clear H1
      have H' := Aside0.mk H
      clear H
      go_wp2
      go_meet
      case rel => exact ⟨_, (false), (by first | rfl | (simp; done) | (simp [*]; done)), H', ⟨by first | omega | exact Nat.le_refl _⟩, ⟨by (with_reducible repeat (first | apply Kd.R_alloc | apply Kd.R_drewN | apply Kd.R_drew)); exact Kd.R_mono HO382.out (fun _ hk => hk.2)⟩, ⟨by (with_reducible repeat (first | apply Kd.R_alloc | apply Kd.R_drewN | apply Kd.R_drew)); exact Kd.R_mono HO386.out (fun _ hk => hk.2)⟩, ⟨by repeat (first | (with_reducible first | exact HB.out | apply below_alloc | apply pw_below_drewN | apply below_drew1) | exact HB.out)⟩⟩
    · replace c8 := Bool.eq_false_iff.mpr c8
      subst c8
      have H1 : (hearsayref01_Cmp.j0 k a0 a1 t379 false t383 t384 (!t384)) = some r := by rw [if_neg (show ¬ (false = true) by decide)] at H; exact H
      clear H
      have H := H1
      clear H1
      have H' := Aside0.mk H
      clear H
      go_wp2
      go_meet
      case rel => exact ⟨_, (!t384), (by first | rfl | (simp; done) | (simp [*]; done)), H', ⟨by first | omega | exact Nat.le_refl _⟩, ⟨by (with_reducible repeat (first | apply Kd.R_alloc | apply Kd.R_drewN | apply Kd.R_drew)); exact Kd.R_mono HO382.out (fun _ hk => hk.2)⟩, ⟨by (with_reducible repeat (first | apply Kd.R_alloc | apply Kd.R_drewN | apply Kd.R_drew)); exact Kd.R_mono HO386.out (fun _ hk => hk.2)⟩, ⟨by repeat (first | (with_reducible first | exact HB.out | apply below_alloc | apply pw_below_drewN | apply below_drew1) | exact HB.out)⟩⟩
  case rest =>
    clear HC5
    try clear c1
    try clear p2
    try clear c4
    try clear c8
    obtain ⟨kq, x26_4, rfl, HA, HJ4, HO_5, HO_7, HB⟩ := hcut
    cases kq with
    | zero => exact absurd HA.out (by simp [hearsayref01_Cmp.j0])
    | succ kj4 =>
      have H := HA.out
      clear HA
      simp only [hearsayref01_Cmp.j0] at H
      by_cases c9 : x26_4 = true
      · subst c9
        have H1 : ((hearsayref01_text.f kj4 a0 a1).bind fun t387 => (some t387)) = some r := by rw [if_pos rfl] at H; exact H
        clear H
        have H := H1
        clear H1
        replace H := Option.bind_eq_some_iff.mp H
        obtain ⟨t387, A100, H⟩ := H
        replace H : (some t387) = some r := H
        have A10 := Aside0.mk A100
        clear A100
        obtain rfl := Option.some.inj H
        go_wp2_with (first | ((with_reducible refine gate_callee (f := 60) rfl ?_); refine goesL_ (some 29) rfl rfl Try.func60 (by kernel_rfl) rfl #[.string a0, .string a1] rfl (by (try simp only [List.map_toArray, List.map_cons, List.map_nil]); first | done | rfl | (simp only [List.length_drop, List.length_take]; rfl)) ?_; (with_reducible refine (hearsayref01_text.calls kj4 a0 a1 t387 _ A10.out).mono ?_); rintro e w' ⟨rfl, ⟨nd, rfl⟩⟩; refine ⟨_, rfl, ?_⟩))
        go_ret
        exact ⟨by first | rfl | (simp [errW_none, errW_some] <;> rfl) | (simp [*, errW_none, errW_some] <;> rfl), by repeat (first | (with_reducible first | exact HB.out | apply below_alloc | apply pw_below_drewN | apply below_drew1) | exact HB.out)⟩
      · replace c9 := Bool.eq_false_iff.mpr c9
        subst c9
        have H1 : (if t380 = true then (if t384 = true then (hearsayref01_Cmp.l0 kj4 t379 t383 1) else (some (-1))) else (some 1)) = some r := by rw [if_neg (show ¬ (false = true) by decide)] at H; exact H
        clear H
        have H := H1
        clear H1
        by_cases c11 : t380 = true
        · subst c11
          have H1 : (if t384 = true then (hearsayref01_Cmp.l0 kj4 t379 t383 1) else (some (-1))) = some r := by rw [if_pos rfl] at H; exact H
          clear H
          have H := H1
          clear H1
          by_cases c12 : t384 = true
          · subst c12
            have H1 : (hearsayref01_Cmp.l0 kj4 t379 t383 1) = some r := by rw [if_pos rfl] at H; exact H
            clear H
            have H := H1
            clear H1
            have H' := Aside0.mk H
            clear H
            go_wp2
            go_loopg [9] kj4 (fun kq v9 w' => ∃ (x9_2 : Int), v9 = .int .i64 x9_2 ∧ Aside0 (hearsayref01_Cmp.l0 kq t379 t383 x9_2 = some r) ∧ Aside0 (kq ≤ kj4) ∧ Aside0 (Kd.R Kd.string 9 w' w.heap.size (fun k_ => some k_ ≠ (v385 : Value).ownBlock) v381 t379) ∧ Aside0 (Kd.R Kd.string 9 w' w.heap.size (fun k_ => some k_ ≠ (v381 : Value).ownBlock) v385 t383) ∧ Aside0 (Below w.heap.size w w'))
            case atStart => exact ⟨(1), (by first | rfl | (simp; done) | (simp [*]; done)), H', ⟨Nat.le_refl _⟩, ⟨by (with_reducible repeat (first | apply Kd.R_alloc | apply Kd.R_drewN | apply Kd.R_drew)); exact HO_5.out⟩, ⟨by (with_reducible repeat (first | apply Kd.R_alloc | apply Kd.R_drewN | apply Kd.R_drew)); exact HO_7.out⟩, ⟨by repeat (first | (with_reducible first | exact HB.out | apply below_alloc | apply pw_below_drewN | apply below_drew1) | exact HB.out)⟩⟩
            case round =>
              clear H'
              try clear c1
              try clear p2
              try clear c4
              try clear c6
              try clear c8
              try clear c9
              try clear c11
              try clear c12
              try clear p2
              obtain ⟨x9_2, rfl, HA, HK2, HO_5, HO_7, HB⟩ := hrel
              cases gk with
              | zero => exact absurd HA.out (by simp [hearsayref01_Cmp.l0])
              | succ k2 =>
                have H := HA.out
                clear HA
                simp only [hearsayref01_Cmp.l0] at H
                have HC13 := Aside0.mk H
                clear H
                go_upto_region 10 with (fail)
                go_cut [43] (fun v43 wc => ∃ (kq : Nat) (x43_12 : Bool), v43 = .bool x43_12 ∧ Aside0 (hearsayref01_Cmp.j2 kq t379 t383 x9_2 x43_12 = some r) ∧ Aside0 (kq ≤ k2) ∧ Aside0 (Kd.R Kd.string 9 wc w.heap.size (fun k_ => some k_ ≠ (v385 : Value).ownBlock) v381 t379) ∧ Aside0 (Kd.R Kd.string 9 wc w.heap.size (fun k_ => some k_ ≠ (v381 : Value).ownBlock) v385 t383) ∧ Aside0 (Below w.heap.size w wc))
                case first =>
                  have H := HC13.out
                  clear HC13
                  by_cases c14 : x9_2 ≤ (t379.length : Int)
                  · rw [if_pos c14] at H
                    have c14b0 : decide (x9_2 ≤ (t379.length : Int)) = true := decide_eq_true c14
                    clear c14
                    (first | rw [c14b0] | (simp only [i64_w, i32_w]; rw [c14b0]) | skip)
                    have H' := Aside0.mk H
                    clear H
                    obtain ⟨Ao15, co15, eo15⟩ := Kd.R_slice HO_5.out
                    subst eo15
                    obtain ⟨Ao16, co16, eo16⟩ := Kd.R_slice HO_7.out
                    subst eo16
                    go_wp2
                    go_meet
                    case rel => exact ⟨_, (decide (x9_2 ≤ (t383.length : Int))), (by first | rfl | (simp; done) | (simp [*]; done)), H', ⟨by have := HJ4.out; have := HK2.out; first | omega | exact Nat.le_refl _⟩, ⟨by (with_reducible repeat (first | apply Kd.R_alloc | apply Kd.R_drewN | apply Kd.R_drew)); exact HO_5.out⟩, ⟨by (with_reducible repeat (first | apply Kd.R_alloc | apply Kd.R_drewN | apply Kd.R_drew)); exact HO_7.out⟩, ⟨by repeat (first | (with_reducible first | exact HB.out | apply below_alloc | apply pw_below_drewN | apply below_drew1) | exact HB.out)⟩⟩
                  · rw [if_neg c14] at H
                    have c14b0 : decide (x9_2 ≤ (t379.length : Int)) = false := decide_eq_false c14
                    clear c14
                    (first | rw [c14b0] | (simp only [i64_w, i32_w]; rw [c14b0]) | skip)
                    have H' := Aside0.mk H
                    clear H
                    obtain ⟨Ao17, co17, eo17⟩ := Kd.R_slice HO_5.out
                    subst eo17
                    go_wp2
                    go_meet
                    case rel => exact ⟨_, (false), (by first | rfl | (simp; done) | (simp [*]; done)), H', ⟨by have := HJ4.out; have := HK2.out; first | omega | exact Nat.le_refl _⟩, ⟨by (with_reducible repeat (first | apply Kd.R_alloc | apply Kd.R_drewN | apply Kd.R_drew)); exact HO_5.out⟩, ⟨by (with_reducible repeat (first | apply Kd.R_alloc | apply Kd.R_drewN | apply Kd.R_drew)); exact HO_7.out⟩, ⟨by repeat (first | (with_reducible first | exact HB.out | apply below_alloc | apply pw_below_drewN | apply below_drew1) | exact HB.out)⟩⟩
                case rest =>
                  clear HC13
                  try clear c1
                  try clear p2
                  try clear c4
                  try clear c6
                  try clear c8
                  try clear c9
                  try clear c11
                  try clear c12
                  try clear c13
                  try clear c14
                  try clear c14b0
                  try clear p2
                  obtain ⟨kq, x43_12, rfl, HA, HJ12, HO_5, HO_7, HB⟩ := hcut
                  cases kq with
                  | zero => exact absurd HA.out (by simp [hearsayref01_Cmp.j2])
                  | succ kj12 =>
                    have H := HA.out
                    clear HA
                    simp only [hearsayref01_Cmp.j2] at H
                    by_cases c18 : x43_12 = true
                    · subst c18
                      have H1 : (if 0 ≤ (wrap64 ((t379.length : Int) - x9_2)) then (if (wrap64 ((t379.length : Int) - x9_2)) < (t379.length : Int) then ((hearsayref01_Low.f (rdOf ByteArray.empty t379 (wrap64 ((t379.length : Int) - x9_2)))).bind fun t389 => (if 0 ≤ (wrap64 ((t383.length : Int) - x9_2)) then (if (wrap64 ((t383.length : Int) - x9_2)) < (t383.length : Int) then ((hearsayref01_Low.f (rdOf ByteArray.empty t383 (wrap64 ((t383.length : Int) - x9_2)))).bind fun t391 => ((hearsayref01_text.f kj12 t389 t391).bind fun t392 => (if t392 = 0 then (hearsayref01_Cmp.l0 kj12 t379 t383 (wrap64 (x9_2 + 1))) else (some t392)))) else (none)) else (none))) else (none)) else (none)) = some r := by rw [if_pos rfl] at H; exact H
                      clear H
                      have H := H1
                      clear H1
                      obtain ⟨ji19, hji19⟩ : ∃ j_ : Int, (wrap64 ((t379.length : Int) - x9_2)) = j_ := ⟨_, rfl⟩
                      replace H : (if 0 ≤ (ji19) then (if (ji19) < (t379.length : Int) then ((hearsayref01_Low.f (rdOf ByteArray.empty t379 (ji19))).bind fun t389 => (if 0 ≤ (wrap64 ((t383.length : Int) - x9_2)) then (if (wrap64 ((t383.length : Int) - x9_2)) < (t383.length : Int) then ((hearsayref01_Low.f (rdOf ByteArray.empty t383 (wrap64 ((t383.length : Int) - x9_2)))).bind fun t391 => ((hearsayref01_text.f kj12 t389 t391).bind fun t392 => (if t392 = 0 then (hearsayref01_Cmp.l0 kj12 t379 t383 (wrap64 (x9_2 + 1))) else (some t392)))) else (none)) else (none))) else (none)) else (none)) = some r := by first | (rw [hji19] at H; exact H) | (simp only [hji19] at H ⊢; exact H)
                      have hji19w : (IntKind.i64.wrap ((t379.length : Int) - x9_2)) = ji19 := (i64_w _).trans hji19
                      by_cases c20 : 0 ≤ (ji19)
                      · rw [if_pos c20] at H
                        have c20b0 : decide (0 ≤ (ji19)) = true := decide_eq_true c20
                        clear c20
                        by_cases c21 : (ji19) < (t379.length : Int)
                        · rw [if_pos c21] at H
                          have c21b0 : decide ((ji19) < (t379.length : Int)) = true := decide_eq_true c21
                          clear c21
                          replace H := Option.bind_eq_some_iff.mp H
                          obtain ⟨t389, A220, H⟩ := H
                          replace H : (if 0 ≤ (wrap64 ((t383.length : Int) - x9_2)) then (if (wrap64 ((t383.length : Int) - x9_2)) < (t383.length : Int) then ((hearsayref01_Low.f (rdOf ByteArray.empty t383 (wrap64 ((t383.length : Int) - x9_2)))).bind fun t391 => ((hearsayref01_text.f kj12 t389 t391).bind fun t392 => (if t392 = 0 then (hearsayref01_Cmp.l0 kj12 t379 t383 (wrap64 (x9_2 + 1))) else (some t392)))) else (none)) else (none)) = some r := H
                          have A22 := Aside0.mk A220
                          clear A220
                          obtain ⟨ji23, hji23⟩ : ∃ j_ : Int, (wrap64 ((t383.length : Int) - x9_2)) = j_ := ⟨_, rfl⟩
                          replace H : (if 0 ≤ (ji23) then (if (ji23) < (t383.length : Int) then ((hearsayref01_Low.f (rdOf ByteArray.empty t383 (ji23))).bind fun t391 => ((hearsayref01_text.f kj12 t389 t391).bind fun t392 => (if t392 = 0 then (hearsayref01_Cmp.l0 kj12 t379 t383 (wrap64 (x9_2 + 1))) else (some t392)))) else (none)) else (none)) = some r := by first | (rw [hji23] at H; exact H) | (simp only [hji23] at H ⊢; exact H)
                          (try rw [hji23] at A22)
                          have hji23w : (IntKind.i64.wrap ((t383.length : Int) - x9_2)) = ji23 := (i64_w _).trans hji23
                          by_cases c24 : 0 ≤ (ji23)
                          · rw [if_pos c24] at H
                            have c24b0 : decide (0 ≤ (ji23)) = true := decide_eq_true c24
                            clear c24
                            by_cases c25 : (ji23) < (t383.length : Int)
                            · rw [if_pos c25] at H
                              have c25b0 : decide ((ji23) < (t383.length : Int)) = true := decide_eq_true c25
                              clear c25
                              replace H := Option.bind_eq_some_iff.mp H
                              obtain ⟨t391, A260, H⟩ := H
                              replace H : ((hearsayref01_text.f kj12 t389 t391).bind fun t392 => (if t392 = 0 then (hearsayref01_Cmp.l0 kj12 t379 t383 (wrap64 (x9_2 + 1))) else (some t392))) = some r := H
                              have A26 := Aside0.mk A260
                              clear A260
                              replace H := Option.bind_eq_some_iff.mp H
                              obtain ⟨t392, A270, H⟩ := H
                              replace H : (if t392 = 0 then (hearsayref01_Cmp.l0 kj12 t379 t383 (wrap64 (x9_2 + 1))) else (some t392)) = some r := H
                              have A27 := Aside0.mk A270
                              clear A270
                              by_cases c28 : t392 = 0
                              · rw [if_pos c28] at H
                                have c28b0 : (t392 == 0) = true := beq_iff_eq.mpr c28
                                have c28b1 : (t392 != 0) = false := bne_eq_false_iff_eq.mpr c28
                                clear c28
                                have H' := Aside0.mk H
                                clear H
                                try go_wp2
                                have n0_ := Aside0.mk (Kd.R_drew HO_5.out)
                                have n1_ := Aside0.mk (Kd.R_drew HO_7.out)
                                have n2_ := Aside0.mk (below_drew1 HB.out)
                                clear HO_5
                                clear HO_7
                                clear HB
                                have HO_5 := n0_
                                have HO_7 := n1_
                                have HB := n2_
                                clear n0_ n1_ n2_
                                obtain ⟨Ao30, co30, eo30⟩ := Kd.R_slice HO_5.out
                                (first | subst eo30 | (injection eo30 with f1_ f2_ f3_; have f4_ := f1_.symm; have f5_ := f3_.symm; clear f1_ f2_ f3_; subst f4_; subst f5_))
                                have p388 : 0 ≤ ((ji19) : Int) := of_decide_eq_true (by first | (with_reducible assumption) | assumption)
                                have q388 : (ji19) < (t379.length : Int) := of_decide_eq_true (by first | (with_reducible assumption) | assumption)
                                obtain ⟨ad388, e388, hx388_0⟩ := Kd.at_string (Kd.R_reads' HO_5.out).2.2 (ji19) p388 q388
                                cases e388
                                replace p388 := eq_true p388
                                replace q388 := eq_true q388
                                obtain ⟨Ao31, co31, eo31⟩ := Kd.R_slice HO_7.out
                                (first | subst eo31 | (injection eo31 with f1_ f2_ f3_; have f4_ := f1_.symm; have f5_ := f3_.symm; clear f1_ f2_ f3_; subst f4_; subst f5_))
                                have p390 : 0 ≤ ((ji23) : Int) := of_decide_eq_true (by first | (with_reducible assumption) | assumption)
                                have q390 : (ji23) < (t383.length : Int) := of_decide_eq_true (by first | (with_reducible assumption) | assumption)
                                obtain ⟨ad390, e390, hx390_0⟩ := Kd.at_string (Kd.R_reads' HO_7.out).2.2 (ji23) p390 q390
                                cases e390
                                replace p390 := eq_true p390
                                replace q390 := eq_true q390
                                refine start_ (n := 18) (S := fun w' => w'.cell? (ad388.add ((ji19)).toNat) = some (.string (rdOf ByteArray.empty t379 (ji19))) ∧ w'.cell? (ad390.add ((ji23)).toNat) = some (.string (rdOf ByteArray.empty t383 (ji23)))) (ds := []) #[false, false, false, false, false, false, false, false, false, false, false, false, false, false, false, false, false, false] (by kernel_rfl) rfl rfl ⟨hx388_0, hx390_0⟩ (fun hHeld => ?_); refine with_tabW hearsayref01_Cmp.tab12 hearsayref01_Cmp.bits12 (fun HT_ HW_ => ?_)
                                generalize wc.drew = w29 at HO_5 HO_7 HB hx388_0 hx390_0 hHeld ⊢
                                refine pure_ (i := 0) (N := some 46) (v := ?_) (a' := ?_) #[true, false, false, false, false, false, false, false, false, false, false, false, false, false, false, false, false, false] rfl rfl (any_of HT_.out (by kernel_rfl)) (fun _ _ _ h => h) (Or.inl ⟨by rfl, ?_⟩) ?_ ?_
                                rotate_left
                                · intro w'
                                  go_simp
                                  with_reducible rfl
                                rotate_left
                                · simp only [Act.put, List.setIfInBounds_toArray, List.set_cons_zero, List.set_cons_succ, i64_w, i32_w]
                                  rfl
                                refine pure_ (i := 1) (N := some 47) (v := ?_) (a' := ?_) #[true, true, false, false, false, false, false, false, false, false, false, false, false, false, false, false, false, false] rfl rfl (any_of HT_.out (by kernel_rfl)) (fun _ _ _ h => h) (Or.inl ⟨by rfl, ?_⟩) ?_ ?_
                                rotate_left
                                · intro w'
                                  go_simp
                                  with_reducible rfl
                                rotate_left
                                · simp only [Act.put, List.setIfInBounds_toArray, List.set_cons_zero, List.set_cons_succ, i64_w, i32_w]
                                  rfl
                                refine pure_ (i := 2) (N := some 48) (v := ?_) (a' := ?_) #[true, true, true, false, false, false, false, false, false, false, false, false, false, false, false, false, false, false] rfl rfl (any_of HT_.out (by kernel_rfl)) (fun _ _ _ h => h) (Or.inl ⟨by rfl, ?_⟩) ?_ ?_
                                rotate_left
                                · intro w'
                                  go_simp
                                  with_reducible rfl
                                rotate_left
                                · simp only [Act.put, List.setIfInBounds_toArray, List.set_cons_zero, List.set_cons_succ, i64_w, i32_w]
                                  rfl
                                refine pure_ (i := 3) (N := some 49) (v := ?_) (a' := ?_) #[true, true, true, true, false, false, false, false, false, false, false, false, false, false, false, false, false, false] rfl rfl (any_of HT_.out (by kernel_rfl)) (fun _ _ _ h => h) (Or.inl ⟨by rfl, ?_⟩) ?_ ?_
                                rotate_left
                                · intro w'
                                  go_simp
                                  with_reducible rfl
                                rotate_left
                                · simp only [Act.put, List.setIfInBounds_toArray, List.set_cons_zero, List.set_cons_succ, i64_w, i32_w]
                                  rfl
                                refine pure_ (i := 4) (N := some 50) (v := ?_) (a' := ?_) #[true, true, true, true, true, false, false, false, false, false, false, false, false, false, false, false, false, false] rfl rfl (any_of HT_.out (by kernel_rfl)) (fun _ _ _ h => h) (Or.inl ⟨by rfl, ?_⟩) ?_ ?_
                                rotate_left
                                · intro w'
                                  go_simp
                                  with_reducible rfl
                                rotate_left
                                · simp only [Act.put, List.setIfInBounds_toArray, List.set_cons_zero, List.set_cons_succ, i64_w, i32_w]
                                  rfl
                                refine pure_ (i := 5) (N := some 51) (v := ?_) (a' := ?_) #[true, true, true, true, true, true, false, false, false, false, false, false, false, false, false, false, false, false] rfl rfl (any_of HT_.out (by kernel_rfl)) (fun _ _ _ h => h) (Or.inl ⟨by rfl, ?_⟩) ?_ ?_
                                rotate_left
                                · intro w'
                                  go_simp
                                  with_reducible rfl
                                rotate_left
                                · simp only [Act.put, List.setIfInBounds_toArray, List.set_cons_zero, List.set_cons_succ, i64_w, i32_w]
                                  rfl
                                refine pure_ (i := 8) (N := some 54) (v := ?_) (a' := ?_) #[true, true, true, true, true, true, false, false, true, false, false, false, false, false, false, false, false, false] rfl rfl (any_of HT_.out (by kernel_rfl)) (fun _ _ _ h => h) (Or.inl ⟨by rfl, ?_⟩) ?_ ?_
                                rotate_left
                                · intro w'
                                  go_simp
                                  with_reducible rfl
                                rotate_left
                                · simp only [Act.put, List.setIfInBounds_toArray, List.set_cons_zero, List.set_cons_succ, i64_w, i32_w]
                                  rfl
                                refine pure_ (i := 9) (N := some 55) (v := ?_) (a' := ?_) #[true, true, true, true, true, true, false, false, true, true, false, false, false, false, false, false, false, false] rfl rfl (any_of HT_.out (by kernel_rfl)) (fun _ _ _ h => h) (Or.inl ⟨by rfl, ?_⟩) ?_ ?_
                                rotate_left
                                · intro w'
                                  go_simp
                                  with_reducible rfl
                                rotate_left
                                · simp only [Act.put, List.setIfInBounds_toArray, List.set_cons_zero, List.set_cons_succ, i64_w, i32_w]
                                  rfl
                                refine pure_ (i := 10) (N := some 56) (v := ?_) (a' := ?_) #[true, true, true, true, true, true, false, false, true, true, true, false, false, false, false, false, false, false] rfl rfl (any_of HT_.out (by kernel_rfl)) (fun _ _ _ h => h) (Or.inl ⟨by rfl, ?_⟩) ?_ ?_
                                rotate_left
                                · intro w'
                                  go_simp
                                  with_reducible rfl
                                rotate_left
                                · simp only [Act.put, List.setIfInBounds_toArray, List.set_cons_zero, List.set_cons_succ, i64_w, i32_w]
                                  rfl
                                refine pure_ (i := 11) (N := some 57) (v := ?_) (a' := ?_) #[true, true, true, true, true, true, false, false, true, true, true, true, false, false, false, false, false, false] rfl rfl (any_of HT_.out (by kernel_rfl)) (fun _ _ _ h => h) (Or.inl ⟨by rfl, ?_⟩) ?_ ?_
                                rotate_left
                                · intro w'
                                  go_simp
                                  with_reducible rfl
                                rotate_left
                                · simp only [Act.put, List.setIfInBounds_toArray, List.set_cons_zero, List.set_cons_succ, i64_w, i32_w]
                                  rfl
                                refine pure_ (i := 12) (N := some 58) (v := ?_) (a' := ?_) #[true, true, true, true, true, true, false, false, true, true, true, true, true, false, false, false, false, false] rfl rfl (any_of HT_.out (by kernel_rfl)) (fun _ _ _ h => h) (Or.inl ⟨by rfl, ?_⟩) ?_ ?_
                                rotate_left
                                · intro w'
                                  go_simp
                                  with_reducible rfl
                                rotate_left
                                · simp only [Act.put, List.setIfInBounds_toArray, List.set_cons_zero, List.set_cons_succ, i64_w, i32_w]
                                  rfl
                                refine pure_ (i := 13) (N := some 59) (v := ?_) (a' := ?_) #[true, true, true, true, true, true, false, false, true, true, true, true, true, true, false, false, false, false] rfl rfl (any_of HT_.out (by kernel_rfl)) (fun _ _ _ h => h) (Or.inl ⟨by rfl, ?_⟩) ?_ ?_
                                rotate_left
                                · intro w'
                                  go_simp
                                  with_reducible rfl
                                rotate_left
                                · simp only [Act.put, List.setIfInBounds_toArray, List.set_cons_zero, List.set_cons_succ, i64_w, i32_w]
                                  rfl
                                refine take_ (i := 6) (N := some 52) (v := ?_) (a' := ?_) #[true, true, true, true, true, true, true, false, true, true, true, true, true, true, false, false, false, false] rfl rfl (take_ofW HT_.out HW_.out (by kernel_rfl)) (fun _ _ _ h => h) (Or.inl ⟨by rfl, ?_⟩) hHeld ?_ ?_
                                rotate_left
                                · rintro w' ⟨s0, s1⟩
                                  go_simp
                                  with_reducible rfl
                                rotate_left
                                · simp only [Act.put, List.setIfInBounds_toArray, List.set_cons_zero, List.set_cons_succ, i64_w, i32_w]
                                  rfl
                                refine take_ (i := 14) (N := some 60) (v := ?_) (a' := ?_) #[true, true, true, true, true, true, true, false, true, true, true, true, true, true, true, false, false, false] rfl rfl (take_ofW HT_.out HW_.out (by kernel_rfl)) (fun _ _ _ h => h) (Or.inl ⟨by rfl, ?_⟩) hHeld ?_ ?_
                                rotate_left
                                · rintro w' ⟨s0, s1⟩
                                  go_simp
                                  with_reducible rfl
                                rotate_left
                                · simp only [Act.put, List.setIfInBounds_toArray, List.set_cons_zero, List.set_cons_succ, i64_w, i32_w]
                                  rfl
                                refine one_ (i := 7) (N := some 53) #[true, true, true, true, true, true, true, true, true, true, true, true, true, true, true, false, false, false] rfl rfl (one_of HT_.out (by kernel_rfl)) (by decide) (fun K hK => ?_)
                                refine goes_ Try.func45 (by kernel_rfl) rfl #[.string (rdOf ByteArray.empty t379 (ji19))] (by rfl) rfl rfl (by (try simp only [List.map_toArray, List.map_cons, List.map_nil]); first | done | (simp only [hji19]; rfl) | rfl | (simp only [List.length_drop, List.length_take]; rfl)) ?_
                                with_reducible refine (hearsayref01_Low.calls (rdOf ByteArray.empty t379 (ji19)) t389 _ A22.out).mono ?_
                                rintro e w32 ⟨rfl, hb⟩
                                have HS0_ := (hb.cell (World.block_lt_of_cell? _ _ (hHeld.1))).trans (hHeld.1)
                                have HS1_ := (hb.cell (World.block_lt_of_cell? _ _ (hHeld.2))).trans (hHeld.2)
                                refine ⟨_, rfl, ?_⟩
                                have n0_ := Aside0.mk (Kd.R_below (by (with_reducible repeat (first | apply Kd.R_alloc | apply Kd.R_drewN | apply Kd.R_drew)); exact HO_5.out) hb)
                                have n1_ := Aside0.mk (Kd.R_below (by (with_reducible repeat (first | apply Kd.R_alloc | apply Kd.R_drewN | apply Kd.R_drew)); exact HO_7.out) hb)
                                have n2_ := Aside0.mk (below_step (by repeat (first | (with_reducible first | exact HB.out | apply below_alloc | apply pw_below_drewN | apply below_drew1) | exact HB.out)) hb)
                                clear HO_5
                                clear HO_7
                                clear HB
                                have HO_5 := n0_
                                have HO_7 := n1_
                                have HB := n2_
                                clear n0_ n1_ n2_
                                (try clear hb)
                                (try clear hb2)
                                (try clear hk)
                                (try clear hi)
                                refine hK.out _ _ ⟨HS0_, HS1_⟩ (fun hHeld => ?_)
                                clear hK K
                                refine norm_ (a' := ?_) ?_ ?_
                                rotate_left
                                · show Act.put _ (some 53) _ = _
                                  simp only [Act.put, List.setIfInBounds_toArray, List.set_cons_zero, List.set_cons_succ, i64_w, i32_w]
                                  rfl
                                refine one_ (i := 15) (N := some 61) #[true, true, true, true, true, true, true, true, true, true, true, true, true, true, true, true, false, false] rfl rfl (one_of HT_.out (by kernel_rfl)) (by decide) (fun K hK => ?_)
                                refine goes_ Try.func45 (by kernel_rfl) rfl #[.string (rdOf ByteArray.empty t383 (ji23))] (by rfl) rfl rfl (by (try simp only [List.map_toArray, List.map_cons, List.map_nil]); first | done | (simp only [hji23]; rfl) | rfl | (simp only [List.length_drop, List.length_take]; rfl)) ?_
                                with_reducible refine (hearsayref01_Low.calls (rdOf ByteArray.empty t383 (ji23)) t391 _ A26.out).mono ?_
                                rintro e w33 ⟨rfl, hb⟩
                                have HS0_ := (hb.cell (World.block_lt_of_cell? _ _ (hHeld.1))).trans (hHeld.1)
                                have HS1_ := (hb.cell (World.block_lt_of_cell? _ _ (hHeld.2))).trans (hHeld.2)
                                refine ⟨_, rfl, ?_⟩
                                have n0_ := Aside0.mk (Kd.R_below (by (with_reducible repeat (first | apply Kd.R_alloc | apply Kd.R_drewN | apply Kd.R_drew)); exact HO_5.out) hb)
                                have n1_ := Aside0.mk (Kd.R_below (by (with_reducible repeat (first | apply Kd.R_alloc | apply Kd.R_drewN | apply Kd.R_drew)); exact HO_7.out) hb)
                                have n2_ := Aside0.mk (below_step (by repeat (first | (with_reducible first | exact HB.out | apply below_alloc | apply pw_below_drewN | apply below_drew1) | exact HB.out)) hb)
                                clear HO_5
                                clear HO_7
                                clear HB
                                have HO_5 := n0_
                                have HO_7 := n1_
                                have HB := n2_
                                clear n0_ n1_ n2_
                                (try clear hb)
                                (try clear hb2)
                                (try clear hk)
                                (try clear hi)
                                refine hK.out _ _ ⟨HS0_, HS1_⟩ (fun hHeld => ?_)
                                clear hK K
                                refine norm_ (a' := ?_) ?_ ?_
                                rotate_left
                                · show Act.put _ (some 61) _ = _
                                  simp only [Act.put, List.setIfInBounds_toArray, List.set_cons_zero, List.set_cons_succ, i64_w, i32_w]
                                  rfl
                                refine one_ (i := 16) (N := some 62) #[true, true, true, true, true, true, true, true, true, true, true, true, true, true, true, true, true, false] rfl rfl (one_of HT_.out (by kernel_rfl)) (by decide) (fun K hK => ?_)
                                refine goes_ Try.func60 (by kernel_rfl) rfl #[.string t389, .string t391] (by rfl) rfl rfl (by (try simp only [List.map_toArray, List.map_cons, List.map_nil]); first | done | rfl | (simp only [List.length_drop, List.length_take]; rfl)) ?_
                                with_reducible refine (hearsayref01_text.calls kj12 t389 t391 t392 _ A27.out).mono ?_
                                rintro e w' ⟨rfl, ⟨nd, rfl⟩⟩
                                refine ⟨_, rfl, ?_⟩
                                refine hK.out _ _ ⟨hHeld.1, hHeld.2⟩ (fun hHeld => ?_)
                                clear hK K
                                refine norm_ (a' := ?_) ?_ ?_
                                rotate_left
                                · show Act.put _ (some 62) _ = _
                                  simp only [Act.put, List.setIfInBounds_toArray, List.set_cons_zero, List.set_cons_succ, i64_w, i32_w]
                                  rfl
                                refine pure_ (i := 17) (N := some 10) (v := ?_) (a' := ?_) #[true, true, true, true, true, true, true, true, true, true, true, true, true, true, true, true, true, true] rfl rfl (any_of HT_.out (by kernel_rfl)) (fun _ _ _ h => h) (Or.inl ⟨by rfl, ?_⟩) ?_ ?_
                                rotate_left
                                · intro w'
                                  go_simp
                                  with_reducible rfl
                                rotate_left
                                · simp only [Act.put, List.setIfInBounds_toArray, List.set_cons_zero, List.set_cons_succ, i64_w, i32_w]
                                  rfl
                                refine done_ (done_of HT_.out (by kernel_rfl)) ?_
                                try go_wp2
                                go_roundg kj12
                                case measure => have := HJ4.out; have := HK2.out; have := HJ12.out; omega
                                case rel => exact ⟨(wrap64 (x9_2 + 1)), (by first | rfl | (simp; done) | (simp [*]; done)), H', ⟨by have := HJ4.out; have := HK2.out; have := HJ12.out; omega⟩, ⟨by (with_reducible repeat (first | apply Kd.R_alloc | apply Kd.R_drewN | apply Kd.R_drew)); exact HO_5.out⟩, ⟨by (with_reducible repeat (first | apply Kd.R_alloc | apply Kd.R_drewN | apply Kd.R_drew)); exact HO_7.out⟩, ⟨by repeat (first | (with_reducible first | exact HB.out | apply below_alloc | apply pw_below_drewN | apply below_drew1) | exact HB.out)⟩⟩
                              · rw [if_neg c28] at H
                                have c28b0 : (t392 == 0) = false := beq_eq_false_iff_ne.mpr c28
                                have c28b1 : (t392 != 0) = true := bne_iff_ne.mpr c28
                                obtain rfl := Option.some.inj H
                                try go_wp2
                                have n0_ := Aside0.mk (Kd.R_drew HO_5.out)
                                have n1_ := Aside0.mk (Kd.R_drew HO_7.out)
                                have n2_ := Aside0.mk (below_drew1 HB.out)
                                clear HO_5
                                clear HO_7
                                clear HB
                                have HO_5 := n0_
                                have HO_7 := n1_
                                have HB := n2_
                                clear n0_ n1_ n2_
                                obtain ⟨Ao35, co35, eo35⟩ := Kd.R_slice HO_5.out
                                (first | subst eo35 | (injection eo35 with f1_ f2_ f3_; have f4_ := f1_.symm; have f5_ := f3_.symm; clear f1_ f2_ f3_; subst f4_; subst f5_))
                                have p388 : 0 ≤ ((ji19) : Int) := of_decide_eq_true (by first | (with_reducible assumption) | assumption)
                                have q388 : (ji19) < (t379.length : Int) := of_decide_eq_true (by first | (with_reducible assumption) | assumption)
                                obtain ⟨ad388, e388, hx388_0⟩ := Kd.at_string (Kd.R_reads' HO_5.out).2.2 (ji19) p388 q388
                                cases e388
                                replace p388 := eq_true p388
                                replace q388 := eq_true q388
                                obtain ⟨Ao36, co36, eo36⟩ := Kd.R_slice HO_7.out
                                (first | subst eo36 | (injection eo36 with f1_ f2_ f3_; have f4_ := f1_.symm; have f5_ := f3_.symm; clear f1_ f2_ f3_; subst f4_; subst f5_))
                                have p390 : 0 ≤ ((ji23) : Int) := of_decide_eq_true (by first | (with_reducible assumption) | assumption)
                                have q390 : (ji23) < (t383.length : Int) := of_decide_eq_true (by first | (with_reducible assumption) | assumption)
                                obtain ⟨ad390, e390, hx390_0⟩ := Kd.at_string (Kd.R_reads' HO_7.out).2.2 (ji23) p390 q390
                                cases e390
                                replace p390 := eq_true p390
                                replace q390 := eq_true q390
                                refine start_ (n := 18) (S := fun w' => w'.cell? (ad388.add ((ji19)).toNat) = some (.string (rdOf ByteArray.empty t379 (ji19))) ∧ w'.cell? (ad390.add ((ji23)).toNat) = some (.string (rdOf ByteArray.empty t383 (ji23)))) (ds := []) #[false, false, false, false, false, false, false, false, false, false, false, false, false, false, false, false, false, false] (by kernel_rfl) rfl rfl ⟨hx388_0, hx390_0⟩ (fun hHeld => ?_); refine with_tabW hearsayref01_Cmp.tab12 hearsayref01_Cmp.bits12 (fun HT_ HW_ => ?_)
                                generalize wc.drew = w34 at HO_5 HO_7 HB hx388_0 hx390_0 hHeld ⊢
                                refine pure_ (i := 0) (N := some 46) (v := ?_) (a' := ?_) #[true, false, false, false, false, false, false, false, false, false, false, false, false, false, false, false, false, false] rfl rfl (any_of HT_.out (by kernel_rfl)) (fun _ _ _ h => h) (Or.inl ⟨by rfl, ?_⟩) ?_ ?_
                                rotate_left
                                · intro w'
                                  go_simp
                                  with_reducible rfl
                                rotate_left
                                · simp only [Act.put, List.setIfInBounds_toArray, List.set_cons_zero, List.set_cons_succ, i64_w, i32_w]
                                  rfl
                                refine pure_ (i := 1) (N := some 47) (v := ?_) (a' := ?_) #[true, true, false, false, false, false, false, false, false, false, false, false, false, false, false, false, false, false] rfl rfl (any_of HT_.out (by kernel_rfl)) (fun _ _ _ h => h) (Or.inl ⟨by rfl, ?_⟩) ?_ ?_
                                rotate_left
                                · intro w'
                                  go_simp
                                  with_reducible rfl
                                rotate_left
                                · simp only [Act.put, List.setIfInBounds_toArray, List.set_cons_zero, List.set_cons_succ, i64_w, i32_w]
                                  rfl
                                refine pure_ (i := 2) (N := some 48) (v := ?_) (a' := ?_) #[true, true, true, false, false, false, false, false, false, false, false, false, false, false, false, false, false, false] rfl rfl (any_of HT_.out (by kernel_rfl)) (fun _ _ _ h => h) (Or.inl ⟨by rfl, ?_⟩) ?_ ?_
                                rotate_left
                                · intro w'
                                  go_simp
                                  with_reducible rfl
                                rotate_left
                                · simp only [Act.put, List.setIfInBounds_toArray, List.set_cons_zero, List.set_cons_succ, i64_w, i32_w]
                                  rfl
                                refine pure_ (i := 3) (N := some 49) (v := ?_) (a' := ?_) #[true, true, true, true, false, false, false, false, false, false, false, false, false, false, false, false, false, false] rfl rfl (any_of HT_.out (by kernel_rfl)) (fun _ _ _ h => h) (Or.inl ⟨by rfl, ?_⟩) ?_ ?_
                                rotate_left
                                · intro w'
                                  go_simp
                                  with_reducible rfl
                                rotate_left
                                · simp only [Act.put, List.setIfInBounds_toArray, List.set_cons_zero, List.set_cons_succ, i64_w, i32_w]
                                  rfl
                                refine pure_ (i := 4) (N := some 50) (v := ?_) (a' := ?_) #[true, true, true, true, true, false, false, false, false, false, false, false, false, false, false, false, false, false] rfl rfl (any_of HT_.out (by kernel_rfl)) (fun _ _ _ h => h) (Or.inl ⟨by rfl, ?_⟩) ?_ ?_
                                rotate_left
                                · intro w'
                                  go_simp
                                  with_reducible rfl
                                rotate_left
                                · simp only [Act.put, List.setIfInBounds_toArray, List.set_cons_zero, List.set_cons_succ, i64_w, i32_w]
                                  rfl
                                refine pure_ (i := 5) (N := some 51) (v := ?_) (a' := ?_) #[true, true, true, true, true, true, false, false, false, false, false, false, false, false, false, false, false, false] rfl rfl (any_of HT_.out (by kernel_rfl)) (fun _ _ _ h => h) (Or.inl ⟨by rfl, ?_⟩) ?_ ?_
                                rotate_left
                                · intro w'
                                  go_simp
                                  with_reducible rfl
                                rotate_left
                                · simp only [Act.put, List.setIfInBounds_toArray, List.set_cons_zero, List.set_cons_succ, i64_w, i32_w]
                                  rfl
                                refine pure_ (i := 8) (N := some 54) (v := ?_) (a' := ?_) #[true, true, true, true, true, true, false, false, true, false, false, false, false, false, false, false, false, false] rfl rfl (any_of HT_.out (by kernel_rfl)) (fun _ _ _ h => h) (Or.inl ⟨by rfl, ?_⟩) ?_ ?_
                                rotate_left
                                · intro w'
                                  go_simp
                                  with_reducible rfl
                                rotate_left
                                · simp only [Act.put, List.setIfInBounds_toArray, List.set_cons_zero, List.set_cons_succ, i64_w, i32_w]
                                  rfl
                                refine pure_ (i := 9) (N := some 55) (v := ?_) (a' := ?_) #[true, true, true, true, true, true, false, false, true, true, false, false, false, false, false, false, false, false] rfl rfl (any_of HT_.out (by kernel_rfl)) (fun _ _ _ h => h) (Or.inl ⟨by rfl, ?_⟩) ?_ ?_
                                rotate_left
                                · intro w'
                                  go_simp
                                  with_reducible rfl
                                rotate_left
                                · simp only [Act.put, List.setIfInBounds_toArray, List.set_cons_zero, List.set_cons_succ, i64_w, i32_w]
                                  rfl
                                refine pure_ (i := 10) (N := some 56) (v := ?_) (a' := ?_) #[true, true, true, true, true, true, false, false, true, true, true, false, false, false, false, false, false, false] rfl rfl (any_of HT_.out (by kernel_rfl)) (fun _ _ _ h => h) (Or.inl ⟨by rfl, ?_⟩) ?_ ?_
                                rotate_left
                                · intro w'
                                  go_simp
                                  with_reducible rfl
                                rotate_left
                                · simp only [Act.put, List.setIfInBounds_toArray, List.set_cons_zero, List.set_cons_succ, i64_w, i32_w]
                                  rfl
                                refine pure_ (i := 11) (N := some 57) (v := ?_) (a' := ?_) #[true, true, true, true, true, true, false, false, true, true, true, true, false, false, false, false, false, false] rfl rfl (any_of HT_.out (by kernel_rfl)) (fun _ _ _ h => h) (Or.inl ⟨by rfl, ?_⟩) ?_ ?_
                                rotate_left
                                · intro w'
                                  go_simp
                                  with_reducible rfl
                                rotate_left
                                · simp only [Act.put, List.setIfInBounds_toArray, List.set_cons_zero, List.set_cons_succ, i64_w, i32_w]
                                  rfl
                                refine pure_ (i := 12) (N := some 58) (v := ?_) (a' := ?_) #[true, true, true, true, true, true, false, false, true, true, true, true, true, false, false, false, false, false] rfl rfl (any_of HT_.out (by kernel_rfl)) (fun _ _ _ h => h) (Or.inl ⟨by rfl, ?_⟩) ?_ ?_
                                rotate_left
                                · intro w'
                                  go_simp
                                  with_reducible rfl
                                rotate_left
                                · simp only [Act.put, List.setIfInBounds_toArray, List.set_cons_zero, List.set_cons_succ, i64_w, i32_w]
                                  rfl
                                refine pure_ (i := 13) (N := some 59) (v := ?_) (a' := ?_) #[true, true, true, true, true, true, false, false, true, true, true, true, true, true, false, false, false, false] rfl rfl (any_of HT_.out (by kernel_rfl)) (fun _ _ _ h => h) (Or.inl ⟨by rfl, ?_⟩) ?_ ?_
                                rotate_left
                                · intro w'
                                  go_simp
                                  with_reducible rfl
                                rotate_left
                                · simp only [Act.put, List.setIfInBounds_toArray, List.set_cons_zero, List.set_cons_succ, i64_w, i32_w]
                                  rfl
                                refine take_ (i := 6) (N := some 52) (v := ?_) (a' := ?_) #[true, true, true, true, true, true, true, false, true, true, true, true, true, true, false, false, false, false] rfl rfl (take_ofW HT_.out HW_.out (by kernel_rfl)) (fun _ _ _ h => h) (Or.inl ⟨by rfl, ?_⟩) hHeld ?_ ?_
                                rotate_left
                                · rintro w' ⟨s0, s1⟩
                                  go_simp
                                  with_reducible rfl
                                rotate_left
                                · simp only [Act.put, List.setIfInBounds_toArray, List.set_cons_zero, List.set_cons_succ, i64_w, i32_w]
                                  rfl
                                refine take_ (i := 14) (N := some 60) (v := ?_) (a' := ?_) #[true, true, true, true, true, true, true, false, true, true, true, true, true, true, true, false, false, false] rfl rfl (take_ofW HT_.out HW_.out (by kernel_rfl)) (fun _ _ _ h => h) (Or.inl ⟨by rfl, ?_⟩) hHeld ?_ ?_
                                rotate_left
                                · rintro w' ⟨s0, s1⟩
                                  go_simp
                                  with_reducible rfl
                                rotate_left
                                · simp only [Act.put, List.setIfInBounds_toArray, List.set_cons_zero, List.set_cons_succ, i64_w, i32_w]
                                  rfl
                                refine one_ (i := 7) (N := some 53) #[true, true, true, true, true, true, true, true, true, true, true, true, true, true, true, false, false, false] rfl rfl (one_of HT_.out (by kernel_rfl)) (by decide) (fun K hK => ?_)
                                refine goes_ Try.func45 (by kernel_rfl) rfl #[.string (rdOf ByteArray.empty t379 (ji19))] (by rfl) rfl rfl (by (try simp only [List.map_toArray, List.map_cons, List.map_nil]); first | done | (simp only [hji19]; rfl) | rfl | (simp only [List.length_drop, List.length_take]; rfl)) ?_
                                with_reducible refine (hearsayref01_Low.calls (rdOf ByteArray.empty t379 (ji19)) t389 _ A22.out).mono ?_
                                rintro e w37 ⟨rfl, hb⟩
                                have HS0_ := (hb.cell (World.block_lt_of_cell? _ _ (hHeld.1))).trans (hHeld.1)
                                have HS1_ := (hb.cell (World.block_lt_of_cell? _ _ (hHeld.2))).trans (hHeld.2)
                                refine ⟨_, rfl, ?_⟩
                                have n0_ := Aside0.mk (Kd.R_below (by (with_reducible repeat (first | apply Kd.R_alloc | apply Kd.R_drewN | apply Kd.R_drew)); exact HO_5.out) hb)
                                have n1_ := Aside0.mk (Kd.R_below (by (with_reducible repeat (first | apply Kd.R_alloc | apply Kd.R_drewN | apply Kd.R_drew)); exact HO_7.out) hb)
                                have n2_ := Aside0.mk (below_step (by repeat (first | (with_reducible first | exact HB.out | apply below_alloc | apply pw_below_drewN | apply below_drew1) | exact HB.out)) hb)
                                clear HO_5
                                clear HO_7
                                clear HB
                                have HO_5 := n0_
                                have HO_7 := n1_
                                have HB := n2_
                                clear n0_ n1_ n2_
                                (try clear hb)
                                (try clear hb2)
                                (try clear hk)
                                (try clear hi)
                                refine hK.out _ _ ⟨HS0_, HS1_⟩ (fun hHeld => ?_)
                                clear hK K
                                refine norm_ (a' := ?_) ?_ ?_
                                rotate_left
                                · show Act.put _ (some 53) _ = _
                                  simp only [Act.put, List.setIfInBounds_toArray, List.set_cons_zero, List.set_cons_succ, i64_w, i32_w]
                                  rfl
                                refine one_ (i := 15) (N := some 61) #[true, true, true, true, true, true, true, true, true, true, true, true, true, true, true, true, false, false] rfl rfl (one_of HT_.out (by kernel_rfl)) (by decide) (fun K hK => ?_)
                                refine goes_ Try.func45 (by kernel_rfl) rfl #[.string (rdOf ByteArray.empty t383 (ji23))] (by rfl) rfl rfl (by (try simp only [List.map_toArray, List.map_cons, List.map_nil]); first | done | (simp only [hji23]; rfl) | rfl | (simp only [List.length_drop, List.length_take]; rfl)) ?_
                                with_reducible refine (hearsayref01_Low.calls (rdOf ByteArray.empty t383 (ji23)) t391 _ A26.out).mono ?_
                                rintro e w38 ⟨rfl, hb⟩
                                have HS0_ := (hb.cell (World.block_lt_of_cell? _ _ (hHeld.1))).trans (hHeld.1)
                                have HS1_ := (hb.cell (World.block_lt_of_cell? _ _ (hHeld.2))).trans (hHeld.2)
                                refine ⟨_, rfl, ?_⟩
                                have n0_ := Aside0.mk (Kd.R_below (by (with_reducible repeat (first | apply Kd.R_alloc | apply Kd.R_drewN | apply Kd.R_drew)); exact HO_5.out) hb)
                                have n1_ := Aside0.mk (Kd.R_below (by (with_reducible repeat (first | apply Kd.R_alloc | apply Kd.R_drewN | apply Kd.R_drew)); exact HO_7.out) hb)
                                have n2_ := Aside0.mk (below_step (by repeat (first | (with_reducible first | exact HB.out | apply below_alloc | apply pw_below_drewN | apply below_drew1) | exact HB.out)) hb)
                                clear HO_5
                                clear HO_7
                                clear HB
                                have HO_5 := n0_
                                have HO_7 := n1_
                                have HB := n2_
                                clear n0_ n1_ n2_
                                (try clear hb)
                                (try clear hb2)
                                (try clear hk)
                                (try clear hi)
                                refine hK.out _ _ ⟨HS0_, HS1_⟩ (fun hHeld => ?_)
                                clear hK K
                                refine norm_ (a' := ?_) ?_ ?_
                                rotate_left
                                · show Act.put _ (some 61) _ = _
                                  simp only [Act.put, List.setIfInBounds_toArray, List.set_cons_zero, List.set_cons_succ, i64_w, i32_w]
                                  rfl
                                refine one_ (i := 16) (N := some 62) #[true, true, true, true, true, true, true, true, true, true, true, true, true, true, true, true, true, false] rfl rfl (one_of HT_.out (by kernel_rfl)) (by decide) (fun K hK => ?_)
                                refine goes_ Try.func60 (by kernel_rfl) rfl #[.string t389, .string t391] (by rfl) rfl rfl (by (try simp only [List.map_toArray, List.map_cons, List.map_nil]); first | done | rfl | (simp only [List.length_drop, List.length_take]; rfl)) ?_
                                with_reducible refine (hearsayref01_text.calls kj12 t389 t391 t392 _ A27.out).mono ?_
                                rintro e w' ⟨rfl, ⟨nd, rfl⟩⟩
                                refine ⟨_, rfl, ?_⟩
                                refine hK.out _ _ ⟨hHeld.1, hHeld.2⟩ (fun hHeld => ?_)
                                clear hK K
                                refine norm_ (a' := ?_) ?_ ?_
                                rotate_left
                                · show Act.put _ (some 62) _ = _
                                  simp only [Act.put, List.setIfInBounds_toArray, List.set_cons_zero, List.set_cons_succ, i64_w, i32_w]
                                  rfl
                                refine pure_ (i := 17) (N := some 10) (v := ?_) (a' := ?_) #[true, true, true, true, true, true, true, true, true, true, true, true, true, true, true, true, true, true] rfl rfl (any_of HT_.out (by kernel_rfl)) (fun _ _ _ h => h) (Or.inl ⟨by rfl, ?_⟩) ?_ ?_
                                rotate_left
                                · intro w'
                                  go_simp
                                  with_reducible rfl
                                rotate_left
                                · simp only [Act.put, List.setIfInBounds_toArray, List.set_cons_zero, List.set_cons_succ, i64_w, i32_w]
                                  rfl
                                refine done_ (done_of HT_.out (by kernel_rfl)) ?_
                                try go_wp2
                                go_ret
                                exact ⟨by first | rfl | (simp [errW_none, errW_some] <;> rfl) | (simp only [← hji19, ← hji23]; first | rfl | (simp [errW_none, errW_some] <;> rfl)) | (simp [*, errW_none, errW_some] <;> rfl), by repeat (first | (with_reducible first | exact HB.out | apply below_alloc | apply pw_below_drewN | apply below_drew1) | exact HB.out)⟩
                            · rw [if_neg c25] at H
                              exact absurd H (by simp)
                          · rw [if_neg c24] at H
                            exact absurd H (by simp)
                        · rw [if_neg c21] at H
                          exact absurd H (by simp)
                      · rw [if_neg c20] at H
                        exact absurd H (by simp)
                    · replace c18 := Bool.eq_false_iff.mpr c18
                      subst c18
                      have H1 : (if (t379.length : Int) = (t383.length : Int) then (some 0) else (if (t379.length : Int) < (t383.length : Int) then (some (-1)) else (some 1))) = some r := by rw [if_neg (show ¬ (false = true) by decide)] at H; exact H
                      clear H
                      have H := H1
                      clear H1
                      by_cases c39 : (t379.length : Int) = (t383.length : Int)
                      · rw [if_pos c39] at H
                        have c39b0 : ((t379.length : Int) == (t383.length : Int)) = true := beq_iff_eq.mpr c39
                        have c39b1 : ((t379.length : Int) != (t383.length : Int)) = false := bne_eq_false_iff_eq.mpr c39
                        have c39b2 : (t379.length == t383.length) = true := by first | simpa using c39 | (simp at c39 ⊢; omega)
                        clear c39
                        obtain rfl := Option.some.inj H
                        obtain ⟨Ao40, co40, eo40⟩ := Kd.R_slice HO_5.out
                        subst eo40
                        obtain ⟨Ao41, co41, eo41⟩ := Kd.R_slice HO_7.out
                        subst eo41
                        go_wp2
                        go_ret
                        exact ⟨by first | rfl | (simp [errW_none, errW_some] <;> rfl) | (simp [*, errW_none, errW_some] <;> rfl), by repeat (first | (with_reducible first | exact HB.out | apply below_alloc | apply pw_below_drewN | apply below_drew1) | exact HB.out)⟩
                      · rw [if_neg c39] at H
                        have c39b0 : ((t379.length : Int) == (t383.length : Int)) = false := beq_eq_false_iff_ne.mpr c39
                        have c39b1 : ((t379.length : Int) != (t383.length : Int)) = true := bne_iff_ne.mpr c39
                        have c39b2 : (t379.length == t383.length) = false := by first | simpa using c39 | (simp at c39 ⊢; omega)
                        by_cases c42 : (t379.length : Int) < (t383.length : Int)
                        · rw [if_pos c42] at H
                          have c42b0 : decide ((t379.length : Int) < (t383.length : Int)) = true := decide_eq_true c42
                          have c42b1 : decide (t379.length < t383.length) = true := decide_eq_true (Int.ofNat_lt.mp c42)
                          clear c42
                          obtain rfl := Option.some.inj H
                          obtain ⟨Ao43, co43, eo43⟩ := Kd.R_slice HO_5.out
                          subst eo43
                          obtain ⟨Ao44, co44, eo44⟩ := Kd.R_slice HO_7.out
                          subst eo44
                          go_wp2
                          go_ret
                          exact ⟨by first | rfl | (simp [errW_none, errW_some] <;> rfl) | (simp [*, errW_none, errW_some] <;> rfl), by repeat (first | (with_reducible first | exact HB.out | apply below_alloc | apply pw_below_drewN | apply below_drew1) | exact HB.out)⟩
                        · rw [if_neg c42] at H
                          have c42b0 : decide ((t379.length : Int) < (t383.length : Int)) = false := decide_eq_false c42
                          have c42b1 : decide (t379.length < t383.length) = false := decide_eq_false (fun h => c42 (Int.ofNat_lt.mpr h))
                          clear c42
                          obtain rfl := Option.some.inj H
                          obtain ⟨Ao45, co45, eo45⟩ := Kd.R_slice HO_5.out
                          subst eo45
                          obtain ⟨Ao46, co46, eo46⟩ := Kd.R_slice HO_7.out
                          subst eo46
                          go_wp2
                          go_ret
                          exact ⟨by first | rfl | (simp [errW_none, errW_some] <;> rfl) | (simp [*, errW_none, errW_some] <;> rfl), by repeat (first | (with_reducible first | exact HB.out | apply below_alloc | apply pw_below_drewN | apply below_drew1) | exact HB.out)⟩
          · replace c12 := Bool.eq_false_iff.mpr c12
            subst c12
            have H1 : (some (-1)) = some r := by rw [if_neg (show ¬ (false = true) by decide)] at H; exact H
            clear H
            have H := H1
            clear H1
            obtain rfl := Option.some.inj H
            go_wp2
            go_ret
            exact ⟨by first | rfl | (simp [errW_none, errW_some] <;> rfl) | (simp [*, errW_none, errW_some] <;> rfl), by repeat (first | (with_reducible first | exact HB.out | apply below_alloc | apply pw_below_drewN | apply below_drew1) | exact HB.out)⟩
        · replace c11 := Bool.eq_false_iff.mpr c11
          subst c11
          have H1 : (some 1) = some r := by rw [if_neg (show ¬ (false = true) by decide)] at H; exact H
          clear H
          have H := H1
          clear H1
          obtain rfl := Option.some.inj H
          go_wp2
          go_ret
          exact ⟨by first | rfl | (simp [errW_none, errW_some] <;> rfl) | (simp [*, errW_none, errW_some] <;> rfl), by repeat (first | (with_reducible first | exact HB.out | apply below_alloc | apply pw_below_drewN | apply below_drew1) | exact HB.out)⟩

end Go.Proofs.Ytplnknhlgdoliaa.Print
end
section
/- name.Cmp and hearsayref01.Cmp tell the same. -/
namespace Go.Proofs.Ytplnknhlgdoliaa.Print
set_option linter.unusedVariables false
set_option linter.unusedSimpArgs false
open Go.RowKit Go.Proofs.YtplnknhlgdoliaaW.PrintWords Go.Proofs.YtplnknhlgdoliaaW.PrintLast Go.Proofs.YtplnknhlgdoliaaW.PrintMore
/-- two rows of bytes -/
def diffP : List Int → List Int → Int
  | x :: xs, y :: ys => if x = y then diffP xs ys else x - y
  | xs, ys => (xs.length : Int) - (ys.length : Int)
theorem diffB_map : ∀ xs ys : List Int, diffB xs ys = diffP (xs.map low1) (ys.map low1)
  | [], [] => rfl
  | [], y :: ys => by simp [diffB, diffP]
  | x :: xs, [] => by simp [diffB, diffP]
  | x :: xs, y :: ys => by simp only [diffB, diffP, List.map_cons]; rw [diffB_map xs ys]
theorem clamp_zero : clamp 0 = 0 := rfl
theorem clamp_pos {c : Int} (h : 0 < c) : clamp c = 1 := by unfold clamp; omega
theorem clamp_neg {c : Int} (h : c < 0) : clamp c = -1 := by unfold clamp; omega
theorem clamp_eq_zero {c : Int} : clamp c = 0 ↔ c = 0 := by unfold clamp; omega
theorem clamp_diff (a b : Int) : clamp (a - b) = if a = b then 0 else if a < b then -1 else 1 := by
  by_cases h : a = b
  · rw [if_pos h]; subst h; rw [Int.sub_self]; rfl
  · rw [if_neg h]
    by_cases h2 : a < b
    · rw [if_pos h2, clamp_neg (by omega)]
    · rw [if_neg h2, clamp_pos (by omega)]
theorem compare_diff : ∀ a b : List UInt8, Lib.compareBytes a b = clamp (diffP (a.map fun c => (c.toNat : Int)) (b.map fun c => (c.toNat : Int)))
  | [], [] => rfl
  | [], b :: ys => by simp only [Lib.compareBytes, List.map_nil, List.map_cons, diffP]; rw [clamp_neg (by simp only [List.length_nil, List.length_cons]; omega)]
  | a :: xs, [] => by simp only [Lib.compareBytes, List.map_nil, List.map_cons, diffP]; rw [clamp_pos (by simp only [List.length_nil, List.length_cons]; omega)]
  | a :: xs, b :: ys => by
    simp only [Lib.compareBytes, List.map_cons, diffP]
    rw [compare_diff xs ys]
    by_cases h : a = b
    · subst h; simp
    · have hn : a.toNat ≠ b.toNat := fun e => h (UInt8.toNat_inj.1 e)
      rw [if_neg (by omega : ¬ ((a.toNat : Int) = (b.toNat : Int)))]
      by_cases h2 : a < b
      · rw [if_pos h2, clamp_neg (by have := UInt8.lt_iff_toNat_lt.1 h2; omega)]
      · have h3 : b < a := UInt8.lt_iff_toNat_lt.2 (by have : ¬ a.toNat < b.toNat := fun e => h2 (UInt8.lt_iff_toNat_lt.2 e); omega)
        rw [if_neg h2, if_pos h3, clamp_pos (by have := UInt8.lt_iff_toNat_lt.1 h3; omega)]
theorem diffP_end {xs ys : List Int} (h : xs = [] ∨ ys = []) : diffP xs ys = (xs.length : Int) - (ys.length : Int) := by
  rcases h with rfl | rfl
  · rfl
  · cases xs <;> rfl
theorem text_ev (a b : ByteArray) (ha : a.size ≤ 140737488351232) (hb : b.size ≤ 140737488351232) (d : Nat) : ∀ i : Nat, a.size - i ≤ d → i ≤ a.size → i ≤ b.size →
    Ev (fun k => hearsayref01_text.l0 k a b (i : Int)) (clamp (diffP ((bytesOf a).drop i) ((bytesOf b).drop i))) := by
  have fin : ∀ i : Nat, i ≤ a.size → i ≤ b.size → ¬ (i < a.size ∧ i < b.size) → Ev (fun k => hearsayref01_text.j1 k a b (i : Int) false) (clamp (diffP ((bytesOf a).drop i) ((bytesOf b).drop i))) := by
    intro i h1 h2 h3
    have e : diffP ((bytesOf a).drop i) ((bytesOf b).drop i) = (a.size : Int) - (b.size : Int) := by
      rw [diffP_end (by by_cases h : i < a.size
                        · exact Or.inr (bo_end b i (by omega))
                        · exact Or.inl (bo_end a i (by omega)))]
      simp only [List.length_drop, bytesOf_length]; omega
    rw [e, clamp_diff]
    refine Ev.step (f := fun _ => some (if (a.size : Int) = (b.size : Int) then 0 else if (a.size : Int) < (b.size : Int) then -1 else 1)) (fun k => ?_) (Ev.now _)
    simp only [hearsayref01_text.j1]
    rw [if_neg (by simp)]
    split
    · rfl
    · split <;> rfl
  induction d with
  | zero =>
    intro i hd h1 h2
    refine Ev.step (f := fun k => hearsayref01_text.j1 k a b i false) (fun k => by simp only [hearsayref01_text.l0]; rw [if_neg (by omega)]) (fin i h1 h2 (by omega))
  | succ d ih =>
    intro i hd h1 h2
    by_cases ha' : i < a.size
    · by_cases hb' : i < b.size
      · refine Ev.step (f := fun k => hearsayref01_text.j1 k a b i true) (fun k => by simp only [hearsayref01_text.l0]; rw [if_pos (by omega)]; congr 1; simp; omega) ?_
        rw [bo_drop a i ha', bo_drop b i hb', diffP]
        by_cases he : bt a (i : Int) = bt b (i : Int)
        · rw [if_pos he]
          refine Ev.step (fun k => ?_) (ih (i + 1) (by omega) (by omega) (by omega))
          simp only [hearsayref01_text.j1]
          rw [if_pos trivial, if_pos (by omega), if_pos (by omega), if_pos (by omega), if_pos he, w64 (by omega) (by omega)]
          rfl
        · rw [if_neg he]
          refine Ev.step (f := fun _ => some (clamp (bt a (i : Int) - bt b (i : Int)))) (fun k => ?_) (Ev.now _)
          simp only [hearsayref01_text.j1]
          rw [if_pos trivial, if_pos (by omega), if_pos (by omega), if_pos (by omega), if_neg he, clamp_diff, if_neg he]
          split <;> rfl
      · refine Ev.step (f := fun k => hearsayref01_text.j1 k a b i false) (fun k => by simp only [hearsayref01_text.l0]; rw [if_pos (by omega)]; congr 1; simp; omega) (fin i h1 h2 (by omega))
    · refine Ev.step (f := fun k => hearsayref01_text.j1 k a b i false) (fun k => by simp only [hearsayref01_text.l0]; rw [if_neg (by omega)]) (fin i h1 h2 (by omega))
theorem text_f (a b : ByteArray) (ha : a.size ≤ 140737488351232) (hb : b.size ≤ 140737488351232) : Ev (fun k => hearsayref01_text.f k a b) (clamp (diffP (bytesOf a) (bytesOf b))) := by
  have h := text_ev a b ha hb a.size 0 (by omega) (by omega) (by omega)
  rw [List.drop_zero, List.drop_zero] at h
  exact h
theorem low_byte {c : Int} (h : 0 ≤ c ∧ c < 256) : 0 ≤ low1 c ∧ low1 c < 256 := low1_range h.1 h.2
theorem bytes_lowS (s : ByteArray) : bytesOf (lowS s) = (bytesOf s).map low1 := by
  unfold lowS
  refine bytes_strOfNums _ (fun x hx => ?_)
  obtain ⟨c, hc, rfl⟩ := List.mem_map.1 hx
  exact low_byte (bo_range s c hc)
theorem lowS_size (s : ByteArray) : (lowS s).size = s.size := by
  have := congrArg List.length (bytes_lowS s)
  rw [bytesOf_length, List.length_map, bytesOf_length] at this
  exact this
theorem low_f {s : ByteArray} (h : s.size ≤ 9223372036854775807) : hearsayref01_Low.f s = some (lowS s) := by
  unfold hearsayref01_Low.f name_Fold.f; rw [if_pos h]
theorem fold_f {s : ByteArray} (h : s.size ≤ 9223372036854775807) : name_Fold.f s = some (lowS s) := by
  unfold name_Fold.f; rw [if_pos h]
theorem label_small {n : ByteArray} {L : List ByteArray} (h : dec n = some L) {s : ByteArray} (hs : s ∈ L) : 0 < s.size ∧ s.size ≤ 63 := by
  have h3 := (dec_some h).2.2
  rw [List.any_eq_false] at h3
  exact bad_false (by simpa using h3 s hs)
theorem rd_rev {L : List ByteArray} {t : Nat} {s : ByteArray} {r : List ByteArray} (h : L.reverse.drop t = s :: r) : t < L.length ∧ rdOf ByteArray.empty L ((L.length : Int) - ((t : Int) + 1)) = s ∧ s ∈ L ∧ L.reverse.drop (t + 1) = r := by
  have ht : t < L.reverse.length := by
    have := congrArg List.length h
    rw [List.length_drop] at this
    simp only [List.length_cons] at this; omega
  have h2 := List.drop_eq_getElem_cons ht
  rw [h] at h2
  injection h2 with h3 h4
  rw [List.length_reverse] at ht
  refine ⟨ht, ?_, by rw [h3]; exact List.mem_reverse.1 (List.getElem_mem _), h4.symm⟩
  rw [h3, List.getElem_reverse]
  have e : ((L.length : Int) - ((t : Int) + 1)).toNat = L.length - 1 - t := by omega
  simp only [rdOf, e]
  rw [List.getD_eq_getElem?_getD, List.getElem?_eq_getElem (by omega)]
  rfl
theorem diffL_end {xs ys : List ByteArray} (h : xs = [] ∨ ys = []) : diffL xs ys = (xs.length : Int) - (ys.length : Int) := by
  rcases h with rfl | rfl
  · rfl
  · cases xs <;> rfl
theorem cmp_l0 {a b : ByteArray} {L M : List ByteArray} (hL : dec a = some L) (hM : dec b = some M) (d : Nat) : ∀ t : Nat, L.length - t ≤ d → t ≤ L.length → t ≤ M.length →
    Ev (fun k => hearsayref01_Cmp.l0 k L M ((t : Int) + 1)) (clamp (diffL (L.reverse.drop t) (M.reverse.drop t))) := by
  have hl := labels_length hL
  have hm := labels_length hM
  have fin : ∀ t : Nat, t ≤ L.length → t ≤ M.length → ¬ (t < L.length ∧ t < M.length) → Ev (fun k => hearsayref01_Cmp.j2 k L M ((t : Int) + 1) false) (clamp (diffL (L.reverse.drop t) (M.reverse.drop t))) := by
    intro t h1 h2 h3
    have e : diffL (L.reverse.drop t) (M.reverse.drop t) = (L.length : Int) - (M.length : Int) := by
      rw [diffL_end (by by_cases h : t < L.length
                        · exact Or.inr (List.drop_of_length_le (by rw [List.length_reverse]; omega))
                        · exact Or.inl (List.drop_of_length_le (by rw [List.length_reverse]; omega)))]
      simp only [List.length_drop, List.length_reverse]; omega
    rw [e, clamp_diff]
    refine Ev.step (f := fun _ => some (if (L.length : Int) = (M.length : Int) then 0 else if (L.length : Int) < (M.length : Int) then -1 else 1)) (fun k => ?_) (Ev.now _)
    simp only [hearsayref01_Cmp.j2]
    rw [if_neg (by simp)]
    split
    · rfl
    · split <;> rfl
  induction d with
  | zero =>
    intro t hd h1 h2
    refine Ev.step (f := fun k => hearsayref01_Cmp.j2 k L M ((t : Int) + 1) false) (fun k => by simp only [hearsayref01_Cmp.l0]; rw [if_neg (by omega)]) (fin t h1 h2 (by omega))
  | succ d ih =>
    intro t hd h1 h2
    by_cases ha' : t < L.length
    · by_cases hb' : t < M.length
      · refine Ev.step (f := fun k => hearsayref01_Cmp.j2 k L M ((t : Int) + 1) true) (fun k => by simp only [hearsayref01_Cmp.l0]; rw [if_pos (by omega)]; congr 1; simp; omega) ?_
        obtain ⟨s, r, hs⟩ : ∃ s r, L.reverse.drop t = s :: r := ⟨_, _, List.drop_eq_getElem_cons (by rw [List.length_reverse]; exact ha')⟩
        obtain ⟨u, q, hu⟩ : ∃ u q, M.reverse.drop t = u :: q := ⟨_, _, List.drop_eq_getElem_cons (by rw [List.length_reverse]; exact hb')⟩
        obtain ⟨_, hs2, hs3, hs4⟩ := rd_rev hs
        obtain ⟨_, hu2, hu3, hu4⟩ := rd_rev hu
        have hs5 := label_small hL hs3
        have hu5 := label_small hM hu3
        have hT := text_f (lowS s) (lowS u) (by rw [lowS_size]; omega) (by rw [lowS_size]; omega)
        rw [bytes_lowS, bytes_lowS, ← diffB_map] at hT
        have ih' := ih (t + 1) (by omega) (by omega) (by omega)
        rw [hs4, hu4] at ih'
        rw [hs, hu, diffL]
        refine Ev.step (f := fun k => (hearsayref01_text.f k (lowS s) (lowS u)).bind fun c => if c = 0 then hearsayref01_Cmp.l0 k L M (((t + 1 : Nat) : Int) + 1) else some c) (fun k => ?_) ?_
        · simp only [hearsayref01_Cmp.j2]
          rw [if_pos trivial, w64 (n := (L.length : Int) - ((t : Int) + 1)) (by omega) (by omega), w64 (n := (M.length : Int) - ((t : Int) + 1)) (by omega) (by omega), w64 (n := (t : Int) + 1 + 1) (by omega) (by omega)]
          rw [if_pos (by omega), if_pos (by omega), hs2, hu2, low_f (by omega), low_f (by omega)]
          simp only [Option.bind_some]
          rw [if_pos (by omega), if_pos (by omega)]
          rfl
        · refine Ev.bind (f := fun k c => if c = 0 then hearsayref01_Cmp.l0 k L M (((t + 1 : Nat) : Int) + 1) else some c) hT ?_
          by_cases hz : diffB (bytesOf s) (bytesOf u) = 0
          · rw [if_pos hz]
            refine Ev.congr (fun k => ?_) ih'
            rw [if_pos (clamp_eq_zero.2 hz)]
          · rw [if_neg hz]
            refine Ev.congr (fun k => ?_) (Ev.now _)
            rw [if_neg (fun h => hz (clamp_eq_zero.1 h))]
      · refine Ev.step (f := fun k => hearsayref01_Cmp.j2 k L M ((t : Int) + 1) false) (fun k => by simp only [hearsayref01_Cmp.l0]; rw [if_pos (by omega)]; congr 1; simp; omega) (fin t h1 h2 (by omega))
    · refine Ev.step (f := fun k => hearsayref01_Cmp.j2 k L M ((t : Int) + 1) false) (fun k => by simp only [hearsayref01_Cmp.l0]; rw [if_neg (by omega)]) (fin t h1 h2 (by omega))
theorem rcmp_f (a b : ByteArray) (ha : a.size ≤ 140737488351232) (hb : b.size ≤ 140737488351232) : Ev (fun k => hearsayref01_Cmp.f k a b) (cmpP a b) := by
  obtain ⟨l1, hE1, hL1⟩ := split_f a
  obtain ⟨l2, hE2, hL2⟩ := split_f b
  refine Ev.bind (f := fun k (x : List ByteArray × Bool) => (hearsayref01_Split.f k b).bind fun y => if x.2 = true then hearsayref01_Cmp.j0 k a b x.1 x.2 y.1 y.2 false else hearsayref01_Cmp.j0 k a b x.1 x.2 y.1 y.2 (!y.2)) hE1 ?_
  refine Ev.bind (f := fun k (y : List ByteArray × Bool) => if (dec a).isSome = true then hearsayref01_Cmp.j0 k a b l1 (dec a).isSome y.1 y.2 false else hearsayref01_Cmp.j0 k a b l1 (dec a).isSome y.1 y.2 (!y.2)) hE2 ?_
  unfold cmpP
  cases hd1 : dec a with
  | none =>
    cases hd2 : dec b with
    | none =>
      simp only [Option.isSome_none, Bool.not_false]
      refine Ev.step (f := fun k => (hearsayref01_text.f k a b).bind fun c => some c) (fun k => ?_) ?_
      · rw [if_neg (by simp)]; simp only [hearsayref01_Cmp.j0]; rw [if_pos trivial]
      · have h := text_f a b ha hb
        rw [compare_diff]
        exact Ev.bind (f := fun _ c => some c) h (Ev.now _)
    | some M =>
      simp only [Option.isSome_none, Option.isSome_some, Bool.not_true]
      refine Ev.step (f := fun _ => some 1) (fun k => ?_) (Ev.now _)
      rw [if_neg (by simp)]; simp only [hearsayref01_Cmp.j0]; rw [if_neg (by simp), if_neg (by simp)]
  | some L =>
    cases hd2 : dec b with
    | none =>
      simp only [Option.isSome_none, Option.isSome_some]
      refine Ev.step (f := fun _ => some (-1)) (fun k => ?_) (Ev.now _)
      rw [if_pos trivial]; simp only [hearsayref01_Cmp.j0]; rw [if_neg (by simp), if_pos trivial, if_neg (by simp)]
    | some M =>
      simp only [Option.isSome_some]
      have e1 := hL1 L hd1
      have e2 := hL2 M hd2
      subst e1; subst e2
      have h := cmp_l0 hd1 hd2 l1.length 0 (by omega) (by omega) (by omega)
      rw [List.drop_zero, List.drop_zero] at h
      refine Ev.step (fun k => ?_) h
      rw [if_pos trivial]; simp only [hearsayref01_Cmp.j0]; rw [if_neg (by simp), if_pos trivial, if_pos trivial]; rfl
end Go.Proofs.Ytplnknhlgdoliaa.Print
end
section
-- Written by a program of this session, built on the kit's print (it is not the print's own text).
namespace Go.Proofs.Ytplnknhlgdoliaa.Print
open Go.RowKit Go.Proofs.YtplnknhlgdoliaaW.PrintWords Go.Proofs.YtplnknhlgdoliaaW.PrintLast Go.Proofs.YtplnknhlgdoliaaW.PrintMore
attribute [local go_sem] max2_int min2_int max_two min_two max_three min_three max_four min_four   -- for this text's walks alone
set_option linter.unusedVariables false
set_option linter.unusedSimpArgs false

/-! ### name_Join: function 31 -/
def name_Join.j0 : Nat → ByteArray → ByteArray → Bool → Option (ByteArray × Int)
  | 0, _, _, _ => none
  | k + 1, x0, x1, x13 => if x13 = true then (some ((⟨#[]⟩ : ByteArray), 11)) else (if (wrap64 ((wrap64 ((x0.size : Int) - 1)) + (x1.size : Int))) > 255 then (some ((⟨#[]⟩ : ByteArray), 2)) else (if 0 ≤ (wrap64 ((x0.size : Int) - 1)) then (if (wrap64 ((x0.size : Int) - 1)) ≤ (x0.size : Int) then (if (x0.extract 0 ((wrap64 ((x0.size : Int) - 1)) : Int).toNat).size + x1.size ≤ 9223372036854775807 then (some ((x0.extract 0 ((wrap64 ((x0.size : Int) - 1)) : Int).toNat) ++ x1, 0)) else (none)) else (none)) else (none)))
def name_Join.f (k : Nat) (a0 : ByteArray) (a1 : ByteArray) : Option (ByteArray × Int) := (name_Check.f k a0).bind fun t278 => (if t278 = 0 then ((name_Check.f k a1).bind fun t279 => (name_Join.j0 k a0 a1 (t279 != 0))) else (name_Join.j0 k a0 a1 true))
theorem name_Join.mono_l : ∀ k, (∀ y0 y1 y2, LeO (name_Join.j0 k y0 y1 y2) (name_Join.j0 (k + 1) y0 y1 y2))
  | 0 => fun _ _ _ r h => by simp [name_Join.j0] at h
  | k + 1 => by
    have ih0 := name_Join.mono_l k
    · intro y0 y1 y2
      unfold name_Join.j0
      repeat' first
      | (with_reducible exact ih0 _ _ _)
      | (with_reducible exact name_Check.mono _ _)
      | (with_reducible exact LeO.refl _)
      | (with_reducible exact LeO.none _)
      | (with_reducible refine LeO.ite ?_ ?_)
      | (with_reducible refine LeO.bind ?_ (fun _ => ?_))
      | exact ih0 _ _ _
      | exact name_Check.mono _ _
      | exact LeO.none _
      | refine LeO.ite ?_ ?_
      | refine LeO.bind ?_ (fun _ => ?_)
theorem name_Join.mono : ∀ a0 a1 k, LeO (name_Join.f k a0 a1) (name_Join.f (k + 1) a0 a1) := by
  intro a0 a1 k
  have ih0 := name_Join.mono_l k
  unfold name_Join.f
  repeat' first
      | (with_reducible exact ih0 _ _ _)
      | (with_reducible exact name_Check.mono _ _)
      | (with_reducible exact LeO.refl _)
      | (with_reducible exact LeO.none _)
      | (with_reducible refine LeO.ite ?_ ?_)
      | (with_reducible refine LeO.bind ?_ (fun _ => ?_))
      | exact ih0 _ _ _
      | exact name_Check.mono _ _
      | exact LeO.none _
      | refine LeO.ite ?_ ?_
      | refine LeO.bind ?_ (fun _ => ?_)
set_option maxHeartbeats 8000000 in
set_option maxRecDepth 100000 in
theorem name_Join.calls (k : Nat) (a0 : ByteArray) (a1 : ByteArray) (r1 : ByteArray) (r2 : Int) (w : World) (h : name_Join.f k a0 a1 = some (r1, r2)) :
    Calls Try.prog 31 #[.string a0, .string a1] w fun e w' => e = .returned (.tuple #[.string r1, .int .i64 r2]) ∧ Below w.heap.size w w' := by
  have HB := Aside0.mk (Below.refl w.heap.size w)
  have H : ((name_Check.f k a0).bind fun t278 => (if t278 = 0 then ((name_Check.f k a1).bind fun t279 => (name_Join.j0 k a0 a1 (t279 != 0))) else (name_Join.j0 k a0 a1 true))) = some (r1, r2) := h
  clear h
  have HC3 := Aside0.mk H
  clear H
  go_enter Try.func31, Try.ntmps31
  go_upto_region 1 with (fail)
  go_cut [13] (fun v13 wc => ∃ (kq : Nat) (x13_2 : Bool), v13 = .bool x13_2 ∧ Aside0 (name_Join.j0 kq a0 a1 x13_2 = some (r1, r2)) ∧ Aside0 (kq ≤ k) ∧ Aside0 (Below w.heap.size w wc))
  case first =>
    have H := HC3.out
    clear HC3
    replace H := Option.bind_eq_some_iff.mp H
    obtain ⟨t278, A40, H⟩ := H
    replace H : (if t278 = 0 then ((name_Check.f k a1).bind fun t279 => (name_Join.j0 k a0 a1 (t279 != 0))) else (name_Join.j0 k a0 a1 true)) = some (r1, r2) := H
    have A4 := Aside0.mk A40
    clear A40
    by_cases c5 : t278 = 0
    · rw [if_pos c5] at H
      have c5b0 : (t278 == 0) = true := beq_iff_eq.mpr c5
      have c5b1 : (t278 != 0) = false := bne_eq_false_iff_eq.mpr c5
      clear c5
      (first | rw [c5b0] | (simp only [i64_w, i32_w]; rw [c5b0]) | skip)
      replace H := Option.bind_eq_some_iff.mp H
      obtain ⟨t279, A60, H⟩ := H
      replace H : (name_Join.j0 k a0 a1 (t279 != 0)) = some (r1, r2) := H
      have A6 := Aside0.mk A60
      clear A60
      have H' := Aside0.mk H
      clear H
      go_wp2_with (first | ((with_reducible refine gate_callee (f := 14) rfl ?_); refine goesL_ (some 7) rfl rfl Try.func14 (by kernel_rfl) rfl #[.string a0] rfl (by (try simp only [List.map_toArray, List.map_cons, List.map_nil]); first | done | rfl | (simp only [List.length_drop, List.length_take]; rfl)) ?_; (with_reducible refine (name_Check.calls k a0 t278 _ A4.out).mono ?_); rintro e w7 ⟨rfl, hb⟩; refine ⟨_, rfl, ?_⟩; have n0_ := Aside0.mk (below_step (by repeat (first | (with_reducible first | exact HB.out | apply below_alloc | apply pw_below_drewN | apply below_drew1) | exact HB.out)) hb); clear HB; have HB := n0_; clear n0_; (try clear hb); (try clear hb2); (try clear hk); (try clear hi)) | (go_at_call 14; (with_reducible refine (name_Check.calls k a1 t279 _ A6.out).mono ?_); rintro e w8 ⟨rfl, hb⟩; have n0_ := Aside0.mk (below_step (by repeat (first | (with_reducible first | exact HB.out | apply below_alloc | apply pw_below_drewN | apply below_drew1) | exact HB.out)) hb); clear HB; have HB := n0_; clear n0_; (try clear hb); (try clear hb2); (try clear hk); (try clear hi)))
      go_meet
      case rel => exact ⟨_, ((t279 != 0)), (by first | rfl | (simp; done) | (simp [*]; done)), H', ⟨by first | omega | exact Nat.le_refl _⟩, ⟨by repeat (first | (with_reducible first | exact HB.out | apply below_alloc | apply pw_below_drewN | apply below_drew1) | exact HB.out)⟩⟩
    · rw [if_neg c5] at H
      have c5b0 : (t278 == 0) = false := beq_eq_false_iff_ne.mpr c5
      have c5b1 : (t278 != 0) = true := bne_iff_ne.mpr c5
      (first | rw [c5b0] | (simp only [i64_w, i32_w]; rw [c5b0]) | skip)
      have H' := Aside0.mk H
      clear H
      go_wp2_with (first | ((with_reducible refine gate_callee (f := 14) rfl ?_); refine goesL_ (some 7) rfl rfl Try.func14 (by kernel_rfl) rfl #[.string a0] rfl (by (try simp only [List.map_toArray, List.map_cons, List.map_nil]); first | done | rfl | (simp only [List.length_drop, List.length_take]; rfl)) ?_; (with_reducible refine (name_Check.calls k a0 t278 _ A4.out).mono ?_); rintro e w9 ⟨rfl, hb⟩; refine ⟨_, rfl, ?_⟩; have n0_ := Aside0.mk (below_step (by repeat (first | (with_reducible first | exact HB.out | apply below_alloc | apply pw_below_drewN | apply below_drew1) | exact HB.out)) hb); clear HB; have HB := n0_; clear n0_; (try clear hb); (try clear hb2); (try clear hk); (try clear hi)))
      go_meet
      case rel => exact ⟨_, (true), (by first | rfl | (simp; done) | (simp [*]; done)), H', ⟨by first | omega | exact Nat.le_refl _⟩, ⟨by repeat (first | (with_reducible first | exact HB.out | apply below_alloc | apply pw_below_drewN | apply below_drew1) | exact HB.out)⟩⟩
  case rest =>
    clear HC3
    try clear c1
    try clear p2
    try clear c3
    try clear c5
    try clear c5b0
    try clear c5b1
    obtain ⟨kq, x13_2, rfl, HA, HJ2, HB⟩ := hcut
    cases kq with
    | zero => exact absurd HA.out (by simp [name_Join.j0])
    | succ kj2 =>
      have H := HA.out
      clear HA
      simp only [name_Join.j0] at H
      by_cases c10 : x13_2 = true
      · subst c10
        have H1 : (some ((⟨#[]⟩ : ByteArray), 11)) = some (r1, r2) := by rw [if_pos rfl] at H; exact H
        clear H
        have H := H1
        clear H1
        simp only [Option.some.injEq, Prod.mk.injEq] at H
        obtain ⟨rfl, rfl⟩ := H
        go_wp2
        go_ret2
        exact ⟨by first | rfl | (simp [errW_none, errW_some] <;> rfl) | (simp [*, errW_none, errW_some] <;> rfl), by repeat (first | (with_reducible first | exact HB.out | apply below_alloc | apply pw_below_drewN | apply below_drew1) | exact HB.out)⟩
      · replace c10 := Bool.eq_false_iff.mpr c10
        subst c10
        have H1 : (if (wrap64 ((wrap64 ((a0.size : Int) - 1)) + (a1.size : Int))) > 255 then (some ((⟨#[]⟩ : ByteArray), 2)) else (if 0 ≤ (wrap64 ((a0.size : Int) - 1)) then (if (wrap64 ((a0.size : Int) - 1)) ≤ (a0.size : Int) then (if (a0.extract 0 ((wrap64 ((a0.size : Int) - 1)) : Int).toNat).size + a1.size ≤ 9223372036854775807 then (some ((a0.extract 0 ((wrap64 ((a0.size : Int) - 1)) : Int).toNat) ++ a1, 0)) else (none)) else (none)) else (none))) = some (r1, r2) := by rw [if_neg (show ¬ (false = true) by decide)] at H; exact H
        clear H
        have H := H1
        clear H1
        by_cases c11 : (wrap64 ((wrap64 ((a0.size : Int) - 1)) + (a1.size : Int))) > 255
        · rw [if_pos c11] at H
          have c11b0 : decide (255 < (wrap64 ((wrap64 ((a0.size : Int) - 1)) + (a1.size : Int)))) = true := decide_eq_true c11
          clear c11
          simp only [Option.some.injEq, Prod.mk.injEq] at H
          obtain ⟨rfl, rfl⟩ := H
          go_wp2
          go_ret2
          exact ⟨by first | rfl | (simp [errW_none, errW_some] <;> rfl) | (simp [*, errW_none, errW_some] <;> rfl), by repeat (first | (with_reducible first | exact HB.out | apply below_alloc | apply pw_below_drewN | apply below_drew1) | exact HB.out)⟩
        · rw [if_neg c11] at H
          have c11b0 : decide (255 < (wrap64 ((wrap64 ((a0.size : Int) - 1)) + (a1.size : Int)))) = false := decide_eq_false c11
          clear c11
          obtain ⟨ji12, hji12⟩ : ∃ j_ : Int, (wrap64 ((a0.size : Int) - 1)) = j_ := ⟨_, rfl⟩
          replace H : (if 0 ≤ (ji12) then (if (ji12) ≤ (a0.size : Int) then (if (a0.extract 0 ((ji12) : Int).toNat).size + a1.size ≤ 9223372036854775807 then (some ((a0.extract 0 ((ji12) : Int).toNat) ++ a1, 0)) else (none)) else (none)) else (none)) = some (r1, r2) := by first | (rw [hji12] at H; exact H) | (simp only [hji12] at H ⊢; exact H)
          (try rw [hji12] at c11b0)
          have hji12w : (IntKind.i64.wrap ((a0.size : Int) - 1)) = ji12 := (i64_w _).trans hji12
          by_cases c13 : 0 ≤ (ji12)
          · rw [if_pos c13] at H
            have c13b0 := eq_true c13
            have c13b1 : decide (0 ≤ (ji12)) = true := decide_eq_true c13
            clear c13
            by_cases c14 : (ji12) ≤ (a0.size : Int)
            · rw [if_pos c14] at H
              have c14b0 := eq_true c14
              have c14b1 : decide ((ji12) ≤ (a0.size : Int)) = true := decide_eq_true c14
              clear c14
              by_cases c15 : (a0.extract 0 ((ji12) : Int).toNat).size + a1.size ≤ 9223372036854775807
              · rw [if_pos c15] at H
                have c15b0 := eq_true c15
                have c15b1 : decide ((a0.extract 0 ((ji12) : Int).toNat).size + a1.size ≤ 9223372036854775807) = true := decide_eq_true c15
                try have c15b2 : (9223372036854775807 < (a0.extract 0 ((ji12) : Int).toNat).size + a1.size) = False := eq_false (Nat.not_lt.2 c15)
                simp only [Option.some.injEq, Prod.mk.injEq] at H
                obtain ⟨rfl, rfl⟩ := H
                go_wp2
                go_ret2
                exact ⟨by first | rfl | (simp [errW_none, errW_some] <;> rfl) | (simp only [← hji12]; first | rfl | (simp [errW_none, errW_some] <;> rfl)) | (simp [*, errW_none, errW_some] <;> rfl), by repeat (first | (with_reducible first | exact HB.out | apply below_alloc | apply pw_below_drewN | apply below_drew1) | exact HB.out)⟩
              · rw [if_neg c15] at H
                exact absurd H (by simp)
            · rw [if_neg c14] at H
              exact absurd H (by simp)
          · rw [if_neg c13] at H
            exact absurd H (by simp)

end Go.Proofs.Ytplnknhlgdoliaa.Print
end
section
-- Written by a program of this session, built on the kit's print (it is not the print's own text).
namespace Go.Proofs.Ytplnknhlgdoliaa.Print
open Go.RowKit Go.Proofs.YtplnknhlgdoliaaW.PrintWords Go.Proofs.YtplnknhlgdoliaaW.PrintLast Go.Proofs.YtplnknhlgdoliaaW.PrintMore
attribute [local go_sem] max2_int min2_int max_two min_two max_three min_three max_four min_four   -- for this text's walks alone
set_option linter.unusedVariables false
set_option linter.unusedSimpArgs false

/-! ### hearsayref01_Join: function 32 -/
def hearsayref01_Join.f (k : Nat) (a0 : ByteArray) (a1 : ByteArray) : Option (ByteArray × Int) := (hearsayref01_Split.f k a0).bind fun bt280 => ((hearsayref01_Split.f k a1).bind fun bt284 => (if bt280.2 = true then (if bt284.2 = true then (if ([] : List ByteArray).length + bt280.1.length < 8796093022208 then ((some (([] : List ByteArray) ++ bt280.1 : List ByteArray)).bind fun y288 => (if y288.length + bt284.1.length < 8796093022208 then ((hearsayref01_Of.f k (y288 ++ bt284.1)).bind fun bt294 => (some (bt294.1, bt294.2))) else (none))) else (none)) else (some ((⟨#[]⟩ : ByteArray), 11))) else (some ((⟨#[]⟩ : ByteArray), 11))))
theorem hearsayref01_Join.mono : ∀ a0 a1 k, LeO (hearsayref01_Join.f k a0 a1) (hearsayref01_Join.f (k + 1) a0 a1) := by
  intro a0 a1 k
  unfold hearsayref01_Join.f
  repeat' first
      | (with_reducible exact hearsayref01_Of.mono _ _)
      | (with_reducible exact hearsayref01_Split.mono _ _)
      | (with_reducible exact LeO.refl _)
      | (with_reducible exact LeO.none _)
      | (with_reducible refine LeO.ite ?_ ?_)
      | (with_reducible refine LeO.bind ?_ (fun _ => ?_))
      | exact hearsayref01_Of.mono _ _
      | exact hearsayref01_Split.mono _ _
      | exact LeO.none _
      | refine LeO.ite ?_ ?_
      | refine LeO.bind ?_ (fun _ => ?_)
set_option maxHeartbeats 8000000 in
set_option maxRecDepth 100000 in
theorem hearsayref01_Join.calls (k : Nat) (a0 : ByteArray) (a1 : ByteArray) (r1 : ByteArray) (r2 : Int) (w : World) (h : hearsayref01_Join.f k a0 a1 = some (r1, r2)) :
    Calls Try.prog 32 #[.string a0, .string a1] w fun e w' => e = .returned (.tuple #[.string r1, .int .i64 r2]) ∧ Below w.heap.size w w' := by
  have HB := Aside0.mk (Below.refl w.heap.size w)
  have H : ((hearsayref01_Split.f k a0).bind fun bt280 => ((hearsayref01_Split.f k a1).bind fun bt284 => (if bt280.2 = true then (if bt284.2 = true then (if ([] : List ByteArray).length + bt280.1.length < 8796093022208 then ((some (([] : List ByteArray) ++ bt280.1 : List ByteArray)).bind fun y288 => (if y288.length + bt284.1.length < 8796093022208 then ((hearsayref01_Of.f k (y288 ++ bt284.1)).bind fun bt294 => (some (bt294.1, bt294.2))) else (none))) else (none)) else (some ((⟨#[]⟩ : ByteArray), 11))) else (some ((⟨#[]⟩ : ByteArray), 11))))) = some (r1, r2) := h
  clear h
  replace H := Option.bind_eq_some_iff.mp H
  obtain ⟨⟨t280, t281⟩, A30, H⟩ := H
  replace H : ((hearsayref01_Split.f k a1).bind fun bt284 => (if t281 = true then (if bt284.2 = true then (if ([] : List ByteArray).length + t280.length < 8796093022208 then ((some (([] : List ByteArray) ++ t280 : List ByteArray)).bind fun y288 => (if y288.length + bt284.1.length < 8796093022208 then ((hearsayref01_Of.f k (y288 ++ bt284.1)).bind fun bt294 => (some (bt294.1, bt294.2))) else (none))) else (none)) else (some ((⟨#[]⟩ : ByteArray), 11))) else (some ((⟨#[]⟩ : ByteArray), 11)))) = some (r1, r2) := H
  have A3 := Aside0.mk A30
  clear A30
  replace H := Option.bind_eq_some_iff.mp H
  obtain ⟨⟨t284, t285⟩, A40, H⟩ := H
  replace H : (if t281 = true then (if t285 = true then (if ([] : List ByteArray).length + t280.length < 8796093022208 then ((some (([] : List ByteArray) ++ t280 : List ByteArray)).bind fun y288 => (if y288.length + t284.length < 8796093022208 then ((hearsayref01_Of.f k (y288 ++ t284)).bind fun bt294 => (some (bt294.1, bt294.2))) else (none))) else (none)) else (some ((⟨#[]⟩ : ByteArray), 11))) else (some ((⟨#[]⟩ : ByteArray), 11))) = some (r1, r2) := H
  have A4 := Aside0.mk A40
  clear A40
  by_cases c5 : t281 = true
  · subst c5
    have H1 : (if t285 = true then (if ([] : List ByteArray).length + t280.length < 8796093022208 then ((some (([] : List ByteArray) ++ t280 : List ByteArray)).bind fun y288 => (if y288.length + t284.length < 8796093022208 then ((hearsayref01_Of.f k (y288 ++ t284)).bind fun bt294 => (some (bt294.1, bt294.2))) else (none))) else (none)) else (some ((⟨#[]⟩ : ByteArray), 11))) = some (r1, r2) := by rw [if_pos rfl] at H; exact H
    clear H
    have H := H1
    clear H1
    by_cases c6 : t285 = true
    · subst c6
      have H1 : (if ([] : List ByteArray).length + t280.length < 8796093022208 then ((some (([] : List ByteArray) ++ t280 : List ByteArray)).bind fun y288 => (if y288.length + t284.length < 8796093022208 then ((hearsayref01_Of.f k (y288 ++ t284)).bind fun bt294 => (some (bt294.1, bt294.2))) else (none))) else (none)) = some (r1, r2) := by rw [if_pos rfl] at H; exact H
      clear H
      have H := H1
      clear H1
      by_cases c7 : ([] : List ByteArray).length + t280.length < 8796093022208
      · rw [if_pos c7] at H
        have LMc7 := Aside0.mk c7
        clear c7
        obtain ⟨y288, hy288⟩ : ∃ y_ : List ByteArray, y_ = (([] : List ByteArray) ++ t280) := ⟨_, rfl⟩
        replace H : (if y288.length + t284.length < 8796093022208 then ((hearsayref01_Of.f k (y288 ++ t284)).bind fun bt294 => (some (bt294.1, bt294.2))) else (none)) = some (r1, r2) := by first | (rw [hy288]; with_reducible exact H) | (have H2_ := (Option.bind_some _ _).symm.trans H; rw [hy288]; with_reducible exact H2_) | (have H2_ := (Option.bind_some _ _).symm.trans H; with_reducible exact H2_) | with_reducible exact H | (rw [hy288]; exact H) | exact H
        have Ny288 := Aside0.mk hy288
        clear hy288
        by_cases c8 : y288.length + t284.length < 8796093022208
        · rw [if_pos c8] at H
          have LMc8 := Aside0.mk c8
          clear c8
          obtain ⟨y291, hy291⟩ : ∃ y_ : List ByteArray, y_ = (y288 ++ t284) := ⟨_, rfl⟩
          replace H : ((hearsayref01_Of.f k y291).bind fun bt294 => (some (bt294.1, bt294.2))) = some (r1, r2) := by first | (rw [hy291]; with_reducible exact H) | (have H2_ := (Option.bind_some _ _).symm.trans H; rw [hy291]; with_reducible exact H2_) | (have H2_ := (Option.bind_some _ _).symm.trans H; with_reducible exact H2_) | with_reducible exact H | (rw [hy291]; exact H) | exact H
          have Ny291 := Aside0.mk hy291
          clear hy291
          replace H := Option.bind_eq_some_iff.mp H
          obtain ⟨⟨t294, t295⟩, A90, H⟩ := H
          replace H : (some (t294, t295)) = some (r1, r2) := H
          have A9 := Aside0.mk A90
          clear A90
          simp only [Option.some.injEq, Prod.mk.injEq] at H
          obtain ⟨rfl, rfl⟩ := H
          go_enter Try.func32, Try.ntmps32
          go_wp2_with (first | ((with_reducible refine gate_callee (f := 13) rfl ?_); refine goesL_ (some 12) rfl rfl Try.func13 (by kernel_rfl) rfl #[.string a0] rfl (by (try simp only [List.map_toArray, List.map_cons, List.map_nil]); first | done | rfl | (simp only [List.length_drop, List.length_take]; rfl)) ?_; (with_reducible refine (hearsayref01_Split.calls k a0 t280 true _ A3.out).mono ?_); rintro e w10 ⟨v282, rfl, ho0, hb⟩; refine ⟨_, rfl, ?_⟩; have n0_ := Aside0.mk (Kd.R_lower ho0 (below_size (by repeat (first | (with_reducible first | exact HB.out | apply below_alloc | apply pw_below_drewN | apply below_drew1) | exact HB.out)))); have n1_ := Aside0.mk (below_step (by repeat (first | (with_reducible first | exact HB.out | apply below_alloc | apply pw_below_drewN | apply below_drew1) | exact HB.out)) hb); clear HB; have HO283 := n0_; have HB := n1_; clear n0_ n1_; (try clear hb); (try clear hb2); (try clear hk); (try clear hi); (try clear ho0)) | ((with_reducible refine gate_callee (f := 13) rfl ?_); refine goesL_ (some 17) rfl rfl Try.func13 (by kernel_rfl) rfl #[.string a1] rfl (by (try simp only [List.map_toArray, List.map_cons, List.map_nil]); first | done | rfl | (simp only [List.length_drop, List.length_take]; rfl)) ?_; (with_reducible refine (hearsayref01_Split.calls k a1 t284 true _ A4.out).mono ?_); rintro e w11 ⟨v286, rfl, ho0, hb⟩; refine ⟨_, rfl, ?_⟩; have n0_ := Aside0.mk (Kd.R_elder' (by (with_reducible repeat (first | apply Kd.R_alloc | apply Kd.R_drewN | apply Kd.R_drew)); exact HO283.out) (Kd.R_base ho0) hb); have n1_ := Aside0.mk (Kd.R_lower (Kd.R_new' ho0 (Kd.R_lt (by (with_reducible repeat (first | apply Kd.R_alloc | apply Kd.R_drewN | apply Kd.R_drew)); exact HO283.out))) (below_size (by repeat (first | (with_reducible first | exact HB.out | apply below_alloc | apply pw_below_drewN | apply below_drew1) | exact HB.out)))); have n2_ := Aside0.mk (below_step (by repeat (first | (with_reducible first | exact HB.out | apply below_alloc | apply pw_below_drewN | apply below_drew1) | exact HB.out)) hb); clear HO283; clear HB; have HO283 := n0_; have HO287 := n1_; have HB := n2_; clear n0_ n1_ n2_; (try clear hb); (try clear hb2); (try clear hk); (try clear hi); (try clear ho0); obtain ⟨Ao13, co13, eo13⟩ := Kd.R_slice HO283.out; subst eo13) | ((with_reducible refine gate_builtin (b := .append) (xs := #[.const (.slice none 0 0), .tmp 26]) rfl ?_); at_builtin; refine Kd.R_append_rows Kd.string (w0 := w) w.heap.size rfl (.const (.slice none 0 0)) (.tmp 26) 23 9 (.string ⟨#[]⟩) 16 rfl Try.underlying23 info9 rfl (by decide) (by omega) (.slice none 0 0) ([] : List ByteArray) t280 _ _ _ (fun k_ => some k_ ≠ (.slice Ao13 t280.length co13 : Value).ownBlock ∧ some k_ ≠ (v286 : Value).ownBlock) (fun _ => False) rfl rfl ?aO ?aR (fun _ _ h => h) (fun _ h => h.elim) ?aF ?aB ?aS ?aL ?_; (case aR => repeat (first | exact (Kd.R_reads' HO283.out).2.2 | (with_reducible refine Kd.C_alloc ?_ _) | (with_reducible refine Kd.C_drewN ?_ _) | (with_reducible refine Kd.C_drew ?_))); (case aB => exact (by repeat (first | (with_reducible first | exact HB.out | apply below_alloc | apply pw_below_drewN | apply below_drew1) | exact HB.out))); (case aF => exact (fun k_ hk => ⟨Kd.fresh' (Kd.R_lt (by (with_reducible repeat (first | apply Kd.R_alloc | apply Kd.R_drewN | apply Kd.R_drew)); exact HO283.out)) k_ hk, Kd.fresh' (Kd.R_lt (by (with_reducible repeat (first | apply Kd.R_alloc | apply Kd.R_drewN | apply Kd.R_drew)); exact HO287.out)) k_ hk⟩)); (case aO => exact ((Kd.R_nil _ _ _ _ (fun k_ => some k_ ≠ (.slice Ao13 t280.length co13 : Value).ownBlock ∧ some k_ ≠ (v286 : Value).ownBlock)))); (case aS => exact (below_size (by repeat (first | (with_reducible first | exact HB.out | apply below_alloc | apply pw_below_drewN | apply below_drew1) | exact HB.out)))); (case aL => have := LMc7.out; omega); intro v289 w12 ho hb hg hat; rw [← Ny288.out] at ho; have n0_ := Aside0.mk (Kd.R_after (Kd.R_apart_nil (by (with_reducible repeat (first | apply Kd.R_alloc | apply Kd.R_drewN | apply Kd.R_drew)); exact HO283.out)) hg hat); have n1_ := Aside0.mk (Kd.R_after (Kd.R_apart_nil (by (with_reducible repeat (first | apply Kd.R_alloc | apply Kd.R_drewN | apply Kd.R_drew)); exact HO287.out)) hg hat); have n2_ := Aside0.mk (hb); have n3_ := Aside0.mk (ho); clear HO283; clear HO287; clear HB; have HO283 := n0_; have HO287 := n1_; have HB := n2_; have HO290 := n3_; clear n0_ n1_ n2_ n3_; clear ho hb hg hat; obtain ⟨Ao15, co15, eo15⟩ := Kd.R_slice HO287.out; subst eo15) | ((with_reducible refine gate_builtin (b := .append) (xs := #[.tmp 27, .tmp 28]) rfl ?_); at_builtin; refine Kd.R_append_rows Kd.string (w0 := w) w.heap.size rfl (.tmp 27) (.tmp 28) 23 9 (.string ⟨#[]⟩) 16 rfl Try.underlying23 info9 rfl (by decide) (by omega) v289 y288 t284 _ _ _ (fun k_ => some k_ ≠ (.slice Ao13 t280.length co13 : Value).ownBlock ∧ some k_ ≠ (.slice Ao15 t284.length co15 : Value).ownBlock) (fun _ => False) rfl rfl ?aO ?aR (fun _ _ h => h) (fun _ h => h.elim) ?aF ?aB ?aS ?aL ?_; (case aR => repeat (first | exact (Kd.R_reads' HO287.out).2.2 | (with_reducible refine Kd.C_alloc ?_ _) | (with_reducible refine Kd.C_drewN ?_ _) | (with_reducible refine Kd.C_drew ?_))); (case aB => exact (by repeat (first | (with_reducible first | exact HB.out | apply below_alloc | apply pw_below_drewN | apply below_drew1) | exact HB.out))); (case aF => exact (fun k_ hk => ⟨Kd.fresh' (Kd.R_lt (by (with_reducible repeat (first | apply Kd.R_alloc | apply Kd.R_drewN | apply Kd.R_drew)); exact HO283.out)) k_ hk, Kd.fresh' (Kd.R_lt (by (with_reducible repeat (first | apply Kd.R_alloc | apply Kd.R_drewN | apply Kd.R_drew)); exact HO287.out)) k_ hk⟩)); (case aO => exact (by (with_reducible repeat (first | apply Kd.R_alloc | apply Kd.R_drewN | apply Kd.R_drew)); exact HO290.out)); (case aS => exact (below_size (by repeat (first | (with_reducible first | exact HB.out | apply below_alloc | apply pw_below_drewN | apply below_drew1) | exact HB.out)))); (case aL => have := LMc8.out; omega); intro v292 w14 ho hb hg hat; rw [← Ny291.out] at ho; have n0_ := Aside0.mk (Kd.R_after (ok := (fun k_ => some k_ ≠ (.slice Ao15 t284.length co15 : Value).ownBlock)) (by (with_reducible repeat (first | apply Kd.R_alloc | apply Kd.R_drewN | apply Kd.R_drew)); exact Kd.R_mono HO283.out (fun _ hk => ⟨hk.1.2, hk.2⟩)) hg hat); have n1_ := Aside0.mk (Kd.R_after (ok := (fun k_ => some k_ ≠ (.slice Ao13 t280.length co13 : Value).ownBlock)) (by (with_reducible repeat (first | apply Kd.R_alloc | apply Kd.R_drewN | apply Kd.R_drew)); exact Kd.R_mono HO287.out (fun _ hk => ⟨hk.1.2, hk.2⟩)) hg hat); have n2_ := Aside0.mk (hb); have n3_ := Aside0.mk (ho); clear HO283; clear HO287; clear HB; clear HO290; have HO283 := n0_; have HO287 := n1_; have HB := n2_; have HO293 := n3_; clear n0_ n1_ n2_ n3_; clear ho hb hg hat; obtain ⟨Ao16, co16, eo16⟩ := Kd.R_slice HO293.out; subst eo16) | ((with_reducible refine gate_callee (f := 22) rfl ?_); refine goesL_ (some 30) rfl rfl Try.func22 (by kernel_rfl) rfl #[.slice Ao16 y291.length co16] rfl (by (try simp only [List.map_toArray, List.map_cons, List.map_nil]); first | done | rfl | (simp only [List.length_drop, List.length_take]; rfl)) ?_; (with_reducible refine (hearsayref01_Of.calls k _ _ y291 t294 t295 _ ?side1 ?side2 A9.out).mono ?_); (case side1 => repeat (first | exact (Kd.R_reads' HO293.out).2.2 | (with_reducible refine Kd.C_alloc ?_ _) | (with_reducible refine Kd.C_drewN ?_ _) | (with_reducible refine Kd.C_drew ?_))); (case side2 => exact (Kd.R_reads' HO293.out).2.1); rintro e w17 ⟨rfl, hb⟩; refine ⟨_, rfl, ?_⟩; have n0_ := Aside0.mk (Kd.R_below (by (with_reducible repeat (first | apply Kd.R_alloc | apply Kd.R_drewN | apply Kd.R_drew)); exact HO283.out) hb); have n1_ := Aside0.mk (Kd.R_below (by (with_reducible repeat (first | apply Kd.R_alloc | apply Kd.R_drewN | apply Kd.R_drew)); exact HO287.out) hb); have n2_ := Aside0.mk (Kd.R_below (by (with_reducible repeat (first | apply Kd.R_alloc | apply Kd.R_drewN | apply Kd.R_drew)); exact HO293.out) hb); have n3_ := Aside0.mk (below_step (by repeat (first | (with_reducible first | exact HB.out | apply below_alloc | apply pw_below_drewN | apply below_drew1) | exact HB.out)) hb); clear HO283; clear HO287; clear HO293; clear HB; have HO283 := n0_; have HO287 := n1_; have HO293 := n2_; have HB := n3_; clear n0_ n1_ n2_ n3_; (try clear hb); (try clear hb2); (try clear hk); (try clear hi)))
          go_ret2
          exact ⟨by first | rfl | (simp [errW_none, errW_some] <;> rfl) | (simp [*, errW_none, errW_some] <;> rfl), by repeat (first | (with_reducible first | exact HB.out | apply below_alloc | apply pw_below_drewN | apply below_drew1) | exact HB.out)⟩
        · rw [if_neg c8] at H
          exact absurd H (by simp)
      · rw [if_neg c7] at H
        exact absurd H (by simp)
    · replace c6 := Bool.eq_false_iff.mpr c6
      subst c6
      have H1 : (some ((⟨#[]⟩ : ByteArray), 11)) = some (r1, r2) := by rw [if_neg (show ¬ (false = true) by decide)] at H; exact H
      clear H
      have H := H1
      clear H1
      simp only [Option.some.injEq, Prod.mk.injEq] at H
      obtain ⟨rfl, rfl⟩ := H
      go_enter Try.func32, Try.ntmps32
      go_wp2_with (first | ((with_reducible refine gate_callee (f := 13) rfl ?_); refine goesL_ (some 12) rfl rfl Try.func13 (by kernel_rfl) rfl #[.string a0] rfl (by (try simp only [List.map_toArray, List.map_cons, List.map_nil]); first | done | rfl | (simp only [List.length_drop, List.length_take]; rfl)) ?_; (with_reducible refine (hearsayref01_Split.calls k a0 t280 true _ A3.out).mono ?_); rintro e w18 ⟨v282, rfl, ho0, hb⟩; refine ⟨_, rfl, ?_⟩; have n0_ := Aside0.mk (Kd.R_lower ho0 (below_size (by repeat (first | (with_reducible first | exact HB.out | apply below_alloc | apply pw_below_drewN | apply below_drew1) | exact HB.out)))); have n1_ := Aside0.mk (below_step (by repeat (first | (with_reducible first | exact HB.out | apply below_alloc | apply pw_below_drewN | apply below_drew1) | exact HB.out)) hb); clear HB; have HO283 := n0_; have HB := n1_; clear n0_ n1_; (try clear hb); (try clear hb2); (try clear hk); (try clear hi); (try clear ho0)) | ((with_reducible refine gate_callee (f := 13) rfl ?_); refine goesL_ (some 17) rfl rfl Try.func13 (by kernel_rfl) rfl #[.string a1] rfl (by (try simp only [List.map_toArray, List.map_cons, List.map_nil]); first | done | rfl | (simp only [List.length_drop, List.length_take]; rfl)) ?_; (with_reducible refine (hearsayref01_Split.calls k a1 t284 false _ A4.out).mono ?_); rintro e w19 ⟨v286, rfl, ho0, hb⟩; refine ⟨_, rfl, ?_⟩; have n0_ := Aside0.mk (Kd.R_elder' (by (with_reducible repeat (first | apply Kd.R_alloc | apply Kd.R_drewN | apply Kd.R_drew)); exact HO283.out) (Kd.R_base ho0) hb); have n1_ := Aside0.mk (Kd.R_lower (Kd.R_new' ho0 (Kd.R_lt (by (with_reducible repeat (first | apply Kd.R_alloc | apply Kd.R_drewN | apply Kd.R_drew)); exact HO283.out))) (below_size (by repeat (first | (with_reducible first | exact HB.out | apply below_alloc | apply pw_below_drewN | apply below_drew1) | exact HB.out)))); have n2_ := Aside0.mk (below_step (by repeat (first | (with_reducible first | exact HB.out | apply below_alloc | apply pw_below_drewN | apply below_drew1) | exact HB.out)) hb); clear HO283; clear HB; have HO283 := n0_; have HO287 := n1_; have HB := n2_; clear n0_ n1_ n2_; (try clear hb); (try clear hb2); (try clear hk); (try clear hi); (try clear ho0)))
      go_ret2
      exact ⟨by first | rfl | (simp [errW_none, errW_some] <;> rfl) | (simp [*, errW_none, errW_some] <;> rfl), by repeat (first | (with_reducible first | exact HB.out | apply below_alloc | apply pw_below_drewN | apply below_drew1) | exact HB.out)⟩
  · replace c5 := Bool.eq_false_iff.mpr c5
    subst c5
    have H1 : (some ((⟨#[]⟩ : ByteArray), 11)) = some (r1, r2) := by rw [if_neg (show ¬ (false = true) by decide)] at H; exact H
    clear H
    have H := H1
    clear H1
    simp only [Option.some.injEq, Prod.mk.injEq] at H
    obtain ⟨rfl, rfl⟩ := H
    go_enter Try.func32, Try.ntmps32
    go_wp2_with (first | ((with_reducible refine gate_callee (f := 13) rfl ?_); refine goesL_ (some 12) rfl rfl Try.func13 (by kernel_rfl) rfl #[.string a0] rfl (by (try simp only [List.map_toArray, List.map_cons, List.map_nil]); first | done | rfl | (simp only [List.length_drop, List.length_take]; rfl)) ?_; (with_reducible refine (hearsayref01_Split.calls k a0 t280 false _ A3.out).mono ?_); rintro e w20 ⟨v282, rfl, ho0, hb⟩; refine ⟨_, rfl, ?_⟩; have n0_ := Aside0.mk (Kd.R_lower ho0 (below_size (by repeat (first | (with_reducible first | exact HB.out | apply below_alloc | apply pw_below_drewN | apply below_drew1) | exact HB.out)))); have n1_ := Aside0.mk (below_step (by repeat (first | (with_reducible first | exact HB.out | apply below_alloc | apply pw_below_drewN | apply below_drew1) | exact HB.out)) hb); clear HB; have HO283 := n0_; have HB := n1_; clear n0_ n1_; (try clear hb); (try clear hb2); (try clear hk); (try clear hi); (try clear ho0)) | ((with_reducible refine gate_callee (f := 13) rfl ?_); refine goesL_ (some 17) rfl rfl Try.func13 (by kernel_rfl) rfl #[.string a1] rfl (by (try simp only [List.map_toArray, List.map_cons, List.map_nil]); first | done | rfl | (simp only [List.length_drop, List.length_take]; rfl)) ?_; (with_reducible refine (hearsayref01_Split.calls k a1 t284 t285 _ A4.out).mono ?_); rintro e w21 ⟨v286, rfl, ho0, hb⟩; refine ⟨_, rfl, ?_⟩; have n0_ := Aside0.mk (Kd.R_elder' (by (with_reducible repeat (first | apply Kd.R_alloc | apply Kd.R_drewN | apply Kd.R_drew)); exact HO283.out) (Kd.R_base ho0) hb); have n1_ := Aside0.mk (Kd.R_lower (Kd.R_new' ho0 (Kd.R_lt (by (with_reducible repeat (first | apply Kd.R_alloc | apply Kd.R_drewN | apply Kd.R_drew)); exact HO283.out))) (below_size (by repeat (first | (with_reducible first | exact HB.out | apply below_alloc | apply pw_below_drewN | apply below_drew1) | exact HB.out)))); have n2_ := Aside0.mk (below_step (by repeat (first | (with_reducible first | exact HB.out | apply below_alloc | apply pw_below_drewN | apply below_drew1) | exact HB.out)) hb); clear HO283; clear HB; have HO283 := n0_; have HO287 := n1_; have HB := n2_; clear n0_ n1_ n2_; (try clear hb); (try clear hb2); (try clear hk); (try clear hi); (try clear ho0)))
    go_ret2
    exact ⟨by first | rfl | (simp [errW_none, errW_some] <;> rfl) | (simp [*, errW_none, errW_some] <;> rfl), by repeat (first | (with_reducible first | exact HB.out | apply below_alloc | apply pw_below_drewN | apply below_drew1) | exact HB.out)⟩

end Go.Proofs.Ytplnknhlgdoliaa.Print
end
section
/- What the document's Of, Glue, and name's Join, Last, Parent, Under tell. -/
namespace Go.Proofs.Ytplnknhlgdoliaa.Print
set_option linter.unusedVariables false
set_option linter.unusedSimpArgs false
open Go.RowKit Go.Proofs.YtplnknhlgdoliaaW.PrintWords Go.Proofs.YtplnknhlgdoliaaW.PrintLast Go.Proofs.YtplnknhlgdoliaaW.PrintMore
theorem gluew_glue : ∀ (L : List ByteArray), L.any badLab = false → gluew L = glue L
  | [], _ => rfl
  | s :: L, h => by
    rw [List.any_cons, Bool.or_eq_false_iff] at h
    have hs := bad_false h.1
    have ih := gluew_glue L h.2
    simp only [gluew, glue, List.flatMap_cons] at ih ⊢
    rw [ih]
    congr 1
    unfold labw lab
    congr 1
    have : IntKind.u8.wrap (s.size : Int) = (s.size : Int) % 256 := IntKind.wrap_u8 _
    first | (rw [this]; omega) | omega
theorem glue_f {L : List ByteArray} (h : L.any badLab = false) (hl : (glue L).length + 1 ≤ 9223372036854775807) : hearsayref01_Glue.f L = some (nameOf L) := by
  unfold hearsayref01_Glue.f nameOf
  rw [gluew_glue L h, if_pos hl]
theorem rd_at {L : List ByteArray} {t : Nat} (h : t < L.length) : ∃ s, L[t]? = some s ∧ rdOf ByteArray.empty L (t : Int) = s := ⟨L[t], List.getElem?_eq_getElem h, by simp [rdOf, List.getD_eq_getElem?_getD, h]⟩
theorem any_take {L : List ByteArray} {t : Nat} {s : ByteArray} (hs : L[t]? = some s) (h : (L.take t).any badLab = false) (hb : badLab s = false) : (L.take (t + 1)).any badLab = false := by
  rw [take_succ' hs, List.any_append, h]; simp [hb]
theorem glue_take {L : List ByteArray} {t : Nat} {s : ByteArray} (hs : L[t]? = some s) : (glue (L.take (t + 1))).length = (glue (L.take t)).length + 1 + s.size := by
  rw [take_succ' hs, glue_snoc, List.length_append, lab_length]; omega
theorem glue_mono (L : List ByteArray) (t : Nat) : (glue (L.take t)).length ≤ (glue L).length := by
  conv => rhs; rw [← List.take_append_drop t L]
  rw [show glue (L.take t ++ L.drop t) = glue (L.take t) ++ glue (L.drop t) from by unfold glue; exact List.flatMap_append, List.length_append]; omega
theorem of_l1 (L : List ByteArray) (hb : L.any badLab = false) (hn : L.length ≤ 8796093022208) (d : Nat) : ∀ t : Nat, L.length - t ≤ d → t ≤ L.length → (glue (L.take t)).length + 1 ≤ 255 →
    Ev (fun k => hearsayref01_Of.l1 k L (((glue (L.take t)).length + 1 : Nat) : Int) (t : Int)) (if 255 < (glue L).length + 1 then (⟨#[]⟩, 2) else (nameOf L, 0)) := by
  have fin : ∀ t : Nat, t ≤ L.length → ¬ t < L.length → (glue (L.take t)).length + 1 ≤ 255 → Ev (fun k => hearsayref01_Of.l1 k L (((glue (L.take t)).length + 1 : Nat) : Int) (t : Int)) (if 255 < (glue L).length + 1 then (⟨#[]⟩, 2) else (nameOf L, 0)) := by
    intro t h1 h2 h3
    rw [List.take_of_length_le (by omega)] at h3 ⊢
    rw [if_neg (by omega)]
    refine Ev.step (f := fun _ => some (nameOf L, 0)) (fun k => ?_) (Ev.now _)
    simp only [hearsayref01_Of.l1]
    rw [if_neg (by omega), glue_f hb (by omega)]
    rfl
  induction d with
  | zero => intro t hd h1 h3; exact fin t h1 (by omega) h3
  | succ d ih =>
    intro t hd h1 h3
    by_cases ht : t < L.length
    · obtain ⟨s, hs, hr⟩ := rd_at ht
      have hg := glue_take hs
      have hm := glue_mono L (t + 1)
      have hsz : s.size ≤ 63 := by
        rw [List.any_eq_false] at hb
        exact (bad_false (by simpa using hb s (List.mem_of_getElem? hs))).2
      have e1 : wrap64 ((((glue (L.take t)).length + 1 : Nat) : Int) + 1) = (((glue (L.take t)).length + 2 : Nat) : Int) := by rw [w64 (by omega) (by omega)]; omega
      have e2 : wrap64 ((((glue (L.take t)).length + 2 : Nat) : Int) + (s.size : Int)) = (((glue (L.take (t + 1))).length + 1 : Nat) : Int) := by rw [w64 (by omega) (by omega), hg]; omega
      by_cases hl : 255 < (glue (L.take (t + 1))).length + 1
      · rw [if_pos (by omega)]
        refine Ev.step (f := fun _ => some (⟨#[]⟩, 2)) (fun k => ?_) (Ev.now _)
        simp only [hearsayref01_Of.l1]
        rw [if_pos (by omega), if_pos (by omega), hr, e1, e2, if_pos (by omega)]
      · refine Ev.step (fun k => ?_) (ih (t + 1) (by omega) (by omega) (by omega))
        simp only [hearsayref01_Of.l1]
        rw [if_pos (by omega), if_pos (by omega), hr, e1, e2, if_neg (by omega), w64 (by omega) (by omega)]
        rfl
    · exact fin t h1 ht h3
theorem of_l0 (L : List ByteArray) (hn : L.length ≤ 8796093022208) (d : Nat) : ∀ t : Nat, L.length - t ≤ d → t ≤ L.length → (L.take t).any badLab = false →
    Ev (fun k => hearsayref01_Of.l0 k L 1 (t : Int)) ((name_Of.f L).getD (⟨#[]⟩, 0)) := by
  have fin : ∀ t : Nat, t ≤ L.length → ¬ t < L.length → (L.take t).any badLab = false → Ev (fun k => hearsayref01_Of.l0 k L 1 (t : Int)) ((name_Of.f L).getD (⟨#[]⟩, 0)) := by
    intro t h1 h2 h3
    rw [List.take_of_length_le (by omega)] at h3
    have h := of_l1 L h3 hn L.length 0 (by omega) (by omega) (by simp [glue])
    have e : (name_Of.f L).getD (⟨#[]⟩, 0) = if 255 < (glue L).length + 1 then (⟨#[]⟩, 2) else (nameOf L, 0) := by
      unfold name_Of.f nameOf
      rw [if_neg (by rw [h3]; simp)]
      split <;> rfl
    rw [e]
    refine Ev.step (fun k => ?_) h
    simp only [hearsayref01_Of.l0]
    rw [if_neg (by omega)]
    rfl
  induction d with
  | zero => intro t hd h1 h3; exact fin t h1 (by omega) h3
  | succ d ih =>
    intro t hd h1 h3
    by_cases ht : t < L.length
    · obtain ⟨s, hs, hr⟩ := rd_at ht
      by_cases hb : badLab s = true
      · have e : (name_Of.f L).getD (⟨#[]⟩, 0) = (⟨#[]⟩, 10) := by
          unfold name_Of.f; rw [if_pos (of_bad hs hb)]; rfl
        rw [e]
        refine Ev.step (f := fun _ => some (⟨#[]⟩, 10)) (fun k => ?_) (Ev.now _)
        simp only [hearsayref01_Of.l0]
        rw [if_pos (by omega), if_pos (by omega), hr]
        unfold badLab at hb
        simp only [Bool.or_eq_true, decide_eq_true_eq] at hb
        by_cases h0 : s.size = 0
        · rw [if_pos (by omega)]
        · rw [if_neg (by omega), if_pos (by omega)]
      · have hb' : badLab s = false := by simpa using hb
        have hs2 := bad_false hb'
        refine Ev.step (fun k => ?_) (ih (t + 1) (by omega) (by omega) (any_take hs h3 hb'))
        simp only [hearsayref01_Of.l0]
        rw [if_pos (by omega), if_pos (by omega), hr, if_neg (by omega), if_neg (by omega), w64 (by omega) (by omega)]
        rfl
    · exact fin t h1 ht h3
theorem rof_f (L : List ByteArray) (hn : L.length ≤ 8796093022208) : Ev (fun k => hearsayref01_Of.f k L) ((name_Of.f L).getD (⟨#[]⟩, 0)) := of_l0 L hn L.length 0 (by omega) (by omega) (by simp)
/-! ### Join -/
def joinP (a b : ByteArray) : ByteArray × Int :=
  match dec a, dec b with
  | some L, some M => if 255 < (glue (L ++ M)).length + 1 then (⟨#[]⟩, 2) else (nameOf (L ++ M), 0)
  | _, _ => (⟨#[]⟩, 11)
theorem glue_append (L M : List ByteArray) : glue (L ++ M) = glue L ++ glue M := by simp [glue]
theorem join_front {a b : ByteArray} {L M : List ByteArray} (ha : dec a = some L) (hb : dec b = some M) : a.extract 0 (a.size - 1) ++ b = nameOf (L ++ M) := by
  have h1 := dec_some ha
  have h2 := dec_some hb
  have hs := dec_size ha
  refine bytes_inj ?_
  rw [bytes_nameOf (by rw [List.any_append, h1.2.2, h2.2.2]; rfl), glue_append]
  have e : bytesOf (a.extract 0 (a.size - 1) ++ b) = bytesOf (a.extract 0 (a.size - 1)) ++ bytesOf b := by
    unfold bytesOf; rw [← List.map_append]; congr 1
  rw [e, bytes_extract, h1.2.1, h2.2.1, List.drop_zero, hs, show (glue L).length + 1 - 1 - 0 = (glue L).length by omega, List.take_left, List.append_assoc]
theorem join_size {a b : ByteArray} {L M : List ByteArray} (ha : dec a = some L) (hb : dec b = some M) : a.size - 1 + b.size = (glue (L ++ M)).length + 1 ∧ 0 < a.size ∧ a.size ≤ 255 ∧ b.size ≤ 255 := by
  have h1 := dec_size ha
  have h2 := dec_size hb
  have h3 := (dec_some ha).1
  have h4 := (dec_some hb).1
  rw [glue_append, List.length_append]
  omega
theorem join_f (a b : ByteArray) : Ev (fun k => name_Join.f k a b) (joinP a b) := by
  refine Ev.bind (f := fun k (x : Int) => if x = 0 then (name_Check.f k b).bind fun y => name_Join.j0 k a b (y != 0) else name_Join.j0 k a b true) (check_f a) ?_
  have no : Ev (fun k => name_Join.j0 k a b true) (⟨#[]⟩, 11) := by
    refine Ev.step (f := fun _ => some (⟨#[]⟩, 11)) (fun k => ?_) (Ev.now _)
    simp only [name_Join.j0]; rw [if_pos trivial]
  unfold joinP
  cases ha : dec a with
  | none =>
    simp only [Option.isSome_none]
    refine Ev.congr (fun k => ?_) no
    rw [if_neg (by simp)]
  | some L =>
    refine Ev.congr (f := fun k => (name_Check.f k b).bind fun y => name_Join.j0 k a b (y != 0)) (fun k => by simp) ?_
    refine Ev.bind (f := fun k (y : Int) => name_Join.j0 k a b (y != 0)) (check_f b) ?_
    cases hb : dec b with
    | none => exact no
    | some M =>
      simp only [Option.isSome_some, if_true]
      obtain ⟨j1, j2, j3, j4⟩ := join_size ha hb
      have jf := join_front ha hb
      have e0 : wrap64 ((a.size : Int) - 1) = ((a.size - 1 : Nat) : Int) := by rw [w64 (by omega) (by omega)]; omega
      have e1 : wrap64 (((a.size - 1 : Nat) : Int) + (b.size : Int)) = (((glue (L ++ M)).length + 1 : Nat) : Int) := by rw [w64 (by omega) (by omega), ← j1]; omega
      refine Ev.step (f := fun _ => some (if 255 < (glue (L ++ M)).length + 1 then (⟨#[]⟩, 2) else (nameOf (L ++ M), 0))) (fun k => ?_) (Ev.now _)
      have e2 : ((0 : Int) != 0) = false := rfl
      rw [e2]
      simp only [name_Join.j0]
      rw [if_neg (by simp), e0, e1]
      by_cases hl : 255 < (glue (L ++ M)).length + 1
      · rw [if_pos (by omega), if_pos hl]
      · rw [if_neg (by omega), if_neg hl, if_pos (by omega), if_pos (by omega), Int.toNat_natCast, jf, if_pos (by rw [ByteArray.size_extract]; omega)]
theorem rjoin_f (a b : ByteArray) : Ev (fun k => hearsayref01_Join.f k a b) (joinP a b) := by
  obtain ⟨l1, hE1, hL1⟩ := split_f a
  obtain ⟨l2, hE2, hL2⟩ := split_f b
  unfold joinP
  refine Ev.bind (f := fun k (x : List ByteArray × Bool) => (hearsayref01_Split.f k b).bind fun y => if x.2 = true then if y.2 = true then if ([] : List ByteArray).length + x.1.length < 8796093022208 then (some (([] : List ByteArray) ++ x.1 : List ByteArray)).bind fun y288 => (if y288.length + y.1.length < 8796093022208 then ((hearsayref01_Of.f k (y288 ++ y.1)).bind fun bt294 => (some (bt294.1, bt294.2))) else (none)) else none else some (⟨#[]⟩, 11) else some (⟨#[]⟩, 11)) hE1 ?_
  refine Ev.bind (f := fun k (y : List ByteArray × Bool) => if (dec a).isSome = true then if y.2 = true then if ([] : List ByteArray).length + l1.length < 8796093022208 then (some (([] : List ByteArray) ++ l1 : List ByteArray)).bind fun y288 => (if y288.length + y.1.length < 8796093022208 then ((hearsayref01_Of.f k (y288 ++ y.1)).bind fun bt294 => (some (bt294.1, bt294.2))) else (none)) else none else some (⟨#[]⟩, 11) else some (⟨#[]⟩, 11)) hE2 ?_
  cases ha : dec a with
  | none => exact Ev.congr (fun k => by rw [if_neg (by simp)]) (Ev.now _)
  | some L =>
    cases hb : dec b with
    | none => exact Ev.congr (fun k => by simp only [Option.isSome_some, Option.isSome_none]; rw [if_pos trivial, if_neg (by simp)]) (Ev.now _)
    | some M =>
      have e1 := hL1 L ha
      have e2 := hL2 M hb
      subst e1; subst e2
      have q1 := labels_length ha
      have q2 := labels_length hb
      have h := rof_f (l1 ++ l2) (by rw [List.length_append]; omega)
      have e : (name_Of.f (l1 ++ l2)).getD (⟨#[]⟩, 0) = if 255 < (glue (l1 ++ l2)).length + 1 then (⟨#[]⟩, 2) else (nameOf (l1 ++ l2), 0) := by
        unfold name_Of.f nameOf
        rw [if_neg (by rw [List.any_append, (dec_some ha).2.2, (dec_some hb).2.2]; simp)]
        split <;> rfl
      rw [e] at h
      refine Ev.congr (f := fun k => (hearsayref01_Of.f k (l1 ++ l2)).bind fun x => some (x.1, x.2)) (fun k => ?_) (Ev.bind (f := fun _ (x : ByteArray × Int) => some (x.1, x.2)) h (Ev.now _))
      simp only [Option.isSome_some]
      rw [if_pos trivial, if_pos trivial, if_pos (by simp only [List.length_nil]; omega)]
      simp only [Option.bind_some, List.nil_append]
      rw [if_pos (by omega)]
end Go.Proofs.Ytplnknhlgdoliaa.Print
end
section
-- Written by a program of this session, built on the kit's print (it is not the print's own text).
namespace Go.Proofs.Ytplnknhlgdoliaa.Print
open Go.RowKit Go.Proofs.YtplnknhlgdoliaaW.PrintWords Go.Proofs.YtplnknhlgdoliaaW.PrintLast Go.Proofs.YtplnknhlgdoliaaW.PrintMore
attribute [local go_sem] max2_int min2_int max_two min_two max_three min_three max_four min_four   -- for this text's walks alone
set_option linter.unusedVariables false
set_option linter.unusedSimpArgs false

/-! ### hearsaylaw01_NameBytes: function 5 -/
def hearsaylaw01_NameBytes.f (k : Nat) (a0 : ByteArray) (a1 : Bool) : Option (Bool) := (name_Bytes.f a0).bind fun bt215 => ((hearsayref01_Bytes.f a0).bind fun bt217 => (if bt215.1.toList = bt217.1.toList then (if bt215.2 = bt217.2 then ((name_Escape.f a0 a1).bind fun t219 => ((hearsayref01_Escape.f k a0 a1).bind fun t220 => (if t219.toList = t220.toList then ((hearsaylaw01_wakes.f k).bind fun t221 => (some t221)) else (some false)))) else (some false)) else (some false)))
theorem hearsaylaw01_NameBytes.mono : ∀ a0 a1 k, LeO (hearsaylaw01_NameBytes.f k a0 a1) (hearsaylaw01_NameBytes.f (k + 1) a0 a1) := by
  intro a0 a1 k
  unfold hearsaylaw01_NameBytes.f
  repeat' first
      | (with_reducible exact hearsaylaw01_wakes.mono _)
      | (with_reducible exact hearsayref01_Escape.mono _ _ _)
      | (with_reducible exact LeO.refl _)
      | (with_reducible exact LeO.none _)
      | (with_reducible refine LeO.ite ?_ ?_)
      | (with_reducible refine LeO.bind ?_ (fun _ => ?_))
      | exact hearsaylaw01_wakes.mono _
      | exact hearsayref01_Escape.mono _ _ _
      | exact LeO.none _
      | refine LeO.ite ?_ ?_
      | refine LeO.bind ?_ (fun _ => ?_)
set_option maxHeartbeats 8000000 in
set_option maxRecDepth 100000 in
theorem hearsaylaw01_NameBytes.calls (k : Nat) (a0 : ByteArray) (a1 : Bool) (r : Bool) (w : World) (h : hearsaylaw01_NameBytes.f k a0 a1 = some r) :
    Calls Try.prog 5 #[.string a0, .bool a1] w fun e w' => e = .returned (.bool r) ∧ Below w.heap.size w w' := by
  have HB := Aside0.mk (Below.refl w.heap.size w)
  have H : ((name_Bytes.f a0).bind fun bt215 => ((hearsayref01_Bytes.f a0).bind fun bt217 => (if bt215.1.toList = bt217.1.toList then (if bt215.2 = bt217.2 then ((name_Escape.f a0 a1).bind fun t219 => ((hearsayref01_Escape.f k a0 a1).bind fun t220 => (if t219.toList = t220.toList then ((hearsaylaw01_wakes.f k).bind fun t221 => (some t221)) else (some false)))) else (some false)) else (some false)))) = some r := h
  clear h
  replace H := Option.bind_eq_some_iff.mp H
  obtain ⟨⟨t215, t216⟩, A30, H⟩ := H
  replace H : ((hearsayref01_Bytes.f a0).bind fun bt217 => (if t215.toList = bt217.1.toList then (if t216 = bt217.2 then ((name_Escape.f a0 a1).bind fun t219 => ((hearsayref01_Escape.f k a0 a1).bind fun t220 => (if t219.toList = t220.toList then ((hearsaylaw01_wakes.f k).bind fun t221 => (some t221)) else (some false)))) else (some false)) else (some false))) = some r := H
  have A3 := Aside0.mk A30
  clear A30
  replace H := Option.bind_eq_some_iff.mp H
  obtain ⟨⟨t217, t218⟩, A40, H⟩ := H
  replace H : (if t215.toList = t217.toList then (if t216 = t218 then ((name_Escape.f a0 a1).bind fun t219 => ((hearsayref01_Escape.f k a0 a1).bind fun t220 => (if t219.toList = t220.toList then ((hearsaylaw01_wakes.f k).bind fun t221 => (some t221)) else (some false)))) else (some false)) else (some false)) = some r := H
  have A4 := Aside0.mk A40
  clear A40
  by_cases c5 : t215.toList = t217.toList
  · rw [if_pos c5] at H
    have c5b0 : (t215.toList == t217.toList) = true := beq_iff_eq.mpr c5
    have c5b1 : (t215.toList != t217.toList) = false := bne_eq_false_iff_eq.mpr c5
    clear c5
    by_cases c6 : t216 = t218
    · rw [if_pos c6] at H
      have c6b0 : (t216 == t218) = true := beq_iff_eq.mpr c6
      have c6b1 : (t216 != t218) = false := bne_eq_false_iff_eq.mpr c6
      clear c6
      replace H := Option.bind_eq_some_iff.mp H
      obtain ⟨t219, A70, H⟩ := H
      replace H : ((hearsayref01_Escape.f k a0 a1).bind fun t220 => (if t219.toList = t220.toList then ((hearsaylaw01_wakes.f k).bind fun t221 => (some t221)) else (some false))) = some r := H
      have A7 := Aside0.mk A70
      clear A70
      replace H := Option.bind_eq_some_iff.mp H
      obtain ⟨t220, A80, H⟩ := H
      replace H : (if t219.toList = t220.toList then ((hearsaylaw01_wakes.f k).bind fun t221 => (some t221)) else (some false)) = some r := H
      have A8 := Aside0.mk A80
      clear A80
      by_cases c9 : t219.toList = t220.toList
      · rw [if_pos c9] at H
        have c9b0 : (t219.toList == t220.toList) = true := beq_iff_eq.mpr c9
        have c9b1 : (t219.toList != t220.toList) = false := bne_eq_false_iff_eq.mpr c9
        clear c9
        replace H := Option.bind_eq_some_iff.mp H
        obtain ⟨t221, A100, H⟩ := H
        replace H : (some t221) = some r := H
        have A10 := Aside0.mk A100
        clear A100
        obtain rfl := Option.some.inj H
        go_enter Try.func5, Try.ntmps5
        go_wp2_with (first | ((with_reducible refine gate_callee (f := 23) rfl ?_); refine goesL_ (some 11) rfl rfl Try.func23 (by kernel_rfl) rfl #[.string a0] rfl (by (try simp only [List.map_toArray, List.map_cons, List.map_nil]); first | done | rfl | (simp only [List.length_drop, List.length_take]; rfl)) ?_; (with_reducible refine (name_Bytes.calls a0 t215 t216 _ A3.out).mono ?_); rintro e w11 ⟨rfl, hb⟩; refine ⟨_, rfl, ?_⟩; have n0_ := Aside0.mk (below_step (by repeat (first | (with_reducible first | exact HB.out | apply below_alloc | apply pw_below_drewN | apply below_drew1) | exact HB.out)) hb); clear HB; have HB := n0_; clear n0_; (try clear hb); (try clear hb2); (try clear hk); (try clear hi)) | ((with_reducible refine gate_callee (f := 24) rfl ?_); refine goesL_ (some 16) rfl rfl Try.func24 (by kernel_rfl) rfl #[.string a0] rfl (by (try simp only [List.map_toArray, List.map_cons, List.map_nil]); first | done | rfl | (simp only [List.length_drop, List.length_take]; rfl)) ?_; (with_reducible refine (hearsayref01_Bytes.calls a0 t217 t218 _ A4.out).mono ?_); rintro e w12 ⟨rfl, hb⟩; refine ⟨_, rfl, ?_⟩; have n0_ := Aside0.mk (below_step (by repeat (first | (with_reducible first | exact HB.out | apply below_alloc | apply pw_below_drewN | apply below_drew1) | exact HB.out)) hb); clear HB; have HB := n0_; clear n0_; (try clear hb); (try clear hb2); (try clear hk); (try clear hi)) | (go_at_call 25; (with_reducible refine (name_Escape.calls a0 a1 t219 _ A7.out).mono ?_); rintro e w13 ⟨rfl, hb⟩; have n0_ := Aside0.mk (below_step (by repeat (first | (with_reducible first | exact HB.out | apply below_alloc | apply pw_below_drewN | apply below_drew1) | exact HB.out)) hb); clear HB; have HB := n0_; clear n0_; (try clear hb); (try clear hb2); (try clear hk); (try clear hi)) | (go_at_call 26; (with_reducible refine (hearsayref01_Escape.calls k a0 a1 t220 _ A8.out).mono ?_); rintro e w14 ⟨rfl, hb⟩; have n0_ := Aside0.mk (below_step (by repeat (first | (with_reducible first | exact HB.out | apply below_alloc | apply pw_below_drewN | apply below_drew1) | exact HB.out)) hb); clear HB; have HB := n0_; clear n0_; (try clear hb); (try clear hb2); (try clear hk); (try clear hi)) | (go_at_call 19; (with_reducible refine (hearsaylaw01_wakes.calls k  t221 _ A10.out).mono ?_); rintro e w15 ⟨rfl, hb⟩; have n0_ := Aside0.mk (below_step (by repeat (first | (with_reducible first | exact HB.out | apply below_alloc | apply pw_below_drewN | apply below_drew1) | exact HB.out)) hb); clear HB; have HB := n0_; clear n0_; (try clear hb); (try clear hb2); (try clear hk); (try clear hi)))
        go_ret
        exact ⟨by first | rfl | (simp [errW_none, errW_some] <;> rfl) | (simp [*, errW_none, errW_some] <;> rfl), by repeat (first | (with_reducible first | exact HB.out | apply below_alloc | apply pw_below_drewN | apply below_drew1) | exact HB.out)⟩
      · rw [if_neg c9] at H
        have c9b0 : (t219.toList == t220.toList) = false := beq_eq_false_iff_ne.mpr c9
        have c9b1 : (t219.toList != t220.toList) = true := bne_iff_ne.mpr c9
        obtain rfl := Option.some.inj H
        go_enter Try.func5, Try.ntmps5
        go_wp2_with (first | ((with_reducible refine gate_callee (f := 23) rfl ?_); refine goesL_ (some 11) rfl rfl Try.func23 (by kernel_rfl) rfl #[.string a0] rfl (by (try simp only [List.map_toArray, List.map_cons, List.map_nil]); first | done | rfl | (simp only [List.length_drop, List.length_take]; rfl)) ?_; (with_reducible refine (name_Bytes.calls a0 t215 t216 _ A3.out).mono ?_); rintro e w16 ⟨rfl, hb⟩; refine ⟨_, rfl, ?_⟩; have n0_ := Aside0.mk (below_step (by repeat (first | (with_reducible first | exact HB.out | apply below_alloc | apply pw_below_drewN | apply below_drew1) | exact HB.out)) hb); clear HB; have HB := n0_; clear n0_; (try clear hb); (try clear hb2); (try clear hk); (try clear hi)) | ((with_reducible refine gate_callee (f := 24) rfl ?_); refine goesL_ (some 16) rfl rfl Try.func24 (by kernel_rfl) rfl #[.string a0] rfl (by (try simp only [List.map_toArray, List.map_cons, List.map_nil]); first | done | rfl | (simp only [List.length_drop, List.length_take]; rfl)) ?_; (with_reducible refine (hearsayref01_Bytes.calls a0 t217 t218 _ A4.out).mono ?_); rintro e w17 ⟨rfl, hb⟩; refine ⟨_, rfl, ?_⟩; have n0_ := Aside0.mk (below_step (by repeat (first | (with_reducible first | exact HB.out | apply below_alloc | apply pw_below_drewN | apply below_drew1) | exact HB.out)) hb); clear HB; have HB := n0_; clear n0_; (try clear hb); (try clear hb2); (try clear hk); (try clear hi)) | (go_at_call 25; (with_reducible refine (name_Escape.calls a0 a1 t219 _ A7.out).mono ?_); rintro e w18 ⟨rfl, hb⟩; have n0_ := Aside0.mk (below_step (by repeat (first | (with_reducible first | exact HB.out | apply below_alloc | apply pw_below_drewN | apply below_drew1) | exact HB.out)) hb); clear HB; have HB := n0_; clear n0_; (try clear hb); (try clear hb2); (try clear hk); (try clear hi)) | (go_at_call 26; (with_reducible refine (hearsayref01_Escape.calls k a0 a1 t220 _ A8.out).mono ?_); rintro e w19 ⟨rfl, hb⟩; have n0_ := Aside0.mk (below_step (by repeat (first | (with_reducible first | exact HB.out | apply below_alloc | apply pw_below_drewN | apply below_drew1) | exact HB.out)) hb); clear HB; have HB := n0_; clear n0_; (try clear hb); (try clear hb2); (try clear hk); (try clear hi)))
        go_ret
        exact ⟨by first | rfl | (simp [errW_none, errW_some] <;> rfl) | (simp [*, errW_none, errW_some] <;> rfl), by repeat (first | (with_reducible first | exact HB.out | apply below_alloc | apply pw_below_drewN | apply below_drew1) | exact HB.out)⟩
    · rw [if_neg c6] at H
      have c6b0 : (t216 == t218) = false := beq_eq_false_iff_ne.mpr c6
      have c6b1 : (t216 != t218) = true := bne_iff_ne.mpr c6
      obtain rfl := Option.some.inj H
      go_enter Try.func5, Try.ntmps5
      go_wp2_with (first | ((with_reducible refine gate_callee (f := 23) rfl ?_); refine goesL_ (some 11) rfl rfl Try.func23 (by kernel_rfl) rfl #[.string a0] rfl (by (try simp only [List.map_toArray, List.map_cons, List.map_nil]); first | done | rfl | (simp only [List.length_drop, List.length_take]; rfl)) ?_; (with_reducible refine (name_Bytes.calls a0 t215 t216 _ A3.out).mono ?_); rintro e w20 ⟨rfl, hb⟩; refine ⟨_, rfl, ?_⟩; have n0_ := Aside0.mk (below_step (by repeat (first | (with_reducible first | exact HB.out | apply below_alloc | apply pw_below_drewN | apply below_drew1) | exact HB.out)) hb); clear HB; have HB := n0_; clear n0_; (try clear hb); (try clear hb2); (try clear hk); (try clear hi)) | ((with_reducible refine gate_callee (f := 24) rfl ?_); refine goesL_ (some 16) rfl rfl Try.func24 (by kernel_rfl) rfl #[.string a0] rfl (by (try simp only [List.map_toArray, List.map_cons, List.map_nil]); first | done | rfl | (simp only [List.length_drop, List.length_take]; rfl)) ?_; (with_reducible refine (hearsayref01_Bytes.calls a0 t217 t218 _ A4.out).mono ?_); rintro e w21 ⟨rfl, hb⟩; refine ⟨_, rfl, ?_⟩; have n0_ := Aside0.mk (below_step (by repeat (first | (with_reducible first | exact HB.out | apply below_alloc | apply pw_below_drewN | apply below_drew1) | exact HB.out)) hb); clear HB; have HB := n0_; clear n0_; (try clear hb); (try clear hb2); (try clear hk); (try clear hi)))
      go_ret
      exact ⟨by first | rfl | (simp [errW_none, errW_some] <;> rfl) | (simp [*, errW_none, errW_some] <;> rfl), by repeat (first | (with_reducible first | exact HB.out | apply below_alloc | apply pw_below_drewN | apply below_drew1) | exact HB.out)⟩
  · rw [if_neg c5] at H
    have c5b0 : (t215.toList == t217.toList) = false := beq_eq_false_iff_ne.mpr c5
    have c5b1 : (t215.toList != t217.toList) = true := bne_iff_ne.mpr c5
    obtain rfl := Option.some.inj H
    go_enter Try.func5, Try.ntmps5
    go_wp2_with (first | ((with_reducible refine gate_callee (f := 23) rfl ?_); refine goesL_ (some 11) rfl rfl Try.func23 (by kernel_rfl) rfl #[.string a0] rfl (by (try simp only [List.map_toArray, List.map_cons, List.map_nil]); first | done | rfl | (simp only [List.length_drop, List.length_take]; rfl)) ?_; (with_reducible refine (name_Bytes.calls a0 t215 t216 _ A3.out).mono ?_); rintro e w22 ⟨rfl, hb⟩; refine ⟨_, rfl, ?_⟩; have n0_ := Aside0.mk (below_step (by repeat (first | (with_reducible first | exact HB.out | apply below_alloc | apply pw_below_drewN | apply below_drew1) | exact HB.out)) hb); clear HB; have HB := n0_; clear n0_; (try clear hb); (try clear hb2); (try clear hk); (try clear hi)) | ((with_reducible refine gate_callee (f := 24) rfl ?_); refine goesL_ (some 16) rfl rfl Try.func24 (by kernel_rfl) rfl #[.string a0] rfl (by (try simp only [List.map_toArray, List.map_cons, List.map_nil]); first | done | rfl | (simp only [List.length_drop, List.length_take]; rfl)) ?_; (with_reducible refine (hearsayref01_Bytes.calls a0 t217 t218 _ A4.out).mono ?_); rintro e w23 ⟨rfl, hb⟩; refine ⟨_, rfl, ?_⟩; have n0_ := Aside0.mk (below_step (by repeat (first | (with_reducible first | exact HB.out | apply below_alloc | apply pw_below_drewN | apply below_drew1) | exact HB.out)) hb); clear HB; have HB := n0_; clear n0_; (try clear hb); (try clear hb2); (try clear hk); (try clear hi)))
    go_ret
    exact ⟨by first | rfl | (simp [errW_none, errW_some] <;> rfl) | (simp [*, errW_none, errW_some] <;> rfl), by repeat (first | (with_reducible first | exact HB.out | apply below_alloc | apply pw_below_drewN | apply below_drew1) | exact HB.out)⟩

/-- THE ONE PURE STATEMENT of hearsaylaw01_NameBytes: yours. -/
def hearsaylaw01_NameBytes.Pure : Prop := ∀ (a0 : ByteArray) (a1 : Bool), a0.size ≤ 140737488351232 → ∃ k, hearsaylaw01_NameBytes.f k a0 a1 = some true
theorem hearsaylaw01_NameBytes.walk (P : hearsaylaw01_NameBytes.Pure) (a0 : ByteArray) (a1 : Bool) (w : World) (w0 : a0.size ≤ 140737488351232) :
    Calls Try.prog 5 #[.string a0, .bool a1] w fun e w' => e = .returned (.bool true) ∧ Below w.heap.size w w' := by
  obtain ⟨k, h⟩ := P a0 a1 w0
  refine (hearsaylaw01_NameBytes.calls k a0 a1 true w h).mono ?_
  rintro e w' ⟨rfl, hd⟩
  exact ⟨rfl, hd⟩

end Go.Proofs.Ytplnknhlgdoliaa.Print
end
section
/- hearsaylaw01.wakes tells true. -/
namespace Go.Proofs.Ytplnknhlgdoliaa.Print
set_option linter.unusedVariables false
set_option linter.unusedSimpArgs false
open Go.RowKit Go.Proofs.YtplnknhlgdoliaaW.PrintWords Go.Proofs.YtplnknhlgdoliaaW.PrintLast Go.Proofs.YtplnknhlgdoliaaW.PrintMore
theorem wakes_ev : Ev (fun k => hearsaylaw01_wakes.f k) true := by
  have h1 : name_Parse.f ⟨#[65, 98, 46, 99]⟩ ⟨#[0]⟩ = some (⟨#[2, 65, 98, 1, 99, 0]⟩, 0) := by kernel_rfl
  have h2 : name_Fold.f ⟨#[2, 65, 98, 1, 99, 0]⟩ = some ⟨#[2, 97, 98, 1, 99, 0]⟩ := by kernel_rfl
  have h3 : name_Text.f ⟨#[2, 97, 98, 1, 99, 0]⟩ = some ⟨#[97, 98, 46, 99, 46]⟩ := by kernel_rfl
  have h4 := count_f ⟨#[2, 65, 98, 1, 99, 0]⟩
  have h5 := check_f ⟨#[2, 65, 98, 1, 99, 0]⟩
  have e4 : (((dec ⟨#[2, 65, 98, 1, 99, 0]⟩).getD []).length : Int) = 2 := by kernel_rfl
  have e5 : (if (dec ⟨#[2, 65, 98, 1, 99, 0]⟩).isSome then (0 : Int) else 11) = 0 := by kernel_rfl
  have e6 : (⟨#[2, 65, 98, 1, 99, 0]⟩ : ByteArray).toList = [2, 65, 98, 1, 99, 0] := by kernel_rfl
  have e7 : (⟨#[97, 98, 46, 99, 46]⟩ : ByteArray).toList = [97, 98, 46, 99, 46] := by kernel_rfl
  rw [e4] at h4
  rw [e5] at h5
  refine Ev.congr (f := fun k => (name_Count.f k ⟨#[2, 65, 98, 1, 99, 0]⟩).bind fun c => if c = 2 then (name_Check.f k ⟨#[2, 65, 98, 1, 99, 0]⟩).bind fun d => some (d == 0) else some false) (fun k => ?_) ?_
  · unfold hearsaylaw01_wakes.f
    rw [h1]
    simp only [Option.bind_some]
    rw [if_pos trivial, if_pos e6, h2]
    simp only [Option.bind_some]
    rw [h3]
    simp only [Option.bind_some]
    rw [if_pos e7]
  · refine Ev.bind (f := fun k c => if c = 2 then (name_Check.f k ⟨#[2, 65, 98, 1, 99, 0]⟩).bind fun d => some (d == 0) else some false) h4 ?_
    exact Ev.bind (f := fun k (d : Int) => some (d == 0)) h5 (Ev.now _)
end Go.Proofs.Ytplnknhlgdoliaa.Print
end
section
/- Bytes and Escape are what the document says: the plain law, up to a bound. -/
namespace Go.Proofs.Ytplnknhlgdoliaa.Pure
open Go.RowKit Go.Proofs.Ytplnknhlgdoliaa.Print Go.Proofs.YtplnknhlgdoliaaW.PrintWords Go.Proofs.YtplnknhlgdoliaaW.PrintLast Go.Proofs.YtplnknhlgdoliaaW.PrintMore
set_option linter.unusedVariables false
set_option linter.unusedSimpArgs false
theorem marked_f (c : Int) (q : Bool) : hearsayref01_marked.f c q = some (decide (c = 34 ∨ c = 92 ∨ (q = false ∧ (c = 46 ∨ c = 59 ∨ c = 40 ∨ c = 41 ∨ c = 64 ∨ c = 36)))) := by
  unfold hearsayref01_marked.f
  by_cases h1 : c = 34
  · rw [if_pos h1]; simp [h1]
  rw [if_neg h1]
  by_cases h2 : c = 92
  · rw [if_pos h2]; simp [h2]
  rw [if_neg h2]
  cases q
  · rw [if_neg (by simp)]
    by_cases h3 : c = 46
    · rw [if_pos h3]; simp [h3]
    rw [if_neg h3]
    by_cases h4 : c = 59
    · rw [if_pos h4]; simp [h4]
    rw [if_neg h4]
    by_cases h5 : c = 40
    · rw [if_pos h5]; simp [h5]
    rw [if_neg h5]
    by_cases h6 : c = 41
    · rw [if_pos h6]; simp [h6]
    rw [if_neg h6]
    by_cases h7 : c = 64
    · rw [if_pos h7]; simp [h7]
    rw [if_neg h7]
    by_cases h8 : c = 36
    · simp [h8]
    · simp [h1, h2, h3, h4, h5, h6, h7, h8]
  · rw [if_pos rfl]; simp [h1, h2]
theorem esc_round (k : Nat) (s : ByteArray) (q : Bool) (X : List Int) (i : Nat) (hi : i < s.size) (hx : X.length ≤ 4 * i) (hs : s.size ≤ 8388608) :
    hearsayref01_Escape.l0 (k + 1) s q X (i : Int) = hearsayref01_Escape.l0 k s q (X ++ escB q (bt s (i : Int))) ((i + 1 : Nat) : Int) := by
  have hc : 0 ≤ bt s (i : Int) ∧ bt s (i : Int) < 256 := by
    have hil : i < (bytesOf s).length := by rw [bytesOf_length]; exact hi
    have he : (bytesOf s)[i] = bt s (i : Int) := by rw [← rd_bytesOf]; simp [rd, List.getD_eq_getElem?_getD, List.getElem?_eq_getElem hil]
    exact bo_range s _ (he ▸ List.getElem_mem hil)
  simp only [hearsayref01_Escape.l0]
  rw [if_pos (by omega), if_pos (by omega), marked_f, Option.bind_some, w64 (n := (i : Int) + 1) (by omega) (by omega), show (i : Int) + 1 = ((i + 1 : Nat) : Int) by omega]
  generalize bt s (i : Int) = c at hc
  have e1 : (48 + ((Int.tdiv c 100) % 256)) % 256 = 48 + c / 100 := by rw [Int.tdiv_eq_ediv_of_nonneg hc.1]; omega
  have e2 : 48 + (((Int.tdiv c 10) % 256) % 10) = 48 + c / 10 % 10 := by rw [Int.tdiv_eq_ediv_of_nonneg hc.1]; omega
  have e3 : (48 + (Int.tmod c 10)) % 256 = 48 + c % 10 := by rw [Int.tmod_eq_emod_of_nonneg hc.1]; omega
  rw [e1, e2, e3]
  by_cases hm : c = 34 ∨ c = 92 ∨ (q = false ∧ (c = 46 ∨ c = 59 ∨ c = 40 ∨ c = 41 ∨ c = 64 ∨ c = 36))
  · have hE : escB q c = [92, c] := by
      unfold escB
      rcases hm with h | h | ⟨h, h'⟩
      · rw [if_neg (by omega), if_pos (Or.inl h)]
      · rw [if_neg (by omega), if_pos (Or.inr h)]
      · rw [if_pos h', if_neg (by simp [h])]
    rw [if_pos (decide_eq_true hm), Option.bind_some, if_pos (by simp only [List.length_cons, List.length_nil]; omega), hE]
  · have hn1 : ¬ (c = 34 ∨ c = 92) := fun h => hm (by rcases h with h | h <;> simp [h])
    have hn2 : (c = 46 ∨ c = 59 ∨ c = 40 ∨ c = 41 ∨ c = 64 ∨ c = 36) → q = true := fun h => by
      cases q
      · exact absurd (Or.inr (Or.inr ⟨rfl, h⟩)) hm
      · rfl
    rw [if_neg (fun h => hm (of_decide_eq_true h))]
    have hone : (32 < c ∧ c < 127) ∨ (c = 32 ∧ q = true) → escB q c = [c] := fun hp => by
      unfold escB
      by_cases hd : c = 46 ∨ c = 59 ∨ c = 40 ∨ c = 41 ∨ c = 64 ∨ c = 36
      · rw [if_pos hd, if_pos (hn2 hd)]
      · rw [if_neg hd, if_neg hn1, if_pos hp]
    have hfour : ¬ ((32 < c ∧ c < 127) ∨ (c = 32 ∧ q = true)) → escB q c = [92, 48 + c / 100, 48 + c / 10 % 10, 48 + c % 10] := fun hp => by
      unfold escB
      rw [if_neg (by omega), if_neg hn1, if_neg hp]
    have l1 : X.length < 140737488355328 := by omega
    have l4 : X.length + ([92, 48 + c / 100, 48 + c / 10 % 10, 48 + c % 10] : List Int).length < 140737488355328 := by simp only [List.length_cons, List.length_nil]; omega
    simp only [Option.bind_some]
    rw [if_pos l1, if_pos l4]
    by_cases h1 : c > 32
    · rw [if_pos h1]
      by_cases h2 : c < 127
      · rw [if_pos h2, hone (Or.inl ⟨h1, h2⟩)]
      · rw [if_neg h2, if_neg (by omega), hfour (by omega)]
    · rw [if_neg h1]
      by_cases h3 : c = 32
      · rw [if_pos h3]
        by_cases h4 : q = true
        · rw [if_pos h4, hone (Or.inr ⟨h3, h4⟩)]
        · rw [if_neg h4, hfour (by rintro (h | h); exact absurd h.1 h1; exact h4 h.2)]
      · rw [if_neg h3, hfour (by omega)]
theorem esc_f (s : ByteArray) (q : Bool) (hs : s.size ≤ 8388608) : Ev (fun k => hearsayref01_Escape.f k s q) (strOfNums (esc q (bytesOf s))) := by
  suffices H : ∀ (d i : Nat), s.size - i ≤ d → i ≤ s.size → Ev (fun k => hearsayref01_Escape.l0 k s q (esc q ((bytesOf s).take i)) (i : Int)) (strOfNums (esc q (bytesOf s))) from Ev.congr (fun k => rfl) (H s.size 0 (by omega) (by omega))
  have hend : ∀ i, s.size ≤ i → Ev (fun k => hearsayref01_Escape.l0 k s q (esc q ((bytesOf s).take i)) (i : Int)) (strOfNums (esc q (bytesOf s))) := by
    intro i hi
    refine Ev.step (f := fun _ => some _) (fun k => ?_) (Ev.now _)
    simp only [hearsayref01_Escape.l0]
    rw [if_neg (by omega), List.take_of_length_le (by rw [bytesOf_length]; omega)]
  intro d
  induction d with
  | zero => intro i hd hi; exact hend i (by omega)
  | succ d ih =>
    intro i hd hi
    by_cases hlt : i < s.size
    · have ih := ih (i + 1) (by omega) (by omega)
      have hil : i < (bytesOf s).length := by rw [bytesOf_length]; exact hlt
      have he : (bytesOf s)[i] = bt s (i : Int) := by rw [← rd_bytesOf]; simp [rd, List.getD_eq_getElem?_getD, List.getElem?_eq_getElem hil]
      have hx : esc q ((bytesOf s).take (i + 1)) = esc q ((bytesOf s).take i) ++ escB q (bt s (i : Int)) := by
        rw [List.take_add_one, List.getElem?_eq_getElem hil, he]; simp [esc]
      have hl : (esc q ((bytesOf s).take i)).length ≤ 4 * i := by
        have key : ∀ l : List Int, (esc q l).length ≤ 4 * l.length := by
          intro l
          induction l with
          | nil => simp [esc]
          | cons c r ihl =>
            have := escB_length q c
            have e : esc q (c :: r) = escB q c ++ esc q r := by simp [esc]
            rw [e, List.length_append, List.length_cons]; omega
        have := key ((bytesOf s).take i)
        rw [List.length_take] at this
        omega
      rw [hx] at ih
      exact Ev.step (fun k => esc_round k s q _ i hlt hl hs) ih
    · exact hend i (by omega)
theorem NameBytes (a0 : ByteArray) (a1 : Bool) (hs : a0.size ≤ 1048576) : ∃ k, hearsaylaw01_NameBytes.f k a0 a1 = some true := by
  refine Ev.rounds (g := fun k => hearsaylaw01_NameBytes.f k a0 a1) ?_
  have W : Ev (fun k => (hearsaylaw01_wakes.f k).bind fun x => some x) true := Ev.bind (f := fun _ x => some x) wakes_ev (Ev.now _)
  obtain ⟨p, hp⟩ : ∃ p, name_Bytes.f a0 = some p := by
    unfold name_Bytes.f
    rw [if_pos (by omega)]
    split <;> exact ⟨_, rfl⟩
  have hq : hearsayref01_Bytes.f a0 = some p := hp
  have he : name_Escape.f a0 a1 = some (strOfNums (esc a1 (bytesOf a0))) := by unfold name_Escape.f; rw [if_pos (by omega)]
  refine Ev.congr (f := fun k => (hearsayref01_Escape.f k a0 a1).bind fun t => if (strOfNums (esc a1 (bytesOf a0))).toList = t.toList then (hearsaylaw01_wakes.f k).bind fun x => some x else some false) (fun k => ?_) ?_
  · unfold hearsaylaw01_NameBytes.f
    rw [hp, hq, he]
    simp only [Option.bind_some]
    rw [if_pos trivial, if_pos trivial]
  · refine Ev.bind (f := fun k (t : ByteArray) => if (strOfNums (esc a1 (bytesOf a0))).toList = t.toList then (hearsaylaw01_wakes.f k).bind fun x => some x else some false) (esc_f a0 a1 (by omega)) ?_
    exact Ev.congr (fun k => if_pos rfl) W
end Go.Proofs.Ytplnknhlgdoliaa.Pure
end
section
/- Parse and Text are what the document says: the plain law, up to a bound. -/
namespace Go.Proofs.Ytplnknhlgdoliaa.Pure
open Go.RowKit Go.Proofs.Ytplnknhlgdoliaa.Print Go.Proofs.YtplnknhlgdoliaaW.PrintWords Go.Proofs.YtplnknhlgdoliaaW.PrintLast Go.Proofs.YtplnknhlgdoliaaW.PrintMore
set_option linter.unusedVariables false
set_option linter.unusedSimpArgs false
/-- the pieces before dots, from byte i on, and where the last begins -/
def cutsL (t : ByteArray) : List Int → Nat → Nat → List ByteArray × Nat
  | [], _, frm => ([], frm)
  | c :: r, i, frm => if c = 92 then (match r with | [] => ([], frm) | _ :: r2 => cutsL t r2 (i + 2) frm)
    else if c = 46 then (t.extract frm i :: (cutsL t r (i + 1) (i + 1)).1, (cutsL t r (i + 1) (i + 1)).2)
    else cutsL t r (i + 1) frm
def cuts (t : ByteArray) (i frm : Nat) : List ByteArray × Nat := cutsL t ((bytesOf t).drop i) i frm
theorem cuts_end (t : ByteArray) (i frm : Nat) (h : ¬ i < t.size) : cuts t i frm = ([], frm) := by
  unfold cuts; rw [bo_end t i (by omega)]; rfl
theorem cuts_esc (t : ByteArray) (i frm : Nat) (h : i < t.size) (hc : bt t (i : Int) = 92) : cuts t i frm = cuts t (i + 2) frm := by
  unfold cuts
  rw [bo_drop t i h, hc]
  by_cases h2 : i + 1 < t.size
  · rw [bo_drop t (i + 1) h2]; simp [cutsL]
  · rw [bo_end t (i + 1) (by omega), bo_end t (i + 2) (by omega)]; simp [cutsL]
theorem cuts_dot (t : ByteArray) (i frm : Nat) (h : i < t.size) (hc : bt t (i : Int) = 46) : cuts t i frm = (t.extract frm i :: (cuts t (i + 1) (i + 1)).1, (cuts t (i + 1) (i + 1)).2) := by
  unfold cuts
  rw [bo_drop t i h, hc, cutsL.eq_def]
  simp
theorem cuts_plain (t : ByteArray) (i frm : Nat) (h : i < t.size) (hc : bt t (i : Int) ≠ 92) (hd : bt t (i : Int) ≠ 46) : cuts t i frm = cuts t (i + 1) frm := by
  unfold cuts
  rw [bo_drop t i h, cutsL.eq_def]; simp only []; rw [if_neg hc, if_neg hd]
/-- a piece, told -/
def told (x : ByteArray) : ByteArray × Int := if (bytesP x).2 = 0 ∧ ((bytesP x).1.size = 0 ∨ 63 < (bytesP x).1.size) then ((bytesP x).1, 10) else bytesP x
theorem piece_told (t : ByteArray) (a b : Nat) : pieceP t a b = told (t.extract a b) := rfl
def tell : List ByteArray → List ByteArray → Int × List ByteArray
  | [], L => (0, L)
  | x :: r, L => if (told x).2 = 0 then tell r (L ++ [(told x).1]) else ((told x).2, L)
theorem tell_nil (L : List ByteArray) : tell [] L = (0, L) := rfl
theorem tell_ok {x : ByteArray} (h : (told x).2 = 0) (r L : List ByteArray) : tell (x :: r) L = tell r (L ++ [(told x).1]) := if_pos h
theorem tell_err {x : ByteArray} (h : ¬ (told x).2 = 0) (r L : List ByteArray) : tell (x :: r) L = ((told x).2, L) := if_neg h
theorem tell_append (x : ByteArray) : ∀ (P L : List ByteArray), tell (P ++ [x]) L = if (tell P L).1 = 0 then tell [x] (tell P L).2 else tell P L := by
  intro P
  induction P with
  | nil => intro L; simp [tell]
  | cons p P ih =>
    intro L
    rw [List.cons_append]
    by_cases h : (told p).2 = 0
    · rw [tell_ok h, tell_ok h, ih]
    · rw [tell_err h, tell_err h, if_neg (show ¬ ((told p).2, L).1 = 0 from h)]
theorem scan_cuts (t : ByteArray) : ∀ (d i frm : Nat) (L : List ByteArray), t.size - i ≤ d → (scan t i frm L).1 = (tell (cuts t i frm).1 L).1 ∧ ((tell (cuts t i frm).1 L).1 = 0 → (scan t i frm L).2 = ((cuts t i frm).2, (tell (cuts t i frm).1 L).2)) := by
  intro d
  induction d with
  | zero =>
    intro i frm L hd
    rw [scan_end t i frm L (by omega), cuts_end t i frm (by omega)]
    exact ⟨rfl, fun _ => rfl⟩
  | succ d ih =>
    intro i frm L hd
    by_cases h : i < t.size
    · by_cases hc : bt t (i : Int) = 92
      · rw [scan_esc t i frm L h hc, cuts_esc t i frm h hc]
        exact ih _ _ _ (by omega)
      · by_cases hd' : bt t (i : Int) = 46
        · rw [scan_dot t i frm L h hd', cuts_dot t i frm h hd', piece_told]
          simp only [tell]
          by_cases ho : (told (t.extract frm i)).2 = 0
          · rw [if_pos ho, if_pos ho]
            exact ih _ _ _ (by omega)
          · rw [if_neg ho, if_neg ho]
            exact ⟨rfl, fun h0 => absurd h0 ho⟩
        · rw [scan_plain t i frm L h hc hd', cuts_plain t i frm h hc hd']
          exact ih _ _ _ (by omega)
    · rw [scan_end t i frm L h, cuts_end t i frm h]
      exact ⟨rfl, fun _ => rfl⟩
theorem cuts_bound (t : ByteArray) : ∀ (d i frm : Nat), t.size - i ≤ d → frm ≤ i → frm ≤ t.size → (cuts t i frm).2 ≤ t.size ∧ (cuts t i frm).1.length ≤ t.size - i ∧ ∀ x ∈ (cuts t i frm).1, x.size ≤ t.size := by
  intro d
  induction d with
  | zero =>
    intro i frm hd hf hft
    rw [cuts_end t i frm (by omega)]
    exact ⟨hft, Nat.zero_le _, by simp⟩
  | succ d ih =>
    intro i frm hd hf hft
    by_cases h : i < t.size
    · by_cases hc : bt t (i : Int) = 92
      · rw [cuts_esc t i frm h hc]
        obtain ⟨h1, h2, h3⟩ := ih (i + 2) frm (by omega) (by omega) hft
        exact ⟨h1, by omega, h3⟩
      · by_cases hd' : bt t (i : Int) = 46
        · rw [cuts_dot t i frm h hd']
          obtain ⟨h1, h2, h3⟩ := ih (i + 1) (i + 1) (by omega) (by omega) (by omega)
          refine ⟨h1, by simp only [List.length_cons]; omega, fun x hx => ?_⟩
          rcases List.mem_cons.1 hx with rfl | hx
          · simp only [ByteArray.size_extract]; omega
          · exact h3 x hx
        · rw [cuts_plain t i frm h hc hd']
          obtain ⟨h1, h2, h3⟩ := ih (i + 1) frm (by omega) (by omega) hft
          exact ⟨h1, by omega, h3⟩
    · rw [cuts_end t i frm h]
      exact ⟨hft, Nat.zero_le _, by simp⟩
/-- all pieces of a text, and whether it ends with a dot -/
def parts (t : ByteArray) (P : List ByteArray × Nat) : List ByteArray × Bool := if P.2 = t.size ∧ 0 < P.2 then (P.1, true) else (P.1 ++ [t.extract P.2 t.size], false)
theorem pieces_l0 (t : ByteArray) (hs : t.size ≤ 8388608) : ∀ (d i frm : Nat) (A : List ByteArray), t.size - i ≤ d → frm ≤ i → frm ≤ t.size → i ≤ t.size + 1 → A.length ≤ i → Ev (fun k => hearsayref01_pieces.l0 k t A (frm : Int) (i : Int)) (parts t (A ++ (cuts t i frm).1, (cuts t i frm).2)) := by
  have hend : ∀ (i frm : Nat) (A : List ByteArray), ¬ i < t.size → frm ≤ t.size → i ≤ t.size + 1 → A.length ≤ i → Ev (fun k => hearsayref01_pieces.l0 k t A (frm : Int) (i : Int)) (parts t (A ++ (cuts t i frm).1, (cuts t i frm).2)) := by
    intro i frm A h hft hi hA
    refine Ev.step (f := fun _ => some _) (fun k => ?_) (Ev.now _)
    simp only [hearsayref01_pieces.l0]
    rw [if_neg (by omega), cuts_end t i frm h, List.append_nil]
    unfold parts
    by_cases h1 : frm = t.size
    · by_cases h2 : 0 < frm
      · rw [if_pos (by omega), if_pos (by omega), if_pos ⟨h1, h2⟩]
      · rw [if_pos (by omega), if_neg (by omega), if_pos (by omega), if_pos (by omega), if_pos (by omega), if_neg (fun h => h2 h.2), Int.toNat_natCast]
    · rw [if_neg (by omega), if_pos (by omega), if_pos (by omega), if_pos (by omega), if_neg (fun h => h1 h.1), Int.toNat_natCast]
  intro d
  induction d with
  | zero => intro i frm A hd hf hft hi hA; exact hend i frm A (by omega) hft hi hA
  | succ d ih =>
    intro i frm A hd hf hft hi hA
    by_cases h : i < t.size
    · have e1 : wrap64 ((i : Int) + 1) = ((i + 1 : Nat) : Int) := by rw [w64 (by omega) (by omega)]; omega
      have e2 : wrap64 (((i + 1 : Nat) : Int) + 1) = ((i + 2 : Nat) : Int) := by rw [w64 (by omega) (by omega)]; omega
      by_cases hc : bt t (i : Int) = 92
      · rw [cuts_esc t i frm h hc]
        refine Ev.step (fun k => ?_) (ih (i + 2) frm A (by omega) (by omega) hft (by omega) (by omega))
        simp only [hearsayref01_pieces.l0]
        rw [if_pos (by omega), if_pos (by omega), if_pos hc, e1, e2]
      · by_cases hd' : bt t (i : Int) = 46
        · rw [cuts_dot t i frm h hd', show A ++ (t.extract frm i :: (cuts t (i + 1) (i + 1)).1) = (A ++ [t.extract frm i]) ++ (cuts t (i + 1) (i + 1)).1 by simp]
          refine Ev.step (fun k => ?_) (ih (i + 1) (i + 1) (A ++ [t.extract frm i]) (by omega) (by omega) (by omega) (by omega) (by rw [List.length_append, List.length_singleton]; omega))
          simp only [hearsayref01_pieces.l0]
          rw [if_pos (by omega), if_pos (by omega), if_neg hc, if_pos hd', if_pos (by omega), if_pos (by omega), if_pos (by omega), if_pos (by omega), e1, Int.toNat_natCast, Int.toNat_natCast]
        · rw [cuts_plain t i frm h hc hd']
          refine Ev.step (fun k => ?_) (ih (i + 1) frm A (by omega) (by omega) hft (by omega) (by omega))
          simp only [hearsayref01_pieces.l0]
          rw [if_pos (by omega), if_pos (by omega), if_neg hc, if_neg hd', e1]
    · exact hend i frm A h hft hi hA
theorem pieces_f (t : ByteArray) (hs : t.size ≤ 8388608) : Ev (fun k => hearsayref01_pieces.f k t) (parts t (cuts t 0 0)) := by
  have := pieces_l0 t hs t.size 0 0 [] (by omega) (by omega) (by omega) (by omega) (by simp)
  exact Ev.congr (fun k => rfl) this
/-- what the pieces come to -/
def comes (B : List ByteArray) (wh : Bool) (e : Int × List ByteArray) : ByteArray × Int := if e.1 = 0 then (name_Of.f (if wh then e.2 else e.2 ++ B)).getD (⟨#[]⟩, 0) else (⟨#[]⟩, e.1)
theorem rdOf_drop {P : List ByteArray} {i : Nat} {x : ByteArray} {r : List ByteArray} (h : P.drop i = x :: r) : rdOf ByteArray.empty P (i : Int) = x ∧ P.drop (i + 1) = r ∧ i < P.length := by
  have h1 : (P.drop i)[0]? = some x := by rw [h]; rfl
  have h2 : P[i]? = some x := by simpa using h1
  refine ⟨?_, by rw [← List.drop_drop, h]; rfl, (List.getElem?_eq_some_iff.1 h2).1⟩
  unfold rdOf; rw [List.getD_eq_getElem?_getD, Int.toNat_natCast, h2]; rfl
theorem parse_l0 (B P : List ByteArray) (wh : Bool) (hB : B.length ≤ 127) (hP : P.length ≤ 8388609) (hx : ∀ x ∈ P, x.size ≤ 8388608) : ∀ (xs : List ByteArray) (i : Nat) (L : List ByteArray), P.drop i = xs → L.length ≤ i → i ≤ P.length → Ev (fun k => hearsayref01_Parse.l0 k B P wh L (i : Int)) (comes B wh (tell xs L)) := by
  intro xs
  induction xs with
  | nil =>
    intro i L hd hL hi
    have hl : P.length ≤ i := by
      have := congrArg List.length hd
      simp at this; omega
    simp only [tell, comes, if_true]
    cases wh with
    | true =>
      refine Ev.step (f := fun k => (hearsayref01_Of.f k L).bind fun bt => some (bt.1, bt.2)) (fun k => ?_) (Ev.bind (f := fun _ (bt : ByteArray × Int) => some (bt.1, bt.2)) (rof_f L (by omega)) (Ev.now _))
      simp only [hearsayref01_Parse.l0]
      rw [if_neg (by omega), if_pos trivial]
    | false =>
      refine Ev.step (f := fun k => (hearsayref01_Of.f k (L ++ B)).bind fun bt => some (bt.1, bt.2)) (fun k => ?_) (Ev.bind (f := fun _ (bt : ByteArray × Int) => some (bt.1, bt.2)) (rof_f (L ++ B) (by rw [List.length_append]; omega)) (Ev.now _))
      simp only [hearsayref01_Parse.l0]
      rw [if_neg (by omega), if_neg (by simp), if_pos (by omega)]
  | cons x xs ih =>
    intro i L hd hL hi
    obtain ⟨h1, h2, h3⟩ := rdOf_drop hd
    have hsz : x.size ≤ 8388608 := hx x (by
      have : x ∈ P.drop i := by rw [hd]; exact List.mem_cons_self
      exact List.mem_of_mem_drop this)
    have hb : hearsayref01_Bytes.f x = some (bytesP x) := bytesP_f x (by omega)
    simp only [tell]
    by_cases h0 : (bytesP x).2 = 0
    · by_cases hbad : (bytesP x).1.size = 0 ∨ 63 < (bytesP x).1.size
      · have ht : told x = ((bytesP x).1, 10) := by unfold told; rw [if_pos ⟨h0, hbad⟩]
        rw [ht, if_neg (by simp), comes, if_neg (by simp)]
        refine Ev.step (f := fun _ => some _) (fun k => ?_) (Ev.now _)
        simp only [hearsayref01_Parse.l0]
        rw [if_pos (by omega), if_pos (by omega), h1, hb, Option.bind_some, if_pos h0]
        by_cases hl : (bytesP x).1.size = 0
        · rw [if_pos (by omega)]
        · rw [if_neg (by omega), if_pos (by omega)]
      · have ht : told x = bytesP x := by unfold told; rw [if_neg (fun h => hbad h.2)]
        rw [ht, if_pos h0]
        refine Ev.step (fun k => ?_) (ih (i + 1) (L ++ [(bytesP x).1]) h2 (by rw [List.length_append, List.length_singleton]; omega) (by omega))
        simp only [hearsayref01_Parse.l0]
        rw [if_pos (by omega), if_pos (by omega), h1, hb, Option.bind_some, if_pos h0, if_neg (by omega), if_neg (by omega), if_pos (by omega), w64 (by omega) (by omega)]
        rfl
    · have ht : told x = bytesP x := by unfold told; rw [if_neg (fun h => h0 h.1)]
      rw [ht, if_neg h0, comes, if_neg h0]
      refine Ev.step (f := fun _ => some _) (fun k => ?_) (Ev.now _)
      simp only [hearsayref01_Parse.l0]
      rw [if_pos (by omega), if_pos (by omega), h1, hb, Option.bind_some, if_neg h0]
theorem parse_comes {t o : ByteArray} {B : List ByteArray} (ho : dec o = some B) (hdot : ¬ t.toList = [46]) : parseP t o = comes B (parts t (cuts t 0 0)).2 (tell (parts t (cuts t 0 0)).1 []) := by
  obtain ⟨hb1, hb2, hb3⟩ := cuts_bound t t.size 0 0 (by omega) (by omega) (by omega)
  obtain ⟨hs1, hs2⟩ := scan_cuts t t.size 0 0 [] (by omega)
  rw [parse_of ho (by simpa using hdot), hs1]
  generalize hC : cuts t 0 0 = C at *
  by_cases h0 : (tell C.1 []).1 = 0
  · rw [if_neg (fun h => h h0), hs2 h0]
    unfold parts comes
    by_cases hw : C.2 = t.size ∧ 0 < C.2
    · rw [if_pos hw, if_neg (by omega)]
      simp only []
      rw [if_pos h0, if_pos trivial]
    · rw [if_neg hw, if_pos (by omega)]
      simp only []
      rw [tell_append, if_pos h0, piece_told]
      by_cases hp : (told (t.extract C.2 t.size)).2 = 0
      · rw [if_neg (fun h => h hp), tell_ok hp, tell_nil]; simp
      · rw [if_pos hp, tell_err hp]; simp [hp]
  · rw [if_pos h0]
    unfold parts comes
    by_cases hw : C.2 = t.size ∧ 0 < C.2
    · rw [if_pos hw]; simp only []; rw [if_neg h0]
    · rw [if_neg hw]; simp only []; rw [tell_append, if_neg h0, if_neg h0]
theorem parse_f (t o : ByteArray) (hs : t.size ≤ 8388608) : Ev (fun k => hearsayref01_Parse.f k t o) (parseP t o) := by
  obtain ⟨l', hsp, hl'⟩ := split_f o
  have hdl := dec_labels o
  cases ho : dec o with
  | none =>
    have e : parseP t o = (⟨#[]⟩, 11) := by unfold parseP; rw [ho]
    rw [e]
    rw [ho] at hsp
    refine Ev.congr (fun k => rfl) (Ev.bind (f := fun k (x : List ByteArray × Bool) => if x.2 = true then _ else _) hsp ?_)
    refine Ev.congr (fun k => ?_) (Ev.now _)
    rw [if_neg (by simp)]
  | some B =>
    obtain rfl := hl' B ho
    rw [ho] at hsp hdl
    refine Ev.congr (fun k => rfl) (Ev.bind (f := fun k (x : List ByteArray × Bool) => if x.2 = true then _ else _) hsp ?_)
    by_cases hdot : t.toList = [46]
    · have e : parseP t o = (⟨#[0]⟩, 0) := by unfold parseP; rw [ho]; simp only []; rw [if_pos hdot]
      rw [e]
      refine Ev.congr (fun k => ?_) (Ev.now _)
      rw [if_pos (show (l', (some l').isSome).2 = true from rfl), if_pos hdot]
    · refine Ev.congr (f := fun k => (hearsayref01_pieces.f k t).bind fun b => hearsayref01_Parse.l0 k l' b.1 b.2 ([] : List ByteArray) 0) (fun k => by rw [if_pos (show (l', (some l').isSome).2 = true from rfl), if_neg hdot]) ?_
      refine Ev.bind (f := fun k (b : List ByteArray × Bool) => hearsayref01_Parse.l0 k l' b.1 b.2 ([] : List ByteArray) 0) (pieces_f t hs) ?_
      obtain ⟨hb1, hb2, hb3⟩ := cuts_bound t t.size 0 0 (by omega) (by omega) (by omega)
      have e : parseP t o = comes l' (parts t (cuts t 0 0)).2 (tell (parts t (cuts t 0 0)).1 []) := parse_comes ho hdot
      rw [e]
      refine parse_l0 l' _ _ (by simpa using hdl.1) ?_ ?_ _ 0 [] rfl (by simp) (by omega)
      · unfold parts; split
        · simp only []; omega
        · simp only [List.length_append, List.length_singleton]; omega
      · intro x hx
        have : x.size ≤ t.size := by
          unfold parts at hx
          split at hx
          · exact hb3 x hx
          · rcases List.mem_append.1 hx with hx | hx
            · exact hb3 x hx
            · rw [List.mem_singleton.1 hx, ByteArray.size_extract]; omega
        omega
theorem text_l0 (L : List ByteArray) (hL : L.length ≤ 127) (hx : ∀ x ∈ L, x.size ≤ 63) : ∀ (xs : List ByteArray) (i : Nat) (A : List Int), L.drop i = xs → A.length ≤ 300 * i → i ≤ L.length → Ev (fun k => hearsayref01_Text.l0 k L (strOfNums A) (i : Int)) (strOfNums (A ++ textL xs)) := by
  intro xs
  induction xs with
  | nil =>
    intro i A hd hA hi
    have hl : L.length ≤ i := by
      have := congrArg List.length hd
      simp at this; omega
    refine Ev.step (f := fun _ => some _) (fun k => ?_) (Ev.now _)
    simp only [hearsayref01_Text.l0]
    rw [if_neg (by omega)]
    simp [textL]
  | cons x xs ih =>
    intro i A hd hA hi
    obtain ⟨h1, h2, h3⟩ := rdOf_drop hd
    have hsz : x.size ≤ 63 := hx x (by
      have : x ∈ L.drop i := by rw [hd]; exact List.mem_cons_self
      exact List.mem_of_mem_drop this)
    have hel := esc_length false (bytesOf x)
    rw [bytesOf_length] at hel
    have ht : A ++ textL (x :: xs) = (A ++ esc false (bytesOf x) ++ [46]) ++ textL xs := by simp [textL]
    rw [ht]
    have ih := ih (i + 1) (A ++ esc false (bytesOf x) ++ [46]) h2 (by simp only [List.length_append, List.length_singleton]; omega) (by omega)
    refine Ev.step (f := fun k => (hearsayref01_Escape.f k x false).bind fun t => if (strOfNums A).size + t.size ≤ 9223372036854775807 then (if ((strOfNums A) ++ t).size + 1 ≤ 9223372036854775807 then hearsayref01_Text.l0 k L (((strOfNums A) ++ t) ++ (⟨#[46]⟩ : ByteArray)) ((i + 1 : Nat) : Int) else none) else none) (fun k => ?_) ?_
    · simp only [hearsayref01_Text.l0]
      rw [if_pos (by omega), if_pos (by omega), h1, w64 (by omega) (by omega), show (i : Int) + 1 = ((i + 1 : Nat) : Int) by omega]
    · refine Ev.bind (f := fun k (t : ByteArray) => if (strOfNums A).size + t.size ≤ 9223372036854775807 then (if ((strOfNums A) ++ t).size + 1 ≤ 9223372036854775807 then hearsayref01_Text.l0 k L (((strOfNums A) ++ t) ++ (⟨#[46]⟩ : ByteArray)) ((i + 1 : Nat) : Int) else none) else none) (esc_f x false (by omega)) ?_
      refine Ev.congr (fun k => ?_) ih
      rw [if_pos (by rw [strOfNums_size, strOfNums_size]; omega), if_pos (by rw [ByteArray.size_append, strOfNums_size, strOfNums_size]; omega), strOfNums_append, show (⟨#[46]⟩ : ByteArray) = strOfNums [46] from rfl, strOfNums_append]
theorem bytes_root {o : ByteArray} : o.toList = [0] ↔ bytesOf o = [0] := by
  constructor
  · intro h
    rw [Lib.toList_data] at h
    unfold bytesOf
    rw [h]; rfl
  · intro h
    have e := strOfNums_bytes o
    rw [h] at e
    rw [← e, Lib.toList_data]; rfl
theorem dec_zero : dec (strOfNums [0]) = some [] := by kernel_rfl
theorem dec_of_root {o : ByteArray} (h : bytesOf o = [0]) : dec o = some [] := by
  have e := strOfNums_bytes o
  rw [h] at e
  exact e ▸ dec_zero
theorem text_f (o : ByteArray) : Ev (fun k => hearsayref01_Text.f k o) (if o.toList = [0] then ⟨#[46]⟩ else strOfNums (textL ((dec o).getD []))) := by
  obtain ⟨l', hsp, hl'⟩ := split_f o
  have hdl := dec_labels o
  cases ho : dec o with
  | none =>
    have hr : ¬ o.toList = [0] := by
      intro h
      have : dec o = some [] := dec_of_root (bytes_root.1 h)
      rw [ho] at this; cases this
    rw [if_neg hr]
    rw [ho] at hsp
    refine Ev.congr (fun k => rfl) (Ev.bind (f := fun k (x : List ByteArray × Bool) => if x.2 = true then _ else _) hsp ?_)
    refine Ev.congr (fun k => ?_) (Ev.now _)
    rw [if_neg (by simp)]
    rfl
  | some B =>
    obtain rfl := hl' B ho
    rw [ho] at hsp hdl
    have hb := (dec_some ho).2.1
    refine Ev.congr (fun k => rfl) (Ev.bind (f := fun k (x : List ByteArray × Bool) => if x.2 = true then _ else _) hsp ?_)
    by_cases h0 : l' = []
    · rw [h0] at hb
      rw [if_pos (bytes_root.2 hb)]
      refine Ev.congr (fun k => ?_) (Ev.now _)
      rw [if_pos (show (l', (some l').isSome).2 = true from rfl), if_pos (by rw [h0]; rfl)]
    · have hr : ¬ o.toList = [0] := by
        intro h
        have hd : dec o = some [] := dec_of_root (bytes_root.1 h)
        rw [ho] at hd
        exact h0 (Option.some.inj hd)
      rw [if_neg hr]
      have := text_l0 l' (by simpa using hdl.1) (by simpa using hdl.2) l' 0 [] rfl (by simp) (by omega)
      refine Ev.congr (fun k => ?_) this
      have hl : ¬ ((l'.length : Int) = 0) := by
        intro h
        exact h0 (List.eq_nil_of_length_eq_zero (by omega))
      rw [if_pos (show (l', (some l').isSome).2 = true from rfl), if_neg hl]
      rfl
theorem NameParses (a0 a1 : ByteArray) (hs : a0.size ≤ 1048576 ∧ a1.size ≤ 1048576) : ∃ k, hearsaylaw01_NameParses.f k a0 a1 = some true := by
  refine Ev.rounds (g := fun k => hearsaylaw01_NameParses.f k a0 a1) ?_
  have W : Ev (fun k => (hearsaylaw01_wakes.f k).bind fun x => some x) true := Ev.bind (f := fun _ x => some x) wakes_ev (Ev.now _)
  have hp : name_Parse.f a0 a1 = some (parseP a0 a1) := by have := hs.1; unfold name_Parse.f; rw [if_pos (by omega)]
  have ht : name_Text.f a1 = some (if a1.toList = [0] then ⟨#[46]⟩ else strOfNums (textL ((dec a1).getD []))) := rfl
  have htf := text_f a1
  generalize (if a1.toList = [0] then (⟨#[46]⟩ : ByteArray) else strOfNums (textL ((dec a1).getD []))) = T at ht htf
  refine Ev.congr (f := fun k => (hearsayref01_Parse.f k a0 a1).bind fun b => if (parseP a0 a1).1.toList = b.1.toList then if (parseP a0 a1).2 = b.2 then (hearsayref01_Text.f k a1).bind fun t => if T.toList = t.toList then (hearsaylaw01_wakes.f k).bind fun x => some x else some false else some false else some false) (fun k => ?_) ?_
  · unfold hearsaylaw01_NameParses.f
    rw [hp, ht]
    simp only [Option.bind_some]
  · refine Ev.bind (f := fun k (b : ByteArray × Int) => if (parseP a0 a1).1.toList = b.1.toList then if (parseP a0 a1).2 = b.2 then (hearsayref01_Text.f k a1).bind fun t => if T.toList = t.toList then (hearsaylaw01_wakes.f k).bind fun x => some x else some false else some false else some false) (parse_f a0 a1 (by have := hs.1; omega)) ?_
    refine Ev.congr (f := fun k => (hearsayref01_Text.f k a1).bind fun t => if T.toList = t.toList then (hearsaylaw01_wakes.f k).bind fun x => some x else some false) (fun k => by rw [if_pos rfl, if_pos rfl]) ?_
    refine Ev.bind (f := fun k (t : ByteArray) => if T.toList = t.toList then (hearsaylaw01_wakes.f k).bind fun x => some x else some false) htf ?_
    exact Ev.congr (fun k => if_pos rfl) W
end Go.Proofs.Ytplnknhlgdoliaa.Pure
end
section
/- A name's text tells the name, an escaped text its bytes: the plain law, up to a bound. -/
namespace Go.Proofs.Ytplnknhlgdoliaa.Pure
open Go.RowKit Go.Proofs.Ytplnknhlgdoliaa.Print Go.Proofs.YtplnknhlgdoliaaW.PrintWords Go.Proofs.YtplnknhlgdoliaaW.PrintLast Go.Proofs.YtplnknhlgdoliaaW.PrintMore
set_option linter.unusedVariables false
set_option linter.unusedSimpArgs false
theorem unesc_escB (q : Bool) (c : Int) (h0 : 0 ≤ c) (h1 : c < 256) (r : List Int) : unesc (escB q c ++ r) = (unesc r).map (c :: ·) := by
  have nd : c < 48 ∨ 57 < c → isDig c = false := by
    intro h; unfold isDig; simp; omega
  unfold escB
  by_cases hd : c = 46 ∨ c = 59 ∨ c = 40 ∨ c = 41 ∨ c = 64 ∨ c = 36
  · rw [if_pos hd]
    cases q
    · rw [if_neg (by simp)]; exact unesc_one c r (nd (by omega))
    · rw [if_pos rfl]; exact unesc_plain c r (by omega)
  · rw [if_neg hd]
    by_cases he : c = 34 ∨ c = 92
    · rw [if_pos he]; exact unesc_one c r (nd (by omega))
    · rw [if_neg he]
      by_cases hp : (32 < c ∧ c < 127) ∨ (c = 32 ∧ q = true)
      · rw [if_pos hp]; exact unesc_plain c r (by omega)
      · rw [if_neg hp]
        have d1 : isDig (48 + c / 100) = true := by unfold isDig; simp; omega
        have d2 : isDig (48 + c / 10 % 10) = true := by unfold isDig; simp; omega
        have d3 : isDig (48 + c % 10) = true := by unfold isDig; simp; omega
        have e : (48 + c / 100 - 48) * 100 + (48 + c / 10 % 10 - 48) * 10 + (48 + c % 10 - 48) = c := by omega
        show unesc (92 :: (48 + c / 100) :: (48 + c / 10 % 10) :: (48 + c % 10) :: r) = _
        rw [unesc_three _ _ _ _ d1, d2, d3, if_pos (show (true && true) = true from rfl), e, if_neg (by omega)]
theorem esc_cons (q : Bool) (c : Int) (l : List Int) : esc q (c :: l) = escB q c ++ esc q l := by simp [esc]
theorem unesc_esc (q : Bool) : ∀ l : List Int, (∀ x ∈ l, 0 ≤ x ∧ x < 256) → unesc (esc q l) = some l
  | [], _ => rfl
  | c :: l, h => by
    have hc := h c List.mem_cons_self
    rw [esc_cons, unesc_escB q c hc.1 hc.2, unesc_esc q l (fun x hx => h x (List.mem_cons_of_mem _ hx))]
    rfl
theorem bytesP_esc (q : Bool) (s : ByteArray) : bytesP (strOfNums (esc q (bytesOf s))) = (s, 0) := by
  unfold bytesP
  rw [bytes_strOfNums _ (esc_range q s), unesc_esc q _ (bo_range s)]
  simp only [strOfNums_bytes]
theorem told_esc {s : ByteArray} (h : badLab s = false) : told (strOfNums (esc false (bytesOf s))) = (s, 0) := by
  unfold told
  unfold badLab at h
  have h' : s.size ≠ 0 ∧ ¬ 63 < s.size := by simpa using h
  rw [bytesP_esc, if_neg (by rintro ⟨-, h1 | h1⟩; exact h'.1 h1; exact h'.2 h1)]
theorem tell_map : ∀ (L A : List ByteArray), L.any badLab = false → tell (L.map fun s => strOfNums (esc false (bytesOf s))) A = (0, A ++ L)
  | [], A, _ => by simp [tell]
  | s :: L, A, h => by
    have hs : badLab s = false ∧ L.any badLab = false := by simpa using h
    have ht := told_esc hs.1
    rw [List.map_cons, tell_ok (by rw [ht]), ht, tell_map L _ hs.2]
    simp
theorem cutsL_two (t : ByteArray) (x : Int) (r : List Int) (i frm : Nat) : cutsL t (92 :: x :: r) i frm = cutsL t r (i + 2) frm := by simp [cutsL]
theorem cutsL_plain (t : ByteArray) {c : Int} (r : List Int) (i frm : Nat) (h : c ≠ 92) (h2 : c ≠ 46) : cutsL t (c :: r) i frm = cutsL t r (i + 1) frm := by
  rw [cutsL.eq_def]; simp only []; rw [if_neg h, if_neg h2]
theorem cutsL_dot (t : ByteArray) (r : List Int) (i frm : Nat) : cutsL t (46 :: r) i frm = (t.extract frm i :: (cutsL t r (i + 1) (i + 1)).1, (cutsL t r (i + 1) (i + 1)).2) := by
  rw [cutsL.eq_def]; simp
theorem cutsL_escB (t : ByteArray) (c : Int) (h0 : 0 ≤ c) (h1 : c < 256) (r : List Int) (i frm : Nat) : cutsL t (escB false c ++ r) i frm = cutsL t r (i + (escB false c).length) frm := by
  unfold escB
  by_cases hd : c = 46 ∨ c = 59 ∨ c = 40 ∨ c = 41 ∨ c = 64 ∨ c = 36
  · rw [if_pos hd, if_neg (by simp)]; exact cutsL_two t c r i frm
  · rw [if_neg hd]
    by_cases he : c = 34 ∨ c = 92
    · rw [if_pos he]; exact cutsL_two t c r i frm
    · rw [if_neg he]
      by_cases hp : (32 < c ∧ c < 127) ∨ (c = 32 ∧ false = true)
      · rw [if_pos hp]; exact cutsL_plain t r i frm (by omega) (by omega)
      · rw [if_neg hp]
        show cutsL t (92 :: (48 + c / 100) :: (48 + c / 10 % 10) :: (48 + c % 10) :: r) i frm = cutsL t r (i + 4) frm
        rw [cutsL_two, cutsL_plain t _ _ _ (by omega) (by omega), cutsL_plain t _ _ _ (by omega) (by omega)]
theorem cutsL_esc (t : ByteArray) : ∀ (l : List Int), (∀ x ∈ l, 0 ≤ x ∧ x < 256) → ∀ (r : List Int) (i frm : Nat), cutsL t (esc false l ++ r) i frm = cutsL t r (i + (esc false l).length) frm
  | [], _, r, i, frm => rfl
  | c :: l, h, r, i, frm => by
    have hc := h c List.mem_cons_self
    rw [esc_cons, List.append_assoc, cutsL_escB t c hc.1 hc.2, cutsL_esc t l (fun x hx => h x (List.mem_cons_of_mem _ hx)), List.length_append, Nat.add_assoc]
theorem extract_bytes (t : ByteArray) (a c : Nat) : bytesOf (t.extract a c) = ((bytesOf t).drop a).take (c - a) := by
  unfold bytesOf
  rw [Go.Lib.extract_data, List.map_take, List.map_drop]
theorem cutsL_text (t : ByteArray) : ∀ (L : List ByteArray) (pre : List Int), bytesOf t = pre ++ textL L → cutsL t (textL L) pre.length pre.length = (L.map (fun s => strOfNums (esc false (bytesOf s))), t.size)
  | [], pre, h => by
    have := congrArg List.length h
    rw [bytesOf_length] at this
    simp [textL] at this
    rw [this]; rfl
  | s :: L, pre, h => by
    have e : textL (s :: L) = esc false (bytesOf s) ++ (46 :: textL L) := by simp [textL]
    have ih := cutsL_text t L (pre ++ esc false (bytesOf s) ++ [46]) (by rw [h, e]; simp)
    rw [List.length_append, List.length_append, List.length_singleton] at ih
    rw [e, cutsL_esc t _ (bo_range s), cutsL_dot, ih, List.map_cons]
    have hx : t.extract pre.length (pre.length + (esc false (bytesOf s)).length) = strOfNums (esc false (bytesOf s)) := by
      rw [← strOfNums_bytes (t.extract pre.length (pre.length + (esc false (bytesOf s)).length)), extract_bytes, h, e, List.drop_left, Nat.add_sub_cancel_left, List.take_left]
    rw [hx]
theorem textL_length : ∀ L : List ByteArray, (∀ s ∈ L, s.size ≤ 63) → (textL L).length ≤ 300 * L.length
  | [], _ => by simp [textL]
  | s :: L, h => by
    have h1 := h s List.mem_cons_self
    have h2 := textL_length L (fun x hx => h x (List.mem_cons_of_mem _ hx))
    have h3 := esc_length false (bytesOf s)
    rw [bytesOf_length] at h3
    have e : textL (s :: L) = esc false (bytesOf s) ++ (46 :: textL L) := by simp [textL]
    rw [e, List.length_append, List.length_cons, List.length_cons]; omega
theorem escB_pos (q : Bool) (c : Int) : 1 ≤ (escB q c).length := by unfold escB; split <;> (try split) <;> (try split) <;> simp
theorem parse_text {n o : ByteArray} {L B : List ByteArray} (hn : dec n = some L) (ho : dec o = some B) : parseP (if n.toList = [0] then ⟨#[46]⟩ else strOfNums (textL ((dec n).getD []))) o = (n, 0) := by
  by_cases hr : n.toList = [0]
  · rw [if_pos hr]
    have hz : n = ⟨#[0]⟩ := by
      have e := strOfNums_bytes n
      rw [bytes_root.1 hr] at e
      rw [← e]; rfl
    unfold parseP
    rw [ho]
    simp only []
    rw [if_pos (by kernel_rfl), hz]
  · rw [if_neg hr, hn]
    simp only [Option.getD_some]
    obtain ⟨h1, h2, h3⟩ := dec_some hn
    have hne : L ≠ [] := by
      rintro rfl
      exact hr (bytes_root.2 h2)
    have hbt : bytesOf (strOfNums (textL L)) = textL L := bytes_strOfNums _ (textL_range L)
    have hcut : cuts (strOfNums (textL L)) 0 0 = (L.map (fun s => strOfNums (esc false (bytesOf s))), (strOfNums (textL L)).size) := by
      unfold cuts
      rw [List.drop_zero, hbt]
      exact cutsL_text _ L [] (by rw [hbt]; rfl)
    have hlen : 2 ≤ (textL L).length := by
      cases L with
      | nil => exact absurd rfl hne
      | cons s L =>
        have hs : badLab s = false := by
          have : badLab s = false ∧ L.any badLab = false := by simpa using h3
          exact this.1
        unfold badLab at hs
        have hs' : s.size ≠ 0 ∧ ¬ 63 < s.size := by simpa using hs
        have hbl := bytesOf_length s
        have e : textL (s :: L) = esc false (bytesOf s) ++ (46 :: textL L) := by simp [textL]
        rw [e, List.length_append, List.length_cons]
        cases hb : bytesOf s with
        | nil => rw [hb] at hbl; simp at hbl; omega
        | cons c r =>
          have := escB_pos false c
          rw [esc_cons, List.length_append]; omega
    have hdot : ¬ (strOfNums (textL L)).toList = [46] := by
      intro h
      have := congrArg List.length h
      rw [Lib.toList_data, Array.length_toList] at this
      have hsz : (strOfNums (textL L)).data.size = (strOfNums (textL L)).size := rfl
      rw [hsz, strOfNums_size] at this
      simp at this; omega
    rw [parse_comes ho hdot, hcut]
    unfold parts
    rw [if_pos ⟨rfl, by show 0 < (strOfNums (textL L)).size; rw [strOfNums_size]; omega⟩]
    simp only []
    rw [tell_map L [] h3, List.nil_append]
    have hof : name_Of.f L = some (n, 0) := by
      have hsz := dec_size hn
      have e := nameOf_dec hn
      unfold name_Of.f
      rw [if_neg (by rw [h3]; simp), if_neg (by omega)]
      unfold nameOf at e
      rw [e]
    unfold comes
    rw [if_pos (show ((0 : Int), L).1 = 0 from rfl)]
    show (name_Of.f L).getD (⟨#[]⟩, 0) = (n, 0)
    rw [hof]; rfl
theorem NameBack (a0 a1 a2 : ByteArray) (a3 : Bool) (hs : a0.size ≤ 1048576 ∧ a1.size ≤ 1048576 ∧ a2.size ≤ 1048576) : ∃ k, hearsaylaw01_NameBack.f k a0 a1 a2 a3 = some true := by
  refine Ev.rounds (g := fun k => hearsaylaw01_NameBack.f k a0 a1 a2 a3) ?_
  have W : Ev (fun k => (hearsaylaw01_wakes.f k).bind fun x => some x) true := Ev.bind (f := fun _ x => some x) wakes_ev (Ev.now _)
  have he : name_Escape.f a2 a3 = some (strOfNums (esc a3 (bytesOf a2))) := by have := hs.2.2; unfold name_Escape.f; rw [if_pos (by omega)]
  have hb : name_Bytes.f (strOfNums (esc a3 (bytesOf a2))) = some (a2, 0) := by
    have h1 := esc_length a3 (bytesOf a2)
    rw [bytesOf_length] at h1
    have := hs.2.2
    rw [bytesP_f _ (by rw [strOfNums_size]; omega), bytesP_esc]
  have J1 : Ev (fun k => hearsaylaw01_NameBack.j1 k a2 a3 false) true := by
    refine Ev.step (fun k => ?_) W
    simp only [hearsaylaw01_NameBack.j1]
    rw [if_neg (by simp), he, Option.bind_some, hb, Option.bind_some, if_pos (show (a2, (0 : Int)).2 = 0 from rfl), if_pos (show (a2, (0 : Int)).1.toList = a2.toList from rfl)]
  have J0 : ∀ b : Bool, (b = true → (dec a0).isSome = true ∧ (dec a1).isSome = true) → Ev (fun k => hearsaylaw01_NameBack.j0 k a0 a1 a2 a3 b) true := by
    intro b hbb
    cases b with
    | false =>
      refine Ev.step (fun k => ?_) W
      simp only [hearsaylaw01_NameBack.j0]
      rw [if_neg (by simp), he, Option.bind_some, hb, Option.bind_some, if_pos (show (a2, (0 : Int)).2 = 0 from rfl), if_pos (show (a2, (0 : Int)).1.toList = a2.toList from rfl)]
    | true =>
      obtain ⟨h0, h1⟩ := hbb rfl
      obtain ⟨L, hL⟩ := Option.isSome_iff_exists.1 h0
      obtain ⟨B, hB⟩ := Option.isSome_iff_exists.1 h1
      have ht : name_Text.f a0 = some (if a0.toList = [0] then ⟨#[46]⟩ else strOfNums (textL ((dec a0).getD []))) := rfl
      have hp := parse_text hL hB
      have hsz : (if a0.toList = [0] then (⟨#[46]⟩ : ByteArray) else strOfNums (textL ((dec a0).getD []))).size ≤ 100000 := by
        split
        · decide
        · rw [strOfNums_size]
          have hd := dec_labels a0
          have := textL_length _ hd.2
          omega
      generalize (if a0.toList = [0] then (⟨#[46]⟩ : ByteArray) else strOfNums (textL ((dec a0).getD []))) = T at ht hp hsz
      have hpf : name_Parse.f T a1 = some (a0, 0) := by unfold name_Parse.f; rw [if_pos (by omega), hp]
      refine Ev.step (fun k => ?_) J1
      simp only [hearsaylaw01_NameBack.j0]
      rw [if_pos trivial, ht, Option.bind_some, hpf, Option.bind_some, if_pos (show (a0, (0 : Int)).2 = 0 from rfl)]
      congr 1
      simp
  have c0 := check_f a0
  have c1 := check_f a1
  refine Ev.congr (fun k => rfl) (Ev.bind (f := fun k (t : Int) => if t = 0 then (name_Check.f k a1).bind fun u => hearsaylaw01_NameBack.j0 k a0 a1 a2 a3 (u == 0) else hearsaylaw01_NameBack.j0 k a0 a1 a2 a3 false) c0 ?_)
  by_cases h0 : (dec a0).isSome = true
  · rw [if_pos h0]
    refine Ev.congr (f := fun k => (name_Check.f k a1).bind fun u => hearsaylaw01_NameBack.j0 k a0 a1 a2 a3 (u == 0)) (fun k => if_pos rfl) ?_
    refine Ev.bind (f := fun k (u : Int) => hearsaylaw01_NameBack.j0 k a0 a1 a2 a3 (u == 0)) c1 ?_
    refine J0 _ (fun hu => ⟨h0, ?_⟩)
    by_cases h1 : (dec a1).isSome = true
    · exact h1
    · rw [if_neg h1] at hu; simp at hu
  · rw [if_neg h0]
    refine Ev.congr (f := fun k => hearsaylaw01_NameBack.j0 k a0 a1 a2 a3 false) (fun k => if_neg (by decide)) ?_
    exact J0 false (fun h => by cases h)
end Go.Proofs.Ytplnknhlgdoliaa.Pure
end
