-- Written by a program of this session, built on the kit's print (it is not the print's own text).
import Derived.Test.YtplnknhlgdoliaaKinds
namespace Go.Proofs.Ytplnknhlgdoliaa.Print
open Go.RowKit Go.Proofs.YtplnknhlgdoliaaW.PrintWords Go.Proofs.YtplnknhlgdoliaaW.PrintLast Go.Proofs.YtplnknhlgdoliaaW.PrintMore
attribute [local go_sem] max2_int min2_int max_two min_two max_three min_three max_four min_four   -- for this text's walks alone
set_option linter.unusedVariables false
set_option linter.unusedSimpArgs false

/-! ### hearsayref01_marked: function 54 -/
def hearsayref01_marked.f (a0 : Int) (a1 : Bool) : Option (Bool) := if a0 = 34 then (some true) else (if a0 = 92 then (some true) else (if a1 = true then (some false) else (if a0 = 46 then (some true) else (if a0 = 59 then (some true) else (if a0 = 40 then (some true) else (if a0 = 41 then (some true) else (if a0 = 64 then (some true) else (some (a0 == 36)))))))))
set_option maxHeartbeats 8000000 in
set_option maxRecDepth 100000 in
theorem hearsayref01_marked.calls (a0 : Int) (a1 : Bool) (r : Bool) (w : World) (h : hearsayref01_marked.f a0 a1 = some r) :
    Calls Try.prog 54 #[.int .u8 a0, .bool a1] w fun e w' => e = .returned (.bool r) ∧ Drawn0 w w' := by
  have H : (if a0 = 34 then (some true) else (if a0 = 92 then (some true) else (if a1 = true then (some false) else (if a0 = 46 then (some true) else (if a0 = 59 then (some true) else (if a0 = 40 then (some true) else (if a0 = 41 then (some true) else (if a0 = 64 then (some true) else (some (a0 == 36)))))))))) = some r := h
  clear h
  by_cases c3 : a0 = 34
  · rw [if_pos c3] at H
    have c3b0 : (a0 == 34) = true := beq_iff_eq.mpr c3
    have c3b1 : (a0 != 34) = false := bne_eq_false_iff_eq.mpr c3
    clear c3
    obtain rfl := Option.some.inj H
    go_enter Try.func54, Try.ntmps54
    go_wp2
    go_ret
    exact ⟨by first | rfl | (simp; done) | (simp [*]; done), by repeat (first | exact Drawn0.refl _ | apply Drawn0.step)⟩
  · rw [if_neg c3] at H
    have c3b0 : (a0 == 34) = false := beq_eq_false_iff_ne.mpr c3
    have c3b1 : (a0 != 34) = true := bne_iff_ne.mpr c3
    by_cases c4 : a0 = 92
    · rw [if_pos c4] at H
      have c4b0 : (a0 == 92) = true := beq_iff_eq.mpr c4
      have c4b1 : (a0 != 92) = false := bne_eq_false_iff_eq.mpr c4
      clear c4
      obtain rfl := Option.some.inj H
      go_enter Try.func54, Try.ntmps54
      go_wp2
      go_ret
      exact ⟨by first | rfl | (simp; done) | (simp [*]; done), by repeat (first | exact Drawn0.refl _ | apply Drawn0.step)⟩
    · rw [if_neg c4] at H
      have c4b0 : (a0 == 92) = false := beq_eq_false_iff_ne.mpr c4
      have c4b1 : (a0 != 92) = true := bne_iff_ne.mpr c4
      by_cases c5 : a1 = true
      · subst c5
        have H1 : (some false) = some r := by rw [if_pos rfl] at H; exact H
        clear H
        have H := H1
        clear H1
        obtain rfl := Option.some.inj H
        go_enter Try.func54, Try.ntmps54
        go_wp2
        go_ret
        exact ⟨by first | rfl | (simp; done) | (simp [*]; done), by repeat (first | exact Drawn0.refl _ | apply Drawn0.step)⟩
      · replace c5 := Bool.eq_false_iff.mpr c5
        subst c5
        have H1 : (if a0 = 46 then (some true) else (if a0 = 59 then (some true) else (if a0 = 40 then (some true) else (if a0 = 41 then (some true) else (if a0 = 64 then (some true) else (some (a0 == 36))))))) = some r := by rw [if_neg (show ¬ (false = true) by decide)] at H; exact H
        clear H
        have H := H1
        clear H1
        by_cases c6 : a0 = 46
        · rw [if_pos c6] at H
          have c6b0 : (a0 == 46) = true := beq_iff_eq.mpr c6
          have c6b1 : (a0 != 46) = false := bne_eq_false_iff_eq.mpr c6
          clear c6
          obtain rfl := Option.some.inj H
          go_enter Try.func54, Try.ntmps54
          go_wp2
          go_ret
          exact ⟨by first | rfl | (simp; done) | (simp [*]; done), by repeat (first | exact Drawn0.refl _ | apply Drawn0.step)⟩
        · rw [if_neg c6] at H
          have c6b0 : (a0 == 46) = false := beq_eq_false_iff_ne.mpr c6
          have c6b1 : (a0 != 46) = true := bne_iff_ne.mpr c6
          by_cases c7 : a0 = 59
          · rw [if_pos c7] at H
            have c7b0 : (a0 == 59) = true := beq_iff_eq.mpr c7
            have c7b1 : (a0 != 59) = false := bne_eq_false_iff_eq.mpr c7
            clear c7
            obtain rfl := Option.some.inj H
            go_enter Try.func54, Try.ntmps54
            go_wp2
            go_ret
            exact ⟨by first | rfl | (simp; done) | (simp [*]; done), by repeat (first | exact Drawn0.refl _ | apply Drawn0.step)⟩
          · rw [if_neg c7] at H
            have c7b0 : (a0 == 59) = false := beq_eq_false_iff_ne.mpr c7
            have c7b1 : (a0 != 59) = true := bne_iff_ne.mpr c7
            by_cases c8 : a0 = 40
            · rw [if_pos c8] at H
              have c8b0 : (a0 == 40) = true := beq_iff_eq.mpr c8
              have c8b1 : (a0 != 40) = false := bne_eq_false_iff_eq.mpr c8
              clear c8
              obtain rfl := Option.some.inj H
              go_enter Try.func54, Try.ntmps54
              go_wp2
              go_ret
              exact ⟨by first | rfl | (simp; done) | (simp [*]; done), by repeat (first | exact Drawn0.refl _ | apply Drawn0.step)⟩
            · rw [if_neg c8] at H
              have c8b0 : (a0 == 40) = false := beq_eq_false_iff_ne.mpr c8
              have c8b1 : (a0 != 40) = true := bne_iff_ne.mpr c8
              by_cases c9 : a0 = 41
              · rw [if_pos c9] at H
                have c9b0 : (a0 == 41) = true := beq_iff_eq.mpr c9
                have c9b1 : (a0 != 41) = false := bne_eq_false_iff_eq.mpr c9
                clear c9
                obtain rfl := Option.some.inj H
                go_enter Try.func54, Try.ntmps54
                go_wp2
                go_ret
                exact ⟨by first | rfl | (simp; done) | (simp [*]; done), by repeat (first | exact Drawn0.refl _ | apply Drawn0.step)⟩
              · rw [if_neg c9] at H
                have c9b0 : (a0 == 41) = false := beq_eq_false_iff_ne.mpr c9
                have c9b1 : (a0 != 41) = true := bne_iff_ne.mpr c9
                by_cases c10 : a0 = 64
                · rw [if_pos c10] at H
                  have c10b0 : (a0 == 64) = true := beq_iff_eq.mpr c10
                  have c10b1 : (a0 != 64) = false := bne_eq_false_iff_eq.mpr c10
                  clear c10
                  obtain rfl := Option.some.inj H
                  go_enter Try.func54, Try.ntmps54
                  go_wp2
                  go_ret
                  exact ⟨by first | rfl | (simp; done) | (simp [*]; done), by repeat (first | exact Drawn0.refl _ | apply Drawn0.step)⟩
                · rw [if_neg c10] at H
                  have c10b0 : (a0 == 64) = false := beq_eq_false_iff_ne.mpr c10
                  have c10b1 : (a0 != 64) = true := bne_iff_ne.mpr c10
                  obtain rfl := Option.some.inj H
                  go_enter Try.func54, Try.ntmps54
                  go_wp2
                  go_ret
                  exact ⟨by first | rfl | (simp; done) | (simp [*]; done), by repeat (first | exact Drawn0.refl _ | apply Drawn0.step)⟩

end Go.Proofs.Ytplnknhlgdoliaa.Print
