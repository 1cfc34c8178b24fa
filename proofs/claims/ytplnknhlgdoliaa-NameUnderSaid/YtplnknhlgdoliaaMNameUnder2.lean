/- A part of the proof of NameUnderSaid: 9 texts in one. -/
import Derived.Test.YtplnknhlgdoliaaMNameUnder1
import Derived.Deep.LoopGhost
section
-- Written by a program of this session, built on the kit's print (it is not the print's own text).
namespace Go.Proofs.Ytplnknhlgdoliaa.Print
open Go.RowKit Go.Proofs.YtplnknhlgdoliaaW.PrintWords Go.Proofs.YtplnknhlgdoliaaW.PrintLast Go.Proofs.YtplnknhlgdoliaaW.PrintMore
attribute [local go_sem] max2_int min2_int max_two min_two max_three min_three max_four min_four   -- for this text's walks alone
set_option linter.unusedVariables false
set_option linter.unusedSimpArgs false

/-! ### name_Last: function 37 -/
def name_Last.j0 : Nat → ByteArray → Int → List Int → Bool → Option (ByteArray × Bool)
  | 0, _, _, _, _ => none
  | k + 1, x0, x1, x6, x13 => if x13 = true then (some ((⟨#[]⟩ : ByteArray), false)) else (if x1 = 0 then (some ((⟨#[0]⟩ : ByteArray), true)) else (if 0 ≤ (wrap64 ((x6.length : Int) - x1)) then (if (wrap64 ((x6.length : Int) - x1)) < (x6.length : Int) then (if 0 ≤ (rd x6 (wrap64 ((x6.length : Int) - x1))) then (if (rd x6 (wrap64 ((x6.length : Int) - x1))) ≤ (x0.size : Int) then (some (x0.extract ((rd x6 (wrap64 ((x6.length : Int) - x1))) : Int).toNat x0.size, true)) else (none)) else (none)) else (none)) else (none)))
def name_Last.f (k : Nat) (a0 : ByteArray) (a1 : Int) : Option (ByteArray × Bool) := (name_starts.f k a0).bind fun bt325 => (if bt325.2 = true then (if a1 < 0 then (name_Last.j0 k a0 a1 bt325.1 true) else (name_Last.j0 k a0 a1 bt325.1 (decide (a1 > (bt325.1.length : Int))))) else (name_Last.j0 k a0 a1 bt325.1 true))
theorem name_Last.mono_l : ∀ k, (∀ y0 y1 y2 y3, LeO (name_Last.j0 k y0 y1 y2 y3) (name_Last.j0 (k + 1) y0 y1 y2 y3))
  | 0 => fun _ _ _ _ r h => by simp [name_Last.j0] at h
  | k + 1 => by
    have ih0 := name_Last.mono_l k
    · intro y0 y1 y2 y3
      unfold name_Last.j0
      repeat' first
      | (with_reducible exact ih0 _ _ _ _)
      | (with_reducible exact name_starts.mono _ _)
      | (with_reducible exact LeO.refl _)
      | (with_reducible exact LeO.none _)
      | (with_reducible refine LeO.ite ?_ ?_)
      | (with_reducible refine LeO.bind ?_ (fun _ => ?_))
      | exact ih0 _ _ _ _
      | exact name_starts.mono _ _
      | exact LeO.none _
      | refine LeO.ite ?_ ?_
      | refine LeO.bind ?_ (fun _ => ?_)
theorem name_Last.mono : ∀ a0 a1 k, LeO (name_Last.f k a0 a1) (name_Last.f (k + 1) a0 a1) := by
  intro a0 a1 k
  have ih0 := name_Last.mono_l k
  unfold name_Last.f
  repeat' first
      | (with_reducible exact ih0 _ _ _ _)
      | (with_reducible exact name_starts.mono _ _)
      | (with_reducible exact LeO.refl _)
      | (with_reducible exact LeO.none _)
      | (with_reducible refine LeO.ite ?_ ?_)
      | (with_reducible refine LeO.bind ?_ (fun _ => ?_))
      | exact ih0 _ _ _ _
      | exact name_starts.mono _ _
      | exact LeO.none _
      | refine LeO.ite ?_ ?_
      | refine LeO.bind ?_ (fun _ => ?_)
set_option maxHeartbeats 8000000 in
set_option maxRecDepth 100000 in
theorem name_Last.calls (k : Nat) (a0 : ByteArray) (a1 : Int) (r1 : ByteArray) (r2 : Bool) (w : World) (h : name_Last.f k a0 a1 = some (r1, r2)) :
    Calls Try.prog 37 #[.string a0, .int .i64 a1] w fun e w' => e = .returned (.tuple #[.string r1, .bool r2]) ∧ Below w.heap.size w w' := by
  have HB := Aside0.mk (Below.refl w.heap.size w)
  have H : ((name_starts.f k a0).bind fun bt325 => (if bt325.2 = true then (if a1 < 0 then (name_Last.j0 k a0 a1 bt325.1 true) else (name_Last.j0 k a0 a1 bt325.1 (decide (a1 > (bt325.1.length : Int))))) else (name_Last.j0 k a0 a1 bt325.1 true))) = some (r1, r2) := h
  clear h
  replace H := Option.bind_eq_some_iff.mp H
  obtain ⟨⟨t325, t326⟩, A30, H⟩ := H
  replace H : (if t326 = true then (if a1 < 0 then (name_Last.j0 k a0 a1 t325 true) else (name_Last.j0 k a0 a1 t325 (decide (a1 > (t325.length : Int))))) else (name_Last.j0 k a0 a1 t325 true)) = some (r1, r2) := H
  have A3 := Aside0.mk A30
  clear A30
  have HC4 := Aside0.mk H
  clear H
  go_enter Try.func37, Try.ntmps37
  go_upto_region 2 with (first | ((with_reducible refine gate_callee (f := 43) rfl ?_); refine goesL_ (some 10) rfl rfl Try.func43 (by kernel_rfl) rfl #[.string a0] rfl (by (try simp only [List.map_toArray, List.map_cons, List.map_nil]); first | done | rfl | (simp only [List.length_drop, List.length_take]; rfl)) ?_; (with_reducible refine (name_starts.calls k a0 t325 t326 _ A3.out).mono ?_); rintro e w5 ⟨v327, rfl, ho0, hb⟩; refine ⟨_, rfl, ?_⟩; have n0_ := Aside0.mk (Kd.R_lower ho0 (below_size (by repeat (first | (with_reducible first | exact HB.out | apply below_alloc | apply pw_below_drewN | apply below_drew1) | exact HB.out)))); have n1_ := Aside0.mk (below_step (by repeat (first | (with_reducible first | exact HB.out | apply below_alloc | apply pw_below_drewN | apply below_drew1) | exact HB.out)) hb); clear HB; have HO328 := n0_; have HB := n1_; clear n0_ n1_; (try clear hb); (try clear hb2); (try clear hk); (try clear hi); (try clear ho0)))
  (try simp only [Act.put, List.setIfInBounds_toArray, List.set_cons_zero, List.set_cons_succ])
  go_cut [13] (fun v13 wc => ∃ (kq : Nat) (x13_3 : Bool), v13 = .bool x13_3 ∧ Aside0 (name_Last.j0 kq a0 a1 t325 x13_3 = some (r1, r2)) ∧ Aside0 (kq ≤ k) ∧ Aside0 (Kd.R (Kd.int .i64) 3 wc w.heap.size (fun _ => True) v327 t325) ∧ Aside0 (Below w.heap.size w wc))
  case first =>
    have H := HC4.out
    clear HC4
    by_cases c6 : t326 = true
    · subst c6
      have H1 : (if a1 < 0 then (name_Last.j0 k a0 a1 t325 true) else (name_Last.j0 k a0 a1 t325 (decide (a1 > (t325.length : Int))))) = some (r1, r2) := by rw [if_pos rfl] at H; exact H
      clear H
      have H := H1
      clear H1
      by_cases c7 : a1 < 0
      · rw [if_pos c7] at H
        have c7b0 : decide (a1 < 0) = true := decide_eq_true c7
        clear c7
        (first | rw [c7b0] | (simp only [i64_w, i32_w]; rw [c7b0]) | skip)
        have H' := Aside0.mk H
        clear H
        go_wp2
        go_meet
        case rel => exact ⟨_, (true), (by first | rfl | (simp; done) | (simp [*]; done)), H', ⟨by first | omega | exact Nat.le_refl _⟩, ⟨by (with_reducible repeat (first | apply Kd.R_alloc | apply Kd.R_drewN | apply Kd.R_drew)); exact HO328.out⟩, ⟨by repeat (first | (with_reducible first | exact HB.out | apply below_alloc | apply pw_below_drewN | apply below_drew1) | exact HB.out)⟩⟩
      · rw [if_neg c7] at H
        have c7b0 : decide (a1 < 0) = false := decide_eq_false c7
        clear c7
        (first | rw [c7b0] | (simp only [i64_w, i32_w]; rw [c7b0]) | skip)
        have H' := Aside0.mk H
        clear H
        obtain ⟨Ao8, co8, eo8⟩ := Kd.R_slice HO328.out
        subst eo8
        go_wp2
        go_meet
        case rel => exact ⟨_, (decide (a1 > (t325.length : Int))), (by first | rfl | (simp; done) | (simp [*]; done)), H', ⟨by first | omega | exact Nat.le_refl _⟩, ⟨by (with_reducible repeat (first | apply Kd.R_alloc | apply Kd.R_drewN | apply Kd.R_drew)); exact HO328.out⟩, ⟨by repeat (first | (with_reducible first | exact HB.out | apply below_alloc | apply pw_below_drewN | apply below_drew1) | exact HB.out)⟩⟩
    · replace c6 := Bool.eq_false_iff.mpr c6
      subst c6
      have H1 : (name_Last.j0 k a0 a1 t325 true) = some (r1, r2) := by rw [if_neg (show ¬ (false = true) by decide)] at H; exact H
      clear H
      have H := H1
      clear H1
      have H' := Aside0.mk H
      clear H
      go_wp2
      go_meet
      case rel => exact ⟨_, (true), (by first | rfl | (simp; done) | (simp [*]; done)), H', ⟨by first | omega | exact Nat.le_refl _⟩, ⟨by (with_reducible repeat (first | apply Kd.R_alloc | apply Kd.R_drewN | apply Kd.R_drew)); exact HO328.out⟩, ⟨by repeat (first | (with_reducible first | exact HB.out | apply below_alloc | apply pw_below_drewN | apply below_drew1) | exact HB.out)⟩⟩
  case rest =>
    clear HC4
    try clear p2
    try clear c3
    try clear c4
    try clear c6
    try clear c7
    try clear c7b0
    obtain ⟨kq, x13_3, rfl, HA, HJ3, HO_6, HB⟩ := hcut
    cases kq with
    | zero => exact absurd HA.out (by simp [name_Last.j0])
    | succ kj3 =>
      have H := HA.out
      clear HA
      simp only [name_Last.j0] at H
      by_cases c9 : x13_3 = true
      · subst c9
        have H1 : (some ((⟨#[]⟩ : ByteArray), false)) = some (r1, r2) := by rw [if_pos rfl] at H; exact H
        clear H
        have H := H1
        clear H1
        simp only [Option.some.injEq, Prod.mk.injEq] at H
        obtain ⟨rfl, rfl⟩ := H
        go_wp2
        go_ret2
        exact ⟨by first | rfl | (simp [errW_none, errW_some] <;> rfl) | (simp [*, errW_none, errW_some] <;> rfl), by repeat (first | (with_reducible first | exact HB.out | apply below_alloc | apply pw_below_drewN | apply below_drew1) | exact HB.out)⟩
      · replace c9 := Bool.eq_false_iff.mpr c9
        subst c9
        have H1 : (if a1 = 0 then (some ((⟨#[0]⟩ : ByteArray), true)) else (if 0 ≤ (wrap64 ((t325.length : Int) - a1)) then (if (wrap64 ((t325.length : Int) - a1)) < (t325.length : Int) then (if 0 ≤ (rd t325 (wrap64 ((t325.length : Int) - a1))) then (if (rd t325 (wrap64 ((t325.length : Int) - a1))) ≤ (a0.size : Int) then (some (a0.extract ((rd t325 (wrap64 ((t325.length : Int) - a1))) : Int).toNat a0.size, true)) else (none)) else (none)) else (none)) else (none))) = some (r1, r2) := by rw [if_neg (show ¬ (false = true) by decide)] at H; exact H
        clear H
        have H := H1
        clear H1
        by_cases c10 : a1 = 0
        · rw [if_pos c10] at H
          have c10b0 : (a1 == 0) = true := beq_iff_eq.mpr c10
          have c10b1 : (a1 != 0) = false := bne_eq_false_iff_eq.mpr c10
          clear c10
          simp only [Option.some.injEq, Prod.mk.injEq] at H
          obtain ⟨rfl, rfl⟩ := H
          go_wp2
          go_ret2
          exact ⟨by first | rfl | (simp [errW_none, errW_some] <;> rfl) | (simp [*, errW_none, errW_some] <;> rfl), by repeat (first | (with_reducible first | exact HB.out | apply below_alloc | apply pw_below_drewN | apply below_drew1) | exact HB.out)⟩
        · rw [if_neg c10] at H
          have c10b0 : (a1 == 0) = false := beq_eq_false_iff_ne.mpr c10
          have c10b1 : (a1 != 0) = true := bne_iff_ne.mpr c10
          obtain ⟨ji11, hji11⟩ : ∃ j_ : Int, (wrap64 ((t325.length : Int) - a1)) = j_ := ⟨_, rfl⟩
          replace H : (if 0 ≤ (ji11) then (if (ji11) < (t325.length : Int) then (if 0 ≤ (rd t325 (ji11)) then (if (rd t325 (ji11)) ≤ (a0.size : Int) then (some (a0.extract ((rd t325 (ji11)) : Int).toNat a0.size, true)) else (none)) else (none)) else (none)) else (none)) = some (r1, r2) := by first | (rw [hji11] at H; exact H) | (simp only [hji11] at H ⊢; exact H)
          have hji11w : (IntKind.i64.wrap ((t325.length : Int) - a1)) = ji11 := (i64_w _).trans hji11
          by_cases c12 : 0 ≤ (ji11)
          · rw [if_pos c12] at H
            have c12b0 : decide (0 ≤ (ji11)) = true := decide_eq_true c12
            clear c12
            by_cases c13 : (ji11) < (t325.length : Int)
            · rw [if_pos c13] at H
              have c13b0 : decide ((ji11) < (t325.length : Int)) = true := decide_eq_true c13
              clear c13
              by_cases c14 : 0 ≤ (rd t325 (ji11))
              · rw [if_pos c14] at H
                have c14b0 := eq_true c14
                have c14b1 : decide (0 ≤ (rd t325 (ji11))) = true := decide_eq_true c14
                clear c14
                by_cases c15 : (rd t325 (ji11)) ≤ (a0.size : Int)
                · rw [if_pos c15] at H
                  have c15b0 := eq_true c15
                  have c15b1 : decide ((rd t325 (ji11)) ≤ (a0.size : Int)) = true := decide_eq_true c15
                  clear c15
                  simp only [Option.some.injEq, Prod.mk.injEq] at H
                  obtain ⟨rfl, rfl⟩ := H
                  obtain ⟨Ao16, co16, eo16⟩ := Kd.R_slice HO_6.out
                  subst eo16
                  have p329 : 0 ≤ ((ji11) : Int) := of_decide_eq_true (by first | (with_reducible assumption) | assumption)
                  have q329 : (ji11) < (t325.length : Int) := of_decide_eq_true (by first | (with_reducible assumption) | assumption)
                  obtain ⟨ad329, e329, hx329_0⟩ := Kd.at_int (Kd.R_reads' HO_6.out).2.2 (ji11) p329 q329
                  cases e329
                  replace p329 := eq_true p329
                  replace q329 := eq_true q329
                  go_wp2
                  go_ret2
                  exact ⟨by first | rfl | (simp [errW_none, errW_some] <;> rfl) | (simp only [← hji11]; first | rfl | (simp [errW_none, errW_some] <;> rfl)) | (simp [*, errW_none, errW_some] <;> rfl), by repeat (first | (with_reducible first | exact HB.out | apply below_alloc | apply pw_below_drewN | apply below_drew1) | exact HB.out)⟩
                · rw [if_neg c15] at H
                  exact absurd H (by simp)
              · rw [if_neg c14] at H
                exact absurd H (by simp)
            · rw [if_neg c13] at H
              exact absurd H (by simp)
          · rw [if_neg c12] at H
            exact absurd H (by simp)

end Go.Proofs.Ytplnknhlgdoliaa.Print
end
section
-- Written by a program of this session, built on the kit's print (it is not the print's own text).
namespace Go.Proofs.Ytplnknhlgdoliaa.Print
open Go.RowKit Go.Proofs.YtplnknhlgdoliaaW.PrintWords Go.Proofs.YtplnknhlgdoliaaW.PrintLast Go.Proofs.YtplnknhlgdoliaaW.PrintMore
attribute [local go_sem] max2_int min2_int max_two min_two max_three min_three max_four min_four   -- for this text's walks alone
set_option linter.unusedVariables false
set_option linter.unusedSimpArgs false

/-! ### hearsayref01_Last: function 38 -/
def hearsayref01_Last.f (k : Nat) (a0 : ByteArray) (a1 : Int) : Option (ByteArray × Bool) := (hearsayref01_Split.f k a0).bind fun bt330 => (if bt330.2 = true then (if a1 < 0 then (some ((⟨#[]⟩ : ByteArray), false)) else (if a1 > (bt330.1.length : Int) then (some ((⟨#[]⟩ : ByteArray), false)) else (if 0 ≤ (wrap64 ((bt330.1.length : Int) - a1)) then (if (wrap64 ((bt330.1.length : Int) - a1)) ≤ (bt330.1.length : Int) then ((hearsayref01_Glue.f (bt330.1.drop ((wrap64 ((bt330.1.length : Int) - a1)) : Int).toNat)).bind fun t338 => (some (t338, true))) else (none)) else (none)))) else (some ((⟨#[]⟩ : ByteArray), false)))
theorem hearsayref01_Last.mono : ∀ a0 a1 k, LeO (hearsayref01_Last.f k a0 a1) (hearsayref01_Last.f (k + 1) a0 a1) := by
  intro a0 a1 k
  unfold hearsayref01_Last.f
  repeat' first
      | (with_reducible exact hearsayref01_Split.mono _ _)
      | (with_reducible exact LeO.refl _)
      | (with_reducible exact LeO.none _)
      | (with_reducible refine LeO.ite ?_ ?_)
      | (with_reducible refine LeO.bind ?_ (fun _ => ?_))
      | exact hearsayref01_Split.mono _ _
      | exact LeO.none _
      | refine LeO.ite ?_ ?_
      | refine LeO.bind ?_ (fun _ => ?_)
set_option maxHeartbeats 8000000 in
set_option maxRecDepth 100000 in
theorem hearsayref01_Last.calls (k : Nat) (a0 : ByteArray) (a1 : Int) (r1 : ByteArray) (r2 : Bool) (w : World) (h : hearsayref01_Last.f k a0 a1 = some (r1, r2)) :
    Calls Try.prog 38 #[.string a0, .int .i64 a1] w fun e w' => e = .returned (.tuple #[.string r1, .bool r2]) ∧ Below w.heap.size w w' := by
  have HB := Aside0.mk (Below.refl w.heap.size w)
  have H : ((hearsayref01_Split.f k a0).bind fun bt330 => (if bt330.2 = true then (if a1 < 0 then (some ((⟨#[]⟩ : ByteArray), false)) else (if a1 > (bt330.1.length : Int) then (some ((⟨#[]⟩ : ByteArray), false)) else (if 0 ≤ (wrap64 ((bt330.1.length : Int) - a1)) then (if (wrap64 ((bt330.1.length : Int) - a1)) ≤ (bt330.1.length : Int) then ((hearsayref01_Glue.f (bt330.1.drop ((wrap64 ((bt330.1.length : Int) - a1)) : Int).toNat)).bind fun t338 => (some (t338, true))) else (none)) else (none)))) else (some ((⟨#[]⟩ : ByteArray), false)))) = some (r1, r2) := h
  clear h
  replace H := Option.bind_eq_some_iff.mp H
  obtain ⟨⟨t330, t331⟩, A30, H⟩ := H
  replace H : (if t331 = true then (if a1 < 0 then (some ((⟨#[]⟩ : ByteArray), false)) else (if a1 > (t330.length : Int) then (some ((⟨#[]⟩ : ByteArray), false)) else (if 0 ≤ (wrap64 ((t330.length : Int) - a1)) then (if (wrap64 ((t330.length : Int) - a1)) ≤ (t330.length : Int) then ((hearsayref01_Glue.f (t330.drop ((wrap64 ((t330.length : Int) - a1)) : Int).toNat)).bind fun t338 => (some (t338, true))) else (none)) else (none)))) else (some ((⟨#[]⟩ : ByteArray), false))) = some (r1, r2) := H
  have A3 := Aside0.mk A30
  clear A30
  by_cases c4 : t331 = true
  · subst c4
    have H1 : (if a1 < 0 then (some ((⟨#[]⟩ : ByteArray), false)) else (if a1 > (t330.length : Int) then (some ((⟨#[]⟩ : ByteArray), false)) else (if 0 ≤ (wrap64 ((t330.length : Int) - a1)) then (if (wrap64 ((t330.length : Int) - a1)) ≤ (t330.length : Int) then ((hearsayref01_Glue.f (t330.drop ((wrap64 ((t330.length : Int) - a1)) : Int).toNat)).bind fun t338 => (some (t338, true))) else (none)) else (none)))) = some (r1, r2) := by rw [if_pos rfl] at H; exact H
    clear H
    have H := H1
    clear H1
    by_cases c5 : a1 < 0
    · rw [if_pos c5] at H
      have c5b0 : decide (a1 < 0) = true := decide_eq_true c5
      clear c5
      simp only [Option.some.injEq, Prod.mk.injEq] at H
      obtain ⟨rfl, rfl⟩ := H
      go_enter Try.func38, Try.ntmps38
      go_wp2_with (first | ((with_reducible refine gate_callee (f := 13) rfl ?_); refine goesL_ (some 10) rfl rfl Try.func13 (by kernel_rfl) rfl #[.string a0] rfl (by (try simp only [List.map_toArray, List.map_cons, List.map_nil]); first | done | rfl | (simp only [List.length_drop, List.length_take]; rfl)) ?_; (with_reducible refine (hearsayref01_Split.calls k a0 t330 true _ A3.out).mono ?_); rintro e w6 ⟨v332, rfl, ho0, hb⟩; refine ⟨_, rfl, ?_⟩; have n0_ := Aside0.mk (Kd.R_lower ho0 (below_size (by repeat (first | (with_reducible first | exact HB.out | apply below_alloc | apply pw_below_drewN | apply below_drew1) | exact HB.out)))); have n1_ := Aside0.mk (below_step (by repeat (first | (with_reducible first | exact HB.out | apply below_alloc | apply pw_below_drewN | apply below_drew1) | exact HB.out)) hb); clear HB; have HO333 := n0_; have HB := n1_; clear n0_ n1_; (try clear hb); (try clear hb2); (try clear hk); (try clear hi); (try clear ho0)))
      go_ret2
      exact ⟨by first | rfl | (simp [errW_none, errW_some] <;> rfl) | (simp [*, errW_none, errW_some] <;> rfl), by repeat (first | (with_reducible first | exact HB.out | apply below_alloc | apply pw_below_drewN | apply below_drew1) | exact HB.out)⟩
    · rw [if_neg c5] at H
      have c5b0 : decide (a1 < 0) = false := decide_eq_false c5
      clear c5
      by_cases c7 : a1 > (t330.length : Int)
      · rw [if_pos c7] at H
        have c7b0 : decide ((t330.length : Int) < a1) = true := decide_eq_true c7
        clear c7
        simp only [Option.some.injEq, Prod.mk.injEq] at H
        obtain ⟨rfl, rfl⟩ := H
        go_enter Try.func38, Try.ntmps38
        go_wp2_with (first | ((with_reducible refine gate_callee (f := 13) rfl ?_); refine goesL_ (some 10) rfl rfl Try.func13 (by kernel_rfl) rfl #[.string a0] rfl (by (try simp only [List.map_toArray, List.map_cons, List.map_nil]); first | done | rfl | (simp only [List.length_drop, List.length_take]; rfl)) ?_; (with_reducible refine (hearsayref01_Split.calls k a0 t330 true _ A3.out).mono ?_); rintro e w8 ⟨v332, rfl, ho0, hb⟩; refine ⟨_, rfl, ?_⟩; have n0_ := Aside0.mk (Kd.R_lower ho0 (below_size (by repeat (first | (with_reducible first | exact HB.out | apply below_alloc | apply pw_below_drewN | apply below_drew1) | exact HB.out)))); have n1_ := Aside0.mk (below_step (by repeat (first | (with_reducible first | exact HB.out | apply below_alloc | apply pw_below_drewN | apply below_drew1) | exact HB.out)) hb); clear HB; have HO333 := n0_; have HB := n1_; clear n0_ n1_; (try clear hb); (try clear hb2); (try clear hk); (try clear hi); (try clear ho0); obtain ⟨Ao9, co9, eo9⟩ := Kd.R_slice HO333.out; subst eo9))
        go_ret2
        exact ⟨by first | rfl | (simp [errW_none, errW_some] <;> rfl) | (simp [*, errW_none, errW_some] <;> rfl), by repeat (first | (with_reducible first | exact HB.out | apply below_alloc | apply pw_below_drewN | apply below_drew1) | exact HB.out)⟩
      · rw [if_neg c7] at H
        have c7b0 : decide ((t330.length : Int) < a1) = false := decide_eq_false c7
        clear c7
        obtain ⟨ji10, hji10⟩ : ∃ j_ : Int, (wrap64 ((t330.length : Int) - a1)) = j_ := ⟨_, rfl⟩
        replace H : (if 0 ≤ (ji10) then (if (ji10) ≤ (t330.length : Int) then ((hearsayref01_Glue.f (t330.drop ((ji10) : Int).toNat)).bind fun t338 => (some (t338, true))) else (none)) else (none)) = some (r1, r2) := by first | (rw [hji10] at H; exact H) | (simp only [hji10] at H ⊢; exact H)
        (try rw [hji10] at A3)
        have hji10w : (IntKind.i64.wrap ((t330.length : Int) - a1)) = ji10 := (i64_w _).trans hji10
        by_cases c11 : 0 ≤ (ji10)
        · rw [if_pos c11] at H
          have c11b0 := eq_true c11
          have c11b1 : decide (0 ≤ (ji10)) = true := decide_eq_true c11
          clear c11
          by_cases c12 : (ji10) ≤ (t330.length : Int)
          · rw [if_pos c12] at H
            have c12b0 := eq_true c12
            have c12b1 : decide ((ji10) ≤ (t330.length : Int)) = true := decide_eq_true c12
            clear c12
            obtain ⟨y334, hy334⟩ : ∃ y_ : List ByteArray, y_ = (t330.drop ((ji10) : Int).toNat) := ⟨_, rfl⟩
            replace H : ((hearsayref01_Glue.f y334).bind fun t338 => (some (t338, true))) = some (r1, r2) := by first | (rw [hy334]; with_reducible exact H) | (have H2_ := (Option.bind_some _ _).symm.trans H; rw [hy334]; with_reducible exact H2_) | (have H2_ := (Option.bind_some _ _).symm.trans H; with_reducible exact H2_) | with_reducible exact H | (rw [hy334]; exact H) | exact H
            have Ny334 := Aside0.mk hy334
            clear hy334
            replace H := Option.bind_eq_some_iff.mp H
            obtain ⟨t338, A130, H⟩ := H
            replace H : (some (t338, true)) = some (r1, r2) := H
            have A13 := Aside0.mk A130
            clear A130
            simp only [Option.some.injEq, Prod.mk.injEq] at H
            obtain ⟨rfl, rfl⟩ := H
            go_enter Try.func38, Try.ntmps38
            go_wp2_with (first | ((with_reducible refine gate_callee (f := 13) rfl ?_); refine goesL_ (some 10) rfl rfl Try.func13 (by kernel_rfl) rfl #[.string a0] rfl (by (try simp only [List.map_toArray, List.map_cons, List.map_nil]); first | done | rfl | (simp only [List.length_drop, List.length_take]; rfl)) ?_; (with_reducible refine (hearsayref01_Split.calls k a0 t330 true _ A3.out).mono ?_); rintro e w14 ⟨v332, rfl, ho0, hb⟩; refine ⟨_, rfl, ?_⟩; have n0_ := Aside0.mk (Kd.R_lower ho0 (below_size (by repeat (first | (with_reducible first | exact HB.out | apply below_alloc | apply pw_below_drewN | apply below_drew1) | exact HB.out)))); have n1_ := Aside0.mk (below_step (by repeat (first | (with_reducible first | exact HB.out | apply below_alloc | apply pw_below_drewN | apply below_drew1) | exact HB.out)) hb); clear HB; have HO333 := n0_; have HB := n1_; clear n0_ n1_; (try clear hb); (try clear hb2); (try clear hk); (try clear hi); (try clear ho0); obtain ⟨Ao15, co15, eo15⟩ := Kd.R_slice HO333.out; subst eo15; have q16 : ((ji10) : Int) ≤ ((t330.length : Int) : Int) := of_decide_eq_true (by first | (with_reducible assumption) | assumption); obtain ⟨i016, hi016, _, hsz16, _⟩ := info_parts info9; have hroom16 : t330.length ≤ co15 := (Kd.R_reads' HO333.out).2.1; have hC16 : Kd.C Kd.string _ Ao15 t330.length t330 := (Kd.R_reads' HO333.out).2.2; have q016 : (0 : Int) ≤ ((ji10) : Int) := of_decide_eq_true (by first | (with_reducible assumption) | assumption); have hcut16 := cut_from (P := Try.prog) 23 9 .i64 Try.underlying23 hi016 1 hsz16 Ao15 t330.length co15 (ji10) q016 q16; have hr16 := Kd.C_drop (m := ((ji10) : Int).toNat) (c := co15) hC16 (by omega) hroom16; obtain ⟨A16, hA16⟩ : ∃ A1, A1 = (if co15 = ((ji10) : Int).toNat then Ao15 else (Ao15 : Option Addr).map (·.add (((ji10) : Int).toNat * 1))) := ⟨_, rfl⟩; obtain ⟨c16, hc16⟩ : ∃ c1, c1 = co15 - ((ji10) : Int).toNat := ⟨_, rfl⟩; have hy16 : y334.length = t330.length - ((ji10) : Int).toNat := (by rw [Ny334.out, List.length_drop] <;> omega); rw [show (t330).drop ((ji10) : Int).toNat = y334 from Ny334.out.symm] at hr16; replace hr16 : Kd.C Kd.string _ A16 y334.length y334 := (by rw [hA16]; exact hr16); rw [← hy16, ← hA16, ← hc16] at hcut16; have HR337 := Aside0.mk hr16; have HC337 := Aside0.mk (show y334.length ≤ c16 from by rw [hy16, hc16]; exact Nat.sub_le_sub_right hroom16 _); clear hr16 hC16 hroom16 hi016 hsz16 hc16; have KY16 := Aside0.mk hy16; have KA16 := Aside0.mk hA16; clear hy16 hA16; have KL16 := Aside0.mk (show ((ji10) : Int).toNat ≤ t330.length from by omega); replace q16 := eq_true q16) | ((with_reducible refine gate_callee (f := 50) rfl ?_); refine goesL_ (some 31) rfl rfl Try.func50 (by kernel_rfl) rfl #[.slice A16 y334.length c16] rfl (by (try simp only [List.map_toArray, List.map_cons, List.map_nil]); first | done | rfl | (simp only [List.length_drop, List.length_take]; rfl)) ?_; (with_reducible refine (hearsayref01_Glue.calls _ _ y334 t338 _ ?side1 ?side2 A13.out).mono ?_); (case side1 => repeat (first | exact (by repeat (first | (with_reducible exact HR337.out) | (with_reducible refine Kd.C_alloc ?_ _) | (with_reducible refine Kd.C_drewN ?_ _) | (with_reducible refine Kd.C_drew ?_) | exact HR337.out)) | (with_reducible refine Kd.C_alloc ?_ _) | (with_reducible refine Kd.C_drewN ?_ _) | (with_reducible refine Kd.C_drew ?_))); (case side2 => exact HC337.out); rintro e w17 ⟨rfl, hb⟩; refine ⟨_, rfl, ?_⟩; have n0_ := Aside0.mk (Kd.R_below (by (with_reducible repeat (first | apply Kd.R_alloc | apply Kd.R_drewN | apply Kd.R_drew)); exact HO333.out) hb); have n1_ := Aside0.mk (Kd.C_below (by repeat (first | (with_reducible exact HR337.out) | (with_reducible refine Kd.C_alloc ?_ _) | (with_reducible refine Kd.C_drewN ?_ _) | (with_reducible refine Kd.C_drew ?_) | exact HR337.out)) hb); have n2_ := Aside0.mk (below_step (by repeat (first | (with_reducible first | exact HB.out | apply below_alloc | apply pw_below_drewN | apply below_drew1) | exact HB.out)) hb); clear HO333; clear HR337; clear HB; have HO333 := n0_; have HR337 := n1_; have HB := n2_; clear n0_ n1_ n2_; (try clear hb); (try clear hb2); (try clear hk); (try clear hi)))
            go_ret2
            exact ⟨by first | rfl | (simp [errW_none, errW_some] <;> rfl) | (simp only [← hji10]; first | rfl | (simp [errW_none, errW_some] <;> rfl)) | (simp [*, errW_none, errW_some] <;> rfl), by repeat (first | (with_reducible first | exact HB.out | apply below_alloc | apply pw_below_drewN | apply below_drew1) | exact HB.out)⟩
          · rw [if_neg c12] at H
            exact absurd H (by simp)
        · rw [if_neg c11] at H
          exact absurd H (by simp)
  · replace c4 := Bool.eq_false_iff.mpr c4
    subst c4
    have H1 : (some ((⟨#[]⟩ : ByteArray), false)) = some (r1, r2) := by rw [if_neg (show ¬ (false = true) by decide)] at H; exact H
    clear H
    have H := H1
    clear H1
    simp only [Option.some.injEq, Prod.mk.injEq] at H
    obtain ⟨rfl, rfl⟩ := H
    go_enter Try.func38, Try.ntmps38
    go_wp2_with (first | ((with_reducible refine gate_callee (f := 13) rfl ?_); refine goesL_ (some 10) rfl rfl Try.func13 (by kernel_rfl) rfl #[.string a0] rfl (by (try simp only [List.map_toArray, List.map_cons, List.map_nil]); first | done | rfl | (simp only [List.length_drop, List.length_take]; rfl)) ?_; (with_reducible refine (hearsayref01_Split.calls k a0 t330 false _ A3.out).mono ?_); rintro e w18 ⟨v332, rfl, ho0, hb⟩; refine ⟨_, rfl, ?_⟩; have n0_ := Aside0.mk (Kd.R_lower ho0 (below_size (by repeat (first | (with_reducible first | exact HB.out | apply below_alloc | apply pw_below_drewN | apply below_drew1) | exact HB.out)))); have n1_ := Aside0.mk (below_step (by repeat (first | (with_reducible first | exact HB.out | apply below_alloc | apply pw_below_drewN | apply below_drew1) | exact HB.out)) hb); clear HB; have HO333 := n0_; have HB := n1_; clear n0_ n1_; (try clear hb); (try clear hb2); (try clear hk); (try clear hi); (try clear ho0)))
    go_ret2
    exact ⟨by first | rfl | (simp [errW_none, errW_some] <;> rfl) | (simp [*, errW_none, errW_some] <;> rfl), by repeat (first | (with_reducible first | exact HB.out | apply below_alloc | apply pw_below_drewN | apply below_drew1) | exact HB.out)⟩

end Go.Proofs.Ytplnknhlgdoliaa.Print
end
section
-- Written by a program of this session, built on the kit's print (it is not the print's own text).
namespace Go.Proofs.Ytplnknhlgdoliaa.Print
open Go.RowKit Go.Proofs.YtplnknhlgdoliaaW.PrintWords Go.Proofs.YtplnknhlgdoliaaW.PrintLast Go.Proofs.YtplnknhlgdoliaaW.PrintMore
attribute [local go_sem] max2_int min2_int max_two min_two max_three min_three max_four min_four   -- for this text's walks alone
set_option linter.unusedVariables false
set_option linter.unusedSimpArgs false

/-! ### name_Under: function 39 -/
def name_Under.j0 : Nat → ByteArray → ByteArray → List Int → List Int → Bool → Option (Bool)
  | 0, _, _, _, _, _ => none
  | k + 1, x0, x1, x5, x7, x32 => if x32 = true then (some false) else (if (x7.length : Int) > 0 then (if 0 ≤ (wrap64 ((x5.length : Int) - (x7.length : Int))) then (if (wrap64 ((x5.length : Int) - (x7.length : Int))) < (x5.length : Int) then (if 0 ≤ (rd x5 (wrap64 ((x5.length : Int) - (x7.length : Int)))) then (if (rd x5 (wrap64 ((x5.length : Int) - (x7.length : Int)))) ≤ (x0.size : Int) then ((name_Fold.f (x0.extract ((rd x5 (wrap64 ((x5.length : Int) - (x7.length : Int)))) : Int).toNat x0.size)).bind fun t348 => ((name_Fold.f x1).bind fun t349 => (some (t348.toList == t349.toList)))) else (none)) else (none)) else (none)) else (none)) else (if 0 ≤ (wrap64 ((x0.size : Int) - 1)) then (if (wrap64 ((x0.size : Int) - 1)) ≤ (x0.size : Int) then ((name_Fold.f (x0.extract ((wrap64 ((x0.size : Int) - 1)) : Int).toNat x0.size)).bind fun t350 => ((name_Fold.f x1).bind fun t351 => (some (t350.toList == t351.toList)))) else (none)) else (none)))
def name_Under.f (k : Nat) (a0 : ByteArray) (a1 : ByteArray) : Option (Bool) := (name_starts.f k a0).bind fun bt339 => ((name_starts.f k a1).bind fun bt343 => (if bt339.2 = true then (if bt343.2 = true then (name_Under.j0 k a0 a1 bt339.1 bt343.1 (decide ((bt339.1.length : Int) < (bt343.1.length : Int)))) else (name_Under.j0 k a0 a1 bt339.1 bt343.1 true)) else (name_Under.j0 k a0 a1 bt339.1 bt343.1 true)))
theorem name_Under.mono_l : ∀ k, (∀ y0 y1 y2 y3 y4, LeO (name_Under.j0 k y0 y1 y2 y3 y4) (name_Under.j0 (k + 1) y0 y1 y2 y3 y4))
  | 0 => fun _ _ _ _ _ r h => by simp [name_Under.j0] at h
  | k + 1 => by
    have ih0 := name_Under.mono_l k
    · intro y0 y1 y2 y3 y4
      unfold name_Under.j0
      repeat' first
      | (with_reducible exact ih0 _ _ _ _ _)
      | (with_reducible exact name_starts.mono _ _)
      | (with_reducible exact LeO.refl _)
      | (with_reducible exact LeO.none _)
      | (with_reducible refine LeO.ite ?_ ?_)
      | (with_reducible refine LeO.bind ?_ (fun _ => ?_))
      | exact ih0 _ _ _ _ _
      | exact name_starts.mono _ _
      | exact LeO.none _
      | refine LeO.ite ?_ ?_
      | refine LeO.bind ?_ (fun _ => ?_)
theorem name_Under.mono : ∀ a0 a1 k, LeO (name_Under.f k a0 a1) (name_Under.f (k + 1) a0 a1) := by
  intro a0 a1 k
  have ih0 := name_Under.mono_l k
  unfold name_Under.f
  repeat' first
      | (with_reducible exact ih0 _ _ _ _ _)
      | (with_reducible exact name_starts.mono _ _)
      | (with_reducible exact LeO.refl _)
      | (with_reducible exact LeO.none _)
      | (with_reducible refine LeO.ite ?_ ?_)
      | (with_reducible refine LeO.bind ?_ (fun _ => ?_))
      | exact ih0 _ _ _ _ _
      | exact name_starts.mono _ _
      | exact LeO.none _
      | refine LeO.ite ?_ ?_
      | refine LeO.bind ?_ (fun _ => ?_)
set_option maxHeartbeats 8000000 in
set_option maxRecDepth 100000 in
theorem name_Under.calls (k : Nat) (a0 : ByteArray) (a1 : ByteArray) (r : Bool) (w : World) (h : name_Under.f k a0 a1 = some r) :
    Calls Try.prog 39 #[.string a0, .string a1] w fun e w' => e = .returned (.bool r) ∧ Below w.heap.size w w' := by
  have HB := Aside0.mk (Below.refl w.heap.size w)
  have H : ((name_starts.f k a0).bind fun bt339 => ((name_starts.f k a1).bind fun bt343 => (if bt339.2 = true then (if bt343.2 = true then (name_Under.j0 k a0 a1 bt339.1 bt343.1 (decide ((bt339.1.length : Int) < (bt343.1.length : Int)))) else (name_Under.j0 k a0 a1 bt339.1 bt343.1 true)) else (name_Under.j0 k a0 a1 bt339.1 bt343.1 true)))) = some r := h
  clear h
  replace H := Option.bind_eq_some_iff.mp H
  obtain ⟨⟨t339, t340⟩, A30, H⟩ := H
  replace H : ((name_starts.f k a1).bind fun bt343 => (if t340 = true then (if bt343.2 = true then (name_Under.j0 k a0 a1 t339 bt343.1 (decide ((t339.length : Int) < (bt343.1.length : Int)))) else (name_Under.j0 k a0 a1 t339 bt343.1 true)) else (name_Under.j0 k a0 a1 t339 bt343.1 true))) = some r := H
  have A3 := Aside0.mk A30
  clear A30
  replace H := Option.bind_eq_some_iff.mp H
  obtain ⟨⟨t343, t344⟩, A40, H⟩ := H
  replace H : (if t340 = true then (if t344 = true then (name_Under.j0 k a0 a1 t339 t343 (decide ((t339.length : Int) < (t343.length : Int)))) else (name_Under.j0 k a0 a1 t339 t343 true)) else (name_Under.j0 k a0 a1 t339 t343 true)) = some r := H
  have A4 := Aside0.mk A40
  clear A40
  have HC5 := Aside0.mk H
  clear H
  go_enter Try.func39, Try.ntmps39
  go_upto_region 3 with (first | ((with_reducible refine gate_callee (f := 43) rfl ?_); refine goesL_ (some 12) rfl rfl Try.func43 (by kernel_rfl) rfl #[.string a0] rfl (by (try simp only [List.map_toArray, List.map_cons, List.map_nil]); first | done | rfl | (simp only [List.length_drop, List.length_take]; rfl)) ?_; (with_reducible refine (name_starts.calls k a0 t339 t340 _ A3.out).mono ?_); rintro e w6 ⟨v341, rfl, ho0, hb⟩; refine ⟨_, rfl, ?_⟩; have n0_ := Aside0.mk (Kd.R_lower ho0 (below_size (by repeat (first | (with_reducible first | exact HB.out | apply below_alloc | apply pw_below_drewN | apply below_drew1) | exact HB.out)))); have n1_ := Aside0.mk (below_step (by repeat (first | (with_reducible first | exact HB.out | apply below_alloc | apply pw_below_drewN | apply below_drew1) | exact HB.out)) hb); clear HB; have HO342 := n0_; have HB := n1_; clear n0_ n1_; (try clear hb); (try clear hb2); (try clear hk); (try clear hi); (try clear ho0)) | ((with_reducible refine gate_callee (f := 43) rfl ?_); refine goesL_ (some 17) rfl rfl Try.func43 (by kernel_rfl) rfl #[.string a1] rfl (by (try simp only [List.map_toArray, List.map_cons, List.map_nil]); first | done | rfl | (simp only [List.length_drop, List.length_take]; rfl)) ?_; (with_reducible refine (name_starts.calls k a1 t343 t344 _ A4.out).mono ?_); rintro e w7 ⟨v345, rfl, ho0, hb⟩; refine ⟨_, rfl, ?_⟩; have n0_ := Aside0.mk (Kd.R_elder' (by (with_reducible repeat (first | apply Kd.R_alloc | apply Kd.R_drewN | apply Kd.R_drew)); exact HO342.out) (Kd.R_base ho0) hb); have n1_ := Aside0.mk (Kd.R_lower (Kd.R_new' ho0 (Kd.R_lt (by (with_reducible repeat (first | apply Kd.R_alloc | apply Kd.R_drewN | apply Kd.R_drew)); exact HO342.out))) (below_size (by repeat (first | (with_reducible first | exact HB.out | apply below_alloc | apply pw_below_drewN | apply below_drew1) | exact HB.out)))); have n2_ := Aside0.mk (below_step (by repeat (first | (with_reducible first | exact HB.out | apply below_alloc | apply pw_below_drewN | apply below_drew1) | exact HB.out)) hb); clear HO342; clear HB; have HO342 := n0_; have HO346 := n1_; have HB := n2_; clear n0_ n1_ n2_; (try clear hb); (try clear hb2); (try clear hk); (try clear hi); (try clear ho0)))
  (try simp only [Act.put, List.setIfInBounds_toArray, List.set_cons_zero, List.set_cons_succ])
  go_cut [32] (fun v32 wc => ∃ (kq : Nat) (x32_4 : Bool), v32 = .bool x32_4 ∧ Aside0 (name_Under.j0 kq a0 a1 t339 t343 x32_4 = some r) ∧ Aside0 (kq ≤ k) ∧ Aside0 (Kd.R (Kd.int .i64) 3 wc w.heap.size (fun k_ => some k_ ≠ (v345 : Value).ownBlock) v341 t339) ∧ Aside0 (Kd.R (Kd.int .i64) 3 wc w.heap.size (fun k_ => some k_ ≠ (v341 : Value).ownBlock) v345 t343) ∧ Aside0 (Below w.heap.size w wc))
  case first =>
    have H := HC5.out
    clear HC5
    by_cases c8 : t340 = true
    · subst c8
      have H1 : (if t344 = true then (name_Under.j0 k a0 a1 t339 t343 (decide ((t339.length : Int) < (t343.length : Int)))) else (name_Under.j0 k a0 a1 t339 t343 true)) = some r := by rw [if_pos rfl] at H; exact H
      clear H
      have H := H1
      clear H1
      by_cases c9 : t344 = true
      · subst c9
        have H1 : (name_Under.j0 k a0 a1 t339 t343 (decide ((t339.length : Int) < (t343.length : Int)))) = some r := by rw [if_pos rfl] at H; exact H
        clear H
        have H := H1
        clear H1
        have H' := Aside0.mk H
        clear H
        obtain ⟨Ao10, co10, eo10⟩ := Kd.R_slice HO342.out
        subst eo10
        obtain ⟨Ao11, co11, eo11⟩ := Kd.R_slice HO346.out
        subst eo11
        go_wp2
        go_meet
        case rel => exact ⟨_, (decide ((t339.length : Int) < (t343.length : Int))), (by first | rfl | (simp; done) | (simp [*]; done)), H', ⟨by first | omega | exact Nat.le_refl _⟩, ⟨by (with_reducible repeat (first | apply Kd.R_alloc | apply Kd.R_drewN | apply Kd.R_drew)); exact Kd.R_mono HO342.out (fun _ hk => hk.2)⟩, ⟨by (with_reducible repeat (first | apply Kd.R_alloc | apply Kd.R_drewN | apply Kd.R_drew)); exact Kd.R_mono HO346.out (fun _ hk => hk.2)⟩, ⟨by repeat (first | (with_reducible first | exact HB.out | apply below_alloc | apply pw_below_drewN | apply below_drew1) | exact HB.out)⟩⟩
      · replace c9 := Bool.eq_false_iff.mpr c9
        subst c9
        have H1 : (name_Under.j0 k a0 a1 t339 t343 true) = some r := by rw [if_neg (show ¬ (false = true) by decide)] at H; exact H
        clear H
        have H := H1
        clear H1
        have H' := Aside0.mk H
        clear H
        go_wp2
        go_meet
        case rel => exact ⟨_, (true), (by first | rfl | (simp; done) | (simp [*]; done)), H', ⟨by first | omega | exact Nat.le_refl _⟩, ⟨by (with_reducible repeat (first | apply Kd.R_alloc | apply Kd.R_drewN | apply Kd.R_drew)); exact Kd.R_mono HO342.out (fun _ hk => hk.2)⟩, ⟨by (with_reducible repeat (first | apply Kd.R_alloc | apply Kd.R_drewN | apply Kd.R_drew)); exact Kd.R_mono HO346.out (fun _ hk => hk.2)⟩, ⟨by repeat (first | (with_reducible first | exact HB.out | apply below_alloc | apply pw_below_drewN | apply below_drew1) | exact HB.out)⟩⟩
    · replace c8 := Bool.eq_false_iff.mpr c8
      subst c8
      have H1 : (name_Under.j0 k a0 a1 t339 t343 true) = some r := by rw [if_neg (show ¬ (false = true) by decide)] at H; exact H
      clear H
      have H := H1
      clear H1
      have H' := Aside0.mk H
      clear H
      go_wp2
      go_meet
      case rel => exact ⟨_, (true), (by first | rfl | (simp; done) | (simp [*]; done)), H', ⟨by first | omega | exact Nat.le_refl _⟩, ⟨by (with_reducible repeat (first | apply Kd.R_alloc | apply Kd.R_drewN | apply Kd.R_drew)); exact Kd.R_mono HO342.out (fun _ hk => hk.2)⟩, ⟨by (with_reducible repeat (first | apply Kd.R_alloc | apply Kd.R_drewN | apply Kd.R_drew)); exact Kd.R_mono HO346.out (fun _ hk => hk.2)⟩, ⟨by repeat (first | (with_reducible first | exact HB.out | apply below_alloc | apply pw_below_drewN | apply below_drew1) | exact HB.out)⟩⟩
  case rest =>
    clear HC5
    try clear p2
    try clear c3
    try clear c4
    try clear c8
    try clear c9
    obtain ⟨kq, x32_4, rfl, HA, HJ4, HO_5, HO_7, HB⟩ := hcut
    cases kq with
    | zero => exact absurd HA.out (by simp [name_Under.j0])
    | succ kj4 =>
      have H := HA.out
      clear HA
      simp only [name_Under.j0] at H
      by_cases c12 : x32_4 = true
      · subst c12
        have H1 : (some false) = some r := by rw [if_pos rfl] at H; exact H
        clear H
        have H := H1
        clear H1
        obtain rfl := Option.some.inj H
        go_wp2
        go_ret
        exact ⟨by first | rfl | (simp [errW_none, errW_some] <;> rfl) | (simp [*, errW_none, errW_some] <;> rfl), by repeat (first | (with_reducible first | exact HB.out | apply below_alloc | apply pw_below_drewN | apply below_drew1) | exact HB.out)⟩
      · replace c12 := Bool.eq_false_iff.mpr c12
        subst c12
        have H1 : (if (t343.length : Int) > 0 then (if 0 ≤ (wrap64 ((t339.length : Int) - (t343.length : Int))) then (if (wrap64 ((t339.length : Int) - (t343.length : Int))) < (t339.length : Int) then (if 0 ≤ (rd t339 (wrap64 ((t339.length : Int) - (t343.length : Int)))) then (if (rd t339 (wrap64 ((t339.length : Int) - (t343.length : Int)))) ≤ (a0.size : Int) then ((name_Fold.f (a0.extract ((rd t339 (wrap64 ((t339.length : Int) - (t343.length : Int)))) : Int).toNat a0.size)).bind fun t348 => ((name_Fold.f a1).bind fun t349 => (some (t348.toList == t349.toList)))) else (none)) else (none)) else (none)) else (none)) else (if 0 ≤ (wrap64 ((a0.size : Int) - 1)) then (if (wrap64 ((a0.size : Int) - 1)) ≤ (a0.size : Int) then ((name_Fold.f (a0.extract ((wrap64 ((a0.size : Int) - 1)) : Int).toNat a0.size)).bind fun t350 => ((name_Fold.f a1).bind fun t351 => (some (t350.toList == t351.toList)))) else (none)) else (none))) = some r := by rw [if_neg (show ¬ (false = true) by decide)] at H; exact H
        clear H
        have H := H1
        clear H1
        by_cases c13 : (t343.length : Int) > 0
        · rw [if_pos c13] at H
          have c13b0 : decide (0 < (t343.length : Int)) = true := decide_eq_true c13
          have c13b1 : decide (0 < t343.length) = true := decide_eq_true (by omega)
          clear c13
          obtain ⟨ji14, hji14⟩ : ∃ j_ : Int, (wrap64 ((t339.length : Int) - (t343.length : Int))) = j_ := ⟨_, rfl⟩
          replace H : (if 0 ≤ (ji14) then (if (ji14) < (t339.length : Int) then (if 0 ≤ (rd t339 (ji14)) then (if (rd t339 (ji14)) ≤ (a0.size : Int) then ((name_Fold.f (a0.extract ((rd t339 (ji14)) : Int).toNat a0.size)).bind fun t348 => ((name_Fold.f a1).bind fun t349 => (some (t348.toList == t349.toList)))) else (none)) else (none)) else (none)) else (none)) = some r := by first | (rw [hji14] at H; exact H) | (simp only [hji14] at H ⊢; exact H)
          have hji14w : (IntKind.i64.wrap ((t339.length : Int) - (t343.length : Int))) = ji14 := (i64_w _).trans hji14
          by_cases c15 : 0 ≤ (ji14)
          · rw [if_pos c15] at H
            have c15b0 : decide (0 ≤ (ji14)) = true := decide_eq_true c15
            clear c15
            by_cases c16 : (ji14) < (t339.length : Int)
            · rw [if_pos c16] at H
              have c16b0 : decide ((ji14) < (t339.length : Int)) = true := decide_eq_true c16
              clear c16
              by_cases c17 : 0 ≤ (rd t339 (ji14))
              · rw [if_pos c17] at H
                have c17b0 := eq_true c17
                have c17b1 : decide (0 ≤ (rd t339 (ji14))) = true := decide_eq_true c17
                clear c17
                by_cases c18 : (rd t339 (ji14)) ≤ (a0.size : Int)
                · rw [if_pos c18] at H
                  have c18b0 := eq_true c18
                  have c18b1 : decide ((rd t339 (ji14)) ≤ (a0.size : Int)) = true := decide_eq_true c18
                  clear c18
                  replace H := Option.bind_eq_some_iff.mp H
                  obtain ⟨t348, A190, H⟩ := H
                  replace H : ((name_Fold.f a1).bind fun t349 => (some (t348.toList == t349.toList))) = some r := H
                  have A19 := Aside0.mk A190
                  clear A190
                  replace H := Option.bind_eq_some_iff.mp H
                  obtain ⟨t349, A200, H⟩ := H
                  replace H : (some (t348.toList == t349.toList)) = some r := H
                  have A20 := Aside0.mk A200
                  clear A200
                  obtain rfl := Option.some.inj H
                  obtain ⟨Ao21, co21, eo21⟩ := Kd.R_slice HO_7.out
                  subst eo21
                  obtain ⟨Ao22, co22, eo22⟩ := Kd.R_slice HO_5.out
                  subst eo22
                  have p347 : 0 ≤ ((ji14) : Int) := of_decide_eq_true (by first | (with_reducible assumption) | assumption)
                  have q347 : (ji14) < (t339.length : Int) := of_decide_eq_true (by first | (with_reducible assumption) | assumption)
                  obtain ⟨ad347, e347, hx347_0⟩ := Kd.at_int (Kd.R_reads' HO_5.out).2.2 (ji14) p347 q347
                  cases e347
                  replace p347 := eq_true p347
                  replace q347 := eq_true q347
                  go_wp2_with (first | ((with_reducible refine gate_callee (f := 15) rfl ?_); refine goesL_ (some 50) rfl rfl Try.func15 (by kernel_rfl) rfl #[.string (a0.extract ((rd t339 (ji14)) : Int).toNat a0.size)] rfl (by (try simp only [List.map_toArray, List.map_cons, List.map_nil]); first | done | (simp only [hji14]; rfl) | rfl | (simp only [List.length_drop, List.length_take]; rfl)) ?_; (with_reducible refine (name_Fold.calls (a0.extract ((rd t339 (ji14)) : Int).toNat a0.size) t348 _ A19.out).mono ?_); rintro e w23 ⟨rfl, hb⟩; refine ⟨_, rfl, ?_⟩; have n0_ := Aside0.mk (Kd.R_below (by (with_reducible repeat (first | apply Kd.R_alloc | apply Kd.R_drewN | apply Kd.R_drew)); exact HO_5.out) hb); have n1_ := Aside0.mk (Kd.R_below (by (with_reducible repeat (first | apply Kd.R_alloc | apply Kd.R_drewN | apply Kd.R_drew)); exact HO_7.out) hb); have n2_ := Aside0.mk (below_step (by repeat (first | (with_reducible first | exact HB.out | apply below_alloc | apply pw_below_drewN | apply below_drew1) | exact HB.out)) hb); clear HO_5; clear HO_7; clear HB; have HO_5 := n0_; have HO_7 := n1_; have HB := n2_; clear n0_ n1_ n2_; (try clear hb); (try clear hb2); (try clear hk); (try clear hi)) | ((with_reducible refine gate_callee (f := 15) rfl ?_); refine goesL_ (some 52) rfl rfl Try.func15 (by kernel_rfl) rfl #[.string a1] rfl (by (try simp only [List.map_toArray, List.map_cons, List.map_nil]); first | done | rfl | (simp only [List.length_drop, List.length_take]; rfl)) ?_; (with_reducible refine (name_Fold.calls a1 t349 _ A20.out).mono ?_); rintro e w24 ⟨rfl, hb⟩; refine ⟨_, rfl, ?_⟩; have n0_ := Aside0.mk (Kd.R_below (by (with_reducible repeat (first | apply Kd.R_alloc | apply Kd.R_drewN | apply Kd.R_drew)); exact HO_5.out) hb); have n1_ := Aside0.mk (Kd.R_below (by (with_reducible repeat (first | apply Kd.R_alloc | apply Kd.R_drewN | apply Kd.R_drew)); exact HO_7.out) hb); have n2_ := Aside0.mk (below_step (by repeat (first | (with_reducible first | exact HB.out | apply below_alloc | apply pw_below_drewN | apply below_drew1) | exact HB.out)) hb); clear HO_5; clear HO_7; clear HB; have HO_5 := n0_; have HO_7 := n1_; have HB := n2_; clear n0_ n1_ n2_; (try clear hb); (try clear hb2); (try clear hk); (try clear hi)))
                  go_ret
                  exact ⟨by first | rfl | (simp [errW_none, errW_some] <;> rfl) | (simp only [← hji14]; first | rfl | (simp [errW_none, errW_some] <;> rfl)) | (simp [*, errW_none, errW_some] <;> rfl), by repeat (first | (with_reducible first | exact HB.out | apply below_alloc | apply pw_below_drewN | apply below_drew1) | exact HB.out)⟩
                · rw [if_neg c18] at H
                  exact absurd H (by simp)
              · rw [if_neg c17] at H
                exact absurd H (by simp)
            · rw [if_neg c16] at H
              exact absurd H (by simp)
          · rw [if_neg c15] at H
            exact absurd H (by simp)
        · rw [if_neg c13] at H
          have c13b0 : decide (0 < (t343.length : Int)) = false := decide_eq_false c13
          have c13b1 : decide (0 < t343.length) = false := decide_eq_false (by omega)
          clear c13
          obtain ⟨ji25, hji25⟩ : ∃ j_ : Int, (wrap64 ((a0.size : Int) - 1)) = j_ := ⟨_, rfl⟩
          replace H : (if 0 ≤ (ji25) then (if (ji25) ≤ (a0.size : Int) then ((name_Fold.f (a0.extract ((ji25) : Int).toNat a0.size)).bind fun t350 => ((name_Fold.f a1).bind fun t351 => (some (t350.toList == t351.toList)))) else (none)) else (none)) = some r := by first | (rw [hji25] at H; exact H) | (simp only [hji25] at H ⊢; exact H)
          have hji25w : (IntKind.i64.wrap ((a0.size : Int) - 1)) = ji25 := (i64_w _).trans hji25
          by_cases c26 : 0 ≤ (ji25)
          · rw [if_pos c26] at H
            have c26b0 := eq_true c26
            have c26b1 : decide (0 ≤ (ji25)) = true := decide_eq_true c26
            clear c26
            by_cases c27 : (ji25) ≤ (a0.size : Int)
            · rw [if_pos c27] at H
              have c27b0 := eq_true c27
              have c27b1 : decide ((ji25) ≤ (a0.size : Int)) = true := decide_eq_true c27
              clear c27
              replace H := Option.bind_eq_some_iff.mp H
              obtain ⟨t350, A280, H⟩ := H
              replace H : ((name_Fold.f a1).bind fun t351 => (some (t350.toList == t351.toList))) = some r := H
              have A28 := Aside0.mk A280
              clear A280
              replace H := Option.bind_eq_some_iff.mp H
              obtain ⟨t351, A290, H⟩ := H
              replace H : (some (t350.toList == t351.toList)) = some r := H
              have A29 := Aside0.mk A290
              clear A290
              obtain rfl := Option.some.inj H
              obtain ⟨Ao30, co30, eo30⟩ := Kd.R_slice HO_7.out
              subst eo30
              go_wp2_with (first | ((with_reducible refine gate_callee (f := 15) rfl ?_); refine goesL_ (some 50) rfl rfl Try.func15 (by kernel_rfl) rfl #[.string (a0.extract ((ji25) : Int).toNat a0.size)] rfl (by (try simp only [List.map_toArray, List.map_cons, List.map_nil]); first | done | (simp only [hji25]; rfl) | rfl | (simp only [List.length_drop, List.length_take]; rfl)) ?_; (with_reducible refine (name_Fold.calls (a0.extract ((ji25) : Int).toNat a0.size) t350 _ A28.out).mono ?_); rintro e w31 ⟨rfl, hb⟩; refine ⟨_, rfl, ?_⟩; have n0_ := Aside0.mk (Kd.R_below (by (with_reducible repeat (first | apply Kd.R_alloc | apply Kd.R_drewN | apply Kd.R_drew)); exact HO_5.out) hb); have n1_ := Aside0.mk (Kd.R_below (by (with_reducible repeat (first | apply Kd.R_alloc | apply Kd.R_drewN | apply Kd.R_drew)); exact HO_7.out) hb); have n2_ := Aside0.mk (below_step (by repeat (first | (with_reducible first | exact HB.out | apply below_alloc | apply pw_below_drewN | apply below_drew1) | exact HB.out)) hb); clear HO_5; clear HO_7; clear HB; have HO_5 := n0_; have HO_7 := n1_; have HB := n2_; clear n0_ n1_ n2_; (try clear hb); (try clear hb2); (try clear hk); (try clear hi)) | ((with_reducible refine gate_callee (f := 15) rfl ?_); refine goesL_ (some 52) rfl rfl Try.func15 (by kernel_rfl) rfl #[.string a1] rfl (by (try simp only [List.map_toArray, List.map_cons, List.map_nil]); first | done | rfl | (simp only [List.length_drop, List.length_take]; rfl)) ?_; (with_reducible refine (name_Fold.calls a1 t351 _ A29.out).mono ?_); rintro e w32 ⟨rfl, hb⟩; refine ⟨_, rfl, ?_⟩; have n0_ := Aside0.mk (Kd.R_below (by (with_reducible repeat (first | apply Kd.R_alloc | apply Kd.R_drewN | apply Kd.R_drew)); exact HO_5.out) hb); have n1_ := Aside0.mk (Kd.R_below (by (with_reducible repeat (first | apply Kd.R_alloc | apply Kd.R_drewN | apply Kd.R_drew)); exact HO_7.out) hb); have n2_ := Aside0.mk (below_step (by repeat (first | (with_reducible first | exact HB.out | apply below_alloc | apply pw_below_drewN | apply below_drew1) | exact HB.out)) hb); clear HO_5; clear HO_7; clear HB; have HO_5 := n0_; have HO_7 := n1_; have HB := n2_; clear n0_ n1_ n2_; (try clear hb); (try clear hb2); (try clear hk); (try clear hi)))
              go_ret
              exact ⟨by first | rfl | (simp [errW_none, errW_some] <;> rfl) | (simp only [← hji25]; first | rfl | (simp [errW_none, errW_some] <;> rfl)) | (simp [*, errW_none, errW_some] <;> rfl), by repeat (first | (with_reducible first | exact HB.out | apply below_alloc | apply pw_below_drewN | apply below_drew1) | exact HB.out)⟩
            · rw [if_neg c27] at H
              exact absurd H (by simp)
          · rw [if_neg c26] at H
            exact absurd H (by simp)

end Go.Proofs.Ytplnknhlgdoliaa.Print
end
section
-- Written by a program of this session, built on the kit's print (it is not the print's own text).
namespace Go.Proofs.Ytplnknhlgdoliaa.Print
open Go.RowKit Go.Proofs.YtplnknhlgdoliaaW.PrintWords Go.Proofs.YtplnknhlgdoliaaW.PrintLast Go.Proofs.YtplnknhlgdoliaaW.PrintMore
attribute [local go_sem] max2_int min2_int max_two min_two max_three min_three max_four min_four   -- for this text's walks alone
set_option linter.unusedVariables false
set_option linter.unusedSimpArgs false

/-! ### hearsayref01_Fold: function 16 -/
def hearsayref01_Fold.f (a0 : ByteArray) : Option (ByteArray) := (hearsayref01_Low.f a0).bind fun t111 => (some t111)
set_option maxHeartbeats 8000000 in
set_option maxRecDepth 100000 in
theorem hearsayref01_Fold.calls (a0 : ByteArray) (r : ByteArray) (w : World) (h : hearsayref01_Fold.f a0 = some r) :
    Calls Try.prog 16 #[.string a0] w fun e w' => e = .returned (.string r) ∧ Below w.heap.size w w' := by
  have HB := Aside0.mk (Below.refl w.heap.size w)
  have H : ((hearsayref01_Low.f a0).bind fun t111 => (some t111)) = some r := h
  clear h
  replace H := Option.bind_eq_some_iff.mp H
  obtain ⟨t111, A20, H⟩ := H
  replace H : (some t111) = some r := H
  have A2 := Aside0.mk A20
  clear A20
  obtain rfl := Option.some.inj H
  go_enter Try.func16, Try.ntmps16
  go_wp2_with (first | ((with_reducible refine gate_callee (f := 45) rfl ?_); refine goesL_ (some 4) rfl rfl Try.func45 (by kernel_rfl) rfl #[.string a0] rfl (by (try simp only [List.map_toArray, List.map_cons, List.map_nil]); first | done | rfl | (simp only [List.length_drop, List.length_take]; rfl)) ?_; (with_reducible refine (hearsayref01_Low.calls a0 t111 _ A2.out).mono ?_); rintro e w3 ⟨rfl, hb⟩; refine ⟨_, rfl, ?_⟩; have n0_ := Aside0.mk (below_step (by repeat (first | (with_reducible first | exact HB.out | apply below_alloc | apply pw_below_drewN | apply below_drew1) | exact HB.out)) hb); clear HB; have HB := n0_; clear n0_; (try clear hb); (try clear hb2); (try clear hk); (try clear hi)))
  go_ret
  exact ⟨by first | rfl | (simp [errW_none, errW_some] <;> rfl) | (simp [*, errW_none, errW_some] <;> rfl), by repeat (first | (with_reducible first | exact HB.out | apply below_alloc | apply pw_below_drewN | apply below_drew1) | exact HB.out)⟩

end Go.Proofs.Ytplnknhlgdoliaa.Print
end
section
-- Written by a program of this session, built on the kit's print (it is not the print's own text).
namespace Go.Proofs.Ytplnknhlgdoliaa.Print
open Go.RowKit Go.Proofs.YtplnknhlgdoliaaW.PrintWords Go.Proofs.YtplnknhlgdoliaaW.PrintLast Go.Proofs.YtplnknhlgdoliaaW.PrintMore
attribute [local go_sem] max2_int min2_int max_two min_two max_three min_three max_four min_four   -- for this text's walks alone
set_option linter.unusedVariables false
set_option linter.unusedSimpArgs false

/-! ### hearsayref01_Alike: function 58 -/
def hearsayref01_Alike.f (a0 : ByteArray) (a1 : ByteArray) : Option (Bool) := (hearsayref01_Fold.f a0).bind fun t352 => ((hearsayref01_Fold.f a1).bind fun t353 => (some (t352.toList == t353.toList)))
set_option maxHeartbeats 8000000 in
set_option maxRecDepth 100000 in
theorem hearsayref01_Alike.calls (a0 : ByteArray) (a1 : ByteArray) (r : Bool) (w : World) (h : hearsayref01_Alike.f a0 a1 = some r) :
    Calls Try.prog 58 #[.string a0, .string a1] w fun e w' => e = .returned (.bool r) ∧ Below w.heap.size w w' := by
  have HB := Aside0.mk (Below.refl w.heap.size w)
  have H : ((hearsayref01_Fold.f a0).bind fun t352 => ((hearsayref01_Fold.f a1).bind fun t353 => (some (t352.toList == t353.toList)))) = some r := h
  clear h
  replace H := Option.bind_eq_some_iff.mp H
  obtain ⟨t352, A30, H⟩ := H
  replace H : ((hearsayref01_Fold.f a1).bind fun t353 => (some (t352.toList == t353.toList))) = some r := H
  have A3 := Aside0.mk A30
  clear A30
  replace H := Option.bind_eq_some_iff.mp H
  obtain ⟨t353, A40, H⟩ := H
  replace H : (some (t352.toList == t353.toList)) = some r := H
  have A4 := Aside0.mk A40
  clear A40
  obtain rfl := Option.some.inj H
  go_enter Try.func58, Try.ntmps58
  go_wp2_with (first | ((with_reducible refine gate_callee (f := 16) rfl ?_); refine goesL_ (some 6) rfl rfl Try.func16 (by kernel_rfl) rfl #[.string a0] rfl (by (try simp only [List.map_toArray, List.map_cons, List.map_nil]); first | done | rfl | (simp only [List.length_drop, List.length_take]; rfl)) ?_; (with_reducible refine (hearsayref01_Fold.calls a0 t352 _ A3.out).mono ?_); rintro e w5 ⟨rfl, hb⟩; refine ⟨_, rfl, ?_⟩; have n0_ := Aside0.mk (below_step (by repeat (first | (with_reducible first | exact HB.out | apply below_alloc | apply pw_below_drewN | apply below_drew1) | exact HB.out)) hb); clear HB; have HB := n0_; clear n0_; (try clear hb); (try clear hb2); (try clear hk); (try clear hi)) | ((with_reducible refine gate_callee (f := 16) rfl ?_); refine goesL_ (some 8) rfl rfl Try.func16 (by kernel_rfl) rfl #[.string a1] rfl (by (try simp only [List.map_toArray, List.map_cons, List.map_nil]); first | done | rfl | (simp only [List.length_drop, List.length_take]; rfl)) ?_; (with_reducible refine (hearsayref01_Fold.calls a1 t353 _ A4.out).mono ?_); rintro e w6 ⟨rfl, hb⟩; refine ⟨_, rfl, ?_⟩; have n0_ := Aside0.mk (below_step (by repeat (first | (with_reducible first | exact HB.out | apply below_alloc | apply pw_below_drewN | apply below_drew1) | exact HB.out)) hb); clear HB; have HB := n0_; clear n0_; (try clear hb); (try clear hb2); (try clear hk); (try clear hi)))
  go_ret
  exact ⟨by first | rfl | (simp [errW_none, errW_some] <;> rfl) | (simp [*, errW_none, errW_some] <;> rfl), by repeat (first | (with_reducible first | exact HB.out | apply below_alloc | apply pw_below_drewN | apply below_drew1) | exact HB.out)⟩

end Go.Proofs.Ytplnknhlgdoliaa.Print
end
section
-- Written by a program of this session, built on the kit's print (it is not the print's own text).
namespace Go.Proofs.Ytplnknhlgdoliaa.Print
open Go.RowKit Go.Proofs.YtplnknhlgdoliaaW.PrintWords Go.Proofs.YtplnknhlgdoliaaW.PrintLast Go.Proofs.YtplnknhlgdoliaaW.PrintMore
attribute [local go_sem] max2_int min2_int max_two min_two max_three min_three max_four min_four   -- for this text's walks alone
set_option linter.unusedVariables false
set_option linter.unusedSimpArgs false

/-! ### hearsayref01_Under: function 40 -/
def hearsayref01_Under.j0 : Nat → ByteArray → List ByteArray → List ByteArray → Bool → Option (Bool)
  | 0, _, _, _, _ => none
  | k + 1, x1, x5, x7, x31 => if x31 = true then (some false) else (if 0 ≤ (wrap64 ((x5.length : Int) - (x7.length : Int))) then (if (wrap64 ((x5.length : Int) - (x7.length : Int))) ≤ (x5.length : Int) then ((hearsayref01_Glue.f (x5.drop ((wrap64 ((x5.length : Int) - (x7.length : Int))) : Int).toNat)).bind fun t366 => ((hearsayref01_Alike.f t366 x1).bind fun t367 => (some t367))) else (none)) else (none))
def hearsayref01_Under.f (k : Nat) (a0 : ByteArray) (a1 : ByteArray) : Option (Bool) := (hearsayref01_Split.f k a0).bind fun bt354 => ((hearsayref01_Split.f k a1).bind fun bt358 => (if bt354.2 = true then (if bt358.2 = true then (hearsayref01_Under.j0 k a1 bt354.1 bt358.1 (decide ((bt354.1.length : Int) < (bt358.1.length : Int)))) else (hearsayref01_Under.j0 k a1 bt354.1 bt358.1 true)) else (hearsayref01_Under.j0 k a1 bt354.1 bt358.1 true)))
theorem hearsayref01_Under.mono_l : ∀ k, (∀ y0 y1 y2 y3, LeO (hearsayref01_Under.j0 k y0 y1 y2 y3) (hearsayref01_Under.j0 (k + 1) y0 y1 y2 y3))
  | 0 => fun _ _ _ _ r h => by simp [hearsayref01_Under.j0] at h
  | k + 1 => by
    have ih0 := hearsayref01_Under.mono_l k
    · intro y0 y1 y2 y3
      unfold hearsayref01_Under.j0
      repeat' first
      | (with_reducible exact ih0 _ _ _ _)
      | (with_reducible exact hearsayref01_Split.mono _ _)
      | (with_reducible exact LeO.refl _)
      | (with_reducible exact LeO.none _)
      | (with_reducible refine LeO.ite ?_ ?_)
      | (with_reducible refine LeO.bind ?_ (fun _ => ?_))
      | exact ih0 _ _ _ _
      | exact hearsayref01_Split.mono _ _
      | exact LeO.none _
      | refine LeO.ite ?_ ?_
      | refine LeO.bind ?_ (fun _ => ?_)
theorem hearsayref01_Under.mono : ∀ a0 a1 k, LeO (hearsayref01_Under.f k a0 a1) (hearsayref01_Under.f (k + 1) a0 a1) := by
  intro a0 a1 k
  have ih0 := hearsayref01_Under.mono_l k
  unfold hearsayref01_Under.f
  repeat' first
      | (with_reducible exact ih0 _ _ _ _)
      | (with_reducible exact hearsayref01_Split.mono _ _)
      | (with_reducible exact LeO.refl _)
      | (with_reducible exact LeO.none _)
      | (with_reducible refine LeO.ite ?_ ?_)
      | (with_reducible refine LeO.bind ?_ (fun _ => ?_))
      | exact ih0 _ _ _ _
      | exact hearsayref01_Split.mono _ _
      | exact LeO.none _
      | refine LeO.ite ?_ ?_
      | refine LeO.bind ?_ (fun _ => ?_)
set_option maxHeartbeats 8000000 in
set_option maxRecDepth 100000 in
theorem hearsayref01_Under.calls (k : Nat) (a0 : ByteArray) (a1 : ByteArray) (r : Bool) (w : World) (h : hearsayref01_Under.f k a0 a1 = some r) :
    Calls Try.prog 40 #[.string a0, .string a1] w fun e w' => e = .returned (.bool r) ∧ Below w.heap.size w w' := by
  have HB := Aside0.mk (Below.refl w.heap.size w)
  have H : ((hearsayref01_Split.f k a0).bind fun bt354 => ((hearsayref01_Split.f k a1).bind fun bt358 => (if bt354.2 = true then (if bt358.2 = true then (hearsayref01_Under.j0 k a1 bt354.1 bt358.1 (decide ((bt354.1.length : Int) < (bt358.1.length : Int)))) else (hearsayref01_Under.j0 k a1 bt354.1 bt358.1 true)) else (hearsayref01_Under.j0 k a1 bt354.1 bt358.1 true)))) = some r := h
  clear h
  replace H := Option.bind_eq_some_iff.mp H
  obtain ⟨⟨t354, t355⟩, A30, H⟩ := H
  replace H : ((hearsayref01_Split.f k a1).bind fun bt358 => (if t355 = true then (if bt358.2 = true then (hearsayref01_Under.j0 k a1 t354 bt358.1 (decide ((t354.length : Int) < (bt358.1.length : Int)))) else (hearsayref01_Under.j0 k a1 t354 bt358.1 true)) else (hearsayref01_Under.j0 k a1 t354 bt358.1 true))) = some r := H
  have A3 := Aside0.mk A30
  clear A30
  replace H := Option.bind_eq_some_iff.mp H
  obtain ⟨⟨t358, t359⟩, A40, H⟩ := H
  replace H : (if t355 = true then (if t359 = true then (hearsayref01_Under.j0 k a1 t354 t358 (decide ((t354.length : Int) < (t358.length : Int)))) else (hearsayref01_Under.j0 k a1 t354 t358 true)) else (hearsayref01_Under.j0 k a1 t354 t358 true)) = some r := H
  have A4 := Aside0.mk A40
  clear A40
  have HC5 := Aside0.mk H
  clear H
  go_enter Try.func40, Try.ntmps40
  go_upto_region 3 with (first | ((with_reducible refine gate_callee (f := 13) rfl ?_); refine goesL_ (some 11) rfl rfl Try.func13 (by kernel_rfl) rfl #[.string a0] rfl (by (try simp only [List.map_toArray, List.map_cons, List.map_nil]); first | done | rfl | (simp only [List.length_drop, List.length_take]; rfl)) ?_; (with_reducible refine (hearsayref01_Split.calls k a0 t354 t355 _ A3.out).mono ?_); rintro e w6 ⟨v356, rfl, ho0, hb⟩; refine ⟨_, rfl, ?_⟩; have n0_ := Aside0.mk (Kd.R_lower ho0 (below_size (by repeat (first | (with_reducible first | exact HB.out | apply below_alloc | apply pw_below_drewN | apply below_drew1) | exact HB.out)))); have n1_ := Aside0.mk (below_step (by repeat (first | (with_reducible first | exact HB.out | apply below_alloc | apply pw_below_drewN | apply below_drew1) | exact HB.out)) hb); clear HB; have HO357 := n0_; have HB := n1_; clear n0_ n1_; (try clear hb); (try clear hb2); (try clear hk); (try clear hi); (try clear ho0)) | ((with_reducible refine gate_callee (f := 13) rfl ?_); refine goesL_ (some 16) rfl rfl Try.func13 (by kernel_rfl) rfl #[.string a1] rfl (by (try simp only [List.map_toArray, List.map_cons, List.map_nil]); first | done | rfl | (simp only [List.length_drop, List.length_take]; rfl)) ?_; (with_reducible refine (hearsayref01_Split.calls k a1 t358 t359 _ A4.out).mono ?_); rintro e w7 ⟨v360, rfl, ho0, hb⟩; refine ⟨_, rfl, ?_⟩; have n0_ := Aside0.mk (Kd.R_elder' (by (with_reducible repeat (first | apply Kd.R_alloc | apply Kd.R_drewN | apply Kd.R_drew)); exact HO357.out) (Kd.R_base ho0) hb); have n1_ := Aside0.mk (Kd.R_lower (Kd.R_new' ho0 (Kd.R_lt (by (with_reducible repeat (first | apply Kd.R_alloc | apply Kd.R_drewN | apply Kd.R_drew)); exact HO357.out))) (below_size (by repeat (first | (with_reducible first | exact HB.out | apply below_alloc | apply pw_below_drewN | apply below_drew1) | exact HB.out)))); have n2_ := Aside0.mk (below_step (by repeat (first | (with_reducible first | exact HB.out | apply below_alloc | apply pw_below_drewN | apply below_drew1) | exact HB.out)) hb); clear HO357; clear HB; have HO357 := n0_; have HO361 := n1_; have HB := n2_; clear n0_ n1_ n2_; (try clear hb); (try clear hb2); (try clear hk); (try clear hi); (try clear ho0)))
  (try simp only [Act.put, List.setIfInBounds_toArray, List.set_cons_zero, List.set_cons_succ])
  go_cut [31] (fun v31 wc => ∃ (kq : Nat) (x31_4 : Bool), v31 = .bool x31_4 ∧ Aside0 (hearsayref01_Under.j0 kq a1 t354 t358 x31_4 = some r) ∧ Aside0 (kq ≤ k) ∧ Aside0 (Kd.R Kd.string 9 wc w.heap.size (fun k_ => some k_ ≠ (v360 : Value).ownBlock) v356 t354) ∧ Aside0 (Kd.R Kd.string 9 wc w.heap.size (fun k_ => some k_ ≠ (v356 : Value).ownBlock) v360 t358) ∧ Aside0 (Below w.heap.size w wc))
  case first =>
    have H := HC5.out
    clear HC5
    by_cases c8 : t355 = true
    · subst c8
      have H1 : (if t359 = true then (hearsayref01_Under.j0 k a1 t354 t358 (decide ((t354.length : Int) < (t358.length : Int)))) else (hearsayref01_Under.j0 k a1 t354 t358 true)) = some r := by rw [if_pos rfl] at H; exact H
      clear H
      have H := H1
      clear H1
      by_cases c9 : t359 = true
      · subst c9
        have H1 : (hearsayref01_Under.j0 k a1 t354 t358 (decide ((t354.length : Int) < (t358.length : Int)))) = some r := by rw [if_pos rfl] at H; exact H
        clear H
        have H := H1
        clear H1
        have H' := Aside0.mk H
        clear H
        obtain ⟨Ao10, co10, eo10⟩ := Kd.R_slice HO357.out
        subst eo10
        obtain ⟨Ao11, co11, eo11⟩ := Kd.R_slice HO361.out
        subst eo11
        go_wp2
        go_meet
        case rel => exact ⟨_, (decide ((t354.length : Int) < (t358.length : Int))), (by first | rfl | (simp; done) | (simp [*]; done)), H', ⟨by first | omega | exact Nat.le_refl _⟩, ⟨by (with_reducible repeat (first | apply Kd.R_alloc | apply Kd.R_drewN | apply Kd.R_drew)); exact Kd.R_mono HO357.out (fun _ hk => hk.2)⟩, ⟨by (with_reducible repeat (first | apply Kd.R_alloc | apply Kd.R_drewN | apply Kd.R_drew)); exact Kd.R_mono HO361.out (fun _ hk => hk.2)⟩, ⟨by repeat (first | (with_reducible first | exact HB.out | apply below_alloc | apply pw_below_drewN | apply below_drew1) | exact HB.out)⟩⟩
      · replace c9 := Bool.eq_false_iff.mpr c9
        subst c9
        have H1 : (hearsayref01_Under.j0 k a1 t354 t358 true) = some r := by rw [if_neg (show ¬ (false = true) by decide)] at H; exact H
        clear H
        have H := H1
        clear H1
        have H' := Aside0.mk H
        clear H
        go_wp2
        go_meet
        case rel => exact ⟨_, (true), (by first | rfl | (simp; done) | (simp [*]; done)), H', ⟨by first | omega | exact Nat.le_refl _⟩, ⟨by (with_reducible repeat (first | apply Kd.R_alloc | apply Kd.R_drewN | apply Kd.R_drew)); exact Kd.R_mono HO357.out (fun _ hk => hk.2)⟩, ⟨by (with_reducible repeat (first | apply Kd.R_alloc | apply Kd.R_drewN | apply Kd.R_drew)); exact Kd.R_mono HO361.out (fun _ hk => hk.2)⟩, ⟨by repeat (first | (with_reducible first | exact HB.out | apply below_alloc | apply pw_below_drewN | apply below_drew1) | exact HB.out)⟩⟩
    · replace c8 := Bool.eq_false_iff.mpr c8
      subst c8
      have H1 : (hearsayref01_Under.j0 k a1 t354 t358 true) = some r := by rw [if_neg (show ¬ (false = true) by decide)] at H; exact H
      clear H
      have H := H1
      clear H1
      have H' := Aside0.mk H
      clear H
      go_wp2
      go_meet
      case rel => exact ⟨_, (true), (by first | rfl | (simp; done) | (simp [*]; done)), H', ⟨by first | omega | exact Nat.le_refl _⟩, ⟨by (with_reducible repeat (first | apply Kd.R_alloc | apply Kd.R_drewN | apply Kd.R_drew)); exact Kd.R_mono HO357.out (fun _ hk => hk.2)⟩, ⟨by (with_reducible repeat (first | apply Kd.R_alloc | apply Kd.R_drewN | apply Kd.R_drew)); exact Kd.R_mono HO361.out (fun _ hk => hk.2)⟩, ⟨by repeat (first | (with_reducible first | exact HB.out | apply below_alloc | apply pw_below_drewN | apply below_drew1) | exact HB.out)⟩⟩
  case rest =>
    clear HC5
    try clear c1
    try clear p2
    try clear c4
    try clear c8
    try clear c9
    obtain ⟨kq, x31_4, rfl, HA, HJ4, HO_5, HO_7, HB⟩ := hcut
    cases kq with
    | zero => exact absurd HA.out (by simp [hearsayref01_Under.j0])
    | succ kj4 =>
      have H := HA.out
      clear HA
      simp only [hearsayref01_Under.j0] at H
      by_cases c12 : x31_4 = true
      · subst c12
        have H1 : (some false) = some r := by rw [if_pos rfl] at H; exact H
        clear H
        have H := H1
        clear H1
        obtain rfl := Option.some.inj H
        go_wp2
        go_ret
        exact ⟨by first | rfl | (simp [errW_none, errW_some] <;> rfl) | (simp [*, errW_none, errW_some] <;> rfl), by repeat (first | (with_reducible first | exact HB.out | apply below_alloc | apply pw_below_drewN | apply below_drew1) | exact HB.out)⟩
      · replace c12 := Bool.eq_false_iff.mpr c12
        subst c12
        have H1 : (if 0 ≤ (wrap64 ((t354.length : Int) - (t358.length : Int))) then (if (wrap64 ((t354.length : Int) - (t358.length : Int))) ≤ (t354.length : Int) then ((hearsayref01_Glue.f (t354.drop ((wrap64 ((t354.length : Int) - (t358.length : Int))) : Int).toNat)).bind fun t366 => ((hearsayref01_Alike.f t366 a1).bind fun t367 => (some t367))) else (none)) else (none)) = some r := by rw [if_neg (show ¬ (false = true) by decide)] at H; exact H
        clear H
        have H := H1
        clear H1
        obtain ⟨ji13, hji13⟩ : ∃ j_ : Int, (wrap64 ((t354.length : Int) - (t358.length : Int))) = j_ := ⟨_, rfl⟩
        replace H : (if 0 ≤ (ji13) then (if (ji13) ≤ (t354.length : Int) then ((hearsayref01_Glue.f (t354.drop ((ji13) : Int).toNat)).bind fun t366 => ((hearsayref01_Alike.f t366 a1).bind fun t367 => (some t367))) else (none)) else (none)) = some r := by first | (rw [hji13] at H; exact H) | (simp only [hji13] at H ⊢; exact H)
        have hji13w : (IntKind.i64.wrap ((t354.length : Int) - (t358.length : Int))) = ji13 := (i64_w _).trans hji13
        by_cases c14 : 0 ≤ (ji13)
        · rw [if_pos c14] at H
          have c14b0 := eq_true c14
          have c14b1 : decide (0 ≤ (ji13)) = true := decide_eq_true c14
          clear c14
          by_cases c15 : (ji13) ≤ (t354.length : Int)
          · rw [if_pos c15] at H
            have c15b0 := eq_true c15
            have c15b1 : decide ((ji13) ≤ (t354.length : Int)) = true := decide_eq_true c15
            clear c15
            obtain ⟨y362, hy362⟩ : ∃ y_ : List ByteArray, y_ = (t354.drop ((ji13) : Int).toNat) := ⟨_, rfl⟩
            replace H : ((hearsayref01_Glue.f y362).bind fun t366 => ((hearsayref01_Alike.f t366 a1).bind fun t367 => (some t367))) = some r := by first | (rw [hy362]; with_reducible exact H) | (have H2_ := (Option.bind_some _ _).symm.trans H; rw [hy362]; with_reducible exact H2_) | (have H2_ := (Option.bind_some _ _).symm.trans H; with_reducible exact H2_) | with_reducible exact H | (rw [hy362]; exact H) | exact H
            have Ny362 := Aside0.mk hy362
            clear hy362
            replace H := Option.bind_eq_some_iff.mp H
            obtain ⟨t366, A160, H⟩ := H
            replace H : ((hearsayref01_Alike.f t366 a1).bind fun t367 => (some t367)) = some r := H
            have A16 := Aside0.mk A160
            clear A160
            replace H := Option.bind_eq_some_iff.mp H
            obtain ⟨t367, A170, H⟩ := H
            replace H : (some t367) = some r := H
            have A17 := Aside0.mk A170
            clear A170
            obtain rfl := Option.some.inj H
            obtain ⟨Ao18, co18, eo18⟩ := Kd.R_slice HO_5.out
            subst eo18
            obtain ⟨Ao19, co19, eo19⟩ := Kd.R_slice HO_7.out
            subst eo19
            have q20 : ((ji13) : Int) ≤ ((t354.length : Int) : Int) := of_decide_eq_true (by first | (with_reducible assumption) | assumption)
            obtain ⟨i020, hi020, _, hsz20, _⟩ := info_parts info9
            have hroom20 : t354.length ≤ co18 := (Kd.R_reads' HO_5.out).2.1
            have hC20 : Kd.C Kd.string _ Ao18 t354.length t354 := (Kd.R_reads' HO_5.out).2.2
            have q020 : (0 : Int) ≤ ((ji13) : Int) := of_decide_eq_true (by first | (with_reducible assumption) | assumption)
            have hcut20 := cut_from (P := Try.prog) 23 9 .i64 Try.underlying23 hi020 1 hsz20 Ao18 t354.length co18 (ji13) q020 q20
            have hr20 := Kd.C_drop (m := ((ji13) : Int).toNat) (c := co18) hC20 (by omega) hroom20
            obtain ⟨A20, hA20⟩ : ∃ A1, A1 = (if co18 = ((ji13) : Int).toNat then Ao18 else (Ao18 : Option Addr).map (·.add (((ji13) : Int).toNat * 1))) := ⟨_, rfl⟩
            obtain ⟨c20, hc20⟩ : ∃ c1, c1 = co18 - ((ji13) : Int).toNat := ⟨_, rfl⟩
            have hy20 : y362.length = t354.length - ((ji13) : Int).toNat := (by rw [Ny362.out, List.length_drop] <;> omega)
            rw [show (t354).drop ((ji13) : Int).toNat = y362 from Ny362.out.symm] at hr20
            replace hr20 : Kd.C Kd.string _ A20 y362.length y362 := (by rw [hA20]; exact hr20)
            rw [← hy20, ← hA20, ← hc20] at hcut20
            have HR365 := Aside0.mk hr20
            have HC365 := Aside0.mk (show y362.length ≤ c20 from by rw [hy20, hc20]; exact Nat.sub_le_sub_right hroom20 _)
            clear hr20 hC20 hroom20 hi020 hsz20 hc20
            have KY20 := Aside0.mk hy20
            have KA20 := Aside0.mk hA20
            clear hy20 hA20
            have KL20 := Aside0.mk (show ((ji13) : Int).toNat ≤ t354.length from by omega)
            replace q20 := eq_true q20
            go_wp2_with (first | ((with_reducible refine gate_callee (f := 50) rfl ?_); refine goesL_ (some 39) rfl rfl Try.func50 (by kernel_rfl) rfl #[.slice A20 y362.length c20] rfl (by (try simp only [List.map_toArray, List.map_cons, List.map_nil]); first | done | rfl | (simp only [List.length_drop, List.length_take]; rfl)) ?_; (with_reducible refine (hearsayref01_Glue.calls _ _ y362 t366 _ ?side1 ?side2 A16.out).mono ?_); (case side1 => repeat (first | exact (by repeat (first | (with_reducible exact HR365.out) | (with_reducible refine Kd.C_alloc ?_ _) | (with_reducible refine Kd.C_drewN ?_ _) | (with_reducible refine Kd.C_drew ?_) | exact HR365.out)) | (with_reducible refine Kd.C_alloc ?_ _) | (with_reducible refine Kd.C_drewN ?_ _) | (with_reducible refine Kd.C_drew ?_))); (case side2 => exact HC365.out); rintro e w21 ⟨rfl, hb⟩; refine ⟨_, rfl, ?_⟩; have n0_ := Aside0.mk (Kd.R_below (by (with_reducible repeat (first | apply Kd.R_alloc | apply Kd.R_drewN | apply Kd.R_drew)); exact HO_5.out) hb); have n1_ := Aside0.mk (Kd.R_below (by (with_reducible repeat (first | apply Kd.R_alloc | apply Kd.R_drewN | apply Kd.R_drew)); exact HO_7.out) hb); have n2_ := Aside0.mk (Kd.C_below (by repeat (first | (with_reducible exact HR365.out) | (with_reducible refine Kd.C_alloc ?_ _) | (with_reducible refine Kd.C_drewN ?_ _) | (with_reducible refine Kd.C_drew ?_) | exact HR365.out)) hb); have n3_ := Aside0.mk (below_step (by repeat (first | (with_reducible first | exact HB.out | apply below_alloc | apply pw_below_drewN | apply below_drew1) | exact HB.out)) hb); clear HO_5; clear HO_7; clear HR365; clear HB; have HO_5 := n0_; have HO_7 := n1_; have HR365 := n2_; have HB := n3_; clear n0_ n1_ n2_ n3_; (try clear hb); (try clear hb2); (try clear hk); (try clear hi)) | ((with_reducible refine gate_callee (f := 58) rfl ?_); refine goesL_ (some 41) rfl rfl Try.func58 (by kernel_rfl) rfl #[.string t366, .string a1] rfl (by (try simp only [List.map_toArray, List.map_cons, List.map_nil]); first | done | rfl | (simp only [List.length_drop, List.length_take]; rfl)) ?_; (with_reducible refine (hearsayref01_Alike.calls t366 a1 t367 _ A17.out).mono ?_); rintro e w22 ⟨rfl, hb⟩; refine ⟨_, rfl, ?_⟩; have n0_ := Aside0.mk (Kd.R_below (by (with_reducible repeat (first | apply Kd.R_alloc | apply Kd.R_drewN | apply Kd.R_drew)); exact HO_5.out) hb); have n1_ := Aside0.mk (Kd.R_below (by (with_reducible repeat (first | apply Kd.R_alloc | apply Kd.R_drewN | apply Kd.R_drew)); exact HO_7.out) hb); have n2_ := Aside0.mk (Kd.C_below (by repeat (first | (with_reducible exact HR365.out) | (with_reducible refine Kd.C_alloc ?_ _) | (with_reducible refine Kd.C_drewN ?_ _) | (with_reducible refine Kd.C_drew ?_) | exact HR365.out)) hb); have n3_ := Aside0.mk (below_step (by repeat (first | (with_reducible first | exact HB.out | apply below_alloc | apply pw_below_drewN | apply below_drew1) | exact HB.out)) hb); clear HO_5; clear HO_7; clear HR365; clear HB; have HO_5 := n0_; have HO_7 := n1_; have HR365 := n2_; have HB := n3_; clear n0_ n1_ n2_ n3_; (try clear hb); (try clear hb2); (try clear hk); (try clear hi)))
            go_ret
            exact ⟨by first | rfl | (simp [errW_none, errW_some] <;> rfl) | (simp only [← hji13]; first | rfl | (simp [errW_none, errW_some] <;> rfl)) | (simp [*, errW_none, errW_some] <;> rfl), by repeat (first | (with_reducible first | exact HB.out | apply below_alloc | apply pw_below_drewN | apply below_drew1) | exact HB.out)⟩
          · rw [if_neg c15] at H
            exact absurd H (by simp)
        · rw [if_neg c14] at H
          exact absurd H (by simp)

end Go.Proofs.Ytplnknhlgdoliaa.Print
end
section
-- Written by a program of this session, built on the kit's print (it is not the print's own text).
namespace Go.Proofs.Ytplnknhlgdoliaa.Print
open Go.RowKit Go.Proofs.YtplnknhlgdoliaaW.PrintWords Go.Proofs.YtplnknhlgdoliaaW.PrintLast Go.Proofs.YtplnknhlgdoliaaW.PrintMore
attribute [local go_sem] max2_int min2_int max_two min_two max_three min_three max_four min_four   -- for this text's walks alone
set_option linter.unusedVariables false
set_option linter.unusedSimpArgs false

/-! ### hearsaylaw01_NameUnder: function 9 -/
def hearsaylaw01_NameUnder.f (k : Nat) (a0 : ByteArray) (a1 : ByteArray) (a2 : Int) : Option (Bool) := (name_Parent.f k a0).bind fun bt368 => ((hearsayref01_Parent.f k a0).bind fun bt370 => ((name_Last.f k a0 a2).bind fun bt372 => ((hearsayref01_Last.f k a0 a2).bind fun bt374 => ((name_Under.f k a0 a1).bind fun t376 => ((hearsayref01_Under.f k a0 a1).bind fun t377 => (if (t376 == t377) = true then (if (bt368.2 == bt370.2) = true then (if bt368.1.toList = bt370.1.toList then (if (bt372.2 == bt374.2) = true then (if bt372.1.toList = bt374.1.toList then ((hearsaylaw01_wakes.f k).bind fun t378 => (some t378)) else (some false)) else (some false)) else (some false)) else (some false)) else (some false)))))))
theorem hearsaylaw01_NameUnder.mono : ∀ a0 a1 a2 k, LeO (hearsaylaw01_NameUnder.f k a0 a1 a2) (hearsaylaw01_NameUnder.f (k + 1) a0 a1 a2) := by
  intro a0 a1 a2 k
  unfold hearsaylaw01_NameUnder.f
  repeat' first
      | (with_reducible exact hearsaylaw01_wakes.mono _)
      | (with_reducible exact hearsayref01_Last.mono _ _ _)
      | (with_reducible exact hearsayref01_Parent.mono _ _)
      | (with_reducible exact hearsayref01_Under.mono _ _ _)
      | (with_reducible exact name_Last.mono _ _ _)
      | (with_reducible exact name_Parent.mono _ _)
      | (with_reducible exact name_Under.mono _ _ _)
      | (with_reducible exact LeO.refl _)
      | (with_reducible exact LeO.none _)
      | (with_reducible refine LeO.ite ?_ ?_)
      | (with_reducible refine LeO.bind ?_ (fun _ => ?_))
      | exact hearsaylaw01_wakes.mono _
      | exact hearsayref01_Last.mono _ _ _
      | exact hearsayref01_Parent.mono _ _
      | exact hearsayref01_Under.mono _ _ _
      | exact name_Last.mono _ _ _
      | exact name_Parent.mono _ _
      | exact name_Under.mono _ _ _
      | exact LeO.none _
      | refine LeO.ite ?_ ?_
      | refine LeO.bind ?_ (fun _ => ?_)
set_option maxHeartbeats 8000000 in
set_option maxRecDepth 100000 in
theorem hearsaylaw01_NameUnder.calls (k : Nat) (a0 : ByteArray) (a1 : ByteArray) (a2 : Int) (r : Bool) (w : World) (h : hearsaylaw01_NameUnder.f k a0 a1 a2 = some r) :
    Calls Try.prog 9 #[.string a0, .string a1, .int .i64 a2] w fun e w' => e = .returned (.bool r) ∧ Below w.heap.size w w' := by
  have HB := Aside0.mk (Below.refl w.heap.size w)
  have H : ((name_Parent.f k a0).bind fun bt368 => ((hearsayref01_Parent.f k a0).bind fun bt370 => ((name_Last.f k a0 a2).bind fun bt372 => ((hearsayref01_Last.f k a0 a2).bind fun bt374 => ((name_Under.f k a0 a1).bind fun t376 => ((hearsayref01_Under.f k a0 a1).bind fun t377 => (if (t376 == t377) = true then (if (bt368.2 == bt370.2) = true then (if bt368.1.toList = bt370.1.toList then (if (bt372.2 == bt374.2) = true then (if bt372.1.toList = bt374.1.toList then ((hearsaylaw01_wakes.f k).bind fun t378 => (some t378)) else (some false)) else (some false)) else (some false)) else (some false)) else (some false)))))))) = some r := h
  clear h
  replace H := Option.bind_eq_some_iff.mp H
  obtain ⟨⟨t368, t369⟩, A40, H⟩ := H
  replace H : ((hearsayref01_Parent.f k a0).bind fun bt370 => ((name_Last.f k a0 a2).bind fun bt372 => ((hearsayref01_Last.f k a0 a2).bind fun bt374 => ((name_Under.f k a0 a1).bind fun t376 => ((hearsayref01_Under.f k a0 a1).bind fun t377 => (if (t376 == t377) = true then (if (t369 == bt370.2) = true then (if t368.toList = bt370.1.toList then (if (bt372.2 == bt374.2) = true then (if bt372.1.toList = bt374.1.toList then ((hearsaylaw01_wakes.f k).bind fun t378 => (some t378)) else (some false)) else (some false)) else (some false)) else (some false)) else (some false))))))) = some r := H
  have A4 := Aside0.mk A40
  clear A40
  replace H := Option.bind_eq_some_iff.mp H
  obtain ⟨⟨t370, t371⟩, A50, H⟩ := H
  replace H : ((name_Last.f k a0 a2).bind fun bt372 => ((hearsayref01_Last.f k a0 a2).bind fun bt374 => ((name_Under.f k a0 a1).bind fun t376 => ((hearsayref01_Under.f k a0 a1).bind fun t377 => (if (t376 == t377) = true then (if (t369 == t371) = true then (if t368.toList = t370.toList then (if (bt372.2 == bt374.2) = true then (if bt372.1.toList = bt374.1.toList then ((hearsaylaw01_wakes.f k).bind fun t378 => (some t378)) else (some false)) else (some false)) else (some false)) else (some false)) else (some false)))))) = some r := H
  have A5 := Aside0.mk A50
  clear A50
  replace H := Option.bind_eq_some_iff.mp H
  obtain ⟨⟨t372, t373⟩, A60, H⟩ := H
  replace H : ((hearsayref01_Last.f k a0 a2).bind fun bt374 => ((name_Under.f k a0 a1).bind fun t376 => ((hearsayref01_Under.f k a0 a1).bind fun t377 => (if (t376 == t377) = true then (if (t369 == t371) = true then (if t368.toList = t370.toList then (if (t373 == bt374.2) = true then (if t372.toList = bt374.1.toList then ((hearsaylaw01_wakes.f k).bind fun t378 => (some t378)) else (some false)) else (some false)) else (some false)) else (some false)) else (some false))))) = some r := H
  have A6 := Aside0.mk A60
  clear A60
  replace H := Option.bind_eq_some_iff.mp H
  obtain ⟨⟨t374, t375⟩, A70, H⟩ := H
  replace H : ((name_Under.f k a0 a1).bind fun t376 => ((hearsayref01_Under.f k a0 a1).bind fun t377 => (if (t376 == t377) = true then (if (t369 == t371) = true then (if t368.toList = t370.toList then (if (t373 == t375) = true then (if t372.toList = t374.toList then ((hearsaylaw01_wakes.f k).bind fun t378 => (some t378)) else (some false)) else (some false)) else (some false)) else (some false)) else (some false)))) = some r := H
  have A7 := Aside0.mk A70
  clear A70
  replace H := Option.bind_eq_some_iff.mp H
  obtain ⟨t376, A80, H⟩ := H
  replace H : ((hearsayref01_Under.f k a0 a1).bind fun t377 => (if (t376 == t377) = true then (if (t369 == t371) = true then (if t368.toList = t370.toList then (if (t373 == t375) = true then (if t372.toList = t374.toList then ((hearsaylaw01_wakes.f k).bind fun t378 => (some t378)) else (some false)) else (some false)) else (some false)) else (some false)) else (some false))) = some r := H
  have A8 := Aside0.mk A80
  clear A80
  replace H := Option.bind_eq_some_iff.mp H
  obtain ⟨t377, A90, H⟩ := H
  replace H : (if (t376 == t377) = true then (if (t369 == t371) = true then (if t368.toList = t370.toList then (if (t373 == t375) = true then (if t372.toList = t374.toList then ((hearsaylaw01_wakes.f k).bind fun t378 => (some t378)) else (some false)) else (some false)) else (some false)) else (some false)) else (some false)) = some r := H
  have A9 := Aside0.mk A90
  clear A90
  by_cases c10 : (t376 == t377) = true
  · rw [if_pos c10] at H
    have c10b0 : (t376 == t377) = true := c10
    (try (have c10b1 : decide (t376 = t377) = true := by simpa using c10))
    (try (have c10b2 : (t376 == t377) = true := by simpa using c10))
    clear c10
    by_cases c11 : (t369 == t371) = true
    · rw [if_pos c11] at H
      have c11b0 : (t369 == t371) = true := c11
      (try (have c11b1 : decide (t369 = t371) = true := by simpa using c11))
      (try (have c11b2 : (t369 == t371) = true := by simpa using c11))
      clear c11
      by_cases c12 : t368.toList = t370.toList
      · rw [if_pos c12] at H
        have c12b0 : (t368.toList == t370.toList) = true := beq_iff_eq.mpr c12
        have c12b1 : (t368.toList != t370.toList) = false := bne_eq_false_iff_eq.mpr c12
        clear c12
        by_cases c13 : (t373 == t375) = true
        · rw [if_pos c13] at H
          have c13b0 : (t373 == t375) = true := c13
          (try (have c13b1 : decide (t373 = t375) = true := by simpa using c13))
          (try (have c13b2 : (t373 == t375) = true := by simpa using c13))
          clear c13
          by_cases c14 : t372.toList = t374.toList
          · rw [if_pos c14] at H
            have c14b0 : (t372.toList == t374.toList) = true := beq_iff_eq.mpr c14
            have c14b1 : (t372.toList != t374.toList) = false := bne_eq_false_iff_eq.mpr c14
            clear c14
            replace H := Option.bind_eq_some_iff.mp H
            obtain ⟨t378, A150, H⟩ := H
            replace H : (some t378) = some r := H
            have A15 := Aside0.mk A150
            clear A150
            obtain rfl := Option.some.inj H
            go_enter Try.func9, Try.ntmps9
            go_wp2_with (first | ((with_reducible refine gate_callee (f := 35) rfl ?_); refine goesL_ (some 17) rfl rfl Try.func35 (by kernel_rfl) rfl #[.string a0] rfl (by (try simp only [List.map_toArray, List.map_cons, List.map_nil]); first | done | rfl | (simp only [List.length_drop, List.length_take]; rfl)) ?_; (with_reducible refine (name_Parent.calls k a0 t368 t369 _ A4.out).mono ?_); rintro e w16 ⟨rfl, hb⟩; refine ⟨_, rfl, ?_⟩; have n0_ := Aside0.mk (below_step (by repeat (first | (with_reducible first | exact HB.out | apply below_alloc | apply pw_below_drewN | apply below_drew1) | exact HB.out)) hb); clear HB; have HB := n0_; clear n0_; (try clear hb); (try clear hb2); (try clear hk); (try clear hi)) | ((with_reducible refine gate_callee (f := 36) rfl ?_); refine goesL_ (some 22) rfl rfl Try.func36 (by kernel_rfl) rfl #[.string a0] rfl (by (try simp only [List.map_toArray, List.map_cons, List.map_nil]); first | done | rfl | (simp only [List.length_drop, List.length_take]; rfl)) ?_; (with_reducible refine (hearsayref01_Parent.calls k a0 t370 t371 _ A5.out).mono ?_); rintro e w17 ⟨rfl, hb⟩; refine ⟨_, rfl, ?_⟩; have n0_ := Aside0.mk (below_step (by repeat (first | (with_reducible first | exact HB.out | apply below_alloc | apply pw_below_drewN | apply below_drew1) | exact HB.out)) hb); clear HB; have HB := n0_; clear n0_; (try clear hb); (try clear hb2); (try clear hk); (try clear hi)) | ((with_reducible refine gate_callee (f := 37) rfl ?_); refine goesL_ (some 28) rfl rfl Try.func37 (by kernel_rfl) rfl #[.string a0, .int .i64 a2] rfl (by (try simp only [List.map_toArray, List.map_cons, List.map_nil]); first | done | rfl | (simp only [List.length_drop, List.length_take]; rfl)) ?_; (with_reducible refine (name_Last.calls k a0 a2 t372 t373 _ A6.out).mono ?_); rintro e w18 ⟨rfl, hb⟩; refine ⟨_, rfl, ?_⟩; have n0_ := Aside0.mk (below_step (by repeat (first | (with_reducible first | exact HB.out | apply below_alloc | apply pw_below_drewN | apply below_drew1) | exact HB.out)) hb); clear HB; have HB := n0_; clear n0_; (try clear hb); (try clear hb2); (try clear hk); (try clear hi)) | ((with_reducible refine gate_callee (f := 38) rfl ?_); refine goesL_ (some 34) rfl rfl Try.func38 (by kernel_rfl) rfl #[.string a0, .int .i64 a2] rfl (by (try simp only [List.map_toArray, List.map_cons, List.map_nil]); first | done | rfl | (simp only [List.length_drop, List.length_take]; rfl)) ?_; (with_reducible refine (hearsayref01_Last.calls k a0 a2 t374 t375 _ A7.out).mono ?_); rintro e w19 ⟨rfl, hb⟩; refine ⟨_, rfl, ?_⟩; have n0_ := Aside0.mk (below_step (by repeat (first | (with_reducible first | exact HB.out | apply below_alloc | apply pw_below_drewN | apply below_drew1) | exact HB.out)) hb); clear HB; have HB := n0_; clear n0_; (try clear hb); (try clear hb2); (try clear hk); (try clear hi)) | ((with_reducible refine gate_callee (f := 39) rfl ?_); refine goesL_ (some 39) rfl rfl Try.func39 (by kernel_rfl) rfl #[.string a0, .string a1] rfl (by (try simp only [List.map_toArray, List.map_cons, List.map_nil]); first | done | rfl | (simp only [List.length_drop, List.length_take]; rfl)) ?_; (with_reducible refine (name_Under.calls k a0 a1 t376 _ A8.out).mono ?_); rintro e w20 ⟨rfl, hb⟩; refine ⟨_, rfl, ?_⟩; have n0_ := Aside0.mk (below_step (by repeat (first | (with_reducible first | exact HB.out | apply below_alloc | apply pw_below_drewN | apply below_drew1) | exact HB.out)) hb); clear HB; have HB := n0_; clear n0_; (try clear hb); (try clear hb2); (try clear hk); (try clear hi)) | ((with_reducible refine gate_callee (f := 40) rfl ?_); refine goesL_ (some 42) rfl rfl Try.func40 (by kernel_rfl) rfl #[.string a0, .string a1] rfl (by (try simp only [List.map_toArray, List.map_cons, List.map_nil]); first | done | rfl | (simp only [List.length_drop, List.length_take]; rfl)) ?_; (with_reducible refine (hearsayref01_Under.calls k a0 a1 t377 _ A9.out).mono ?_); rintro e w21 ⟨rfl, hb⟩; refine ⟨_, rfl, ?_⟩; have n0_ := Aside0.mk (below_step (by repeat (first | (with_reducible first | exact HB.out | apply below_alloc | apply pw_below_drewN | apply below_drew1) | exact HB.out)) hb); clear HB; have HB := n0_; clear n0_; (try clear hb); (try clear hb2); (try clear hk); (try clear hi)) | (go_at_call 19; (with_reducible refine (hearsaylaw01_wakes.calls k  t378 _ A15.out).mono ?_); rintro e w22 ⟨rfl, hb⟩; have n0_ := Aside0.mk (below_step (by repeat (first | (with_reducible first | exact HB.out | apply below_alloc | apply pw_below_drewN | apply below_drew1) | exact HB.out)) hb); clear HB; have HB := n0_; clear n0_; (try clear hb); (try clear hb2); (try clear hk); (try clear hi)))
            go_ret
            exact ⟨by first | rfl | (simp [errW_none, errW_some] <;> rfl) | (simp [*, errW_none, errW_some] <;> rfl), by repeat (first | (with_reducible first | exact HB.out | apply below_alloc | apply pw_below_drewN | apply below_drew1) | exact HB.out)⟩
          · rw [if_neg c14] at H
            have c14b0 : (t372.toList == t374.toList) = false := beq_eq_false_iff_ne.mpr c14
            have c14b1 : (t372.toList != t374.toList) = true := bne_iff_ne.mpr c14
            obtain rfl := Option.some.inj H
            go_enter Try.func9, Try.ntmps9
            go_wp2_with (first | ((with_reducible refine gate_callee (f := 35) rfl ?_); refine goesL_ (some 17) rfl rfl Try.func35 (by kernel_rfl) rfl #[.string a0] rfl (by (try simp only [List.map_toArray, List.map_cons, List.map_nil]); first | done | rfl | (simp only [List.length_drop, List.length_take]; rfl)) ?_; (with_reducible refine (name_Parent.calls k a0 t368 t369 _ A4.out).mono ?_); rintro e w23 ⟨rfl, hb⟩; refine ⟨_, rfl, ?_⟩; have n0_ := Aside0.mk (below_step (by repeat (first | (with_reducible first | exact HB.out | apply below_alloc | apply pw_below_drewN | apply below_drew1) | exact HB.out)) hb); clear HB; have HB := n0_; clear n0_; (try clear hb); (try clear hb2); (try clear hk); (try clear hi)) | ((with_reducible refine gate_callee (f := 36) rfl ?_); refine goesL_ (some 22) rfl rfl Try.func36 (by kernel_rfl) rfl #[.string a0] rfl (by (try simp only [List.map_toArray, List.map_cons, List.map_nil]); first | done | rfl | (simp only [List.length_drop, List.length_take]; rfl)) ?_; (with_reducible refine (hearsayref01_Parent.calls k a0 t370 t371 _ A5.out).mono ?_); rintro e w24 ⟨rfl, hb⟩; refine ⟨_, rfl, ?_⟩; have n0_ := Aside0.mk (below_step (by repeat (first | (with_reducible first | exact HB.out | apply below_alloc | apply pw_below_drewN | apply below_drew1) | exact HB.out)) hb); clear HB; have HB := n0_; clear n0_; (try clear hb); (try clear hb2); (try clear hk); (try clear hi)) | ((with_reducible refine gate_callee (f := 37) rfl ?_); refine goesL_ (some 28) rfl rfl Try.func37 (by kernel_rfl) rfl #[.string a0, .int .i64 a2] rfl (by (try simp only [List.map_toArray, List.map_cons, List.map_nil]); first | done | rfl | (simp only [List.length_drop, List.length_take]; rfl)) ?_; (with_reducible refine (name_Last.calls k a0 a2 t372 t373 _ A6.out).mono ?_); rintro e w25 ⟨rfl, hb⟩; refine ⟨_, rfl, ?_⟩; have n0_ := Aside0.mk (below_step (by repeat (first | (with_reducible first | exact HB.out | apply below_alloc | apply pw_below_drewN | apply below_drew1) | exact HB.out)) hb); clear HB; have HB := n0_; clear n0_; (try clear hb); (try clear hb2); (try clear hk); (try clear hi)) | ((with_reducible refine gate_callee (f := 38) rfl ?_); refine goesL_ (some 34) rfl rfl Try.func38 (by kernel_rfl) rfl #[.string a0, .int .i64 a2] rfl (by (try simp only [List.map_toArray, List.map_cons, List.map_nil]); first | done | rfl | (simp only [List.length_drop, List.length_take]; rfl)) ?_; (with_reducible refine (hearsayref01_Last.calls k a0 a2 t374 t375 _ A7.out).mono ?_); rintro e w26 ⟨rfl, hb⟩; refine ⟨_, rfl, ?_⟩; have n0_ := Aside0.mk (below_step (by repeat (first | (with_reducible first | exact HB.out | apply below_alloc | apply pw_below_drewN | apply below_drew1) | exact HB.out)) hb); clear HB; have HB := n0_; clear n0_; (try clear hb); (try clear hb2); (try clear hk); (try clear hi)) | ((with_reducible refine gate_callee (f := 39) rfl ?_); refine goesL_ (some 39) rfl rfl Try.func39 (by kernel_rfl) rfl #[.string a0, .string a1] rfl (by (try simp only [List.map_toArray, List.map_cons, List.map_nil]); first | done | rfl | (simp only [List.length_drop, List.length_take]; rfl)) ?_; (with_reducible refine (name_Under.calls k a0 a1 t376 _ A8.out).mono ?_); rintro e w27 ⟨rfl, hb⟩; refine ⟨_, rfl, ?_⟩; have n0_ := Aside0.mk (below_step (by repeat (first | (with_reducible first | exact HB.out | apply below_alloc | apply pw_below_drewN | apply below_drew1) | exact HB.out)) hb); clear HB; have HB := n0_; clear n0_; (try clear hb); (try clear hb2); (try clear hk); (try clear hi)) | ((with_reducible refine gate_callee (f := 40) rfl ?_); refine goesL_ (some 42) rfl rfl Try.func40 (by kernel_rfl) rfl #[.string a0, .string a1] rfl (by (try simp only [List.map_toArray, List.map_cons, List.map_nil]); first | done | rfl | (simp only [List.length_drop, List.length_take]; rfl)) ?_; (with_reducible refine (hearsayref01_Under.calls k a0 a1 t377 _ A9.out).mono ?_); rintro e w28 ⟨rfl, hb⟩; refine ⟨_, rfl, ?_⟩; have n0_ := Aside0.mk (below_step (by repeat (first | (with_reducible first | exact HB.out | apply below_alloc | apply pw_below_drewN | apply below_drew1) | exact HB.out)) hb); clear HB; have HB := n0_; clear n0_; (try clear hb); (try clear hb2); (try clear hk); (try clear hi)))
            go_ret
            exact ⟨by first | rfl | (simp [errW_none, errW_some] <;> rfl) | (simp [*, errW_none, errW_some] <;> rfl), by repeat (first | (with_reducible first | exact HB.out | apply below_alloc | apply pw_below_drewN | apply below_drew1) | exact HB.out)⟩
        · rw [if_neg c13] at H
          have c13b0 : (t373 == t375) = false := by simpa using c13
          (try (have c13b1 : decide (t373 = t375) = false := by simpa using c13))
          (try (have c13b2 : (t373 == t375) = false := by simpa using c13))
          (try (have c13b3 : ¬ (t373 = t375) := by simpa using c13))
          clear c13
          obtain rfl := Option.some.inj H
          go_enter Try.func9, Try.ntmps9
          go_wp2_with (first | ((with_reducible refine gate_callee (f := 35) rfl ?_); refine goesL_ (some 17) rfl rfl Try.func35 (by kernel_rfl) rfl #[.string a0] rfl (by (try simp only [List.map_toArray, List.map_cons, List.map_nil]); first | done | rfl | (simp only [List.length_drop, List.length_take]; rfl)) ?_; (with_reducible refine (name_Parent.calls k a0 t368 t369 _ A4.out).mono ?_); rintro e w29 ⟨rfl, hb⟩; refine ⟨_, rfl, ?_⟩; have n0_ := Aside0.mk (below_step (by repeat (first | (with_reducible first | exact HB.out | apply below_alloc | apply pw_below_drewN | apply below_drew1) | exact HB.out)) hb); clear HB; have HB := n0_; clear n0_; (try clear hb); (try clear hb2); (try clear hk); (try clear hi)) | ((with_reducible refine gate_callee (f := 36) rfl ?_); refine goesL_ (some 22) rfl rfl Try.func36 (by kernel_rfl) rfl #[.string a0] rfl (by (try simp only [List.map_toArray, List.map_cons, List.map_nil]); first | done | rfl | (simp only [List.length_drop, List.length_take]; rfl)) ?_; (with_reducible refine (hearsayref01_Parent.calls k a0 t370 t371 _ A5.out).mono ?_); rintro e w30 ⟨rfl, hb⟩; refine ⟨_, rfl, ?_⟩; have n0_ := Aside0.mk (below_step (by repeat (first | (with_reducible first | exact HB.out | apply below_alloc | apply pw_below_drewN | apply below_drew1) | exact HB.out)) hb); clear HB; have HB := n0_; clear n0_; (try clear hb); (try clear hb2); (try clear hk); (try clear hi)) | ((with_reducible refine gate_callee (f := 37) rfl ?_); refine goesL_ (some 28) rfl rfl Try.func37 (by kernel_rfl) rfl #[.string a0, .int .i64 a2] rfl (by (try simp only [List.map_toArray, List.map_cons, List.map_nil]); first | done | rfl | (simp only [List.length_drop, List.length_take]; rfl)) ?_; (with_reducible refine (name_Last.calls k a0 a2 t372 t373 _ A6.out).mono ?_); rintro e w31 ⟨rfl, hb⟩; refine ⟨_, rfl, ?_⟩; have n0_ := Aside0.mk (below_step (by repeat (first | (with_reducible first | exact HB.out | apply below_alloc | apply pw_below_drewN | apply below_drew1) | exact HB.out)) hb); clear HB; have HB := n0_; clear n0_; (try clear hb); (try clear hb2); (try clear hk); (try clear hi)) | ((with_reducible refine gate_callee (f := 38) rfl ?_); refine goesL_ (some 34) rfl rfl Try.func38 (by kernel_rfl) rfl #[.string a0, .int .i64 a2] rfl (by (try simp only [List.map_toArray, List.map_cons, List.map_nil]); first | done | rfl | (simp only [List.length_drop, List.length_take]; rfl)) ?_; (with_reducible refine (hearsayref01_Last.calls k a0 a2 t374 t375 _ A7.out).mono ?_); rintro e w32 ⟨rfl, hb⟩; refine ⟨_, rfl, ?_⟩; have n0_ := Aside0.mk (below_step (by repeat (first | (with_reducible first | exact HB.out | apply below_alloc | apply pw_below_drewN | apply below_drew1) | exact HB.out)) hb); clear HB; have HB := n0_; clear n0_; (try clear hb); (try clear hb2); (try clear hk); (try clear hi)) | ((with_reducible refine gate_callee (f := 39) rfl ?_); refine goesL_ (some 39) rfl rfl Try.func39 (by kernel_rfl) rfl #[.string a0, .string a1] rfl (by (try simp only [List.map_toArray, List.map_cons, List.map_nil]); first | done | rfl | (simp only [List.length_drop, List.length_take]; rfl)) ?_; (with_reducible refine (name_Under.calls k a0 a1 t376 _ A8.out).mono ?_); rintro e w33 ⟨rfl, hb⟩; refine ⟨_, rfl, ?_⟩; have n0_ := Aside0.mk (below_step (by repeat (first | (with_reducible first | exact HB.out | apply below_alloc | apply pw_below_drewN | apply below_drew1) | exact HB.out)) hb); clear HB; have HB := n0_; clear n0_; (try clear hb); (try clear hb2); (try clear hk); (try clear hi)) | ((with_reducible refine gate_callee (f := 40) rfl ?_); refine goesL_ (some 42) rfl rfl Try.func40 (by kernel_rfl) rfl #[.string a0, .string a1] rfl (by (try simp only [List.map_toArray, List.map_cons, List.map_nil]); first | done | rfl | (simp only [List.length_drop, List.length_take]; rfl)) ?_; (with_reducible refine (hearsayref01_Under.calls k a0 a1 t377 _ A9.out).mono ?_); rintro e w34 ⟨rfl, hb⟩; refine ⟨_, rfl, ?_⟩; have n0_ := Aside0.mk (below_step (by repeat (first | (with_reducible first | exact HB.out | apply below_alloc | apply pw_below_drewN | apply below_drew1) | exact HB.out)) hb); clear HB; have HB := n0_; clear n0_; (try clear hb); (try clear hb2); (try clear hk); (try clear hi)))
          go_ret
          exact ⟨by first | rfl | (simp [errW_none, errW_some] <;> rfl) | (simp [*, errW_none, errW_some] <;> rfl), by repeat (first | (with_reducible first | exact HB.out | apply below_alloc | apply pw_below_drewN | apply below_drew1) | exact HB.out)⟩
      · rw [if_neg c12] at H
        have c12b0 : (t368.toList == t370.toList) = false := beq_eq_false_iff_ne.mpr c12
        have c12b1 : (t368.toList != t370.toList) = true := bne_iff_ne.mpr c12
        obtain rfl := Option.some.inj H
        go_enter Try.func9, Try.ntmps9
        go_wp2_with (first | ((with_reducible refine gate_callee (f := 35) rfl ?_); refine goesL_ (some 17) rfl rfl Try.func35 (by kernel_rfl) rfl #[.string a0] rfl (by (try simp only [List.map_toArray, List.map_cons, List.map_nil]); first | done | rfl | (simp only [List.length_drop, List.length_take]; rfl)) ?_; (with_reducible refine (name_Parent.calls k a0 t368 t369 _ A4.out).mono ?_); rintro e w35 ⟨rfl, hb⟩; refine ⟨_, rfl, ?_⟩; have n0_ := Aside0.mk (below_step (by repeat (first | (with_reducible first | exact HB.out | apply below_alloc | apply pw_below_drewN | apply below_drew1) | exact HB.out)) hb); clear HB; have HB := n0_; clear n0_; (try clear hb); (try clear hb2); (try clear hk); (try clear hi)) | ((with_reducible refine gate_callee (f := 36) rfl ?_); refine goesL_ (some 22) rfl rfl Try.func36 (by kernel_rfl) rfl #[.string a0] rfl (by (try simp only [List.map_toArray, List.map_cons, List.map_nil]); first | done | rfl | (simp only [List.length_drop, List.length_take]; rfl)) ?_; (with_reducible refine (hearsayref01_Parent.calls k a0 t370 t371 _ A5.out).mono ?_); rintro e w36 ⟨rfl, hb⟩; refine ⟨_, rfl, ?_⟩; have n0_ := Aside0.mk (below_step (by repeat (first | (with_reducible first | exact HB.out | apply below_alloc | apply pw_below_drewN | apply below_drew1) | exact HB.out)) hb); clear HB; have HB := n0_; clear n0_; (try clear hb); (try clear hb2); (try clear hk); (try clear hi)) | ((with_reducible refine gate_callee (f := 37) rfl ?_); refine goesL_ (some 28) rfl rfl Try.func37 (by kernel_rfl) rfl #[.string a0, .int .i64 a2] rfl (by (try simp only [List.map_toArray, List.map_cons, List.map_nil]); first | done | rfl | (simp only [List.length_drop, List.length_take]; rfl)) ?_; (with_reducible refine (name_Last.calls k a0 a2 t372 t373 _ A6.out).mono ?_); rintro e w37 ⟨rfl, hb⟩; refine ⟨_, rfl, ?_⟩; have n0_ := Aside0.mk (below_step (by repeat (first | (with_reducible first | exact HB.out | apply below_alloc | apply pw_below_drewN | apply below_drew1) | exact HB.out)) hb); clear HB; have HB := n0_; clear n0_; (try clear hb); (try clear hb2); (try clear hk); (try clear hi)) | ((with_reducible refine gate_callee (f := 38) rfl ?_); refine goesL_ (some 34) rfl rfl Try.func38 (by kernel_rfl) rfl #[.string a0, .int .i64 a2] rfl (by (try simp only [List.map_toArray, List.map_cons, List.map_nil]); first | done | rfl | (simp only [List.length_drop, List.length_take]; rfl)) ?_; (with_reducible refine (hearsayref01_Last.calls k a0 a2 t374 t375 _ A7.out).mono ?_); rintro e w38 ⟨rfl, hb⟩; refine ⟨_, rfl, ?_⟩; have n0_ := Aside0.mk (below_step (by repeat (first | (with_reducible first | exact HB.out | apply below_alloc | apply pw_below_drewN | apply below_drew1) | exact HB.out)) hb); clear HB; have HB := n0_; clear n0_; (try clear hb); (try clear hb2); (try clear hk); (try clear hi)) | ((with_reducible refine gate_callee (f := 39) rfl ?_); refine goesL_ (some 39) rfl rfl Try.func39 (by kernel_rfl) rfl #[.string a0, .string a1] rfl (by (try simp only [List.map_toArray, List.map_cons, List.map_nil]); first | done | rfl | (simp only [List.length_drop, List.length_take]; rfl)) ?_; (with_reducible refine (name_Under.calls k a0 a1 t376 _ A8.out).mono ?_); rintro e w39 ⟨rfl, hb⟩; refine ⟨_, rfl, ?_⟩; have n0_ := Aside0.mk (below_step (by repeat (first | (with_reducible first | exact HB.out | apply below_alloc | apply pw_below_drewN | apply below_drew1) | exact HB.out)) hb); clear HB; have HB := n0_; clear n0_; (try clear hb); (try clear hb2); (try clear hk); (try clear hi)) | ((with_reducible refine gate_callee (f := 40) rfl ?_); refine goesL_ (some 42) rfl rfl Try.func40 (by kernel_rfl) rfl #[.string a0, .string a1] rfl (by (try simp only [List.map_toArray, List.map_cons, List.map_nil]); first | done | rfl | (simp only [List.length_drop, List.length_take]; rfl)) ?_; (with_reducible refine (hearsayref01_Under.calls k a0 a1 t377 _ A9.out).mono ?_); rintro e w40 ⟨rfl, hb⟩; refine ⟨_, rfl, ?_⟩; have n0_ := Aside0.mk (below_step (by repeat (first | (with_reducible first | exact HB.out | apply below_alloc | apply pw_below_drewN | apply below_drew1) | exact HB.out)) hb); clear HB; have HB := n0_; clear n0_; (try clear hb); (try clear hb2); (try clear hk); (try clear hi)))
        go_ret
        exact ⟨by first | rfl | (simp [errW_none, errW_some] <;> rfl) | (simp [*, errW_none, errW_some] <;> rfl), by repeat (first | (with_reducible first | exact HB.out | apply below_alloc | apply pw_below_drewN | apply below_drew1) | exact HB.out)⟩
    · rw [if_neg c11] at H
      have c11b0 : (t369 == t371) = false := by simpa using c11
      (try (have c11b1 : decide (t369 = t371) = false := by simpa using c11))
      (try (have c11b2 : (t369 == t371) = false := by simpa using c11))
      (try (have c11b3 : ¬ (t369 = t371) := by simpa using c11))
      clear c11
      obtain rfl := Option.some.inj H
      go_enter Try.func9, Try.ntmps9
      go_wp2_with (first | ((with_reducible refine gate_callee (f := 35) rfl ?_); refine goesL_ (some 17) rfl rfl Try.func35 (by kernel_rfl) rfl #[.string a0] rfl (by (try simp only [List.map_toArray, List.map_cons, List.map_nil]); first | done | rfl | (simp only [List.length_drop, List.length_take]; rfl)) ?_; (with_reducible refine (name_Parent.calls k a0 t368 t369 _ A4.out).mono ?_); rintro e w41 ⟨rfl, hb⟩; refine ⟨_, rfl, ?_⟩; have n0_ := Aside0.mk (below_step (by repeat (first | (with_reducible first | exact HB.out | apply below_alloc | apply pw_below_drewN | apply below_drew1) | exact HB.out)) hb); clear HB; have HB := n0_; clear n0_; (try clear hb); (try clear hb2); (try clear hk); (try clear hi)) | ((with_reducible refine gate_callee (f := 36) rfl ?_); refine goesL_ (some 22) rfl rfl Try.func36 (by kernel_rfl) rfl #[.string a0] rfl (by (try simp only [List.map_toArray, List.map_cons, List.map_nil]); first | done | rfl | (simp only [List.length_drop, List.length_take]; rfl)) ?_; (with_reducible refine (hearsayref01_Parent.calls k a0 t370 t371 _ A5.out).mono ?_); rintro e w42 ⟨rfl, hb⟩; refine ⟨_, rfl, ?_⟩; have n0_ := Aside0.mk (below_step (by repeat (first | (with_reducible first | exact HB.out | apply below_alloc | apply pw_below_drewN | apply below_drew1) | exact HB.out)) hb); clear HB; have HB := n0_; clear n0_; (try clear hb); (try clear hb2); (try clear hk); (try clear hi)) | ((with_reducible refine gate_callee (f := 37) rfl ?_); refine goesL_ (some 28) rfl rfl Try.func37 (by kernel_rfl) rfl #[.string a0, .int .i64 a2] rfl (by (try simp only [List.map_toArray, List.map_cons, List.map_nil]); first | done | rfl | (simp only [List.length_drop, List.length_take]; rfl)) ?_; (with_reducible refine (name_Last.calls k a0 a2 t372 t373 _ A6.out).mono ?_); rintro e w43 ⟨rfl, hb⟩; refine ⟨_, rfl, ?_⟩; have n0_ := Aside0.mk (below_step (by repeat (first | (with_reducible first | exact HB.out | apply below_alloc | apply pw_below_drewN | apply below_drew1) | exact HB.out)) hb); clear HB; have HB := n0_; clear n0_; (try clear hb); (try clear hb2); (try clear hk); (try clear hi)) | ((with_reducible refine gate_callee (f := 38) rfl ?_); refine goesL_ (some 34) rfl rfl Try.func38 (by kernel_rfl) rfl #[.string a0, .int .i64 a2] rfl (by (try simp only [List.map_toArray, List.map_cons, List.map_nil]); first | done | rfl | (simp only [List.length_drop, List.length_take]; rfl)) ?_; (with_reducible refine (hearsayref01_Last.calls k a0 a2 t374 t375 _ A7.out).mono ?_); rintro e w44 ⟨rfl, hb⟩; refine ⟨_, rfl, ?_⟩; have n0_ := Aside0.mk (below_step (by repeat (first | (with_reducible first | exact HB.out | apply below_alloc | apply pw_below_drewN | apply below_drew1) | exact HB.out)) hb); clear HB; have HB := n0_; clear n0_; (try clear hb); (try clear hb2); (try clear hk); (try clear hi)) | ((with_reducible refine gate_callee (f := 39) rfl ?_); refine goesL_ (some 39) rfl rfl Try.func39 (by kernel_rfl) rfl #[.string a0, .string a1] rfl (by (try simp only [List.map_toArray, List.map_cons, List.map_nil]); first | done | rfl | (simp only [List.length_drop, List.length_take]; rfl)) ?_; (with_reducible refine (name_Under.calls k a0 a1 t376 _ A8.out).mono ?_); rintro e w45 ⟨rfl, hb⟩; refine ⟨_, rfl, ?_⟩; have n0_ := Aside0.mk (below_step (by repeat (first | (with_reducible first | exact HB.out | apply below_alloc | apply pw_below_drewN | apply below_drew1) | exact HB.out)) hb); clear HB; have HB := n0_; clear n0_; (try clear hb); (try clear hb2); (try clear hk); (try clear hi)) | ((with_reducible refine gate_callee (f := 40) rfl ?_); refine goesL_ (some 42) rfl rfl Try.func40 (by kernel_rfl) rfl #[.string a0, .string a1] rfl (by (try simp only [List.map_toArray, List.map_cons, List.map_nil]); first | done | rfl | (simp only [List.length_drop, List.length_take]; rfl)) ?_; (with_reducible refine (hearsayref01_Under.calls k a0 a1 t377 _ A9.out).mono ?_); rintro e w46 ⟨rfl, hb⟩; refine ⟨_, rfl, ?_⟩; have n0_ := Aside0.mk (below_step (by repeat (first | (with_reducible first | exact HB.out | apply below_alloc | apply pw_below_drewN | apply below_drew1) | exact HB.out)) hb); clear HB; have HB := n0_; clear n0_; (try clear hb); (try clear hb2); (try clear hk); (try clear hi)))
      go_ret
      exact ⟨by first | rfl | (simp [errW_none, errW_some] <;> rfl) | (simp [*, errW_none, errW_some] <;> rfl), by repeat (first | (with_reducible first | exact HB.out | apply below_alloc | apply pw_below_drewN | apply below_drew1) | exact HB.out)⟩
  · rw [if_neg c10] at H
    have c10b0 : (t376 == t377) = false := by simpa using c10
    (try (have c10b1 : decide (t376 = t377) = false := by simpa using c10))
    (try (have c10b2 : (t376 == t377) = false := by simpa using c10))
    (try (have c10b3 : ¬ (t376 = t377) := by simpa using c10))
    clear c10
    obtain rfl := Option.some.inj H
    go_enter Try.func9, Try.ntmps9
    go_wp2_with (first | ((with_reducible refine gate_callee (f := 35) rfl ?_); refine goesL_ (some 17) rfl rfl Try.func35 (by kernel_rfl) rfl #[.string a0] rfl (by (try simp only [List.map_toArray, List.map_cons, List.map_nil]); first | done | rfl | (simp only [List.length_drop, List.length_take]; rfl)) ?_; (with_reducible refine (name_Parent.calls k a0 t368 t369 _ A4.out).mono ?_); rintro e w47 ⟨rfl, hb⟩; refine ⟨_, rfl, ?_⟩; have n0_ := Aside0.mk (below_step (by repeat (first | (with_reducible first | exact HB.out | apply below_alloc | apply pw_below_drewN | apply below_drew1) | exact HB.out)) hb); clear HB; have HB := n0_; clear n0_; (try clear hb); (try clear hb2); (try clear hk); (try clear hi)) | ((with_reducible refine gate_callee (f := 36) rfl ?_); refine goesL_ (some 22) rfl rfl Try.func36 (by kernel_rfl) rfl #[.string a0] rfl (by (try simp only [List.map_toArray, List.map_cons, List.map_nil]); first | done | rfl | (simp only [List.length_drop, List.length_take]; rfl)) ?_; (with_reducible refine (hearsayref01_Parent.calls k a0 t370 t371 _ A5.out).mono ?_); rintro e w48 ⟨rfl, hb⟩; refine ⟨_, rfl, ?_⟩; have n0_ := Aside0.mk (below_step (by repeat (first | (with_reducible first | exact HB.out | apply below_alloc | apply pw_below_drewN | apply below_drew1) | exact HB.out)) hb); clear HB; have HB := n0_; clear n0_; (try clear hb); (try clear hb2); (try clear hk); (try clear hi)) | ((with_reducible refine gate_callee (f := 37) rfl ?_); refine goesL_ (some 28) rfl rfl Try.func37 (by kernel_rfl) rfl #[.string a0, .int .i64 a2] rfl (by (try simp only [List.map_toArray, List.map_cons, List.map_nil]); first | done | rfl | (simp only [List.length_drop, List.length_take]; rfl)) ?_; (with_reducible refine (name_Last.calls k a0 a2 t372 t373 _ A6.out).mono ?_); rintro e w49 ⟨rfl, hb⟩; refine ⟨_, rfl, ?_⟩; have n0_ := Aside0.mk (below_step (by repeat (first | (with_reducible first | exact HB.out | apply below_alloc | apply pw_below_drewN | apply below_drew1) | exact HB.out)) hb); clear HB; have HB := n0_; clear n0_; (try clear hb); (try clear hb2); (try clear hk); (try clear hi)) | ((with_reducible refine gate_callee (f := 38) rfl ?_); refine goesL_ (some 34) rfl rfl Try.func38 (by kernel_rfl) rfl #[.string a0, .int .i64 a2] rfl (by (try simp only [List.map_toArray, List.map_cons, List.map_nil]); first | done | rfl | (simp only [List.length_drop, List.length_take]; rfl)) ?_; (with_reducible refine (hearsayref01_Last.calls k a0 a2 t374 t375 _ A7.out).mono ?_); rintro e w50 ⟨rfl, hb⟩; refine ⟨_, rfl, ?_⟩; have n0_ := Aside0.mk (below_step (by repeat (first | (with_reducible first | exact HB.out | apply below_alloc | apply pw_below_drewN | apply below_drew1) | exact HB.out)) hb); clear HB; have HB := n0_; clear n0_; (try clear hb); (try clear hb2); (try clear hk); (try clear hi)) | ((with_reducible refine gate_callee (f := 39) rfl ?_); refine goesL_ (some 39) rfl rfl Try.func39 (by kernel_rfl) rfl #[.string a0, .string a1] rfl (by (try simp only [List.map_toArray, List.map_cons, List.map_nil]); first | done | rfl | (simp only [List.length_drop, List.length_take]; rfl)) ?_; (with_reducible refine (name_Under.calls k a0 a1 t376 _ A8.out).mono ?_); rintro e w51 ⟨rfl, hb⟩; refine ⟨_, rfl, ?_⟩; have n0_ := Aside0.mk (below_step (by repeat (first | (with_reducible first | exact HB.out | apply below_alloc | apply pw_below_drewN | apply below_drew1) | exact HB.out)) hb); clear HB; have HB := n0_; clear n0_; (try clear hb); (try clear hb2); (try clear hk); (try clear hi)) | ((with_reducible refine gate_callee (f := 40) rfl ?_); refine goesL_ (some 42) rfl rfl Try.func40 (by kernel_rfl) rfl #[.string a0, .string a1] rfl (by (try simp only [List.map_toArray, List.map_cons, List.map_nil]); first | done | rfl | (simp only [List.length_drop, List.length_take]; rfl)) ?_; (with_reducible refine (hearsayref01_Under.calls k a0 a1 t377 _ A9.out).mono ?_); rintro e w52 ⟨rfl, hb⟩; refine ⟨_, rfl, ?_⟩; have n0_ := Aside0.mk (below_step (by repeat (first | (with_reducible first | exact HB.out | apply below_alloc | apply pw_below_drewN | apply below_drew1) | exact HB.out)) hb); clear HB; have HB := n0_; clear n0_; (try clear hb); (try clear hb2); (try clear hk); (try clear hi)))
    go_ret
    exact ⟨by first | rfl | (simp [errW_none, errW_some] <;> rfl) | (simp [*, errW_none, errW_some] <;> rfl), by repeat (first | (with_reducible first | exact HB.out | apply below_alloc | apply pw_below_drewN | apply below_drew1) | exact HB.out)⟩

/-- THE ONE PURE STATEMENT of hearsaylaw01_NameUnder: yours. -/
def hearsaylaw01_NameUnder.Pure : Prop := ∀ (a0 : ByteArray) (a1 : ByteArray) (a2 : Int), a0.size ≤ 140737488351232 → a1.size ≤ 140737488351232 → (Lit.int .i64 a2).wf = true → ∃ k, hearsaylaw01_NameUnder.f k a0 a1 a2 = some true
theorem hearsaylaw01_NameUnder.walk (P : hearsaylaw01_NameUnder.Pure) (a0 : ByteArray) (a1 : ByteArray) (a2 : Int) (w : World) (w0 : a0.size ≤ 140737488351232) (w1 : a1.size ≤ 140737488351232) (w2 : (Lit.int .i64 a2).wf = true) :
    Calls Try.prog 9 #[.string a0, .string a1, .int .i64 a2] w fun e w' => e = .returned (.bool true) ∧ Below w.heap.size w w' := by
  obtain ⟨k, h⟩ := P a0 a1 a2 w0 w1 w2
  refine (hearsaylaw01_NameUnder.calls k a0 a1 a2 true w h).mono ?_
  rintro e w' ⟨rfl, hd⟩
  exact ⟨rfl, hd⟩

end Go.Proofs.Ytplnknhlgdoliaa.Print
end
section
-- Written by a program of this session, built on the kit's print (it is not the print's own text).
namespace Go.Proofs.Ytplnknhlgdoliaa.Print
open Go.RowKit Go.Proofs.YtplnknhlgdoliaaW.PrintWords Go.Proofs.YtplnknhlgdoliaaW.PrintLast Go.Proofs.YtplnknhlgdoliaaW.PrintMore
attribute [local go_sem] max2_int min2_int max_two min_two max_three min_three max_four min_four   -- for this text's walks alone
set_option linter.unusedVariables false
set_option linter.unusedSimpArgs false

/-! ### name_low: function 44 -/
def name_low.f (a0 : Int) : Option (Int) := if 65 ≤ a0 then (if a0 ≤ 90 then (some (Go.bits .or .u8 a0 32)) else (some a0)) else (some a0)
set_option maxHeartbeats 8000000 in
set_option maxRecDepth 100000 in
theorem name_low.calls (a0 : Int) (r : Int) (w : World) (h : name_low.f a0 = some r) :
    Calls Try.prog 44 #[.int .u8 a0] w fun e w' => e = .returned (.int .u8 r) ∧ Drawn0 w w' := by
  have H : (if 65 ≤ a0 then (if a0 ≤ 90 then (some (Go.bits .or .u8 a0 32)) else (some a0)) else (some a0)) = some r := h
  clear h
  by_cases c2 : 65 ≤ a0
  · rw [if_pos c2] at H
    have c2b0 : decide (65 ≤ a0) = true := decide_eq_true c2
    clear c2
    by_cases c3 : a0 ≤ 90
    · rw [if_pos c3] at H
      have c3b0 : decide (a0 ≤ 90) = true := decide_eq_true c3
      clear c3
      obtain rfl := Option.some.inj H
      go_enter Try.func44, Try.ntmps44
      go_wp2
      go_ret
      exact ⟨by first | rfl | (simp; done) | (simp [*]; done), by repeat (first | exact Drawn0.refl _ | apply Drawn0.step)⟩
    · rw [if_neg c3] at H
      have c3b0 : decide (a0 ≤ 90) = false := decide_eq_false c3
      clear c3
      obtain rfl := Option.some.inj H
      go_enter Try.func44, Try.ntmps44
      go_wp2
      go_ret
      exact ⟨by first | rfl | (simp; done) | (simp [*]; done), by repeat (first | exact Drawn0.refl _ | apply Drawn0.step)⟩
  · rw [if_neg c2] at H
    have c2b0 : decide (65 ≤ a0) = false := decide_eq_false c2
    clear c2
    obtain rfl := Option.some.inj H
    go_enter Try.func44, Try.ntmps44
    go_wp2
    go_ret
    exact ⟨by first | rfl | (simp; done) | (simp [*]; done), by repeat (first | exact Drawn0.refl _ | apply Drawn0.step)⟩

end Go.Proofs.Ytplnknhlgdoliaa.Print
end
section
/- name.Cmp, walked: the order of names. -/
namespace Go.Proofs.Ytplnknhlgdoliaa.Print
set_option linter.unusedVariables false
set_option linter.unusedSimpArgs false
open Go.RowKit Go.Proofs.YtplnknhlgdoliaaW.PrintWords Go.Proofs.YtplnknhlgdoliaaW.PrintLast Go.Proofs.YtplnknhlgdoliaaW.PrintMore
theorem name_low_f (c : Int) : name_low.f c = some (low1 c) := by
  unfold name_low.f low1
  by_cases h0 : 65 ≤ c
  · by_cases h1 : c ≤ 90
    · rw [if_pos h0, if_pos h1, if_pos ⟨h0, h1⟩, low_or c h0 h1]
    · rw [if_pos h0, if_neg h1, if_neg (by omega)]
  · rw [if_neg h0, if_neg (by omega)]
/-- two rows of bytes in small letters, one byte behind the other; then their lengths -/
def diffB : List Int → List Int → Int
  | x :: xs, y :: ys => if low1 x = low1 y then diffB xs ys else low1 x - low1 y
  | xs, ys => (xs.length : Int) - (ys.length : Int)
/-- the same of two lists of labels, from their ends on; here each list is turned round -/
def diffL : List ByteArray → List ByteArray → Int
  | x :: xs, y :: ys => if diffB (bytesOf x) (bytesOf y) = 0 then diffL xs ys else diffB (bytesOf x) (bytesOf y)
  | xs, ys => (xs.length : Int) - (ys.length : Int)
def clamp (c : Int) : Int := max (-1) (min 1 c)
def cmpP (a b : ByteArray) : Int :=
  match dec a, dec b with
  | none, none => Lib.compareBytes a.data.toList b.data.toList
  | none, some _ => 1
  | some _, none => -1
  | some L, some M => clamp (diffL L.reverse M.reverse)
def name_Cmp.f (a b : ByteArray) : Option Int := some (cmpP a b)
theorem low1_range {c : Int} (h0 : 0 ≤ c) (h1 : c < 256) : 0 ≤ low1 c ∧ low1 c < 256 := by unfold low1; split <;> omega
theorem diffB_at {x y : ByteArray} {k : Nat} (hx : k < x.size) (hy : k < y.size) : diffB ((bytesOf x).drop k) ((bytesOf y).drop k) = if low1 (bt x (k : Int)) = low1 (bt y (k : Int)) then diffB ((bytesOf x).drop (k + 1)) ((bytesOf y).drop (k + 1)) else low1 (bt x (k : Int)) - low1 (bt y (k : Int)) := by
  rw [bo_drop x k hx, bo_drop y k hy, diffB]
theorem diffB_end {x y : ByteArray} {k : Nat} (h : ¬ (k < x.size ∧ k < y.size)) (hk : k ≤ x.size ∧ k ≤ y.size) : diffB ((bytesOf x).drop k) ((bytesOf y).drop k) = (x.size : Int) - (y.size : Int) := by
  have e1 : ((bytesOf x).drop k).length = x.size - k := by rw [List.length_drop, bytesOf_length]
  have e2 : ((bytesOf y).drop k).length = y.size - k := by rw [List.length_drop, bytesOf_length]
  cases h1 : (bytesOf x).drop k with
  | nil => rw [h1] at e1; cases h2 : (bytesOf y).drop k with
    | nil => rw [h2] at e2; simp [diffB] at e1 e2 ⊢; omega
    | cons d r => rw [h2] at e2; simp [diffB] at e1 e2 ⊢; omega
  | cons c q => rw [h1] at e1; cases h2 : (bytesOf y).drop k with
    | nil => rw [h2] at e2; simp [diffB] at e1 e2 ⊢; omega
    | cons d r => rw [h2] at e2; simp at e1 e2; omega
theorem low_quiet (x lx : Int) (w2 : World) (ne n : Nat) (h : name_low.f x = some lx) : Calls Try.prog 44 #[.int .u8 x] (w2.drewN (ne + n)) fun e w'' => e = .returned (.int .u8 lx) ∧ ∃ m, w'' = w2.drewN (ne + m) := by
  refine (name_low.calls x lx _ h).mono (fun e w'' hh => ⟨hh.1, ?_⟩)
  obtain ⟨m, hm⟩ := hh.2.out
  exact ⟨n + m, by rw [hm, World.drewN_drewN, Nat.add_assoc]⟩
theorem take_rev {L : List ByteArray} {a : Nat} {s : ByteArray} (h : L[a]? = some s) : (L.take (a + 1)).reverse = s :: (L.take a).reverse := by rw [take_succ' h, List.reverse_append]; rfl
theorem take_split {L : List ByteArray} {a : Nat} {s : ByteArray} (h : L[a]? = some s) : L = L.take a ++ s :: L.drop (a + 1) := by
  obtain ⟨hl, rfl⟩ := List.getElem?_eq_some_iff.1 h
  rw [List.getElem_cons_drop hl, List.take_append_drop]
/-- what the code asks at label number a -/
theorem cmp_label {n : ByteArray} {L : List ByteArray} (h : dec n = some L) {a : Nat} {s : ByteArray} (hs : L[a]? = some s) :
    ∃ p : Nat, rd (offs 0 L) (a : Int) = (p : Int) ∧ p < n.size ∧ bt n (p : Int) = s.size ∧ p + 1 + s.size ≤ n.size ∧ n.extract (p + 1) (p + 1 + s.size) = s ∧ s.size ≤ 63 ∧ n.size ≤ 255 := by
  have e := take_split hs
  have hd := (dec_some h).2.2
  have hn := (dec_some h).1
  have hbs : badLab s = false := by
    rw [List.any_eq_false] at hd; simpa using hd s (List.mem_of_getElem? hs)
  have ha : (L.take a).length = a := by have := (List.getElem?_eq_some_iff.1 hs).1; simp; omega
  rw [e] at h
  obtain ⟨h1, h2, h3⟩ := label_at h
  have ho := offs_at (L.take a) 0 s (L.drop (a + 1))
  rw [← e, ha, Nat.zero_add] at ho
  refine ⟨(glue (L.take a)).length, by simp [rd, List.getD_eq_getElem?_getD, ho], by omega, h1, by omega, h3, (bad_false hbs).2, hn⟩
def CmpInv (L M : List ByteArray) (a b : Nat) : Prop := a ≤ L.length ∧ b ≤ M.length ∧ a + M.length = b + L.length ∧ diffL (L.take a).reverse (M.take b).reverse = diffL L.reverse M.reverse
theorem cmp0 (L M : List ByteArray) : CmpInv L M L.length M.length := ⟨Nat.le_refl _, Nat.le_refl _, by omega, by rw [List.take_length, List.take_length]⟩
theorem cmp_step {L M : List ByteArray} {a b : Nat} {s u : ByteArray} (h : CmpInv L M (a + 1) (b + 1)) (hs : L[a]? = some s) (hu : M[b]? = some u) (h0 : diffB (bytesOf s) (bytesOf u) = 0) : CmpInv L M a b := by
  obtain ⟨h1, h2, h3, h4⟩ := h
  refine ⟨by omega, by omega, by omega, ?_⟩
  rw [← h4, take_rev hs, take_rev hu, diffL, if_pos h0]
theorem cmp_out {L M : List ByteArray} {a b : Nat} {s u : ByteArray} (h : CmpInv L M (a + 1) (b + 1)) (hs : L[a]? = some s) (hu : M[b]? = some u) (h0 : diffB (bytesOf s) (bytesOf u) ≠ 0) : diffL L.reverse M.reverse = diffB (bytesOf s) (bytesOf u) := by
  rw [← h.2.2.2, take_rev hs, take_rev hu, diffL, if_neg h0]
theorem cmp_end {L M : List ByteArray} {a b : Nat} (h : CmpInv L M a b) (h0 : a = 0 ∨ b = 0) : diffL L.reverse M.reverse = (L.length : Int) - (M.length : Int) := by
  obtain ⟨h1, h2, h3, h4⟩ := h
  have e1 : (L.take a).reverse.length = a := by simp; omega
  have e2 : (M.take b).reverse.length = b := by simp; omega
  rw [← h4]
  rcases h0 with rfl | rfl
  · rw [List.take_zero, List.reverse_nil]
    unfold diffL
    rw [e2]
    simp; omega
  · rw [List.take_zero (l := M), List.reverse_nil]
    cases h5 : (L.take a).reverse with
    | nil => rw [h5] at e1; simp [diffL] at e1 ⊢; omega
    | cons x xs => rw [h5] at e1; simp [diffL] at e1 ⊢; omega
set_option maxHeartbeats 4000000 in
set_option maxRecDepth 100000 in
theorem name_Cmp.calls (a0 a1 : ByteArray) (r : Int) (w : World) (h : name_Cmp.f a0 a1 = some r) :
    Calls Try.prog 41 #[.string a0, .string a1] w fun e w' => e = .returned (.int .i64 r) ∧ Below w.heap.size w w' := by
  unfold name_Cmp.f cmpP at h
  simp only [Option.some.injEq] at h
  obtain ⟨la, hEa, hLa⟩ := starts_f a0
  obtain ⟨lb, hEb, hLb⟩ := starts_f a1
  obtain ⟨ka, hka⟩ := hEa.rounds
  obtain ⟨kb, hkb⟩ := hEb.rounds
  have HB := Aside0.mk (Below.refl w.heap.size w)
  cases hda : dec a0 with
  | none =>
    rw [hda] at h hka
    have HKA : Aside0 (name_starts.f ka a0 = some (la, false)) := ⟨hka⟩
    cases hdb : dec a1 with
    | none =>
      rw [hdb] at h hkb
      have HKB : Aside0 (name_starts.f kb a1 = some (lb, false)) := ⟨hkb⟩
      simp only [] at h
      subst h
      clear hda hdb hka hkb hLa hLb hEa hEb
      go_enter Try.func41, Try.ntmps41
      go_wp2; go_step3
      go_wp2_with (first | ((with_reducible refine gate_callee (f := 43) rfl ?_); refine goesL_ (some 17) rfl rfl Try.func43 (by kernel_rfl) rfl #[.string a0] rfl (by (try simp only [List.map_toArray, List.map_cons, List.map_nil]); first | done | rfl) ?_; (with_reducible refine (name_starts.calls ka a0 la false _ HKA.out).mono ?_); rintro e w1 ⟨v1, rfl, ho1, hb1⟩; refine ⟨_, rfl, ?_⟩; obtain ⟨A_1, c_1, rfl, hle1, hC1⟩ := Kd.R_reads ho1; have HB1 := Aside0.mk (HB.out.trans (below_to hb1 HB.out.size)); have HC1 := Aside0.mk hC1; have HR1 := Aside0.mk ho1; clear ho1 hb1 hC1 hle1) | ((with_reducible refine gate_callee (f := 43) rfl ?_); refine goesL_ (some 22) rfl rfl Try.func43 (by kernel_rfl) rfl #[.string a1] rfl (by (try simp only [List.map_toArray, List.map_cons, List.map_nil]); first | done | rfl) ?_; (with_reducible refine (name_starts.calls kb a1 lb false _ HKB.out).mono ?_); rintro e w2 ⟨v2, rfl, ho2, hb2⟩; refine ⟨_, rfl, ?_⟩; obtain ⟨A_2, c_2, rfl, hle2, hC2⟩ := Kd.R_reads ho2; have HC1 := Aside0.mk (Kd.C_below HC1.out hb2); have HB2 := Aside0.mk (HB1.out.trans (below_to hb2 HB1.out.size)); have HC2 := Aside0.mk hC2; have HR2 := Aside0.mk ho2; clear ho2 hb2 hC2 hle2) | ((with_reducible refine gate_callee (f := 59) rfl ?_); refine goesL_ (some 34) rfl rfl Try.func59 (by kernel_rfl) rfl #[.string a0, .string a1] rfl (by (try simp only [List.map_toArray, List.map_cons, List.map_nil]); first | done | rfl) ?_; (with_reducible refine (Try.strings_Compare a0 a1 _).mono ?_); rintro e w3 ⟨rfl, rfl⟩; refine ⟨_, rfl, ?_⟩))
      try rw [Exit.noGoto_ret]
      go_ret
      exact ⟨rfl, HB2.out⟩
    | some M =>
      rw [hdb] at h hkb
      have HKB : Aside0 (name_starts.f kb a1 = some (lb, true)) := ⟨hkb⟩
      simp only [] at h
      subst h
      clear hda hdb hka hkb hLa hLb hEa hEb
      go_enter Try.func41, Try.ntmps41
      go_wp2; go_step3
      go_wp2_with (first | ((with_reducible refine gate_callee (f := 43) rfl ?_); refine goesL_ (some 17) rfl rfl Try.func43 (by kernel_rfl) rfl #[.string a0] rfl (by (try simp only [List.map_toArray, List.map_cons, List.map_nil]); first | done | rfl) ?_; (with_reducible refine (name_starts.calls ka a0 la false _ HKA.out).mono ?_); rintro e w1 ⟨v1, rfl, ho1, hb1⟩; refine ⟨_, rfl, ?_⟩; obtain ⟨A_1, c_1, rfl, hle1, hC1⟩ := Kd.R_reads ho1; have HB1 := Aside0.mk (HB.out.trans (below_to hb1 HB.out.size)); have HC1 := Aside0.mk hC1; have HR1 := Aside0.mk ho1; clear ho1 hb1 hC1 hle1) | ((with_reducible refine gate_callee (f := 43) rfl ?_); refine goesL_ (some 22) rfl rfl Try.func43 (by kernel_rfl) rfl #[.string a1] rfl (by (try simp only [List.map_toArray, List.map_cons, List.map_nil]); first | done | rfl) ?_; (with_reducible refine (name_starts.calls kb a1 lb true _ HKB.out).mono ?_); rintro e w2 ⟨v2, rfl, ho2, hb2⟩; refine ⟨_, rfl, ?_⟩; obtain ⟨A_2, c_2, rfl, hle2, hC2⟩ := Kd.R_reads ho2; have HC1 := Aside0.mk (Kd.C_below HC1.out hb2); have HB2 := Aside0.mk (HB1.out.trans (below_to hb2 HB1.out.size)); have HC2 := Aside0.mk hC2; have HR2 := Aside0.mk ho2; clear ho2 hb2 hC2 hle2))
      try rw [Exit.noGoto_ret]
      go_ret
      exact ⟨rfl, HB2.out⟩
  | some L =>
    rw [hda] at h hka
    have HKA : Aside0 (name_starts.f ka a0 = some (la, true)) := ⟨hka⟩
    cases hdb : dec a1 with
    | none =>
      rw [hdb] at h hkb
      have HKB : Aside0 (name_starts.f kb a1 = some (lb, false)) := ⟨hkb⟩
      simp only [] at h
      subst h
      clear hda hdb hka hkb hLa hLb hEa hEb
      go_enter Try.func41, Try.ntmps41
      go_wp2; go_step3
      go_wp2_with (first | ((with_reducible refine gate_callee (f := 43) rfl ?_); refine goesL_ (some 17) rfl rfl Try.func43 (by kernel_rfl) rfl #[.string a0] rfl (by (try simp only [List.map_toArray, List.map_cons, List.map_nil]); first | done | rfl) ?_; (with_reducible refine (name_starts.calls ka a0 la true _ HKA.out).mono ?_); rintro e w1 ⟨v1, rfl, ho1, hb1⟩; refine ⟨_, rfl, ?_⟩; obtain ⟨A_1, c_1, rfl, hle1, hC1⟩ := Kd.R_reads ho1; have HB1 := Aside0.mk (HB.out.trans (below_to hb1 HB.out.size)); have HC1 := Aside0.mk hC1; have HR1 := Aside0.mk ho1; clear ho1 hb1 hC1 hle1) | ((with_reducible refine gate_callee (f := 43) rfl ?_); refine goesL_ (some 22) rfl rfl Try.func43 (by kernel_rfl) rfl #[.string a1] rfl (by (try simp only [List.map_toArray, List.map_cons, List.map_nil]); first | done | rfl) ?_; (with_reducible refine (name_starts.calls kb a1 lb false _ HKB.out).mono ?_); rintro e w2 ⟨v2, rfl, ho2, hb2⟩; refine ⟨_, rfl, ?_⟩; obtain ⟨A_2, c_2, rfl, hle2, hC2⟩ := Kd.R_reads ho2; have HC1 := Aside0.mk (Kd.C_below HC1.out hb2); have HB2 := Aside0.mk (HB1.out.trans (below_to hb2 HB1.out.size)); have HC2 := Aside0.mk hC2; have HR2 := Aside0.mk ho2; clear ho2 hb2 hC2 hle2))
      try rw [Exit.noGoto_ret]
      go_ret
      exact ⟨rfl, HB2.out⟩
    | some M =>
      rw [hdb] at h hkb
      have HKB : Aside0 (name_starts.f kb a1 = some (lb, true)) := ⟨hkb⟩
      simp only [] at h
      have hll : la.length = L.length := by rw [hLa L hda, offs_length]
      have hlm : lb.length = M.length := by rw [hLb M hdb, offs_length]
      have hl127 := labels_length hda
      have hm127 := labels_length hdb
      have HLA := Aside0.mk (hLa L hda)
      have HLB := Aside0.mk (hLb M hdb)
      have HDA := Aside0.mk hda
      have HDB := Aside0.mk hdb
      have HH := Aside0.mk h
      have HV0 : Aside0 (CmpInv L M la.length lb.length) := ⟨by rw [hll, hlm]; exact cmp0 L M⟩
      have hla7 : la.length ≤ 127 := by omega
      have hlb7 : lb.length ≤ 127 := by omega
      have HLL := Aside0.mk hll
      have HLM := Aside0.mk hlm
      clear h hda hdb hka hkb hLa hLb hEa hEb hll hlm
      go_enter Try.func41, Try.ntmps41
      go_wp2; go_step3
      go_wp2_with (first | ((with_reducible refine gate_callee (f := 43) rfl ?_); refine goesL_ (some 17) rfl rfl Try.func43 (by kernel_rfl) rfl #[.string a0] rfl (by (try simp only [List.map_toArray, List.map_cons, List.map_nil]); first | done | rfl) ?_; (with_reducible refine (name_starts.calls ka a0 la true _ HKA.out).mono ?_); rintro e w1 ⟨v1, rfl, ho1, hb1⟩; refine ⟨_, rfl, ?_⟩; obtain ⟨A_1, c_1, rfl, hle1, hC1⟩ := Kd.R_reads ho1; have HB1 := Aside0.mk (HB.out.trans (below_to hb1 HB.out.size)); have HC1 := Aside0.mk hC1; have HR1 := Aside0.mk ho1; clear ho1 hb1 hC1 hle1) | ((with_reducible refine gate_callee (f := 43) rfl ?_); refine goesL_ (some 22) rfl rfl Try.func43 (by kernel_rfl) rfl #[.string a1] rfl (by (try simp only [List.map_toArray, List.map_cons, List.map_nil]); first | done | rfl) ?_; (with_reducible refine (name_starts.calls kb a1 lb true _ HKB.out).mono ?_); rintro e w2 ⟨v2, rfl, ho2, hb2⟩; refine ⟨_, rfl, ?_⟩; obtain ⟨A_2, c_2, rfl, hle2, hC2⟩ := Kd.R_reads ho2; have HC1 := Aside0.mk (Kd.C_below HC1.out hb2); have HB2 := Aside0.mk (HB1.out.trans (below_to hb2 HB1.out.size)); have HC2 := Aside0.mk hC2; have HR2 := Aside0.mk ho2; clear ho2 hb2 hC2 hle2))
      go_step3
      go_wp2
      obtain ⟨wx, hwx⟩ : ∃ x, x = w2 := ⟨_, rfl⟩
      go_loopg [9, 10, 11] la.length (fun g s9 s10 s11 wr => ∃ (a b : Nat) (i j : Int), s9 = .int .i64 0 ∧ s10 = .int .i64 i ∧ s11 = .int .i64 j ∧ i = (a : Int) - 1 ∧ j = (b : Int) - 1 ∧ g = a ∧ Aside0 (CmpInv L M a b) ∧ ∃ nd : Nat, wr = w2.drewN nd)
      case atStart => exact ⟨la.length, lb.length, _, _, rfl, rfl, rfl, rfl, rfl, rfl, HV0, ⟨0, rfl⟩⟩
      case round =>
        obtain ⟨a, b, i, j, rfl, rfl, rfl, hi, hj, hga, HV, nd, rfl⟩ := hrel
        have hab : a ≤ 127 ∧ b ≤ 127 := by have := HV.out.1; have := HV.out.2.1; omega
        by_cases hz : a = 0 ∨ b = 0
        · have hh := HH.out
          rw [cmp_end HV.out hz, ← HLL.out, ← HLM.out] at hh
          have HH2 := Aside0.mk hh
          clear hh
          have hi0 : i < 0 ∨ (0 ≤ i ∧ j < 0) := by omega
          have hla : (-9223372036854775808 : Int) ≤ (la.length : Int) - (lb.length : Int) ∧ (la.length : Int) - (lb.length : Int) ≤ 9223372036854775807 := by omega
          rcases hi0 with hi0 | ⟨hi0, hj0⟩
          · have hd : decide (0 ≤ i) = false := decide_eq_false (by omega)
            go_wp2
            try rw [Exit.noGoto_ret]
            go_ret
            exact ⟨by rw [← HH2.out]; rfl, pw_below_drewN HB2.out _⟩
          · have hd : decide (0 ≤ i) = true := decide_eq_true hi0
            have hdj : decide (0 ≤ j) = false := decide_eq_false (by omega)
            go_wp2
            try rw [Exit.noGoto_ret]
            go_ret
            exact ⟨by rw [← HH2.out]; rfl, pw_below_drewN HB2.out _⟩
        · obtain ⟨a, rfl⟩ : ∃ a', a = a' + 1 := ⟨a - 1, by omega⟩
          obtain ⟨b, rfl⟩ : ∃ b', b = b' + 1 := ⟨b - 1, by omega⟩
          subst hga
          have hi' : i = (a : Int) := by omega
          have hj' : j = (b : Int) := by omega
          subst hi'; subst hj'
          have ha1 : a < L.length := by have := HV.out.1; omega
          have hb1 : b < M.length := by have := HV.out.2.1; omega
          obtain ⟨s, hs⟩ : ∃ s, L[a]? = some s := ⟨_, List.getElem?_eq_getElem ha1⟩
          obtain ⟨u, hu⟩ : ∃ u, M[b]? = some u := ⟨_, List.getElem?_eq_getElem hb1⟩
          obtain ⟨p, hp1, hp2, hp3, hp4, hp5, hp6, hp7⟩ := cmp_label HDA.out hs
          obtain ⟨q, hq1, hq2, hq3, hq4, hq5, hq6, hq7⟩ := cmp_label HDB.out hu
          rw [← HLA.out] at hp1
          rw [← HLB.out] at hq1
          obtain ⟨ada, ea, hca⟩ := Kd.at_int HC1.out (a : Int) (by omega) (by have := HLL.out; omega)
          obtain ⟨adb, eb, hcb⟩ := Kd.at_int HC2.out (b : Int) (by omega) (by have := HLM.out; omega)
          rw [hp1] at hca
          rw [hq1] at hcb
          simp only [Int.toNat_natCast] at hca hcb
          cases ea
          cases eb
          have hxp := bt_nat a0 p hp2
          have hxq := bt_nat a1 q hq2
          rw [hp3] at hxp
          rw [hq3] at hxq
          have HS := Aside0.mk hs
          have HU := Aside0.mk hu
          have h0a : (0 : Int) ≤ (a : Int) := by omega
          have h0b : (0 : Int) ≤ (b : Int) := by omega
          have h1a : (a : Int) < (la.length : Int) := by have := HLL.out; omega
          have h1b : (b : Int) < (lb.length : Int) := by have := HLM.out; omega
          have w1p : (0 : Int) ≤ (p : Int) + 1 := by omega
          have w2p : (p : Int) + 1 ≤ (p : Int) + 1 + (s.size : Int) := by omega
          have w3p : (p : Int) + 1 + (s.size : Int) ≤ (a0.size : Int) := by omega
          have w1q : (0 : Int) ≤ (q : Int) + 1 := by omega
          have w2q : (q : Int) + 1 ≤ (q : Int) + 1 + (u.size : Int) := by omega
          have w3q : (q : Int) + 1 + (u.size : Int) ≤ (a1.size : Int) := by omega
          have hep : a0.extract ((p : Int) + 1).toNat ((p : Int) + 1 + (s.size : Int)).toNat = s := by rw [show ((p : Int) + 1).toNat = p + 1 by omega, show ((p : Int) + 1 + (s.size : Int)).toNat = p + 1 + s.size by omega]; exact hp5
          have heq : a1.extract ((q : Int) + 1).toNat ((q : Int) + 1 + (u.size : Int)).toNat = u := by rw [show ((q : Int) + 1).toNat = q + 1 by omega, show ((q : Int) + 1 + (u.size : Int)).toNat = q + 1 + u.size by omega]; exact hq5
          have HE1 := Aside0.mk hp5
          have HE2 := Aside0.mk hq5
          clear hp1 hq1 hs hu hz hi hj hp3 hq3 ha1 hb1
          go_wp2
          go_quiet (fail)
          rw [hp5, hq5]
          clear hep heq hp5 hq5 w1p w2p w3p w1q w2q w3q hca hcb
          have hss : s.size ≤ 63 ∧ u.size ≤ 63 := ⟨hp6, hq6⟩
          go_wp2
          obtain ⟨n0, hn0⟩ : ∃ n0, nd + nq = n0 := ⟨_, rfl⟩
          rw [hn0]
          go_loopg [9, 102] s.size (fun g2 s9 s102 wy => ∃ k : Nat, s9 = .int .i64 0 ∧ s102 = .int .i64 (k : Int) ∧ k ≤ s.size ∧ k ≤ u.size ∧ k + g2 = s.size ∧ Aside0 (diffB ((bytesOf s).drop k) ((bytesOf u).drop k) = diffB (bytesOf s) (bytesOf u)) ∧ ∃ ne : Nat, wy = w2.drewN ne)
          case atStart => exact ⟨0, rfl, rfl, Nat.zero_le _, Nat.zero_le _, by omega, ⟨rfl⟩, ⟨_, rfl⟩⟩
          case round =>
            obtain ⟨k, rfl, rfl, hk1, hk2, hkg, HD, ne, rfl⟩ := hrel
            by_cases hk : k < s.size ∧ k < u.size
            · obtain ⟨hks, hku⟩ := hk
              obtain ⟨g3, rfl⟩ : ∃ g3, gk = g3 + 1 := ⟨gk - 1, by omega⟩
              have hd := HD.out
              rw [diffB_at hks hku] at hd
              have hmin : decide ((k : Int) < min (s.size : Int) (u.size : Int)) = true := decide_eq_true (by omega)
              have hxs := bt_nat s k hks
              have hxu := bt_nat u k hku
              have hrs := bt_range s (k : Int)
              have hru := bt_range u (k : Int)
              obtain ⟨x, hx⟩ : ∃ x, bt s (k : Int) = x := ⟨_, rfl⟩
              obtain ⟨y, hy⟩ : ∃ y, bt u (k : Int) = y := ⟨_, rfl⟩
              rw [hx] at hd hxs hrs
              rw [hy] at hd hxu hru
              have hlx := low1_range (c := x) (by omega) (by omega)
              have hly := low1_range (c := y) (by omega) (by omega)
              have cx := name_low_f x
              have cy := name_low_f y
              obtain ⟨lx, hlx1⟩ : ∃ l, low1 x = l := ⟨_, rfl⟩
              obtain ⟨ly, hly1⟩ : ∃ l, low1 y = l := ⟨_, rfl⟩
              rw [hlx1] at hd hlx cx
              rw [hly1] at hd hly cy
              have CX := Aside0.mk cx
              have CY := Aside0.mk cy
              clear hx hy hlx1 hly1 cx cy
              by_cases he : lx = ly
              · rw [if_pos he] at hd
                have HD2 := Aside0.mk hd
                have hne : (lx - ly != 0) = false := by rw [he]; simp
                have hne' : lx - ly = 0 := by omega
                clear he hd
                go_wp2
                go_quiet (first | (go_at_call 44; with_reducible exact low_quiet x lx w2 _ _ CX.out) | (go_at_call 44; with_reducible exact low_quiet y ly w2 _ _ CY.out))
                go_wp2
                go_roundg g3
                case measure => omega
                case rel => exact ⟨k + 1, by first | rfl | (rw [hne']; done), by go_num, by omega, by omega, by omega, HD2, ⟨_, rfl⟩⟩
              · rw [if_neg he] at hd
                have hne : (lx - ly != 0) = true := bne_iff_ne.2 (by omega)
                have hne2 : (lx - ly == 0) = false := beq_eq_false_iff_ne.2 (by omega)
                have hout := cmp_out HV.out HS.out HU.out (by rw [← hd]; omega)
                rw [← hd] at hout
                have hh := HH.out
                rw [hout] at hh
                have HH2 := Aside0.mk hh
                clear he hd hout hh
                go_wp2
                go_quiet (first | (go_at_call 44; with_reducible exact low_quiet x lx w2 _ _ CX.out) | (go_at_call 44; with_reducible exact low_quiet y ly w2 _ _ CY.out))
                go_wp2
                try rw [Exit.noGoto_ret]
                go_ret
                exact ⟨by rw [← HH2.out]; rfl, by repeat (first | exact HB2.out | apply pw_below_drewN)⟩
            · have hd := HD.out
              rw [diffB_end hk ⟨hk1, hk2⟩] at hd
              have hmin : decide ((k : Int) < min (s.size : Int) (u.size : Int)) = false := decide_eq_false (by omega)
              by_cases he : s.size = u.size
              · have hne : ((s.size : Int) - (u.size : Int) != 0) = false := by rw [he]; simp
                have hne' : (s.size : Int) - (u.size : Int) = 0 := by omega
                have HV2 := Aside0.mk (cmp_step HV.out HS.out HU.out (by rw [← hd]; omega))
                clear he hd
                go_wp2
                go_roundg a
                case measure => omega
                case rel => exact ⟨a, b, _, _, by first | rfl | (rw [hne']; done), by go_num, by go_num, rfl, rfl, rfl, HV2, ⟨_, rfl⟩⟩
              · have hne : ((s.size : Int) - (u.size : Int) != 0) = true := bne_iff_ne.2 (by omega)
                have hne2 : ((s.size : Int) - (u.size : Int) == 0) = false := beq_eq_false_iff_ne.2 (by omega)
                have hout := cmp_out HV.out HS.out HU.out (by rw [← hd]; omega)
                rw [← hd] at hout
                have hh := HH.out
                rw [hout] at hh
                have HH2 := Aside0.mk hh
                clear he hd hout hh
                go_wp2
                try rw [Exit.noGoto_ret]
                go_ret
                exact ⟨by rw [← HH2.out]; rfl, by repeat (first | exact HB2.out | apply pw_below_drewN)⟩
end Go.Proofs.Ytplnknhlgdoliaa.Print
end
