/- A part of the proof of NameFamilySaid: 10 texts in one. -/
import Derived.Test.YtplnknhlgdoliaaMNameFamily0
import Derived.Deep.LoopGhost
section
-- Written by a program of this session, built on the kit's print (it is not the print's own text).
namespace Go.Proofs.Ytplnknhlgdoliaa.Print
open Go.RowKit Go.Proofs.YtplnknhlgdoliaaW.PrintWords Go.Proofs.YtplnknhlgdoliaaW.PrintLast Go.Proofs.YtplnknhlgdoliaaW.PrintMore
attribute [local go_sem] max2_int min2_int max_two min_two max_three min_three max_four min_four   -- for this text's walks alone
set_option linter.unusedVariables false
set_option linter.unusedSimpArgs false

/-! ### name_Last: function 37 -/
def name_Last.j0 : Nat → ByteArray → Int → List Int → Bool → Option (ByteArray × Bool)
  | 0, _, _, _, _ => none
  | k + 1, x0, x1, x6, x13 => if x13 = true then (some ((⟨#[]⟩ : ByteArray), false)) else (if x1 = 0 then (some ((⟨#[0]⟩ : ByteArray), true)) else (if 0 ≤ (wrap64 ((x6.length : Int) - x1)) then (if (wrap64 ((x6.length : Int) - x1)) < (x6.length : Int) then (if 0 ≤ (rd x6 (wrap64 ((x6.length : Int) - x1))) then (if (rd x6 (wrap64 ((x6.length : Int) - x1))) ≤ (x0.size : Int) then (some (x0.extract ((rd x6 (wrap64 ((x6.length : Int) - x1))) : Int).toNat x0.size, true)) else (none)) else (none)) else (none)) else (none)))
def name_Last.f (k : Nat) (a0 : ByteArray) (a1 : Int) : Option (ByteArray × Bool) := (name_starts.f k a0).bind fun bt325 => (if bt325.2 = true then (if a1 < 0 then (name_Last.j0 k a0 a1 bt325.1 true) else (name_Last.j0 k a0 a1 bt325.1 (decide (a1 > (bt325.1.length : Int))))) else (name_Last.j0 k a0 a1 bt325.1 true))
theorem name_Last.mono_l : ∀ k, (∀ y0 y1 y2 y3, LeO (name_Last.j0 k y0 y1 y2 y3) (name_Last.j0 (k + 1) y0 y1 y2 y3))
  | 0 => fun _ _ _ _ r h => by simp [name_Last.j0] at h
  | k + 1 => by
    have ih0 := name_Last.mono_l k
    · intro y0 y1 y2 y3
      unfold name_Last.j0
      repeat' first
      | (with_reducible exact ih0 _ _ _ _)
      | (with_reducible exact name_starts.mono _ _)
      | (with_reducible exact LeO.refl _)
      | (with_reducible exact LeO.none _)
      | (with_reducible refine LeO.ite ?_ ?_)
      | (with_reducible refine LeO.bind ?_ (fun _ => ?_))
      | exact ih0 _ _ _ _
      | exact name_starts.mono _ _
      | exact LeO.none _
      | refine LeO.ite ?_ ?_
      | refine LeO.bind ?_ (fun _ => ?_)
theorem name_Last.mono : ∀ a0 a1 k, LeO (name_Last.f k a0 a1) (name_Last.f (k + 1) a0 a1) := by
  intro a0 a1 k
  have ih0 := name_Last.mono_l k
  unfold name_Last.f
  repeat' first
      | (with_reducible exact ih0 _ _ _ _)
      | (with_reducible exact name_starts.mono _ _)
      | (with_reducible exact LeO.refl _)
      | (with_reducible exact LeO.none _)
      | (with_reducible refine LeO.ite ?_ ?_)
      | (with_reducible refine LeO.bind ?_ (fun _ => ?_))
      | exact ih0 _ _ _ _
      | exact name_starts.mono _ _
      | exact LeO.none _
      | refine LeO.ite ?_ ?_
      | refine LeO.bind ?_ (fun _ => ?_)
set_option maxHeartbeats 8000000 in
set_option maxRecDepth 100000 in
theorem name_Last.calls (k : Nat) (a0 : ByteArray) (a1 : Int) (r1 : ByteArray) (r2 : Bool) (w : World) (h : name_Last.f k a0 a1 = some (r1, r2)) :
    Calls Try.prog 37 #[.string a0, .int .i64 a1] w fun e w' => e = .returned (.tuple #[.string r1, .bool r2]) ∧ Below w.heap.size w w' := by
  have HB := Aside0.mk (Below.refl w.heap.size w)
  have H : ((name_starts.f k a0).bind fun bt325 => (if bt325.2 = true then (if a1 < 0 then (name_Last.j0 k a0 a1 bt325.1 true) else (name_Last.j0 k a0 a1 bt325.1 (decide (a1 > (bt325.1.length : Int))))) else (name_Last.j0 k a0 a1 bt325.1 true))) = some (r1, r2) := h
  clear h
  replace H := Option.bind_eq_some_iff.mp H
  obtain ⟨⟨t325, t326⟩, A30, H⟩ := H
  replace H : (if t326 = true then (if a1 < 0 then (name_Last.j0 k a0 a1 t325 true) else (name_Last.j0 k a0 a1 t325 (decide (a1 > (t325.length : Int))))) else (name_Last.j0 k a0 a1 t325 true)) = some (r1, r2) := H
  have A3 := Aside0.mk A30
  clear A30
  have HC4 := Aside0.mk H
  clear H
  go_enter Try.func37, Try.ntmps37
  go_upto_region 2 with (first | ((with_reducible refine gate_callee (f := 43) rfl ?_); refine goesL_ (some 10) rfl rfl Try.func43 (by kernel_rfl) rfl #[.string a0] rfl (by (try simp only [List.map_toArray, List.map_cons, List.map_nil]); first | done | rfl | (simp only [List.length_drop, List.length_take]; rfl)) ?_; (with_reducible refine (name_starts.calls k a0 t325 t326 _ A3.out).mono ?_); rintro e w5 ⟨v327, rfl, ho0, hb⟩; refine ⟨_, rfl, ?_⟩; have n0_ := Aside0.mk (Kd.R_lower ho0 (below_size (by repeat (first | (with_reducible first | exact HB.out | apply below_alloc | apply pw_below_drewN | apply below_drew1) | exact HB.out)))); have n1_ := Aside0.mk (below_step (by repeat (first | (with_reducible first | exact HB.out | apply below_alloc | apply pw_below_drewN | apply below_drew1) | exact HB.out)) hb); clear HB; have HO328 := n0_; have HB := n1_; clear n0_ n1_; (try clear hb); (try clear hb2); (try clear hk); (try clear hi); (try clear ho0)))
  (try simp only [Act.put, List.setIfInBounds_toArray, List.set_cons_zero, List.set_cons_succ])
  go_cut [13] (fun v13 wc => ∃ (kq : Nat) (x13_3 : Bool), v13 = .bool x13_3 ∧ Aside0 (name_Last.j0 kq a0 a1 t325 x13_3 = some (r1, r2)) ∧ Aside0 (kq ≤ k) ∧ Aside0 (Kd.R (Kd.int .i64) 3 wc w.heap.size (fun _ => True) v327 t325) ∧ Aside0 (Below w.heap.size w wc))
  case first =>
    have H := HC4.out
    clear HC4
    by_cases c6 : t326 = true
    · subst c6
      have H1 : (if a1 < 0 then (name_Last.j0 k a0 a1 t325 true) else (name_Last.j0 k a0 a1 t325 (decide (a1 > (t325.length : Int))))) = some (r1, r2) := by rw [if_pos rfl] at H; exact H
      clear H
      have H := H1
      clear H1
      by_cases c7 : a1 < 0
      · rw [if_pos c7] at H
        have c7b0 : decide (a1 < 0) = true := decide_eq_true c7
        clear c7
        (first | rw [c7b0] | (simp only [i64_w, i32_w]; rw [c7b0]) | skip)
        have H' := Aside0.mk H
        clear H
        go_wp2
        go_meet
        case rel => exact ⟨_, (true), (by first | rfl | (simp; done) | (simp [*]; done)), H', ⟨by first | omega | exact Nat.le_refl _⟩, ⟨by (with_reducible repeat (first | apply Kd.R_alloc | apply Kd.R_drewN | apply Kd.R_drew)); exact HO328.out⟩, ⟨by repeat (first | (with_reducible first | exact HB.out | apply below_alloc | apply pw_below_drewN | apply below_drew1) | exact HB.out)⟩⟩
      · rw [if_neg c7] at H
        have c7b0 : decide (a1 < 0) = false := decide_eq_false c7
        clear c7
        (first | rw [c7b0] | (simp only [i64_w, i32_w]; rw [c7b0]) | skip)
        have H' := Aside0.mk H
        clear H
        obtain ⟨Ao8, co8, eo8⟩ := Kd.R_slice HO328.out
        subst eo8
        go_wp2
        go_meet
        case rel => exact ⟨_, (decide (a1 > (t325.length : Int))), (by first | rfl | (simp; done) | (simp [*]; done)), H', ⟨by first | omega | exact Nat.le_refl _⟩, ⟨by (with_reducible repeat (first | apply Kd.R_alloc | apply Kd.R_drewN | apply Kd.R_drew)); exact HO328.out⟩, ⟨by repeat (first | (with_reducible first | exact HB.out | apply below_alloc | apply pw_below_drewN | apply below_drew1) | exact HB.out)⟩⟩
    · replace c6 := Bool.eq_false_iff.mpr c6
      subst c6
      have H1 : (name_Last.j0 k a0 a1 t325 true) = some (r1, r2) := by rw [if_neg (show ¬ (false = true) by decide)] at H; exact H
      clear H
      have H := H1
      clear H1
      have H' := Aside0.mk H
      clear H
      go_wp2
      go_meet
      case rel => exact ⟨_, (true), (by first | rfl | (simp; done) | (simp [*]; done)), H', ⟨by first | omega | exact Nat.le_refl _⟩, ⟨by (with_reducible repeat (first | apply Kd.R_alloc | apply Kd.R_drewN | apply Kd.R_drew)); exact HO328.out⟩, ⟨by repeat (first | (with_reducible first | exact HB.out | apply below_alloc | apply pw_below_drewN | apply below_drew1) | exact HB.out)⟩⟩
  case rest =>
    clear HC4
    try clear p2
    try clear c3
    try clear c4
    try clear c6
    try clear c7
    try clear c7b0
    obtain ⟨kq, x13_3, rfl, HA, HJ3, HO_6, HB⟩ := hcut
    cases kq with
    | zero => exact absurd HA.out (by simp [name_Last.j0])
    | succ kj3 =>
      have H := HA.out
      clear HA
      simp only [name_Last.j0] at H
      by_cases c9 : x13_3 = true
      · subst c9
        have H1 : (some ((⟨#[]⟩ : ByteArray), false)) = some (r1, r2) := by rw [if_pos rfl] at H; exact H
        clear H
        have H := H1
        clear H1
        simp only [Option.some.injEq, Prod.mk.injEq] at H
        obtain ⟨rfl, rfl⟩ := H
        go_wp2
        go_ret2
        exact ⟨by first | rfl | (simp [errW_none, errW_some] <;> rfl) | (simp [*, errW_none, errW_some] <;> rfl), by repeat (first | (with_reducible first | exact HB.out | apply below_alloc | apply pw_below_drewN | apply below_drew1) | exact HB.out)⟩
      · replace c9 := Bool.eq_false_iff.mpr c9
        subst c9
        have H1 : (if a1 = 0 then (some ((⟨#[0]⟩ : ByteArray), true)) else (if 0 ≤ (wrap64 ((t325.length : Int) - a1)) then (if (wrap64 ((t325.length : Int) - a1)) < (t325.length : Int) then (if 0 ≤ (rd t325 (wrap64 ((t325.length : Int) - a1))) then (if (rd t325 (wrap64 ((t325.length : Int) - a1))) ≤ (a0.size : Int) then (some (a0.extract ((rd t325 (wrap64 ((t325.length : Int) - a1))) : Int).toNat a0.size, true)) else (none)) else (none)) else (none)) else (none))) = some (r1, r2) := by rw [if_neg (show ¬ (false = true) by decide)] at H; exact H
        clear H
        have H := H1
        clear H1
        by_cases c10 : a1 = 0
        · rw [if_pos c10] at H
          have c10b0 : (a1 == 0) = true := beq_iff_eq.mpr c10
          have c10b1 : (a1 != 0) = false := bne_eq_false_iff_eq.mpr c10
          clear c10
          simp only [Option.some.injEq, Prod.mk.injEq] at H
          obtain ⟨rfl, rfl⟩ := H
          go_wp2
          go_ret2
          exact ⟨by first | rfl | (simp [errW_none, errW_some] <;> rfl) | (simp [*, errW_none, errW_some] <;> rfl), by repeat (first | (with_reducible first | exact HB.out | apply below_alloc | apply pw_below_drewN | apply below_drew1) | exact HB.out)⟩
        · rw [if_neg c10] at H
          have c10b0 : (a1 == 0) = false := beq_eq_false_iff_ne.mpr c10
          have c10b1 : (a1 != 0) = true := bne_iff_ne.mpr c10
          obtain ⟨ji11, hji11⟩ : ∃ j_ : Int, (wrap64 ((t325.length : Int) - a1)) = j_ := ⟨_, rfl⟩
          replace H : (if 0 ≤ (ji11) then (if (ji11) < (t325.length : Int) then (if 0 ≤ (rd t325 (ji11)) then (if (rd t325 (ji11)) ≤ (a0.size : Int) then (some (a0.extract ((rd t325 (ji11)) : Int).toNat a0.size, true)) else (none)) else (none)) else (none)) else (none)) = some (r1, r2) := by first | (rw [hji11] at H; exact H) | (simp only [hji11] at H ⊢; exact H)
          have hji11w : (IntKind.i64.wrap ((t325.length : Int) - a1)) = ji11 := (i64_w _).trans hji11
          by_cases c12 : 0 ≤ (ji11)
          · rw [if_pos c12] at H
            have c12b0 : decide (0 ≤ (ji11)) = true := decide_eq_true c12
            clear c12
            by_cases c13 : (ji11) < (t325.length : Int)
            · rw [if_pos c13] at H
              have c13b0 : decide ((ji11) < (t325.length : Int)) = true := decide_eq_true c13
              clear c13
              by_cases c14 : 0 ≤ (rd t325 (ji11))
              · rw [if_pos c14] at H
                have c14b0 := eq_true c14
                have c14b1 : decide (0 ≤ (rd t325 (ji11))) = true := decide_eq_true c14
                clear c14
                by_cases c15 : (rd t325 (ji11)) ≤ (a0.size : Int)
                · rw [if_pos c15] at H
                  have c15b0 := eq_true c15
                  have c15b1 : decide ((rd t325 (ji11)) ≤ (a0.size : Int)) = true := decide_eq_true c15
                  clear c15
                  simp only [Option.some.injEq, Prod.mk.injEq] at H
                  obtain ⟨rfl, rfl⟩ := H
                  obtain ⟨Ao16, co16, eo16⟩ := Kd.R_slice HO_6.out
                  subst eo16
                  have p329 : 0 ≤ ((ji11) : Int) := of_decide_eq_true (by first | (with_reducible assumption) | assumption)
                  have q329 : (ji11) < (t325.length : Int) := of_decide_eq_true (by first | (with_reducible assumption) | assumption)
                  obtain ⟨ad329, e329, hx329_0⟩ := Kd.at_int (Kd.R_reads' HO_6.out).2.2 (ji11) p329 q329
                  cases e329
                  replace p329 := eq_true p329
                  replace q329 := eq_true q329
                  go_wp2
                  go_ret2
                  exact ⟨by first | rfl | (simp [errW_none, errW_some] <;> rfl) | (simp only [← hji11]; first | rfl | (simp [errW_none, errW_some] <;> rfl)) | (simp [*, errW_none, errW_some] <;> rfl), by repeat (first | (with_reducible first | exact HB.out | apply below_alloc | apply pw_below_drewN | apply below_drew1) | exact HB.out)⟩
                · rw [if_neg c15] at H
                  exact absurd H (by simp)
              · rw [if_neg c14] at H
                exact absurd H (by simp)
            · rw [if_neg c13] at H
              exact absurd H (by simp)
          · rw [if_neg c12] at H
            exact absurd H (by simp)

end Go.Proofs.Ytplnknhlgdoliaa.Print
end
section
-- Written by a program of this session, built on the kit's print (it is not the print's own text).
namespace Go.Proofs.Ytplnknhlgdoliaa.Print
open Go.RowKit Go.Proofs.YtplnknhlgdoliaaW.PrintWords Go.Proofs.YtplnknhlgdoliaaW.PrintLast Go.Proofs.YtplnknhlgdoliaaW.PrintMore
attribute [local go_sem] max2_int min2_int max_two min_two max_three min_three max_four min_four   -- for this text's walks alone
set_option linter.unusedVariables false
set_option linter.unusedSimpArgs false

/-! ### name_Under: function 39 -/
def name_Under.j0 : Nat → ByteArray → ByteArray → List Int → List Int → Bool → Option (Bool)
  | 0, _, _, _, _, _ => none
  | k + 1, x0, x1, x5, x7, x32 => if x32 = true then (some false) else (if (x7.length : Int) > 0 then (if 0 ≤ (wrap64 ((x5.length : Int) - (x7.length : Int))) then (if (wrap64 ((x5.length : Int) - (x7.length : Int))) < (x5.length : Int) then (if 0 ≤ (rd x5 (wrap64 ((x5.length : Int) - (x7.length : Int)))) then (if (rd x5 (wrap64 ((x5.length : Int) - (x7.length : Int)))) ≤ (x0.size : Int) then ((name_Fold.f (x0.extract ((rd x5 (wrap64 ((x5.length : Int) - (x7.length : Int)))) : Int).toNat x0.size)).bind fun t348 => ((name_Fold.f x1).bind fun t349 => (some (t348.toList == t349.toList)))) else (none)) else (none)) else (none)) else (none)) else (if 0 ≤ (wrap64 ((x0.size : Int) - 1)) then (if (wrap64 ((x0.size : Int) - 1)) ≤ (x0.size : Int) then ((name_Fold.f (x0.extract ((wrap64 ((x0.size : Int) - 1)) : Int).toNat x0.size)).bind fun t350 => ((name_Fold.f x1).bind fun t351 => (some (t350.toList == t351.toList)))) else (none)) else (none)))
def name_Under.f (k : Nat) (a0 : ByteArray) (a1 : ByteArray) : Option (Bool) := (name_starts.f k a0).bind fun bt339 => ((name_starts.f k a1).bind fun bt343 => (if bt339.2 = true then (if bt343.2 = true then (name_Under.j0 k a0 a1 bt339.1 bt343.1 (decide ((bt339.1.length : Int) < (bt343.1.length : Int)))) else (name_Under.j0 k a0 a1 bt339.1 bt343.1 true)) else (name_Under.j0 k a0 a1 bt339.1 bt343.1 true)))
theorem name_Under.mono_l : ∀ k, (∀ y0 y1 y2 y3 y4, LeO (name_Under.j0 k y0 y1 y2 y3 y4) (name_Under.j0 (k + 1) y0 y1 y2 y3 y4))
  | 0 => fun _ _ _ _ _ r h => by simp [name_Under.j0] at h
  | k + 1 => by
    have ih0 := name_Under.mono_l k
    · intro y0 y1 y2 y3 y4
      unfold name_Under.j0
      repeat' first
      | (with_reducible exact ih0 _ _ _ _ _)
      | (with_reducible exact name_starts.mono _ _)
      | (with_reducible exact LeO.refl _)
      | (with_reducible exact LeO.none _)
      | (with_reducible refine LeO.ite ?_ ?_)
      | (with_reducible refine LeO.bind ?_ (fun _ => ?_))
      | exact ih0 _ _ _ _ _
      | exact name_starts.mono _ _
      | exact LeO.none _
      | refine LeO.ite ?_ ?_
      | refine LeO.bind ?_ (fun _ => ?_)
theorem name_Under.mono : ∀ a0 a1 k, LeO (name_Under.f k a0 a1) (name_Under.f (k + 1) a0 a1) := by
  intro a0 a1 k
  have ih0 := name_Under.mono_l k
  unfold name_Under.f
  repeat' first
      | (with_reducible exact ih0 _ _ _ _ _)
      | (with_reducible exact name_starts.mono _ _)
      | (with_reducible exact LeO.refl _)
      | (with_reducible exact LeO.none _)
      | (with_reducible refine LeO.ite ?_ ?_)
      | (with_reducible refine LeO.bind ?_ (fun _ => ?_))
      | exact ih0 _ _ _ _ _
      | exact name_starts.mono _ _
      | exact LeO.none _
      | refine LeO.ite ?_ ?_
      | refine LeO.bind ?_ (fun _ => ?_)
set_option maxHeartbeats 8000000 in
set_option maxRecDepth 100000 in
theorem name_Under.calls (k : Nat) (a0 : ByteArray) (a1 : ByteArray) (r : Bool) (w : World) (h : name_Under.f k a0 a1 = some r) :
    Calls Try.prog 39 #[.string a0, .string a1] w fun e w' => e = .returned (.bool r) ∧ Below w.heap.size w w' := by
  have HB := Aside0.mk (Below.refl w.heap.size w)
  have H : ((name_starts.f k a0).bind fun bt339 => ((name_starts.f k a1).bind fun bt343 => (if bt339.2 = true then (if bt343.2 = true then (name_Under.j0 k a0 a1 bt339.1 bt343.1 (decide ((bt339.1.length : Int) < (bt343.1.length : Int)))) else (name_Under.j0 k a0 a1 bt339.1 bt343.1 true)) else (name_Under.j0 k a0 a1 bt339.1 bt343.1 true)))) = some r := h
  clear h
  replace H := Option.bind_eq_some_iff.mp H
  obtain ⟨⟨t339, t340⟩, A30, H⟩ := H
  replace H : ((name_starts.f k a1).bind fun bt343 => (if t340 = true then (if bt343.2 = true then (name_Under.j0 k a0 a1 t339 bt343.1 (decide ((t339.length : Int) < (bt343.1.length : Int)))) else (name_Under.j0 k a0 a1 t339 bt343.1 true)) else (name_Under.j0 k a0 a1 t339 bt343.1 true))) = some r := H
  have A3 := Aside0.mk A30
  clear A30
  replace H := Option.bind_eq_some_iff.mp H
  obtain ⟨⟨t343, t344⟩, A40, H⟩ := H
  replace H : (if t340 = true then (if t344 = true then (name_Under.j0 k a0 a1 t339 t343 (decide ((t339.length : Int) < (t343.length : Int)))) else (name_Under.j0 k a0 a1 t339 t343 true)) else (name_Under.j0 k a0 a1 t339 t343 true)) = some r := H
  have A4 := Aside0.mk A40
  clear A40
  have HC5 := Aside0.mk H
  clear H
  go_enter Try.func39, Try.ntmps39
  go_upto_region 3 with (first | ((with_reducible refine gate_callee (f := 43) rfl ?_); refine goesL_ (some 12) rfl rfl Try.func43 (by kernel_rfl) rfl #[.string a0] rfl (by (try simp only [List.map_toArray, List.map_cons, List.map_nil]); first | done | rfl | (simp only [List.length_drop, List.length_take]; rfl)) ?_; (with_reducible refine (name_starts.calls k a0 t339 t340 _ A3.out).mono ?_); rintro e w6 ⟨v341, rfl, ho0, hb⟩; refine ⟨_, rfl, ?_⟩; have n0_ := Aside0.mk (Kd.R_lower ho0 (below_size (by repeat (first | (with_reducible first | exact HB.out | apply below_alloc | apply pw_below_drewN | apply below_drew1) | exact HB.out)))); have n1_ := Aside0.mk (below_step (by repeat (first | (with_reducible first | exact HB.out | apply below_alloc | apply pw_below_drewN | apply below_drew1) | exact HB.out)) hb); clear HB; have HO342 := n0_; have HB := n1_; clear n0_ n1_; (try clear hb); (try clear hb2); (try clear hk); (try clear hi); (try clear ho0)) | ((with_reducible refine gate_callee (f := 43) rfl ?_); refine goesL_ (some 17) rfl rfl Try.func43 (by kernel_rfl) rfl #[.string a1] rfl (by (try simp only [List.map_toArray, List.map_cons, List.map_nil]); first | done | rfl | (simp only [List.length_drop, List.length_take]; rfl)) ?_; (with_reducible refine (name_starts.calls k a1 t343 t344 _ A4.out).mono ?_); rintro e w7 ⟨v345, rfl, ho0, hb⟩; refine ⟨_, rfl, ?_⟩; have n0_ := Aside0.mk (Kd.R_elder' (by (with_reducible repeat (first | apply Kd.R_alloc | apply Kd.R_drewN | apply Kd.R_drew)); exact HO342.out) (Kd.R_base ho0) hb); have n1_ := Aside0.mk (Kd.R_lower (Kd.R_new' ho0 (Kd.R_lt (by (with_reducible repeat (first | apply Kd.R_alloc | apply Kd.R_drewN | apply Kd.R_drew)); exact HO342.out))) (below_size (by repeat (first | (with_reducible first | exact HB.out | apply below_alloc | apply pw_below_drewN | apply below_drew1) | exact HB.out)))); have n2_ := Aside0.mk (below_step (by repeat (first | (with_reducible first | exact HB.out | apply below_alloc | apply pw_below_drewN | apply below_drew1) | exact HB.out)) hb); clear HO342; clear HB; have HO342 := n0_; have HO346 := n1_; have HB := n2_; clear n0_ n1_ n2_; (try clear hb); (try clear hb2); (try clear hk); (try clear hi); (try clear ho0)))
  (try simp only [Act.put, List.setIfInBounds_toArray, List.set_cons_zero, List.set_cons_succ])
  go_cut [32] (fun v32 wc => ∃ (kq : Nat) (x32_4 : Bool), v32 = .bool x32_4 ∧ Aside0 (name_Under.j0 kq a0 a1 t339 t343 x32_4 = some r) ∧ Aside0 (kq ≤ k) ∧ Aside0 (Kd.R (Kd.int .i64) 3 wc w.heap.size (fun k_ => some k_ ≠ (v345 : Value).ownBlock) v341 t339) ∧ Aside0 (Kd.R (Kd.int .i64) 3 wc w.heap.size (fun k_ => some k_ ≠ (v341 : Value).ownBlock) v345 t343) ∧ Aside0 (Below w.heap.size w wc))
  case first =>
    have H := HC5.out
    clear HC5
    by_cases c8 : t340 = true
    · subst c8
      have H1 : (if t344 = true then (name_Under.j0 k a0 a1 t339 t343 (decide ((t339.length : Int) < (t343.length : Int)))) else (name_Under.j0 k a0 a1 t339 t343 true)) = some r := by rw [if_pos rfl] at H; exact H
      clear H
      have H := H1
      clear H1
      by_cases c9 : t344 = true
      · subst c9
        have H1 : (name_Under.j0 k a0 a1 t339 t343 (decide ((t339.length : Int) < (t343.length : Int)))) = some r := by rw [if_pos rfl] at H; exact H
        clear H
        have H := H1
        clear H1
        have H' := Aside0.mk H
        clear H
        obtain ⟨Ao10, co10, eo10⟩ := Kd.R_slice HO342.out
        subst eo10
        obtain ⟨Ao11, co11, eo11⟩ := Kd.R_slice HO346.out
        subst eo11
        go_wp2
        go_meet
        case rel => exact ⟨_, (decide ((t339.length : Int) < (t343.length : Int))), (by first | rfl | (simp; done) | (simp [*]; done)), H', ⟨by first | omega | exact Nat.le_refl _⟩, ⟨by (with_reducible repeat (first | apply Kd.R_alloc | apply Kd.R_drewN | apply Kd.R_drew)); exact Kd.R_mono HO342.out (fun _ hk => hk.2)⟩, ⟨by (with_reducible repeat (first | apply Kd.R_alloc | apply Kd.R_drewN | apply Kd.R_drew)); exact Kd.R_mono HO346.out (fun _ hk => hk.2)⟩, ⟨by repeat (first | (with_reducible first | exact HB.out | apply below_alloc | apply pw_below_drewN | apply below_drew1) | exact HB.out)⟩⟩
      · replace c9 := Bool.eq_false_iff.mpr c9
        subst c9
        have H1 : (name_Under.j0 k a0 a1 t339 t343 true) = some r := by rw [if_neg (show ¬ (false = true) by decide)] at H; exact H
        clear H
        have H := H1
        clear H1
        have H' := Aside0.mk H
        clear H
        go_wp2
        go_meet
        case rel => exact ⟨_, (true), (by first | rfl | (simp; done) | (simp [*]; done)), H', ⟨by first | omega | exact Nat.le_refl _⟩, ⟨by (with_reducible repeat (first | apply Kd.R_alloc | apply Kd.R_drewN | apply Kd.R_drew)); exact Kd.R_mono HO342.out (fun _ hk => hk.2)⟩, ⟨by (with_reducible repeat (first | apply Kd.R_alloc | apply Kd.R_drewN | apply Kd.R_drew)); exact Kd.R_mono HO346.out (fun _ hk => hk.2)⟩, ⟨by repeat (first | (with_reducible first | exact HB.out | apply below_alloc | apply pw_below_drewN | apply below_drew1) | exact HB.out)⟩⟩
    · replace c8 := Bool.eq_false_iff.mpr c8
      subst c8
      have H1 : (name_Under.j0 k a0 a1 t339 t343 true) = some r := by rw [if_neg (show ¬ (false = true) by decide)] at H; exact H
      clear H
      have H := H1
      clear H1
      have H' := Aside0.mk H
      clear H
      go_wp2
      go_meet
      case rel => exact ⟨_, (true), (by first | rfl | (simp; done) | (simp [*]; done)), H', ⟨by first | omega | exact Nat.le_refl _⟩, ⟨by (with_reducible repeat (first | apply Kd.R_alloc | apply Kd.R_drewN | apply Kd.R_drew)); exact Kd.R_mono HO342.out (fun _ hk => hk.2)⟩, ⟨by (with_reducible repeat (first | apply Kd.R_alloc | apply Kd.R_drewN | apply Kd.R_drew)); exact Kd.R_mono HO346.out (fun _ hk => hk.2)⟩, ⟨by repeat (first | (with_reducible first | exact HB.out | apply below_alloc | apply pw_below_drewN | apply below_drew1) | exact HB.out)⟩⟩
  case rest =>
    clear HC5
    try clear p2
    try clear c3
    try clear c4
    try clear c8
    try clear c9
    obtain ⟨kq, x32_4, rfl, HA, HJ4, HO_5, HO_7, HB⟩ := hcut
    cases kq with
    | zero => exact absurd HA.out (by simp [name_Under.j0])
    | succ kj4 =>
      have H := HA.out
      clear HA
      simp only [name_Under.j0] at H
      by_cases c12 : x32_4 = true
      · subst c12
        have H1 : (some false) = some r := by rw [if_pos rfl] at H; exact H
        clear H
        have H := H1
        clear H1
        obtain rfl := Option.some.inj H
        go_wp2
        go_ret
        exact ⟨by first | rfl | (simp [errW_none, errW_some] <;> rfl) | (simp [*, errW_none, errW_some] <;> rfl), by repeat (first | (with_reducible first | exact HB.out | apply below_alloc | apply pw_below_drewN | apply below_drew1) | exact HB.out)⟩
      · replace c12 := Bool.eq_false_iff.mpr c12
        subst c12
        have H1 : (if (t343.length : Int) > 0 then (if 0 ≤ (wrap64 ((t339.length : Int) - (t343.length : Int))) then (if (wrap64 ((t339.length : Int) - (t343.length : Int))) < (t339.length : Int) then (if 0 ≤ (rd t339 (wrap64 ((t339.length : Int) - (t343.length : Int)))) then (if (rd t339 (wrap64 ((t339.length : Int) - (t343.length : Int)))) ≤ (a0.size : Int) then ((name_Fold.f (a0.extract ((rd t339 (wrap64 ((t339.length : Int) - (t343.length : Int)))) : Int).toNat a0.size)).bind fun t348 => ((name_Fold.f a1).bind fun t349 => (some (t348.toList == t349.toList)))) else (none)) else (none)) else (none)) else (none)) else (if 0 ≤ (wrap64 ((a0.size : Int) - 1)) then (if (wrap64 ((a0.size : Int) - 1)) ≤ (a0.size : Int) then ((name_Fold.f (a0.extract ((wrap64 ((a0.size : Int) - 1)) : Int).toNat a0.size)).bind fun t350 => ((name_Fold.f a1).bind fun t351 => (some (t350.toList == t351.toList)))) else (none)) else (none))) = some r := by rw [if_neg (show ¬ (false = true) by decide)] at H; exact H
        clear H
        have H := H1
        clear H1
        by_cases c13 : (t343.length : Int) > 0
        · rw [if_pos c13] at H
          have c13b0 : decide (0 < (t343.length : Int)) = true := decide_eq_true c13
          have c13b1 : decide (0 < t343.length) = true := decide_eq_true (by omega)
          clear c13
          obtain ⟨ji14, hji14⟩ : ∃ j_ : Int, (wrap64 ((t339.length : Int) - (t343.length : Int))) = j_ := ⟨_, rfl⟩
          replace H : (if 0 ≤ (ji14) then (if (ji14) < (t339.length : Int) then (if 0 ≤ (rd t339 (ji14)) then (if (rd t339 (ji14)) ≤ (a0.size : Int) then ((name_Fold.f (a0.extract ((rd t339 (ji14)) : Int).toNat a0.size)).bind fun t348 => ((name_Fold.f a1).bind fun t349 => (some (t348.toList == t349.toList)))) else (none)) else (none)) else (none)) else (none)) = some r := by first | (rw [hji14] at H; exact H) | (simp only [hji14] at H ⊢; exact H)
          have hji14w : (IntKind.i64.wrap ((t339.length : Int) - (t343.length : Int))) = ji14 := (i64_w _).trans hji14
          by_cases c15 : 0 ≤ (ji14)
          · rw [if_pos c15] at H
            have c15b0 : decide (0 ≤ (ji14)) = true := decide_eq_true c15
            clear c15
            by_cases c16 : (ji14) < (t339.length : Int)
            · rw [if_pos c16] at H
              have c16b0 : decide ((ji14) < (t339.length : Int)) = true := decide_eq_true c16
              clear c16
              by_cases c17 : 0 ≤ (rd t339 (ji14))
              · rw [if_pos c17] at H
                have c17b0 := eq_true c17
                have c17b1 : decide (0 ≤ (rd t339 (ji14))) = true := decide_eq_true c17
                clear c17
                by_cases c18 : (rd t339 (ji14)) ≤ (a0.size : Int)
                · rw [if_pos c18] at H
                  have c18b0 := eq_true c18
                  have c18b1 : decide ((rd t339 (ji14)) ≤ (a0.size : Int)) = true := decide_eq_true c18
                  clear c18
                  replace H := Option.bind_eq_some_iff.mp H
                  obtain ⟨t348, A190, H⟩ := H
                  replace H : ((name_Fold.f a1).bind fun t349 => (some (t348.toList == t349.toList))) = some r := H
                  have A19 := Aside0.mk A190
                  clear A190
                  replace H := Option.bind_eq_some_iff.mp H
                  obtain ⟨t349, A200, H⟩ := H
                  replace H : (some (t348.toList == t349.toList)) = some r := H
                  have A20 := Aside0.mk A200
                  clear A200
                  obtain rfl := Option.some.inj H
                  obtain ⟨Ao21, co21, eo21⟩ := Kd.R_slice HO_7.out
                  subst eo21
                  obtain ⟨Ao22, co22, eo22⟩ := Kd.R_slice HO_5.out
                  subst eo22
                  have p347 : 0 ≤ ((ji14) : Int) := of_decide_eq_true (by first | (with_reducible assumption) | assumption)
                  have q347 : (ji14) < (t339.length : Int) := of_decide_eq_true (by first | (with_reducible assumption) | assumption)
                  obtain ⟨ad347, e347, hx347_0⟩ := Kd.at_int (Kd.R_reads' HO_5.out).2.2 (ji14) p347 q347
                  cases e347
                  replace p347 := eq_true p347
                  replace q347 := eq_true q347
                  go_wp2_with (first | ((with_reducible refine gate_callee (f := 15) rfl ?_); refine goesL_ (some 50) rfl rfl Try.func15 (by kernel_rfl) rfl #[.string (a0.extract ((rd t339 (ji14)) : Int).toNat a0.size)] rfl (by (try simp only [List.map_toArray, List.map_cons, List.map_nil]); first | done | (simp only [hji14]; rfl) | rfl | (simp only [List.length_drop, List.length_take]; rfl)) ?_; (with_reducible refine (name_Fold.calls (a0.extract ((rd t339 (ji14)) : Int).toNat a0.size) t348 _ A19.out).mono ?_); rintro e w23 ⟨rfl, hb⟩; refine ⟨_, rfl, ?_⟩; have n0_ := Aside0.mk (Kd.R_below (by (with_reducible repeat (first | apply Kd.R_alloc | apply Kd.R_drewN | apply Kd.R_drew)); exact HO_5.out) hb); have n1_ := Aside0.mk (Kd.R_below (by (with_reducible repeat (first | apply Kd.R_alloc | apply Kd.R_drewN | apply Kd.R_drew)); exact HO_7.out) hb); have n2_ := Aside0.mk (below_step (by repeat (first | (with_reducible first | exact HB.out | apply below_alloc | apply pw_below_drewN | apply below_drew1) | exact HB.out)) hb); clear HO_5; clear HO_7; clear HB; have HO_5 := n0_; have HO_7 := n1_; have HB := n2_; clear n0_ n1_ n2_; (try clear hb); (try clear hb2); (try clear hk); (try clear hi)) | ((with_reducible refine gate_callee (f := 15) rfl ?_); refine goesL_ (some 52) rfl rfl Try.func15 (by kernel_rfl) rfl #[.string a1] rfl (by (try simp only [List.map_toArray, List.map_cons, List.map_nil]); first | done | rfl | (simp only [List.length_drop, List.length_take]; rfl)) ?_; (with_reducible refine (name_Fold.calls a1 t349 _ A20.out).mono ?_); rintro e w24 ⟨rfl, hb⟩; refine ⟨_, rfl, ?_⟩; have n0_ := Aside0.mk (Kd.R_below (by (with_reducible repeat (first | apply Kd.R_alloc | apply Kd.R_drewN | apply Kd.R_drew)); exact HO_5.out) hb); have n1_ := Aside0.mk (Kd.R_below (by (with_reducible repeat (first | apply Kd.R_alloc | apply Kd.R_drewN | apply Kd.R_drew)); exact HO_7.out) hb); have n2_ := Aside0.mk (below_step (by repeat (first | (with_reducible first | exact HB.out | apply below_alloc | apply pw_below_drewN | apply below_drew1) | exact HB.out)) hb); clear HO_5; clear HO_7; clear HB; have HO_5 := n0_; have HO_7 := n1_; have HB := n2_; clear n0_ n1_ n2_; (try clear hb); (try clear hb2); (try clear hk); (try clear hi)))
                  go_ret
                  exact ⟨by first | rfl | (simp [errW_none, errW_some] <;> rfl) | (simp only [← hji14]; first | rfl | (simp [errW_none, errW_some] <;> rfl)) | (simp [*, errW_none, errW_some] <;> rfl), by repeat (first | (with_reducible first | exact HB.out | apply below_alloc | apply pw_below_drewN | apply below_drew1) | exact HB.out)⟩
                · rw [if_neg c18] at H
                  exact absurd H (by simp)
              · rw [if_neg c17] at H
                exact absurd H (by simp)
            · rw [if_neg c16] at H
              exact absurd H (by simp)
          · rw [if_neg c15] at H
            exact absurd H (by simp)
        · rw [if_neg c13] at H
          have c13b0 : decide (0 < (t343.length : Int)) = false := decide_eq_false c13
          have c13b1 : decide (0 < t343.length) = false := decide_eq_false (by omega)
          clear c13
          obtain ⟨ji25, hji25⟩ : ∃ j_ : Int, (wrap64 ((a0.size : Int) - 1)) = j_ := ⟨_, rfl⟩
          replace H : (if 0 ≤ (ji25) then (if (ji25) ≤ (a0.size : Int) then ((name_Fold.f (a0.extract ((ji25) : Int).toNat a0.size)).bind fun t350 => ((name_Fold.f a1).bind fun t351 => (some (t350.toList == t351.toList)))) else (none)) else (none)) = some r := by first | (rw [hji25] at H; exact H) | (simp only [hji25] at H ⊢; exact H)
          have hji25w : (IntKind.i64.wrap ((a0.size : Int) - 1)) = ji25 := (i64_w _).trans hji25
          by_cases c26 : 0 ≤ (ji25)
          · rw [if_pos c26] at H
            have c26b0 := eq_true c26
            have c26b1 : decide (0 ≤ (ji25)) = true := decide_eq_true c26
            clear c26
            by_cases c27 : (ji25) ≤ (a0.size : Int)
            · rw [if_pos c27] at H
              have c27b0 := eq_true c27
              have c27b1 : decide ((ji25) ≤ (a0.size : Int)) = true := decide_eq_true c27
              clear c27
              replace H := Option.bind_eq_some_iff.mp H
              obtain ⟨t350, A280, H⟩ := H
              replace H : ((name_Fold.f a1).bind fun t351 => (some (t350.toList == t351.toList))) = some r := H
              have A28 := Aside0.mk A280
              clear A280
              replace H := Option.bind_eq_some_iff.mp H
              obtain ⟨t351, A290, H⟩ := H
              replace H : (some (t350.toList == t351.toList)) = some r := H
              have A29 := Aside0.mk A290
              clear A290
              obtain rfl := Option.some.inj H
              obtain ⟨Ao30, co30, eo30⟩ := Kd.R_slice HO_7.out
              subst eo30
              go_wp2_with (first | ((with_reducible refine gate_callee (f := 15) rfl ?_); refine goesL_ (some 50) rfl rfl Try.func15 (by kernel_rfl) rfl #[.string (a0.extract ((ji25) : Int).toNat a0.size)] rfl (by (try simp only [List.map_toArray, List.map_cons, List.map_nil]); first | done | (simp only [hji25]; rfl) | rfl | (simp only [List.length_drop, List.length_take]; rfl)) ?_; (with_reducible refine (name_Fold.calls (a0.extract ((ji25) : Int).toNat a0.size) t350 _ A28.out).mono ?_); rintro e w31 ⟨rfl, hb⟩; refine ⟨_, rfl, ?_⟩; have n0_ := Aside0.mk (Kd.R_below (by (with_reducible repeat (first | apply Kd.R_alloc | apply Kd.R_drewN | apply Kd.R_drew)); exact HO_5.out) hb); have n1_ := Aside0.mk (Kd.R_below (by (with_reducible repeat (first | apply Kd.R_alloc | apply Kd.R_drewN | apply Kd.R_drew)); exact HO_7.out) hb); have n2_ := Aside0.mk (below_step (by repeat (first | (with_reducible first | exact HB.out | apply below_alloc | apply pw_below_drewN | apply below_drew1) | exact HB.out)) hb); clear HO_5; clear HO_7; clear HB; have HO_5 := n0_; have HO_7 := n1_; have HB := n2_; clear n0_ n1_ n2_; (try clear hb); (try clear hb2); (try clear hk); (try clear hi)) | ((with_reducible refine gate_callee (f := 15) rfl ?_); refine goesL_ (some 52) rfl rfl Try.func15 (by kernel_rfl) rfl #[.string a1] rfl (by (try simp only [List.map_toArray, List.map_cons, List.map_nil]); first | done | rfl | (simp only [List.length_drop, List.length_take]; rfl)) ?_; (with_reducible refine (name_Fold.calls a1 t351 _ A29.out).mono ?_); rintro e w32 ⟨rfl, hb⟩; refine ⟨_, rfl, ?_⟩; have n0_ := Aside0.mk (Kd.R_below (by (with_reducible repeat (first | apply Kd.R_alloc | apply Kd.R_drewN | apply Kd.R_drew)); exact HO_5.out) hb); have n1_ := Aside0.mk (Kd.R_below (by (with_reducible repeat (first | apply Kd.R_alloc | apply Kd.R_drewN | apply Kd.R_drew)); exact HO_7.out) hb); have n2_ := Aside0.mk (below_step (by repeat (first | (with_reducible first | exact HB.out | apply below_alloc | apply pw_below_drewN | apply below_drew1) | exact HB.out)) hb); clear HO_5; clear HO_7; clear HB; have HO_5 := n0_; have HO_7 := n1_; have HB := n2_; clear n0_ n1_ n2_; (try clear hb); (try clear hb2); (try clear hk); (try clear hi)))
              go_ret
              exact ⟨by first | rfl | (simp [errW_none, errW_some] <;> rfl) | (simp only [← hji25]; first | rfl | (simp [errW_none, errW_some] <;> rfl)) | (simp [*, errW_none, errW_some] <;> rfl), by repeat (first | (with_reducible first | exact HB.out | apply below_alloc | apply pw_below_drewN | apply below_drew1) | exact HB.out)⟩
            · rw [if_neg c27] at H
              exact absurd H (by simp)
          · rw [if_neg c26] at H
            exact absurd H (by simp)

end Go.Proofs.Ytplnknhlgdoliaa.Print
end
section
-- Written by a program of this session, built on the kit's print (it is not the print's own text).
namespace Go.Proofs.Ytplnknhlgdoliaa.Print
open Go.RowKit Go.Proofs.YtplnknhlgdoliaaW.PrintWords Go.Proofs.YtplnknhlgdoliaaW.PrintLast Go.Proofs.YtplnknhlgdoliaaW.PrintMore
attribute [local go_sem] max2_int min2_int max_two min_two max_three min_three max_four min_four   -- for this text's walks alone
set_option linter.unusedVariables false
set_option linter.unusedSimpArgs false

/-! ### hearsaylaw01_NameFamily: function 11 -/
mutual
def hearsaylaw01_NameFamily.j0 : Nat → ByteArray → ByteArray → Bool → Option (Bool)
  | 0, _, _, _ => none
  | k + 1, x0, x1, x20 => if x20 = true then ((name_Under.f k x0 x1).bind fun t398 => (if t398 = true then (some false) else ((hearsaylaw01_wakes.f k).bind fun t399 => (some t399)))) else (hearsaylaw01_NameFamily.l0 k x0 x1 false 0)
def hearsaylaw01_NameFamily.l0 : Nat → ByteArray → ByteArray → Bool → Int → Option (Bool)
  | 0, _, _, _, _ => none
  | k + 1, x0, x1, x5, x6 => (name_Count.f k x0).bind fun t400 => (if x6 ≤ t400 then ((name_Last.f k x0 x6).bind fun bt401 => (if bt401.2 = true then ((name_Count.f k bt401.1).bind fun t403 => (if t403 = x6 then ((name_Under.f k x0 bt401.1).bind fun t404 => (hearsaylaw01_NameFamily.j2 k x0 x1 x5 x6 bt401.1 (!t404))) else (hearsaylaw01_NameFamily.j2 k x0 x1 x5 x6 bt401.1 true))) else (hearsaylaw01_NameFamily.j2 k x0 x1 x5 x6 bt401.1 true))) else ((name_Under.f k x0 x1).bind fun t407 => (if (x5 != t407) = true then (some false) else ((name_Join.f k x0 x1).bind fun bt408 => (if bt408.2 = 0 then ((name_Under.f k bt408.1 x1).bind fun t410 => (if t410 = true then ((name_Count.f k bt408.1).bind fun t411 => ((name_Count.f k x0).bind fun t412 => ((name_Count.f k x1).bind fun t413 => (hearsaylaw01_NameFamily.j3 k x0 (t411 != (wrap64 (t412 + t413))))))) else (hearsaylaw01_NameFamily.j3 k x0 true))) else (hearsaylaw01_NameFamily.j3 k x0 false))))))
def hearsaylaw01_NameFamily.j2 : Nat → ByteArray → ByteArray → Bool → Int → ByteArray → Bool → Option (Bool)
  | 0, _, _, _, _, _, _ => none
  | k + 1, x0, x1, x5, x6, x7, x53 => if x53 = true then (some false) else (if x5 = true then (hearsaylaw01_NameFamily.l0 k x0 x1 true (wrap64 (x6 + 1))) else ((name_Fold.f x7).bind fun t405 => ((name_Fold.f x1).bind fun t406 => (hearsaylaw01_NameFamily.l0 k x0 x1 (t405.toList == t406.toList) (wrap64 (x6 + 1))))))
def hearsaylaw01_NameFamily.j3 : Nat → ByteArray → Bool → Option (Bool)
  | 0, _, _ => none
  | k + 1, x0, x90 => if x90 = true then (some false) else ((name_Parent.f k x0).bind fun bt414 => ((name_Count.f k x0).bind fun t416 => (if (bt414.2 == (decide (t416 > 0))) = true then (if bt414.2 = true then ((name_Count.f k bt414.1).bind fun t417 => ((name_Count.f k x0).bind fun t418 => (if t417 = (wrap64 (t418 - 1)) then ((name_Under.f k x0 bt414.1).bind fun t419 => (if t419 = true then ((hearsaylaw01_wakes.f k).bind fun t420 => (some t420)) else (some false))) else (some false)))) else ((hearsaylaw01_wakes.f k).bind fun t421 => (some t421))) else (some false))))
end
def hearsaylaw01_NameFamily.f (k : Nat) (a0 : ByteArray) (a1 : ByteArray) : Option (Bool) := (name_Check.f k a0).bind fun t396 => (if t396 = 0 then ((name_Check.f k a1).bind fun t397 => (hearsaylaw01_NameFamily.j0 k a0 a1 (t397 != 0))) else (hearsaylaw01_NameFamily.j0 k a0 a1 true))
theorem hearsaylaw01_NameFamily.mono_l : ∀ k, (∀ y0 y1 y2, LeO (hearsaylaw01_NameFamily.j0 k y0 y1 y2) (hearsaylaw01_NameFamily.j0 (k + 1) y0 y1 y2)) ∧ (∀ y0 y1 y2 y3, LeO (hearsaylaw01_NameFamily.l0 k y0 y1 y2 y3) (hearsaylaw01_NameFamily.l0 (k + 1) y0 y1 y2 y3)) ∧ (∀ y0 y1 y2 y3 y4 y5, LeO (hearsaylaw01_NameFamily.j2 k y0 y1 y2 y3 y4 y5) (hearsaylaw01_NameFamily.j2 (k + 1) y0 y1 y2 y3 y4 y5)) ∧ (∀ y0 y1, LeO (hearsaylaw01_NameFamily.j3 k y0 y1) (hearsaylaw01_NameFamily.j3 (k + 1) y0 y1))
  | 0 => ⟨fun _ _ _ r h => by simp [hearsaylaw01_NameFamily.j0] at h, fun _ _ _ _ r h => by simp [hearsaylaw01_NameFamily.l0] at h, fun _ _ _ _ _ _ r h => by simp [hearsaylaw01_NameFamily.j2] at h, fun _ _ r h => by simp [hearsaylaw01_NameFamily.j3] at h⟩
  | k + 1 => by
    obtain ⟨ih0, ih1, ih2, ih3⟩ := hearsaylaw01_NameFamily.mono_l k
    refine ⟨?_, ?_, ?_, ?_⟩
    · intro y0 y1 y2
      unfold hearsaylaw01_NameFamily.j0
      repeat' first
      | (with_reducible exact ih0 _ _ _)
      | (with_reducible exact ih1 _ _ _ _)
      | (with_reducible exact ih2 _ _ _ _ _ _)
      | (with_reducible exact ih3 _ _)
      | (with_reducible exact hearsaylaw01_wakes.mono _)
      | (with_reducible exact name_Check.mono _ _)
      | (with_reducible exact name_Count.mono _ _)
      | (with_reducible exact name_Join.mono _ _ _)
      | (with_reducible exact name_Last.mono _ _ _)
      | (with_reducible exact name_Parent.mono _ _)
      | (with_reducible exact name_Under.mono _ _ _)
      | (with_reducible exact LeO.refl _)
      | (with_reducible exact LeO.none _)
      | (with_reducible refine LeO.ite ?_ ?_)
      | (with_reducible refine LeO.bind ?_ (fun _ => ?_))
      | exact ih0 _ _ _
      | exact ih1 _ _ _ _
      | exact ih2 _ _ _ _ _ _
      | exact ih3 _ _
      | exact hearsaylaw01_wakes.mono _
      | exact name_Check.mono _ _
      | exact name_Count.mono _ _
      | exact name_Join.mono _ _ _
      | exact name_Last.mono _ _ _
      | exact name_Parent.mono _ _
      | exact name_Under.mono _ _ _
      | exact LeO.none _
      | refine LeO.ite ?_ ?_
      | refine LeO.bind ?_ (fun _ => ?_)
    · intro y0 y1 y2 y3
      unfold hearsaylaw01_NameFamily.l0
      repeat' first
      | (with_reducible exact ih0 _ _ _)
      | (with_reducible exact ih1 _ _ _ _)
      | (with_reducible exact ih2 _ _ _ _ _ _)
      | (with_reducible exact ih3 _ _)
      | (with_reducible exact hearsaylaw01_wakes.mono _)
      | (with_reducible exact name_Check.mono _ _)
      | (with_reducible exact name_Count.mono _ _)
      | (with_reducible exact name_Join.mono _ _ _)
      | (with_reducible exact name_Last.mono _ _ _)
      | (with_reducible exact name_Parent.mono _ _)
      | (with_reducible exact name_Under.mono _ _ _)
      | (with_reducible exact LeO.refl _)
      | (with_reducible exact LeO.none _)
      | (with_reducible refine LeO.ite ?_ ?_)
      | (with_reducible refine LeO.bind ?_ (fun _ => ?_))
      | exact ih0 _ _ _
      | exact ih1 _ _ _ _
      | exact ih2 _ _ _ _ _ _
      | exact ih3 _ _
      | exact hearsaylaw01_wakes.mono _
      | exact name_Check.mono _ _
      | exact name_Count.mono _ _
      | exact name_Join.mono _ _ _
      | exact name_Last.mono _ _ _
      | exact name_Parent.mono _ _
      | exact name_Under.mono _ _ _
      | exact LeO.none _
      | refine LeO.ite ?_ ?_
      | refine LeO.bind ?_ (fun _ => ?_)
    · intro y0 y1 y2 y3 y4 y5
      unfold hearsaylaw01_NameFamily.j2
      repeat' first
      | (with_reducible exact ih0 _ _ _)
      | (with_reducible exact ih1 _ _ _ _)
      | (with_reducible exact ih2 _ _ _ _ _ _)
      | (with_reducible exact ih3 _ _)
      | (with_reducible exact hearsaylaw01_wakes.mono _)
      | (with_reducible exact name_Check.mono _ _)
      | (with_reducible exact name_Count.mono _ _)
      | (with_reducible exact name_Join.mono _ _ _)
      | (with_reducible exact name_Last.mono _ _ _)
      | (with_reducible exact name_Parent.mono _ _)
      | (with_reducible exact name_Under.mono _ _ _)
      | (with_reducible exact LeO.refl _)
      | (with_reducible exact LeO.none _)
      | (with_reducible refine LeO.ite ?_ ?_)
      | (with_reducible refine LeO.bind ?_ (fun _ => ?_))
      | exact ih0 _ _ _
      | exact ih1 _ _ _ _
      | exact ih2 _ _ _ _ _ _
      | exact ih3 _ _
      | exact hearsaylaw01_wakes.mono _
      | exact name_Check.mono _ _
      | exact name_Count.mono _ _
      | exact name_Join.mono _ _ _
      | exact name_Last.mono _ _ _
      | exact name_Parent.mono _ _
      | exact name_Under.mono _ _ _
      | exact LeO.none _
      | refine LeO.ite ?_ ?_
      | refine LeO.bind ?_ (fun _ => ?_)
    · intro y0 y1
      unfold hearsaylaw01_NameFamily.j3
      repeat' first
      | (with_reducible exact ih0 _ _ _)
      | (with_reducible exact ih1 _ _ _ _)
      | (with_reducible exact ih2 _ _ _ _ _ _)
      | (with_reducible exact ih3 _ _)
      | (with_reducible exact hearsaylaw01_wakes.mono _)
      | (with_reducible exact name_Check.mono _ _)
      | (with_reducible exact name_Count.mono _ _)
      | (with_reducible exact name_Join.mono _ _ _)
      | (with_reducible exact name_Last.mono _ _ _)
      | (with_reducible exact name_Parent.mono _ _)
      | (with_reducible exact name_Under.mono _ _ _)
      | (with_reducible exact LeO.refl _)
      | (with_reducible exact LeO.none _)
      | (with_reducible refine LeO.ite ?_ ?_)
      | (with_reducible refine LeO.bind ?_ (fun _ => ?_))
      | exact ih0 _ _ _
      | exact ih1 _ _ _ _
      | exact ih2 _ _ _ _ _ _
      | exact ih3 _ _
      | exact hearsaylaw01_wakes.mono _
      | exact name_Check.mono _ _
      | exact name_Count.mono _ _
      | exact name_Join.mono _ _ _
      | exact name_Last.mono _ _ _
      | exact name_Parent.mono _ _
      | exact name_Under.mono _ _ _
      | exact LeO.none _
      | refine LeO.ite ?_ ?_
      | refine LeO.bind ?_ (fun _ => ?_)
theorem hearsaylaw01_NameFamily.mono : ∀ a0 a1 k, LeO (hearsaylaw01_NameFamily.f k a0 a1) (hearsaylaw01_NameFamily.f (k + 1) a0 a1) := by
  intro a0 a1 k
  obtain ⟨ih0, ih1, ih2, ih3⟩ := hearsaylaw01_NameFamily.mono_l k
  unfold hearsaylaw01_NameFamily.f
  repeat' first
      | (with_reducible exact ih0 _ _ _)
      | (with_reducible exact ih1 _ _ _ _)
      | (with_reducible exact ih2 _ _ _ _ _ _)
      | (with_reducible exact ih3 _ _)
      | (with_reducible exact hearsaylaw01_wakes.mono _)
      | (with_reducible exact name_Check.mono _ _)
      | (with_reducible exact name_Count.mono _ _)
      | (with_reducible exact name_Join.mono _ _ _)
      | (with_reducible exact name_Last.mono _ _ _)
      | (with_reducible exact name_Parent.mono _ _)
      | (with_reducible exact name_Under.mono _ _ _)
      | (with_reducible exact LeO.refl _)
      | (with_reducible exact LeO.none _)
      | (with_reducible refine LeO.ite ?_ ?_)
      | (with_reducible refine LeO.bind ?_ (fun _ => ?_))
      | exact ih0 _ _ _
      | exact ih1 _ _ _ _
      | exact ih2 _ _ _ _ _ _
      | exact ih3 _ _
      | exact hearsaylaw01_wakes.mono _
      | exact name_Check.mono _ _
      | exact name_Count.mono _ _
      | exact name_Join.mono _ _ _
      | exact name_Last.mono _ _ _
      | exact name_Parent.mono _ _
      | exact name_Under.mono _ _ _
      | exact LeO.none _
      | refine LeO.ite ?_ ?_
      | refine LeO.bind ?_ (fun _ => ?_)
set_option maxHeartbeats 8000000 in
set_option maxRecDepth 100000 in
theorem hearsaylaw01_NameFamily.calls (k : Nat) (a0 : ByteArray) (a1 : ByteArray) (r : Bool) (w : World) (h : hearsaylaw01_NameFamily.f k a0 a1 = some r) :
    Calls Try.prog 11 #[.string a0, .string a1] w fun e w' => e = .returned (.bool r) ∧ Below w.heap.size w w' := by
  have HB := Aside0.mk (Below.refl w.heap.size w)
  have H : ((name_Check.f k a0).bind fun t396 => (if t396 = 0 then ((name_Check.f k a1).bind fun t397 => (hearsaylaw01_NameFamily.j0 k a0 a1 (t397 != 0))) else (hearsaylaw01_NameFamily.j0 k a0 a1 true))) = some r := h
  clear h
  have HC3 := Aside0.mk H
  clear H
  go_enter Try.func11, Try.ntmps11
  go_upto_region 1 with (fail)
  go_cut [20] (fun v20 wc => ∃ (kq : Nat) (x20_2 : Bool), v20 = .bool x20_2 ∧ Aside0 (hearsaylaw01_NameFamily.j0 kq a0 a1 x20_2 = some r) ∧ Aside0 (kq ≤ k) ∧ Aside0 (Below w.heap.size w wc))
  case first =>
    have H := HC3.out
    clear HC3
    replace H := Option.bind_eq_some_iff.mp H
    obtain ⟨t396, A40, H⟩ := H
    replace H : (if t396 = 0 then ((name_Check.f k a1).bind fun t397 => (hearsaylaw01_NameFamily.j0 k a0 a1 (t397 != 0))) else (hearsaylaw01_NameFamily.j0 k a0 a1 true)) = some r := H
    have A4 := Aside0.mk A40
    clear A40
    by_cases c5 : t396 = 0
    · rw [if_pos c5] at H
      have c5b0 : (t396 == 0) = true := beq_iff_eq.mpr c5
      have c5b1 : (t396 != 0) = false := bne_eq_false_iff_eq.mpr c5
      clear c5
      (first | rw [c5b0] | (simp only [i64_w, i32_w]; rw [c5b0]) | skip)
      replace H := Option.bind_eq_some_iff.mp H
      obtain ⟨t397, A60, H⟩ := H
      replace H : (hearsaylaw01_NameFamily.j0 k a0 a1 (t397 != 0)) = some r := H
      have A6 := Aside0.mk A60
      clear A60
      have H' := Aside0.mk H
      clear H
      go_wp2_with (first | ((with_reducible refine gate_callee (f := 14) rfl ?_); refine goesL_ (some 14) rfl rfl Try.func14 (by kernel_rfl) rfl #[.string a0] rfl (by (try simp only [List.map_toArray, List.map_cons, List.map_nil]); first | done | rfl | (simp only [List.length_drop, List.length_take]; rfl)) ?_; (with_reducible refine (name_Check.calls k a0 t396 _ A4.out).mono ?_); rintro e w7 ⟨rfl, hb⟩; refine ⟨_, rfl, ?_⟩; have n0_ := Aside0.mk (below_step (by repeat (first | (with_reducible first | exact HB.out | apply below_alloc | apply pw_below_drewN | apply below_drew1) | exact HB.out)) hb); clear HB; have HB := n0_; clear n0_; (try clear hb); (try clear hb2); (try clear hk); (try clear hi)) | (go_at_call 14; (with_reducible refine (name_Check.calls k a1 t397 _ A6.out).mono ?_); rintro e w8 ⟨rfl, hb⟩; have n0_ := Aside0.mk (below_step (by repeat (first | (with_reducible first | exact HB.out | apply below_alloc | apply pw_below_drewN | apply below_drew1) | exact HB.out)) hb); clear HB; have HB := n0_; clear n0_; (try clear hb); (try clear hb2); (try clear hk); (try clear hi)))
      go_meet
      case rel => exact ⟨_, ((t397 != 0)), (by first | rfl | (simp; done) | (simp [*]; done)), H', ⟨by first | omega | exact Nat.le_refl _⟩, ⟨by repeat (first | (with_reducible first | exact HB.out | apply below_alloc | apply pw_below_drewN | apply below_drew1) | exact HB.out)⟩⟩
    · rw [if_neg c5] at H
      have c5b0 : (t396 == 0) = false := beq_eq_false_iff_ne.mpr c5
      have c5b1 : (t396 != 0) = true := bne_iff_ne.mpr c5
      (first | rw [c5b0] | (simp only [i64_w, i32_w]; rw [c5b0]) | skip)
      have H' := Aside0.mk H
      clear H
      go_wp2_with (first | ((with_reducible refine gate_callee (f := 14) rfl ?_); refine goesL_ (some 14) rfl rfl Try.func14 (by kernel_rfl) rfl #[.string a0] rfl (by (try simp only [List.map_toArray, List.map_cons, List.map_nil]); first | done | rfl | (simp only [List.length_drop, List.length_take]; rfl)) ?_; (with_reducible refine (name_Check.calls k a0 t396 _ A4.out).mono ?_); rintro e w9 ⟨rfl, hb⟩; refine ⟨_, rfl, ?_⟩; have n0_ := Aside0.mk (below_step (by repeat (first | (with_reducible first | exact HB.out | apply below_alloc | apply pw_below_drewN | apply below_drew1) | exact HB.out)) hb); clear HB; have HB := n0_; clear n0_; (try clear hb); (try clear hb2); (try clear hk); (try clear hi)))
      go_meet
      case rel => exact ⟨_, (true), (by first | rfl | (simp; done) | (simp [*]; done)), H', ⟨by first | omega | exact Nat.le_refl _⟩, ⟨by repeat (first | (with_reducible first | exact HB.out | apply below_alloc | apply pw_below_drewN | apply below_drew1) | exact HB.out)⟩⟩
  case rest =>
    clear HC3
    try clear c1
    try clear p2
    try clear c5
    try clear c5b0
    try clear c5b1
    obtain ⟨kq, x20_2, rfl, HA, HJ2, HB⟩ := hcut
    cases kq with
    | zero => exact absurd HA.out (by simp [hearsaylaw01_NameFamily.j0])
    | succ kj2 =>
      have H := HA.out
      clear HA
      simp only [hearsaylaw01_NameFamily.j0] at H
      by_cases c10 : x20_2 = true
      · subst c10
        have H1 : ((name_Under.f kj2 a0 a1).bind fun t398 => (if t398 = true then (some false) else ((hearsaylaw01_wakes.f kj2).bind fun t399 => (some t399)))) = some r := by rw [if_pos rfl] at H; exact H
        clear H
        have H := H1
        clear H1
        replace H := Option.bind_eq_some_iff.mp H
        obtain ⟨t398, A110, H⟩ := H
        replace H : (if t398 = true then (some false) else ((hearsaylaw01_wakes.f kj2).bind fun t399 => (some t399))) = some r := H
        have A11 := Aside0.mk A110
        clear A110
        by_cases c12 : t398 = true
        · subst c12
          have H1 : (some false) = some r := by rw [if_pos rfl] at H; exact H
          clear H
          have H := H1
          clear H1
          obtain rfl := Option.some.inj H
          go_wp2_with (first | ((with_reducible refine gate_callee (f := 39) rfl ?_); refine goesL_ (some 23) rfl rfl Try.func39 (by kernel_rfl) rfl #[.string a0, .string a1] rfl (by (try simp only [List.map_toArray, List.map_cons, List.map_nil]); first | done | rfl | (simp only [List.length_drop, List.length_take]; rfl)) ?_; (with_reducible refine (name_Under.calls kj2 a0 a1 true _ A11.out).mono ?_); rintro e w13 ⟨rfl, hb⟩; refine ⟨_, rfl, ?_⟩; have n0_ := Aside0.mk (below_step (by repeat (first | (with_reducible first | exact HB.out | apply below_alloc | apply pw_below_drewN | apply below_drew1) | exact HB.out)) hb); clear HB; have HB := n0_; clear n0_; (try clear hb); (try clear hb2); (try clear hk); (try clear hi)))
          go_ret
          exact ⟨by first | rfl | (simp [errW_none, errW_some] <;> rfl) | (simp [*, errW_none, errW_some] <;> rfl), by repeat (first | (with_reducible first | exact HB.out | apply below_alloc | apply pw_below_drewN | apply below_drew1) | exact HB.out)⟩
        · replace c12 := Bool.eq_false_iff.mpr c12
          subst c12
          have H1 : ((hearsaylaw01_wakes.f kj2).bind fun t399 => (some t399)) = some r := by rw [if_neg (show ¬ (false = true) by decide)] at H; exact H
          clear H
          have H := H1
          clear H1
          replace H := Option.bind_eq_some_iff.mp H
          obtain ⟨t399, A140, H⟩ := H
          replace H : (some t399) = some r := H
          have A14 := Aside0.mk A140
          clear A140
          obtain rfl := Option.some.inj H
          go_wp2_with (first | ((with_reducible refine gate_callee (f := 39) rfl ?_); refine goesL_ (some 23) rfl rfl Try.func39 (by kernel_rfl) rfl #[.string a0, .string a1] rfl (by (try simp only [List.map_toArray, List.map_cons, List.map_nil]); first | done | rfl | (simp only [List.length_drop, List.length_take]; rfl)) ?_; (with_reducible refine (name_Under.calls kj2 a0 a1 false _ A11.out).mono ?_); rintro e w15 ⟨rfl, hb⟩; refine ⟨_, rfl, ?_⟩; have n0_ := Aside0.mk (below_step (by repeat (first | (with_reducible first | exact HB.out | apply below_alloc | apply pw_below_drewN | apply below_drew1) | exact HB.out)) hb); clear HB; have HB := n0_; clear n0_; (try clear hb); (try clear hb2); (try clear hk); (try clear hi)) | (go_at_call 19; (with_reducible refine (hearsaylaw01_wakes.calls kj2  t399 _ A14.out).mono ?_); rintro e w16 ⟨rfl, hb⟩; have n0_ := Aside0.mk (below_step (by repeat (first | (with_reducible first | exact HB.out | apply below_alloc | apply pw_below_drewN | apply below_drew1) | exact HB.out)) hb); clear HB; have HB := n0_; clear n0_; (try clear hb); (try clear hb2); (try clear hk); (try clear hi)))
          go_ret
          exact ⟨by first | rfl | (simp [errW_none, errW_some] <;> rfl) | (simp [*, errW_none, errW_some] <;> rfl), by repeat (first | (with_reducible first | exact HB.out | apply below_alloc | apply pw_below_drewN | apply below_drew1) | exact HB.out)⟩
      · replace c10 := Bool.eq_false_iff.mpr c10
        subst c10
        have H1 : (hearsaylaw01_NameFamily.l0 kj2 a0 a1 false 0) = some r := by rw [if_neg (show ¬ (false = true) by decide)] at H; exact H
        clear H
        have H := H1
        clear H1
        have H' := Aside0.mk H
        clear H
        go_wp2
        go_loopg [5, 6] kj2 (fun kq v5 v6 w' => ∃ (x5_2 : Bool) (x6_2 : Int), v5 = .bool x5_2 ∧ v6 = .int .i64 x6_2 ∧ Aside0 (hearsaylaw01_NameFamily.l0 kq a0 a1 x5_2 x6_2 = some r) ∧ Aside0 (kq ≤ kj2) ∧ Aside0 (Below w.heap.size w w'))
        case atStart => exact ⟨(false), (0), (by first | rfl | (simp; done) | (simp [*]; done)), (by first | rfl | (simp; done) | (simp [*]; done)), H', ⟨Nat.le_refl _⟩, ⟨by repeat (first | (with_reducible first | exact HB.out | apply below_alloc | apply pw_below_drewN | apply below_drew1) | exact HB.out)⟩⟩
        case round =>
          clear H'
          try clear c1
          try clear p2
          try clear c3
          try clear c5
          try clear c5b0
          try clear c5b1
          try clear c10
          try clear c11
          try clear c12
          try clear c14
          try clear p2
          obtain ⟨x5_2, x6_2, rfl, rfl, HA, HK2, HB⟩ := hrel
          cases gk with
          | zero => exact absurd HA.out (by simp [hearsaylaw01_NameFamily.l0])
          | succ k2 =>
            have H := HA.out
            clear HA
            simp only [hearsaylaw01_NameFamily.l0] at H
            replace H := Option.bind_eq_some_iff.mp H
            obtain ⟨t400, A170, H⟩ := H
            replace H : (if x6_2 ≤ t400 then ((name_Last.f k2 a0 x6_2).bind fun bt401 => (if bt401.2 = true then ((name_Count.f k2 bt401.1).bind fun t403 => (if t403 = x6_2 then ((name_Under.f k2 a0 bt401.1).bind fun t404 => (hearsaylaw01_NameFamily.j2 k2 a0 a1 x5_2 x6_2 bt401.1 (!t404))) else (hearsaylaw01_NameFamily.j2 k2 a0 a1 x5_2 x6_2 bt401.1 true))) else (hearsaylaw01_NameFamily.j2 k2 a0 a1 x5_2 x6_2 bt401.1 true))) else ((name_Under.f k2 a0 a1).bind fun t407 => (if (x5_2 != t407) = true then (some false) else ((name_Join.f k2 a0 a1).bind fun bt408 => (if bt408.2 = 0 then ((name_Under.f k2 bt408.1 a1).bind fun t410 => (if t410 = true then ((name_Count.f k2 bt408.1).bind fun t411 => ((name_Count.f k2 a0).bind fun t412 => ((name_Count.f k2 a1).bind fun t413 => (hearsaylaw01_NameFamily.j3 k2 a0 (t411 != (wrap64 (t412 + t413))))))) else (hearsaylaw01_NameFamily.j3 k2 a0 true))) else (hearsaylaw01_NameFamily.j3 k2 a0 false)))))) = some r := H
            have A17 := Aside0.mk A170
            clear A170
            by_cases c18 : x6_2 ≤ t400
            · rw [if_pos c18] at H
              have c18b0 : decide (x6_2 ≤ t400) = true := decide_eq_true c18
              clear c18
              replace H := Option.bind_eq_some_iff.mp H
              obtain ⟨⟨t401, t402⟩, A190, H⟩ := H
              replace H : (if t402 = true then ((name_Count.f k2 t401).bind fun t403 => (if t403 = x6_2 then ((name_Under.f k2 a0 t401).bind fun t404 => (hearsaylaw01_NameFamily.j2 k2 a0 a1 x5_2 x6_2 t401 (!t404))) else (hearsaylaw01_NameFamily.j2 k2 a0 a1 x5_2 x6_2 t401 true))) else (hearsaylaw01_NameFamily.j2 k2 a0 a1 x5_2 x6_2 t401 true)) = some r := H
              have A19 := Aside0.mk A190
              clear A190
              have HC20 := Aside0.mk H
              clear H
              go_upto_region 8 with (first | ((with_reducible refine gate_callee (f := 18) rfl ?_); refine goesL_ (some 30) rfl rfl Try.func18 (by kernel_rfl) rfl #[.string a0] rfl (by (try simp only [List.map_toArray, List.map_cons, List.map_nil]); first | done | rfl | (simp only [List.length_drop, List.length_take]; rfl)) ?_; (with_reducible refine (name_Count.calls k2 a0 t400 _ A17.out).mono ?_); rintro e w21 ⟨rfl, hb⟩; refine ⟨_, rfl, ?_⟩; have n0_ := Aside0.mk (below_step (by repeat (first | (with_reducible first | exact HB.out | apply below_alloc | apply pw_below_drewN | apply below_drew1) | exact HB.out)) hb); clear HB; have HB := n0_; clear n0_; (try clear hb); (try clear hb2); (try clear hk); (try clear hi)) | ((with_reducible refine gate_callee (f := 37) rfl ?_); refine goesL_ (some 37) rfl rfl Try.func37 (by kernel_rfl) rfl #[.string a0, .int .i64 x6_2] rfl (by (try simp only [List.map_toArray, List.map_cons, List.map_nil]); first | done | rfl | (simp only [List.length_drop, List.length_take]; rfl)) ?_; (with_reducible refine (name_Last.calls k2 a0 x6_2 t401 t402 _ A19.out).mono ?_); rintro e w22 ⟨rfl, hb⟩; refine ⟨_, rfl, ?_⟩; have n0_ := Aside0.mk (below_step (by repeat (first | (with_reducible first | exact HB.out | apply below_alloc | apply pw_below_drewN | apply below_drew1) | exact HB.out)) hb); clear HB; have HB := n0_; clear n0_; (try clear hb); (try clear hb2); (try clear hk); (try clear hi)))
              (try simp only [Act.put, List.setIfInBounds_toArray, List.set_cons_zero, List.set_cons_succ])
              go_cut [53] (fun v53 wc => ∃ (kq : Nat) (x53_19 : Bool), v53 = .bool x53_19 ∧ Aside0 (hearsaylaw01_NameFamily.j2 kq a0 a1 x5_2 x6_2 t401 x53_19 = some r) ∧ Aside0 (kq ≤ k2) ∧ Aside0 (Below w.heap.size w wc))
              case first =>
                have H := HC20.out
                clear HC20
                by_cases c23 : t402 = true
                · subst c23
                  have H1 : ((name_Count.f k2 t401).bind fun t403 => (if t403 = x6_2 then ((name_Under.f k2 a0 t401).bind fun t404 => (hearsaylaw01_NameFamily.j2 k2 a0 a1 x5_2 x6_2 t401 (!t404))) else (hearsaylaw01_NameFamily.j2 k2 a0 a1 x5_2 x6_2 t401 true))) = some r := by rw [if_pos rfl] at H; exact H
                  clear H
                  have H := H1
                  clear H1
                  replace H := Option.bind_eq_some_iff.mp H
                  obtain ⟨t403, A240, H⟩ := H
                  replace H : (if t403 = x6_2 then ((name_Under.f k2 a0 t401).bind fun t404 => (hearsaylaw01_NameFamily.j2 k2 a0 a1 x5_2 x6_2 t401 (!t404))) else (hearsaylaw01_NameFamily.j2 k2 a0 a1 x5_2 x6_2 t401 true)) = some r := H
                  have A24 := Aside0.mk A240
                  clear A240
                  by_cases c25 : t403 = x6_2
                  · rw [if_pos c25] at H
                    have c25b0 : (t403 == x6_2) = true := beq_iff_eq.mpr c25
                    have c25b1 : (t403 != x6_2) = false := bne_eq_false_iff_eq.mpr c25
                    clear c25
                    (first | rw [c25b0] | (simp only [i64_w, i32_w]; rw [c25b0]) | skip)
                    replace H := Option.bind_eq_some_iff.mp H
                    obtain ⟨t404, A260, H⟩ := H
                    replace H : (hearsaylaw01_NameFamily.j2 k2 a0 a1 x5_2 x6_2 t401 (!t404)) = some r := H
                    have A26 := Aside0.mk A260
                    clear A260
                    have H' := Aside0.mk H
                    clear H
                    go_wp2_with (first | (go_at_call 18; (with_reducible refine (name_Count.calls k2 t401 t403 _ A24.out).mono ?_); rintro e w27 ⟨rfl, hb⟩; have n0_ := Aside0.mk (below_step (by repeat (first | (with_reducible first | exact HB.out | apply below_alloc | apply pw_below_drewN | apply below_drew1) | exact HB.out)) hb); clear HB; have HB := n0_; clear n0_; (try clear hb); (try clear hb2); (try clear hk); (try clear hi)) | (go_at_call 39; (with_reducible refine (name_Under.calls k2 a0 t401 t404 _ A26.out).mono ?_); rintro e w28 ⟨rfl, hb⟩; have n0_ := Aside0.mk (below_step (by repeat (first | (with_reducible first | exact HB.out | apply below_alloc | apply pw_below_drewN | apply below_drew1) | exact HB.out)) hb); clear HB; have HB := n0_; clear n0_; (try clear hb); (try clear hb2); (try clear hk); (try clear hi)))
                    go_meet
                    case rel => exact ⟨_, (!t404), (by first | rfl | (simp; done) | (simp [*]; done)), H', ⟨by have := HJ2.out; have := HK2.out; first | omega | exact Nat.le_refl _⟩, ⟨by repeat (first | (with_reducible first | exact HB.out | apply below_alloc | apply pw_below_drewN | apply below_drew1) | exact HB.out)⟩⟩
                  · rw [if_neg c25] at H
                    have c25b0 : (t403 == x6_2) = false := beq_eq_false_iff_ne.mpr c25
                    have c25b1 : (t403 != x6_2) = true := bne_iff_ne.mpr c25
                    (first | rw [c25b0] | (simp only [i64_w, i32_w]; rw [c25b0]) | skip)
                    have H' := Aside0.mk H
                    clear H
                    go_wp2_with (first | (go_at_call 18; (with_reducible refine (name_Count.calls k2 t401 t403 _ A24.out).mono ?_); rintro e w29 ⟨rfl, hb⟩; have n0_ := Aside0.mk (below_step (by repeat (first | (with_reducible first | exact HB.out | apply below_alloc | apply pw_below_drewN | apply below_drew1) | exact HB.out)) hb); clear HB; have HB := n0_; clear n0_; (try clear hb); (try clear hb2); (try clear hk); (try clear hi)))
                    go_meet
                    case rel => exact ⟨_, (true), (by first | rfl | (simp; done) | (simp [*]; done)), H', ⟨by have := HJ2.out; have := HK2.out; first | omega | exact Nat.le_refl _⟩, ⟨by repeat (first | (with_reducible first | exact HB.out | apply below_alloc | apply pw_below_drewN | apply below_drew1) | exact HB.out)⟩⟩
                · replace c23 := Bool.eq_false_iff.mpr c23
                  subst c23
                  have H1 : (hearsaylaw01_NameFamily.j2 k2 a0 a1 x5_2 x6_2 t401 true) = some r := by rw [if_neg (show ¬ (false = true) by decide)] at H; exact H
                  clear H
                  have H := H1
                  clear H1
                  have H' := Aside0.mk H
                  clear H
                  go_wp2
                  go_meet
                  case rel => exact ⟨_, (true), (by first | rfl | (simp; done) | (simp [*]; done)), H', ⟨by have := HJ2.out; have := HK2.out; first | omega | exact Nat.le_refl _⟩, ⟨by repeat (first | (with_reducible first | exact HB.out | apply below_alloc | apply pw_below_drewN | apply below_drew1) | exact HB.out)⟩⟩
              case rest =>
                clear HC20
                try clear c1
                try clear c2
                try clear p2
                try clear c3
                try clear c5
                try clear c5b0
                try clear c5b1
                try clear p6
                try clear c10
                try clear c11
                try clear c12
                try clear c14
                try clear c18
                try clear c18b0
                try clear c23
                try clear c25
                try clear c25b0
                try clear c25b1
                try clear p2
                obtain ⟨kq, x53_19, rfl, HA, HJ19, HB⟩ := hcut
                cases kq with
                | zero => exact absurd HA.out (by simp [hearsaylaw01_NameFamily.j2])
                | succ kj19 =>
                  have H := HA.out
                  clear HA
                  simp only [hearsaylaw01_NameFamily.j2] at H
                  by_cases c30 : x53_19 = true
                  · subst c30
                    have H1 : (some false) = some r := by rw [if_pos rfl] at H; exact H
                    clear H
                    have H := H1
                    clear H1
                    obtain rfl := Option.some.inj H
                    go_wp2
                    go_ret
                    exact ⟨by first | rfl | (simp [errW_none, errW_some] <;> rfl) | (simp [*, errW_none, errW_some] <;> rfl), by repeat (first | (with_reducible first | exact HB.out | apply below_alloc | apply pw_below_drewN | apply below_drew1) | exact HB.out)⟩
                  · replace c30 := Bool.eq_false_iff.mpr c30
                    subst c30
                    have H1 : (if x5_2 = true then (hearsaylaw01_NameFamily.l0 kj19 a0 a1 true (wrap64 (x6_2 + 1))) else ((name_Fold.f t401).bind fun t405 => ((name_Fold.f a1).bind fun t406 => (hearsaylaw01_NameFamily.l0 kj19 a0 a1 (t405.toList == t406.toList) (wrap64 (x6_2 + 1)))))) = some r := by rw [if_neg (show ¬ (false = true) by decide)] at H; exact H
                    clear H
                    have H := H1
                    clear H1
                    by_cases c31 : x5_2 = true
                    · subst c31
                      have H1 : (hearsaylaw01_NameFamily.l0 kj19 a0 a1 true (wrap64 (x6_2 + 1))) = some r := by rw [if_pos rfl] at H; exact H
                      clear H
                      have H := H1
                      clear H1
                      have H' := Aside0.mk H
                      clear H
                      go_wp2
                      go_roundg kj19
                      case measure => have := HJ2.out; have := HK2.out; have := HJ19.out; omega
                      case rel => exact ⟨(true), (wrap64 (x6_2 + 1)), (by first | rfl | (simp; done) | (simp [*]; done)), (by first | rfl | (simp; done) | (simp [*]; done)), H', ⟨by have := HJ2.out; have := HK2.out; have := HJ19.out; omega⟩, ⟨by repeat (first | (with_reducible first | exact HB.out | apply below_alloc | apply pw_below_drewN | apply below_drew1) | exact HB.out)⟩⟩
                    · replace c31 := Bool.eq_false_iff.mpr c31
                      subst c31
                      have H1 : ((name_Fold.f t401).bind fun t405 => ((name_Fold.f a1).bind fun t406 => (hearsaylaw01_NameFamily.l0 kj19 a0 a1 (t405.toList == t406.toList) (wrap64 (x6_2 + 1))))) = some r := by rw [if_neg (show ¬ (false = true) by decide)] at H; exact H
                      clear H
                      have H := H1
                      clear H1
                      replace H := Option.bind_eq_some_iff.mp H
                      obtain ⟨t405, A320, H⟩ := H
                      replace H : ((name_Fold.f a1).bind fun t406 => (hearsaylaw01_NameFamily.l0 kj19 a0 a1 (t405.toList == t406.toList) (wrap64 (x6_2 + 1)))) = some r := H
                      have A32 := Aside0.mk A320
                      clear A320
                      replace H := Option.bind_eq_some_iff.mp H
                      obtain ⟨t406, A330, H⟩ := H
                      replace H : (hearsaylaw01_NameFamily.l0 kj19 a0 a1 (t405.toList == t406.toList) (wrap64 (x6_2 + 1))) = some r := H
                      have A33 := Aside0.mk A330
                      clear A330
                      have H' := Aside0.mk H
                      clear H
                      go_wp2_with (first | (go_at_call 15; (with_reducible refine (name_Fold.calls t401 t405 _ A32.out).mono ?_); rintro e w34 ⟨rfl, hb⟩; have n0_ := Aside0.mk (below_step (by repeat (first | (with_reducible first | exact HB.out | apply below_alloc | apply pw_below_drewN | apply below_drew1) | exact HB.out)) hb); clear HB; have HB := n0_; clear n0_; (try clear hb); (try clear hb2); (try clear hk); (try clear hi)) | (go_at_call 15; (with_reducible refine (name_Fold.calls a1 t406 _ A33.out).mono ?_); rintro e w35 ⟨rfl, hb⟩; have n0_ := Aside0.mk (below_step (by repeat (first | (with_reducible first | exact HB.out | apply below_alloc | apply pw_below_drewN | apply below_drew1) | exact HB.out)) hb); clear HB; have HB := n0_; clear n0_; (try clear hb); (try clear hb2); (try clear hk); (try clear hi)))
                      go_roundg kj19
                      case measure => have := HJ2.out; have := HK2.out; have := HJ19.out; omega
                      case rel => exact ⟨((t405.toList == t406.toList)), (wrap64 (x6_2 + 1)), (by first | rfl | (simp; done) | (simp [*]; done)), (by first | rfl | (simp; done) | (simp [*]; done)), H', ⟨by have := HJ2.out; have := HK2.out; have := HJ19.out; omega⟩, ⟨by repeat (first | (with_reducible first | exact HB.out | apply below_alloc | apply pw_below_drewN | apply below_drew1) | exact HB.out)⟩⟩
            · rw [if_neg c18] at H
              have c18b0 : decide (x6_2 ≤ t400) = false := decide_eq_false c18
              clear c18
              replace H := Option.bind_eq_some_iff.mp H
              obtain ⟨t407, A360, H⟩ := H
              replace H : (if (x5_2 != t407) = true then (some false) else ((name_Join.f k2 a0 a1).bind fun bt408 => (if bt408.2 = 0 then ((name_Under.f k2 bt408.1 a1).bind fun t410 => (if t410 = true then ((name_Count.f k2 bt408.1).bind fun t411 => ((name_Count.f k2 a0).bind fun t412 => ((name_Count.f k2 a1).bind fun t413 => (hearsaylaw01_NameFamily.j3 k2 a0 (t411 != (wrap64 (t412 + t413))))))) else (hearsaylaw01_NameFamily.j3 k2 a0 true))) else (hearsaylaw01_NameFamily.j3 k2 a0 false)))) = some r := H
              have A36 := Aside0.mk A360
              clear A360
              by_cases c37 : (x5_2 != t407) = true
              · rw [if_pos c37] at H
                have c37b0 : (x5_2 != t407) = true := c37
                (try (have c37b1 : decide (x5_2 = t407) = false := by simpa using c37))
                (try (have c37b2 : (x5_2 == t407) = false := by simpa using c37))
                (try (have c37b3 : ¬ (x5_2 = t407) := by simpa using c37))
                clear c37
                obtain rfl := Option.some.inj H
                go_wp2_with (first | ((with_reducible refine gate_callee (f := 18) rfl ?_); refine goesL_ (some 30) rfl rfl Try.func18 (by kernel_rfl) rfl #[.string a0] rfl (by (try simp only [List.map_toArray, List.map_cons, List.map_nil]); first | done | rfl | (simp only [List.length_drop, List.length_take]; rfl)) ?_; (with_reducible refine (name_Count.calls k2 a0 t400 _ A17.out).mono ?_); rintro e w38 ⟨rfl, hb⟩; refine ⟨_, rfl, ?_⟩; have n0_ := Aside0.mk (below_step (by repeat (first | (with_reducible first | exact HB.out | apply below_alloc | apply pw_below_drewN | apply below_drew1) | exact HB.out)) hb); clear HB; have HB := n0_; clear n0_; (try clear hb); (try clear hb2); (try clear hk); (try clear hi)) | ((with_reducible refine gate_callee (f := 39) rfl ?_); refine goesL_ (some 65) rfl rfl Try.func39 (by kernel_rfl) rfl #[.string a0, .string a1] rfl (by (try simp only [List.map_toArray, List.map_cons, List.map_nil]); first | done | rfl | (simp only [List.length_drop, List.length_take]; rfl)) ?_; (with_reducible refine (name_Under.calls k2 a0 a1 t407 _ A36.out).mono ?_); rintro e w39 ⟨rfl, hb⟩; refine ⟨_, rfl, ?_⟩; have n0_ := Aside0.mk (below_step (by repeat (first | (with_reducible first | exact HB.out | apply below_alloc | apply pw_below_drewN | apply below_drew1) | exact HB.out)) hb); clear HB; have HB := n0_; clear n0_; (try clear hb); (try clear hb2); (try clear hk); (try clear hi)))
                go_ret
                exact ⟨by first | rfl | (simp [errW_none, errW_some] <;> rfl) | (simp [*, errW_none, errW_some] <;> rfl), by repeat (first | (with_reducible first | exact HB.out | apply below_alloc | apply pw_below_drewN | apply below_drew1) | exact HB.out)⟩
              · rw [if_neg c37] at H
                have c37b0 : (x5_2 != t407) = false := by simpa using c37
                (try (have c37b1 : decide (x5_2 = t407) = true := by simpa using c37))
                (try (have c37b2 : (x5_2 == t407) = true := by simpa using c37))
                clear c37
                replace H := Option.bind_eq_some_iff.mp H
                obtain ⟨⟨t408, t409⟩, A400, H⟩ := H
                replace H : (if t409 = 0 then ((name_Under.f k2 t408 a1).bind fun t410 => (if t410 = true then ((name_Count.f k2 t408).bind fun t411 => ((name_Count.f k2 a0).bind fun t412 => ((name_Count.f k2 a1).bind fun t413 => (hearsaylaw01_NameFamily.j3 k2 a0 (t411 != (wrap64 (t412 + t413))))))) else (hearsaylaw01_NameFamily.j3 k2 a0 true))) else (hearsaylaw01_NameFamily.j3 k2 a0 false)) = some r := H
                have A40 := Aside0.mk A400
                clear A400
                have HC41 := Aside0.mk H
                clear H
                go_upto_region 14 with (first | ((with_reducible refine gate_callee (f := 18) rfl ?_); refine goesL_ (some 30) rfl rfl Try.func18 (by kernel_rfl) rfl #[.string a0] rfl (by (try simp only [List.map_toArray, List.map_cons, List.map_nil]); first | done | rfl | (simp only [List.length_drop, List.length_take]; rfl)) ?_; (with_reducible refine (name_Count.calls k2 a0 t400 _ A17.out).mono ?_); rintro e w42 ⟨rfl, hb⟩; refine ⟨_, rfl, ?_⟩; have n0_ := Aside0.mk (below_step (by repeat (first | (with_reducible first | exact HB.out | apply below_alloc | apply pw_below_drewN | apply below_drew1) | exact HB.out)) hb); clear HB; have HB := n0_; clear n0_; (try clear hb); (try clear hb2); (try clear hk); (try clear hi)) | ((with_reducible refine gate_callee (f := 39) rfl ?_); refine goesL_ (some 65) rfl rfl Try.func39 (by kernel_rfl) rfl #[.string a0, .string a1] rfl (by (try simp only [List.map_toArray, List.map_cons, List.map_nil]); first | done | rfl | (simp only [List.length_drop, List.length_take]; rfl)) ?_; (with_reducible refine (name_Under.calls k2 a0 a1 t407 _ A36.out).mono ?_); rintro e w43 ⟨rfl, hb⟩; refine ⟨_, rfl, ?_⟩; have n0_ := Aside0.mk (below_step (by repeat (first | (with_reducible first | exact HB.out | apply below_alloc | apply pw_below_drewN | apply below_drew1) | exact HB.out)) hb); clear HB; have HB := n0_; clear n0_; (try clear hb); (try clear hb2); (try clear hk); (try clear hi)) | ((with_reducible refine gate_callee (f := 31) rfl ?_); refine goesL_ (some 70) rfl rfl Try.func31 (by kernel_rfl) rfl #[.string a0, .string a1] rfl (by (try simp only [List.map_toArray, List.map_cons, List.map_nil]); first | done | rfl | (simp only [List.length_drop, List.length_take]; rfl)) ?_; (with_reducible refine (name_Join.calls k2 a0 a1 t408 t409 _ A40.out).mono ?_); rintro e w44 ⟨rfl, hb⟩; refine ⟨_, rfl, ?_⟩; have n0_ := Aside0.mk (below_step (by repeat (first | (with_reducible first | exact HB.out | apply below_alloc | apply pw_below_drewN | apply below_drew1) | exact HB.out)) hb); clear HB; have HB := n0_; clear n0_; (try clear hb); (try clear hb2); (try clear hk); (try clear hi)))
                (try simp only [Act.put, List.setIfInBounds_toArray, List.set_cons_zero, List.set_cons_succ])
                go_cut [90] (fun v90 wc => ∃ (kq : Nat) (x90_40 : Bool), v90 = .bool x90_40 ∧ Aside0 (hearsaylaw01_NameFamily.j3 kq a0 x90_40 = some r) ∧ Aside0 (kq ≤ k2) ∧ Aside0 (Below w.heap.size w wc))
                case first =>
                  have H := HC41.out
                  clear HC41
                  by_cases c45 : t409 = 0
                  · rw [if_pos c45] at H
                    have c45b0 : (t409 == 0) = true := beq_iff_eq.mpr c45
                    have c45b1 : (t409 != 0) = false := bne_eq_false_iff_eq.mpr c45
                    clear c45
                    (first | rw [c45b0] | (simp only [i64_w, i32_w]; rw [c45b0]) | skip)
                    replace H := Option.bind_eq_some_iff.mp H
                    obtain ⟨t410, A460, H⟩ := H
                    replace H : (if t410 = true then ((name_Count.f k2 t408).bind fun t411 => ((name_Count.f k2 a0).bind fun t412 => ((name_Count.f k2 a1).bind fun t413 => (hearsaylaw01_NameFamily.j3 k2 a0 (t411 != (wrap64 (t412 + t413))))))) else (hearsaylaw01_NameFamily.j3 k2 a0 true)) = some r := H
                    have A46 := Aside0.mk A460
                    clear A460
                    by_cases c47 : t410 = true
                    · subst c47
                      have H1 : ((name_Count.f k2 t408).bind fun t411 => ((name_Count.f k2 a0).bind fun t412 => ((name_Count.f k2 a1).bind fun t413 => (hearsaylaw01_NameFamily.j3 k2 a0 (t411 != (wrap64 (t412 + t413))))))) = some r := by rw [if_pos rfl] at H; exact H
                      clear H
                      have H := H1
                      clear H1
                      replace H := Option.bind_eq_some_iff.mp H
                      obtain ⟨t411, A480, H⟩ := H
                      replace H : ((name_Count.f k2 a0).bind fun t412 => ((name_Count.f k2 a1).bind fun t413 => (hearsaylaw01_NameFamily.j3 k2 a0 (t411 != (wrap64 (t412 + t413)))))) = some r := H
                      have A48 := Aside0.mk A480
                      clear A480
                      replace H := Option.bind_eq_some_iff.mp H
                      obtain ⟨t412, A490, H⟩ := H
                      replace H : ((name_Count.f k2 a1).bind fun t413 => (hearsaylaw01_NameFamily.j3 k2 a0 (t411 != (wrap64 (t412 + t413))))) = some r := H
                      have A49 := Aside0.mk A490
                      clear A490
                      replace H := Option.bind_eq_some_iff.mp H
                      obtain ⟨t413, A500, H⟩ := H
                      replace H : (hearsaylaw01_NameFamily.j3 k2 a0 (t411 != (wrap64 (t412 + t413)))) = some r := H
                      have A50 := Aside0.mk A500
                      clear A500
                      have H' := Aside0.mk H
                      clear H
                      go_wp2_with (first | (go_at_call 39; (with_reducible refine (name_Under.calls k2 t408 a1 true _ A46.out).mono ?_); rintro e w51 ⟨rfl, hb⟩; have n0_ := Aside0.mk (below_step (by repeat (first | (with_reducible first | exact HB.out | apply below_alloc | apply pw_below_drewN | apply below_drew1) | exact HB.out)) hb); clear HB; have HB := n0_; clear n0_; (try clear hb); (try clear hb2); (try clear hk); (try clear hi)) | (go_at_call 18; (with_reducible refine (name_Count.calls k2 t408 t411 _ A48.out).mono ?_); rintro e w52 ⟨rfl, hb⟩; have n0_ := Aside0.mk (below_step (by repeat (first | (with_reducible first | exact HB.out | apply below_alloc | apply pw_below_drewN | apply below_drew1) | exact HB.out)) hb); clear HB; have HB := n0_; clear n0_; (try clear hb); (try clear hb2); (try clear hk); (try clear hi)) | (go_at_call 18; (with_reducible refine (name_Count.calls k2 a0 t412 _ A49.out).mono ?_); rintro e w53 ⟨rfl, hb⟩; have n0_ := Aside0.mk (below_step (by repeat (first | (with_reducible first | exact HB.out | apply below_alloc | apply pw_below_drewN | apply below_drew1) | exact HB.out)) hb); clear HB; have HB := n0_; clear n0_; (try clear hb); (try clear hb2); (try clear hk); (try clear hi)) | (go_at_call 18; (with_reducible refine (name_Count.calls k2 a1 t413 _ A50.out).mono ?_); rintro e w54 ⟨rfl, hb⟩; have n0_ := Aside0.mk (below_step (by repeat (first | (with_reducible first | exact HB.out | apply below_alloc | apply pw_below_drewN | apply below_drew1) | exact HB.out)) hb); clear HB; have HB := n0_; clear n0_; (try clear hb); (try clear hb2); (try clear hk); (try clear hi)))
                      go_meet
                      case rel => exact ⟨_, ((t411 != (wrap64 (t412 + t413)))), (by first | rfl | (simp; done) | (simp [*]; done)), H', ⟨by have := HJ2.out; have := HK2.out; first | omega | exact Nat.le_refl _⟩, ⟨by repeat (first | (with_reducible first | exact HB.out | apply below_alloc | apply pw_below_drewN | apply below_drew1) | exact HB.out)⟩⟩
                    · replace c47 := Bool.eq_false_iff.mpr c47
                      subst c47
                      have H1 : (hearsaylaw01_NameFamily.j3 k2 a0 true) = some r := by rw [if_neg (show ¬ (false = true) by decide)] at H; exact H
                      clear H
                      have H := H1
                      clear H1
                      have H' := Aside0.mk H
                      clear H
                      go_wp2_with (first | (go_at_call 39; (with_reducible refine (name_Under.calls k2 t408 a1 false _ A46.out).mono ?_); rintro e w55 ⟨rfl, hb⟩; have n0_ := Aside0.mk (below_step (by repeat (first | (with_reducible first | exact HB.out | apply below_alloc | apply pw_below_drewN | apply below_drew1) | exact HB.out)) hb); clear HB; have HB := n0_; clear n0_; (try clear hb); (try clear hb2); (try clear hk); (try clear hi)))
                      go_meet
                      case rel => exact ⟨_, (true), (by first | rfl | (simp; done) | (simp [*]; done)), H', ⟨by have := HJ2.out; have := HK2.out; first | omega | exact Nat.le_refl _⟩, ⟨by repeat (first | (with_reducible first | exact HB.out | apply below_alloc | apply pw_below_drewN | apply below_drew1) | exact HB.out)⟩⟩
                  · rw [if_neg c45] at H
                    have c45b0 : (t409 == 0) = false := beq_eq_false_iff_ne.mpr c45
                    have c45b1 : (t409 != 0) = true := bne_iff_ne.mpr c45
                    (first | rw [c45b0] | (simp only [i64_w, i32_w]; rw [c45b0]) | skip)
                    have H' := Aside0.mk H
                    clear H
                    go_wp2
                    go_meet
                    case rel => exact ⟨_, (false), (by first | rfl | (simp; done) | (simp [*]; done)), H', ⟨by have := HJ2.out; have := HK2.out; first | omega | exact Nat.le_refl _⟩, ⟨by repeat (first | (with_reducible first | exact HB.out | apply below_alloc | apply pw_below_drewN | apply below_drew1) | exact HB.out)⟩⟩
                case rest =>
                  clear HC41
                  try clear c1
                  try clear c2
                  try clear p2
                  try clear c3
                  try clear c4
                  try clear c5
                  try clear c5b0
                  try clear c5b1
                  try clear p6
                  try clear c10
                  try clear c11
                  try clear c12
                  try clear c14
                  try clear c18
                  try clear c18b0
                  try clear c23
                  try clear c25
                  try clear c25b0
                  try clear c25b1
                  try clear c30
                  try clear c31
                  try clear c37
                  try clear c37b0
                  try clear c37b1
                  try clear c37b2
                  try clear c39
                  try clear c45
                  try clear c45b0
                  try clear c45b1
                  try clear c47
                  try clear p2
                  try clear p6
                  obtain ⟨kq, x90_40, rfl, HA, HJ40, HB⟩ := hcut
                  cases kq with
                  | zero => exact absurd HA.out (by simp [hearsaylaw01_NameFamily.j3])
                  | succ kj40 =>
                    have H := HA.out
                    clear HA
                    simp only [hearsaylaw01_NameFamily.j3] at H
                    by_cases c56 : x90_40 = true
                    · subst c56
                      have H1 : (some false) = some r := by rw [if_pos rfl] at H; exact H
                      clear H
                      have H := H1
                      clear H1
                      obtain rfl := Option.some.inj H
                      go_wp2
                      go_ret
                      exact ⟨by first | rfl | (simp [errW_none, errW_some] <;> rfl) | (simp [*, errW_none, errW_some] <;> rfl), by repeat (first | (with_reducible first | exact HB.out | apply below_alloc | apply pw_below_drewN | apply below_drew1) | exact HB.out)⟩
                    · replace c56 := Bool.eq_false_iff.mpr c56
                      subst c56
                      have H1 : ((name_Parent.f kj40 a0).bind fun bt414 => ((name_Count.f kj40 a0).bind fun t416 => (if (bt414.2 == (decide (t416 > 0))) = true then (if bt414.2 = true then ((name_Count.f kj40 bt414.1).bind fun t417 => ((name_Count.f kj40 a0).bind fun t418 => (if t417 = (wrap64 (t418 - 1)) then ((name_Under.f kj40 a0 bt414.1).bind fun t419 => (if t419 = true then ((hearsaylaw01_wakes.f kj40).bind fun t420 => (some t420)) else (some false))) else (some false)))) else ((hearsaylaw01_wakes.f kj40).bind fun t421 => (some t421))) else (some false)))) = some r := by rw [if_neg (show ¬ (false = true) by decide)] at H; exact H
                      clear H
                      have H := H1
                      clear H1
                      replace H := Option.bind_eq_some_iff.mp H
                      obtain ⟨⟨t414, t415⟩, A570, H⟩ := H
                      replace H : ((name_Count.f kj40 a0).bind fun t416 => (if (t415 == (decide (t416 > 0))) = true then (if t415 = true then ((name_Count.f kj40 t414).bind fun t417 => ((name_Count.f kj40 a0).bind fun t418 => (if t417 = (wrap64 (t418 - 1)) then ((name_Under.f kj40 a0 t414).bind fun t419 => (if t419 = true then ((hearsaylaw01_wakes.f kj40).bind fun t420 => (some t420)) else (some false))) else (some false)))) else ((hearsaylaw01_wakes.f kj40).bind fun t421 => (some t421))) else (some false))) = some r := H
                      have A57 := Aside0.mk A570
                      clear A570
                      replace H := Option.bind_eq_some_iff.mp H
                      obtain ⟨t416, A580, H⟩ := H
                      replace H : (if (t415 == (decide (t416 > 0))) = true then (if t415 = true then ((name_Count.f kj40 t414).bind fun t417 => ((name_Count.f kj40 a0).bind fun t418 => (if t417 = (wrap64 (t418 - 1)) then ((name_Under.f kj40 a0 t414).bind fun t419 => (if t419 = true then ((hearsaylaw01_wakes.f kj40).bind fun t420 => (some t420)) else (some false))) else (some false)))) else ((hearsaylaw01_wakes.f kj40).bind fun t421 => (some t421))) else (some false)) = some r := H
                      have A58 := Aside0.mk A580
                      clear A580
                      by_cases c59 : (t415 == (decide (t416 > 0))) = true
                      · rw [if_pos c59] at H
                        have c59b0 : (t415 == (decide (t416 > 0))) = true := c59
                        (try (have c59b1 : decide (t415 = (decide (t416 > 0))) = true := by simpa using c59))
                        (try (have c59b2 : (t415 == (decide (t416 > 0))) = true := by simpa using c59))
                        clear c59
                        by_cases c60 : t415 = true
                        · subst c60
                          have H1 : ((name_Count.f kj40 t414).bind fun t417 => ((name_Count.f kj40 a0).bind fun t418 => (if t417 = (wrap64 (t418 - 1)) then ((name_Under.f kj40 a0 t414).bind fun t419 => (if t419 = true then ((hearsaylaw01_wakes.f kj40).bind fun t420 => (some t420)) else (some false))) else (some false)))) = some r := by rw [if_pos rfl] at H; exact H
                          clear H
                          have H := H1
                          clear H1
                          replace H := Option.bind_eq_some_iff.mp H
                          obtain ⟨t417, A610, H⟩ := H
                          replace H : ((name_Count.f kj40 a0).bind fun t418 => (if t417 = (wrap64 (t418 - 1)) then ((name_Under.f kj40 a0 t414).bind fun t419 => (if t419 = true then ((hearsaylaw01_wakes.f kj40).bind fun t420 => (some t420)) else (some false))) else (some false))) = some r := H
                          have A61 := Aside0.mk A610
                          clear A610
                          replace H := Option.bind_eq_some_iff.mp H
                          obtain ⟨t418, A620, H⟩ := H
                          replace H : (if t417 = (wrap64 (t418 - 1)) then ((name_Under.f kj40 a0 t414).bind fun t419 => (if t419 = true then ((hearsaylaw01_wakes.f kj40).bind fun t420 => (some t420)) else (some false))) else (some false)) = some r := H
                          have A62 := Aside0.mk A620
                          clear A620
                          by_cases c63 : t417 = (wrap64 (t418 - 1))
                          · rw [if_pos c63] at H
                            have c63b0 : (t417 == (wrap64 (t418 - 1))) = true := beq_iff_eq.mpr c63
                            have c63b1 : (t417 != (wrap64 (t418 - 1))) = false := bne_eq_false_iff_eq.mpr c63
                            clear c63
                            replace H := Option.bind_eq_some_iff.mp H
                            obtain ⟨t419, A640, H⟩ := H
                            replace H : (if t419 = true then ((hearsaylaw01_wakes.f kj40).bind fun t420 => (some t420)) else (some false)) = some r := H
                            have A64 := Aside0.mk A640
                            clear A640
                            by_cases c65 : t419 = true
                            · subst c65
                              have H1 : ((hearsaylaw01_wakes.f kj40).bind fun t420 => (some t420)) = some r := by rw [if_pos rfl] at H; exact H
                              clear H
                              have H := H1
                              clear H1
                              replace H := Option.bind_eq_some_iff.mp H
                              obtain ⟨t420, A660, H⟩ := H
                              replace H : (some t420) = some r := H
                              have A66 := Aside0.mk A660
                              clear A660
                              obtain rfl := Option.some.inj H
                              go_wp2_with (first | ((with_reducible refine gate_callee (f := 35) rfl ?_); refine goesL_ (some 93) rfl rfl Try.func35 (by kernel_rfl) rfl #[.string a0] rfl (by (try simp only [List.map_toArray, List.map_cons, List.map_nil]); first | done | rfl | (simp only [List.length_drop, List.length_take]; rfl)) ?_; (with_reducible refine (name_Parent.calls kj40 a0 t414 true _ A57.out).mono ?_); rintro e w67 ⟨rfl, hb⟩; refine ⟨_, rfl, ?_⟩; have n0_ := Aside0.mk (below_step (by repeat (first | (with_reducible first | exact HB.out | apply below_alloc | apply pw_below_drewN | apply below_drew1) | exact HB.out)) hb); clear HB; have HB := n0_; clear n0_; (try clear hb); (try clear hb2); (try clear hk); (try clear hi)) | ((with_reducible refine gate_callee (f := 18) rfl ?_); refine goesL_ (some 98) rfl rfl Try.func18 (by kernel_rfl) rfl #[.string a0] rfl (by (try simp only [List.map_toArray, List.map_cons, List.map_nil]); first | done | rfl | (simp only [List.length_drop, List.length_take]; rfl)) ?_; (with_reducible refine (name_Count.calls kj40 a0 t416 _ A58.out).mono ?_); rintro e w68 ⟨rfl, hb⟩; refine ⟨_, rfl, ?_⟩; have n0_ := Aside0.mk (below_step (by repeat (first | (with_reducible first | exact HB.out | apply below_alloc | apply pw_below_drewN | apply below_drew1) | exact HB.out)) hb); clear HB; have HB := n0_; clear n0_; (try clear hb); (try clear hb2); (try clear hk); (try clear hi)) | (go_at_call 18; (with_reducible refine (name_Count.calls kj40 t414 t417 _ A61.out).mono ?_); rintro e w69 ⟨rfl, hb⟩; have n0_ := Aside0.mk (below_step (by repeat (first | (with_reducible first | exact HB.out | apply below_alloc | apply pw_below_drewN | apply below_drew1) | exact HB.out)) hb); clear HB; have HB := n0_; clear n0_; (try clear hb); (try clear hb2); (try clear hk); (try clear hi)) | (go_at_call 18; (with_reducible refine (name_Count.calls kj40 a0 t418 _ A62.out).mono ?_); rintro e w70 ⟨rfl, hb⟩; have n0_ := Aside0.mk (below_step (by repeat (first | (with_reducible first | exact HB.out | apply below_alloc | apply pw_below_drewN | apply below_drew1) | exact HB.out)) hb); clear HB; have HB := n0_; clear n0_; (try clear hb); (try clear hb2); (try clear hk); (try clear hi)) | (go_at_call 39; (with_reducible refine (name_Under.calls kj40 a0 t414 true _ A64.out).mono ?_); rintro e w71 ⟨rfl, hb⟩; have n0_ := Aside0.mk (below_step (by repeat (first | (with_reducible first | exact HB.out | apply below_alloc | apply pw_below_drewN | apply below_drew1) | exact HB.out)) hb); clear HB; have HB := n0_; clear n0_; (try clear hb); (try clear hb2); (try clear hk); (try clear hi)) | (go_at_call 19; (with_reducible refine (hearsaylaw01_wakes.calls kj40  t420 _ A66.out).mono ?_); rintro e w72 ⟨rfl, hb⟩; have n0_ := Aside0.mk (below_step (by repeat (first | (with_reducible first | exact HB.out | apply below_alloc | apply pw_below_drewN | apply below_drew1) | exact HB.out)) hb); clear HB; have HB := n0_; clear n0_; (try clear hb); (try clear hb2); (try clear hk); (try clear hi)))
                              go_ret
                              exact ⟨by first | rfl | (simp [errW_none, errW_some] <;> rfl) | (simp [*, errW_none, errW_some] <;> rfl), by repeat (first | (with_reducible first | exact HB.out | apply below_alloc | apply pw_below_drewN | apply below_drew1) | exact HB.out)⟩
                            · replace c65 := Bool.eq_false_iff.mpr c65
                              subst c65
                              have H1 : (some false) = some r := by rw [if_neg (show ¬ (false = true) by decide)] at H; exact H
                              clear H
                              have H := H1
                              clear H1
                              obtain rfl := Option.some.inj H
                              go_wp2_with (first | ((with_reducible refine gate_callee (f := 35) rfl ?_); refine goesL_ (some 93) rfl rfl Try.func35 (by kernel_rfl) rfl #[.string a0] rfl (by (try simp only [List.map_toArray, List.map_cons, List.map_nil]); first | done | rfl | (simp only [List.length_drop, List.length_take]; rfl)) ?_; (with_reducible refine (name_Parent.calls kj40 a0 t414 true _ A57.out).mono ?_); rintro e w73 ⟨rfl, hb⟩; refine ⟨_, rfl, ?_⟩; have n0_ := Aside0.mk (below_step (by repeat (first | (with_reducible first | exact HB.out | apply below_alloc | apply pw_below_drewN | apply below_drew1) | exact HB.out)) hb); clear HB; have HB := n0_; clear n0_; (try clear hb); (try clear hb2); (try clear hk); (try clear hi)) | ((with_reducible refine gate_callee (f := 18) rfl ?_); refine goesL_ (some 98) rfl rfl Try.func18 (by kernel_rfl) rfl #[.string a0] rfl (by (try simp only [List.map_toArray, List.map_cons, List.map_nil]); first | done | rfl | (simp only [List.length_drop, List.length_take]; rfl)) ?_; (with_reducible refine (name_Count.calls kj40 a0 t416 _ A58.out).mono ?_); rintro e w74 ⟨rfl, hb⟩; refine ⟨_, rfl, ?_⟩; have n0_ := Aside0.mk (below_step (by repeat (first | (with_reducible first | exact HB.out | apply below_alloc | apply pw_below_drewN | apply below_drew1) | exact HB.out)) hb); clear HB; have HB := n0_; clear n0_; (try clear hb); (try clear hb2); (try clear hk); (try clear hi)) | (go_at_call 18; (with_reducible refine (name_Count.calls kj40 t414 t417 _ A61.out).mono ?_); rintro e w75 ⟨rfl, hb⟩; have n0_ := Aside0.mk (below_step (by repeat (first | (with_reducible first | exact HB.out | apply below_alloc | apply pw_below_drewN | apply below_drew1) | exact HB.out)) hb); clear HB; have HB := n0_; clear n0_; (try clear hb); (try clear hb2); (try clear hk); (try clear hi)) | (go_at_call 18; (with_reducible refine (name_Count.calls kj40 a0 t418 _ A62.out).mono ?_); rintro e w76 ⟨rfl, hb⟩; have n0_ := Aside0.mk (below_step (by repeat (first | (with_reducible first | exact HB.out | apply below_alloc | apply pw_below_drewN | apply below_drew1) | exact HB.out)) hb); clear HB; have HB := n0_; clear n0_; (try clear hb); (try clear hb2); (try clear hk); (try clear hi)) | (go_at_call 39; (with_reducible refine (name_Under.calls kj40 a0 t414 false _ A64.out).mono ?_); rintro e w77 ⟨rfl, hb⟩; have n0_ := Aside0.mk (below_step (by repeat (first | (with_reducible first | exact HB.out | apply below_alloc | apply pw_below_drewN | apply below_drew1) | exact HB.out)) hb); clear HB; have HB := n0_; clear n0_; (try clear hb); (try clear hb2); (try clear hk); (try clear hi)))
                              go_ret
                              exact ⟨by first | rfl | (simp [errW_none, errW_some] <;> rfl) | (simp [*, errW_none, errW_some] <;> rfl), by repeat (first | (with_reducible first | exact HB.out | apply below_alloc | apply pw_below_drewN | apply below_drew1) | exact HB.out)⟩
                          · rw [if_neg c63] at H
                            have c63b0 : (t417 == (wrap64 (t418 - 1))) = false := beq_eq_false_iff_ne.mpr c63
                            have c63b1 : (t417 != (wrap64 (t418 - 1))) = true := bne_iff_ne.mpr c63
                            obtain rfl := Option.some.inj H
                            go_wp2_with (first | ((with_reducible refine gate_callee (f := 35) rfl ?_); refine goesL_ (some 93) rfl rfl Try.func35 (by kernel_rfl) rfl #[.string a0] rfl (by (try simp only [List.map_toArray, List.map_cons, List.map_nil]); first | done | rfl | (simp only [List.length_drop, List.length_take]; rfl)) ?_; (with_reducible refine (name_Parent.calls kj40 a0 t414 true _ A57.out).mono ?_); rintro e w78 ⟨rfl, hb⟩; refine ⟨_, rfl, ?_⟩; have n0_ := Aside0.mk (below_step (by repeat (first | (with_reducible first | exact HB.out | apply below_alloc | apply pw_below_drewN | apply below_drew1) | exact HB.out)) hb); clear HB; have HB := n0_; clear n0_; (try clear hb); (try clear hb2); (try clear hk); (try clear hi)) | ((with_reducible refine gate_callee (f := 18) rfl ?_); refine goesL_ (some 98) rfl rfl Try.func18 (by kernel_rfl) rfl #[.string a0] rfl (by (try simp only [List.map_toArray, List.map_cons, List.map_nil]); first | done | rfl | (simp only [List.length_drop, List.length_take]; rfl)) ?_; (with_reducible refine (name_Count.calls kj40 a0 t416 _ A58.out).mono ?_); rintro e w79 ⟨rfl, hb⟩; refine ⟨_, rfl, ?_⟩; have n0_ := Aside0.mk (below_step (by repeat (first | (with_reducible first | exact HB.out | apply below_alloc | apply pw_below_drewN | apply below_drew1) | exact HB.out)) hb); clear HB; have HB := n0_; clear n0_; (try clear hb); (try clear hb2); (try clear hk); (try clear hi)) | (go_at_call 18; (with_reducible refine (name_Count.calls kj40 t414 t417 _ A61.out).mono ?_); rintro e w80 ⟨rfl, hb⟩; have n0_ := Aside0.mk (below_step (by repeat (first | (with_reducible first | exact HB.out | apply below_alloc | apply pw_below_drewN | apply below_drew1) | exact HB.out)) hb); clear HB; have HB := n0_; clear n0_; (try clear hb); (try clear hb2); (try clear hk); (try clear hi)) | (go_at_call 18; (with_reducible refine (name_Count.calls kj40 a0 t418 _ A62.out).mono ?_); rintro e w81 ⟨rfl, hb⟩; have n0_ := Aside0.mk (below_step (by repeat (first | (with_reducible first | exact HB.out | apply below_alloc | apply pw_below_drewN | apply below_drew1) | exact HB.out)) hb); clear HB; have HB := n0_; clear n0_; (try clear hb); (try clear hb2); (try clear hk); (try clear hi)))
                            go_ret
                            exact ⟨by first | rfl | (simp [errW_none, errW_some] <;> rfl) | (simp [*, errW_none, errW_some] <;> rfl), by repeat (first | (with_reducible first | exact HB.out | apply below_alloc | apply pw_below_drewN | apply below_drew1) | exact HB.out)⟩
                        · replace c60 := Bool.eq_false_iff.mpr c60
                          subst c60
                          have H1 : ((hearsaylaw01_wakes.f kj40).bind fun t421 => (some t421)) = some r := by rw [if_neg (show ¬ (false = true) by decide)] at H; exact H
                          clear H
                          have H := H1
                          clear H1
                          replace H := Option.bind_eq_some_iff.mp H
                          obtain ⟨t421, A820, H⟩ := H
                          replace H : (some t421) = some r := H
                          have A82 := Aside0.mk A820
                          clear A820
                          obtain rfl := Option.some.inj H
                          go_wp2_with (first | ((with_reducible refine gate_callee (f := 35) rfl ?_); refine goesL_ (some 93) rfl rfl Try.func35 (by kernel_rfl) rfl #[.string a0] rfl (by (try simp only [List.map_toArray, List.map_cons, List.map_nil]); first | done | rfl | (simp only [List.length_drop, List.length_take]; rfl)) ?_; (with_reducible refine (name_Parent.calls kj40 a0 t414 false _ A57.out).mono ?_); rintro e w83 ⟨rfl, hb⟩; refine ⟨_, rfl, ?_⟩; have n0_ := Aside0.mk (below_step (by repeat (first | (with_reducible first | exact HB.out | apply below_alloc | apply pw_below_drewN | apply below_drew1) | exact HB.out)) hb); clear HB; have HB := n0_; clear n0_; (try clear hb); (try clear hb2); (try clear hk); (try clear hi)) | ((with_reducible refine gate_callee (f := 18) rfl ?_); refine goesL_ (some 98) rfl rfl Try.func18 (by kernel_rfl) rfl #[.string a0] rfl (by (try simp only [List.map_toArray, List.map_cons, List.map_nil]); first | done | rfl | (simp only [List.length_drop, List.length_take]; rfl)) ?_; (with_reducible refine (name_Count.calls kj40 a0 t416 _ A58.out).mono ?_); rintro e w84 ⟨rfl, hb⟩; refine ⟨_, rfl, ?_⟩; have n0_ := Aside0.mk (below_step (by repeat (first | (with_reducible first | exact HB.out | apply below_alloc | apply pw_below_drewN | apply below_drew1) | exact HB.out)) hb); clear HB; have HB := n0_; clear n0_; (try clear hb); (try clear hb2); (try clear hk); (try clear hi)) | (go_at_call 19; (with_reducible refine (hearsaylaw01_wakes.calls kj40  t421 _ A82.out).mono ?_); rintro e w85 ⟨rfl, hb⟩; have n0_ := Aside0.mk (below_step (by repeat (first | (with_reducible first | exact HB.out | apply below_alloc | apply pw_below_drewN | apply below_drew1) | exact HB.out)) hb); clear HB; have HB := n0_; clear n0_; (try clear hb); (try clear hb2); (try clear hk); (try clear hi)))
                          go_ret
                          exact ⟨by first | rfl | (simp [errW_none, errW_some] <;> rfl) | (simp [*, errW_none, errW_some] <;> rfl), by repeat (first | (with_reducible first | exact HB.out | apply below_alloc | apply pw_below_drewN | apply below_drew1) | exact HB.out)⟩
                      · rw [if_neg c59] at H
                        have c59b0 : (t415 == (decide (t416 > 0))) = false := by simpa using c59
                        (try (have c59b1 : decide (t415 = (decide (t416 > 0))) = false := by simpa using c59))
                        (try (have c59b2 : (t415 == (decide (t416 > 0))) = false := by simpa using c59))
                        (try (have c59b3 : ¬ (t415 = (decide (t416 > 0))) := by simpa using c59))
                        clear c59
                        obtain rfl := Option.some.inj H
                        go_wp2_with (first | ((with_reducible refine gate_callee (f := 35) rfl ?_); refine goesL_ (some 93) rfl rfl Try.func35 (by kernel_rfl) rfl #[.string a0] rfl (by (try simp only [List.map_toArray, List.map_cons, List.map_nil]); first | done | rfl | (simp only [List.length_drop, List.length_take]; rfl)) ?_; (with_reducible refine (name_Parent.calls kj40 a0 t414 t415 _ A57.out).mono ?_); rintro e w86 ⟨rfl, hb⟩; refine ⟨_, rfl, ?_⟩; have n0_ := Aside0.mk (below_step (by repeat (first | (with_reducible first | exact HB.out | apply below_alloc | apply pw_below_drewN | apply below_drew1) | exact HB.out)) hb); clear HB; have HB := n0_; clear n0_; (try clear hb); (try clear hb2); (try clear hk); (try clear hi)) | ((with_reducible refine gate_callee (f := 18) rfl ?_); refine goesL_ (some 98) rfl rfl Try.func18 (by kernel_rfl) rfl #[.string a0] rfl (by (try simp only [List.map_toArray, List.map_cons, List.map_nil]); first | done | rfl | (simp only [List.length_drop, List.length_take]; rfl)) ?_; (with_reducible refine (name_Count.calls kj40 a0 t416 _ A58.out).mono ?_); rintro e w87 ⟨rfl, hb⟩; refine ⟨_, rfl, ?_⟩; have n0_ := Aside0.mk (below_step (by repeat (first | (with_reducible first | exact HB.out | apply below_alloc | apply pw_below_drewN | apply below_drew1) | exact HB.out)) hb); clear HB; have HB := n0_; clear n0_; (try clear hb); (try clear hb2); (try clear hk); (try clear hi)))
                        go_ret
                        exact ⟨by first | rfl | (simp [errW_none, errW_some] <;> rfl) | (simp [*, errW_none, errW_some] <;> rfl), by repeat (first | (with_reducible first | exact HB.out | apply below_alloc | apply pw_below_drewN | apply below_drew1) | exact HB.out)⟩

/-- THE ONE PURE STATEMENT of hearsaylaw01_NameFamily: yours. -/
def hearsaylaw01_NameFamily.Pure : Prop := ∀ (a0 : ByteArray) (a1 : ByteArray), a0.size ≤ 140737488351232 → a1.size ≤ 140737488351232 → ∃ k, hearsaylaw01_NameFamily.f k a0 a1 = some true
theorem hearsaylaw01_NameFamily.walk (P : hearsaylaw01_NameFamily.Pure) (a0 : ByteArray) (a1 : ByteArray) (w : World) (w0 : a0.size ≤ 140737488351232) (w1 : a1.size ≤ 140737488351232) :
    Calls Try.prog 11 #[.string a0, .string a1] w fun e w' => e = .returned (.bool true) ∧ Below w.heap.size w w' := by
  obtain ⟨k, h⟩ := P a0 a1 w0 w1
  refine (hearsaylaw01_NameFamily.calls k a0 a1 true w h).mono ?_
  rintro e w' ⟨rfl, hd⟩
  exact ⟨rfl, hd⟩

end Go.Proofs.Ytplnknhlgdoliaa.Print
end
section
-- Written by a program of this session, built on the kit's print (it is not the print's own text).
namespace Go.Proofs.Ytplnknhlgdoliaa.Print
open Go.RowKit Go.Proofs.YtplnknhlgdoliaaW.PrintWords Go.Proofs.YtplnknhlgdoliaaW.PrintLast Go.Proofs.YtplnknhlgdoliaaW.PrintMore
attribute [local go_sem] max2_int min2_int max_two min_two max_three min_three max_four min_four   -- for this text's walks alone
set_option linter.unusedVariables false
set_option linter.unusedSimpArgs false

/-! ### name_low: function 44 -/
def name_low.f (a0 : Int) : Option (Int) := if 65 ≤ a0 then (if a0 ≤ 90 then (some (Go.bits .or .u8 a0 32)) else (some a0)) else (some a0)
set_option maxHeartbeats 8000000 in
set_option maxRecDepth 100000 in
theorem name_low.calls (a0 : Int) (r : Int) (w : World) (h : name_low.f a0 = some r) :
    Calls Try.prog 44 #[.int .u8 a0] w fun e w' => e = .returned (.int .u8 r) ∧ Drawn0 w w' := by
  have H : (if 65 ≤ a0 then (if a0 ≤ 90 then (some (Go.bits .or .u8 a0 32)) else (some a0)) else (some a0)) = some r := h
  clear h
  by_cases c2 : 65 ≤ a0
  · rw [if_pos c2] at H
    have c2b0 : decide (65 ≤ a0) = true := decide_eq_true c2
    clear c2
    by_cases c3 : a0 ≤ 90
    · rw [if_pos c3] at H
      have c3b0 : decide (a0 ≤ 90) = true := decide_eq_true c3
      clear c3
      obtain rfl := Option.some.inj H
      go_enter Try.func44, Try.ntmps44
      go_wp2
      go_ret
      exact ⟨by first | rfl | (simp; done) | (simp [*]; done), by repeat (first | exact Drawn0.refl _ | apply Drawn0.step)⟩
    · rw [if_neg c3] at H
      have c3b0 : decide (a0 ≤ 90) = false := decide_eq_false c3
      clear c3
      obtain rfl := Option.some.inj H
      go_enter Try.func44, Try.ntmps44
      go_wp2
      go_ret
      exact ⟨by first | rfl | (simp; done) | (simp [*]; done), by repeat (first | exact Drawn0.refl _ | apply Drawn0.step)⟩
  · rw [if_neg c2] at H
    have c2b0 : decide (65 ≤ a0) = false := decide_eq_false c2
    clear c2
    obtain rfl := Option.some.inj H
    go_enter Try.func44, Try.ntmps44
    go_wp2
    go_ret
    exact ⟨by first | rfl | (simp; done) | (simp [*]; done), by repeat (first | exact Drawn0.refl _ | apply Drawn0.step)⟩

end Go.Proofs.Ytplnknhlgdoliaa.Print
end
section
/- name.Cmp, walked: the order of names. -/
namespace Go.Proofs.Ytplnknhlgdoliaa.Print
set_option linter.unusedVariables false
set_option linter.unusedSimpArgs false
open Go.RowKit Go.Proofs.YtplnknhlgdoliaaW.PrintWords Go.Proofs.YtplnknhlgdoliaaW.PrintLast Go.Proofs.YtplnknhlgdoliaaW.PrintMore
theorem name_low_f (c : Int) : name_low.f c = some (low1 c) := by
  unfold name_low.f low1
  by_cases h0 : 65 ≤ c
  · by_cases h1 : c ≤ 90
    · rw [if_pos h0, if_pos h1, if_pos ⟨h0, h1⟩, low_or c h0 h1]
    · rw [if_pos h0, if_neg h1, if_neg (by omega)]
  · rw [if_neg h0, if_neg (by omega)]
/-- two rows of bytes in small letters, one byte behind the other; then their lengths -/
def diffB : List Int → List Int → Int
  | x :: xs, y :: ys => if low1 x = low1 y then diffB xs ys else low1 x - low1 y
  | xs, ys => (xs.length : Int) - (ys.length : Int)
/-- the same of two lists of labels, from their ends on; here each list is turned round -/
def diffL : List ByteArray → List ByteArray → Int
  | x :: xs, y :: ys => if diffB (bytesOf x) (bytesOf y) = 0 then diffL xs ys else diffB (bytesOf x) (bytesOf y)
  | xs, ys => (xs.length : Int) - (ys.length : Int)
def clamp (c : Int) : Int := max (-1) (min 1 c)
def cmpP (a b : ByteArray) : Int :=
  match dec a, dec b with
  | none, none => Lib.compareBytes a.data.toList b.data.toList
  | none, some _ => 1
  | some _, none => -1
  | some L, some M => clamp (diffL L.reverse M.reverse)
def name_Cmp.f (a b : ByteArray) : Option Int := some (cmpP a b)
theorem low1_range {c : Int} (h0 : 0 ≤ c) (h1 : c < 256) : 0 ≤ low1 c ∧ low1 c < 256 := by unfold low1; split <;> omega
theorem diffB_at {x y : ByteArray} {k : Nat} (hx : k < x.size) (hy : k < y.size) : diffB ((bytesOf x).drop k) ((bytesOf y).drop k) = if low1 (bt x (k : Int)) = low1 (bt y (k : Int)) then diffB ((bytesOf x).drop (k + 1)) ((bytesOf y).drop (k + 1)) else low1 (bt x (k : Int)) - low1 (bt y (k : Int)) := by
  rw [bo_drop x k hx, bo_drop y k hy, diffB]
theorem diffB_end {x y : ByteArray} {k : Nat} (h : ¬ (k < x.size ∧ k < y.size)) (hk : k ≤ x.size ∧ k ≤ y.size) : diffB ((bytesOf x).drop k) ((bytesOf y).drop k) = (x.size : Int) - (y.size : Int) := by
  have e1 : ((bytesOf x).drop k).length = x.size - k := by rw [List.length_drop, bytesOf_length]
  have e2 : ((bytesOf y).drop k).length = y.size - k := by rw [List.length_drop, bytesOf_length]
  cases h1 : (bytesOf x).drop k with
  | nil => rw [h1] at e1; cases h2 : (bytesOf y).drop k with
    | nil => rw [h2] at e2; simp [diffB] at e1 e2 ⊢; omega
    | cons d r => rw [h2] at e2; simp [diffB] at e1 e2 ⊢; omega
  | cons c q => rw [h1] at e1; cases h2 : (bytesOf y).drop k with
    | nil => rw [h2] at e2; simp [diffB] at e1 e2 ⊢; omega
    | cons d r => rw [h2] at e2; simp at e1 e2; omega
theorem low_quiet (x lx : Int) (w2 : World) (ne n : Nat) (h : name_low.f x = some lx) : Calls Try.prog 44 #[.int .u8 x] (w2.drewN (ne + n)) fun e w'' => e = .returned (.int .u8 lx) ∧ ∃ m, w'' = w2.drewN (ne + m) := by
  refine (name_low.calls x lx _ h).mono (fun e w'' hh => ⟨hh.1, ?_⟩)
  obtain ⟨m, hm⟩ := hh.2.out
  exact ⟨n + m, by rw [hm, World.drewN_drewN, Nat.add_assoc]⟩
theorem take_rev {L : List ByteArray} {a : Nat} {s : ByteArray} (h : L[a]? = some s) : (L.take (a + 1)).reverse = s :: (L.take a).reverse := by rw [take_succ' h, List.reverse_append]; rfl
theorem take_split {L : List ByteArray} {a : Nat} {s : ByteArray} (h : L[a]? = some s) : L = L.take a ++ s :: L.drop (a + 1) := by
  obtain ⟨hl, rfl⟩ := List.getElem?_eq_some_iff.1 h
  rw [List.getElem_cons_drop hl, List.take_append_drop]
/-- what the code asks at label number a -/
theorem cmp_label {n : ByteArray} {L : List ByteArray} (h : dec n = some L) {a : Nat} {s : ByteArray} (hs : L[a]? = some s) :
    ∃ p : Nat, rd (offs 0 L) (a : Int) = (p : Int) ∧ p < n.size ∧ bt n (p : Int) = s.size ∧ p + 1 + s.size ≤ n.size ∧ n.extract (p + 1) (p + 1 + s.size) = s ∧ s.size ≤ 63 ∧ n.size ≤ 255 := by
  have e := take_split hs
  have hd := (dec_some h).2.2
  have hn := (dec_some h).1
  have hbs : badLab s = false := by
    rw [List.any_eq_false] at hd; simpa using hd s (List.mem_of_getElem? hs)
  have ha : (L.take a).length = a := by have := (List.getElem?_eq_some_iff.1 hs).1; simp; omega
  rw [e] at h
  obtain ⟨h1, h2, h3⟩ := label_at h
  have ho := offs_at (L.take a) 0 s (L.drop (a + 1))
  rw [← e, ha, Nat.zero_add] at ho
  refine ⟨(glue (L.take a)).length, by simp [rd, List.getD_eq_getElem?_getD, ho], by omega, h1, by omega, h3, (bad_false hbs).2, hn⟩
def CmpInv (L M : List ByteArray) (a b : Nat) : Prop := a ≤ L.length ∧ b ≤ M.length ∧ a + M.length = b + L.length ∧ diffL (L.take a).reverse (M.take b).reverse = diffL L.reverse M.reverse
theorem cmp0 (L M : List ByteArray) : CmpInv L M L.length M.length := ⟨Nat.le_refl _, Nat.le_refl _, by omega, by rw [List.take_length, List.take_length]⟩
theorem cmp_step {L M : List ByteArray} {a b : Nat} {s u : ByteArray} (h : CmpInv L M (a + 1) (b + 1)) (hs : L[a]? = some s) (hu : M[b]? = some u) (h0 : diffB (bytesOf s) (bytesOf u) = 0) : CmpInv L M a b := by
  obtain ⟨h1, h2, h3, h4⟩ := h
  refine ⟨by omega, by omega, by omega, ?_⟩
  rw [← h4, take_rev hs, take_rev hu, diffL, if_pos h0]
theorem cmp_out {L M : List ByteArray} {a b : Nat} {s u : ByteArray} (h : CmpInv L M (a + 1) (b + 1)) (hs : L[a]? = some s) (hu : M[b]? = some u) (h0 : diffB (bytesOf s) (bytesOf u) ≠ 0) : diffL L.reverse M.reverse = diffB (bytesOf s) (bytesOf u) := by
  rw [← h.2.2.2, take_rev hs, take_rev hu, diffL, if_neg h0]
theorem cmp_end {L M : List ByteArray} {a b : Nat} (h : CmpInv L M a b) (h0 : a = 0 ∨ b = 0) : diffL L.reverse M.reverse = (L.length : Int) - (M.length : Int) := by
  obtain ⟨h1, h2, h3, h4⟩ := h
  have e1 : (L.take a).reverse.length = a := by simp; omega
  have e2 : (M.take b).reverse.length = b := by simp; omega
  rw [← h4]
  rcases h0 with rfl | rfl
  · rw [List.take_zero, List.reverse_nil]
    unfold diffL
    rw [e2]
    simp; omega
  · rw [List.take_zero (l := M), List.reverse_nil]
    cases h5 : (L.take a).reverse with
    | nil => rw [h5] at e1; simp [diffL] at e1 ⊢; omega
    | cons x xs => rw [h5] at e1; simp [diffL] at e1 ⊢; omega
set_option maxHeartbeats 4000000 in
set_option maxRecDepth 100000 in
theorem name_Cmp.calls (a0 a1 : ByteArray) (r : Int) (w : World) (h : name_Cmp.f a0 a1 = some r) :
    Calls Try.prog 41 #[.string a0, .string a1] w fun e w' => e = .returned (.int .i64 r) ∧ Below w.heap.size w w' := by
  unfold name_Cmp.f cmpP at h
  simp only [Option.some.injEq] at h
  obtain ⟨la, hEa, hLa⟩ := starts_f a0
  obtain ⟨lb, hEb, hLb⟩ := starts_f a1
  obtain ⟨ka, hka⟩ := hEa.rounds
  obtain ⟨kb, hkb⟩ := hEb.rounds
  have HB := Aside0.mk (Below.refl w.heap.size w)
  cases hda : dec a0 with
  | none =>
    rw [hda] at h hka
    have HKA : Aside0 (name_starts.f ka a0 = some (la, false)) := ⟨hka⟩
    cases hdb : dec a1 with
    | none =>
      rw [hdb] at h hkb
      have HKB : Aside0 (name_starts.f kb a1 = some (lb, false)) := ⟨hkb⟩
      simp only [] at h
      subst h
      clear hda hdb hka hkb hLa hLb hEa hEb
      go_enter Try.func41, Try.ntmps41
      go_wp2; go_step3
      go_wp2_with (first | ((with_reducible refine gate_callee (f := 43) rfl ?_); refine goesL_ (some 17) rfl rfl Try.func43 (by kernel_rfl) rfl #[.string a0] rfl (by (try simp only [List.map_toArray, List.map_cons, List.map_nil]); first | done | rfl) ?_; (with_reducible refine (name_starts.calls ka a0 la false _ HKA.out).mono ?_); rintro e w1 ⟨v1, rfl, ho1, hb1⟩; refine ⟨_, rfl, ?_⟩; obtain ⟨A_1, c_1, rfl, hle1, hC1⟩ := Kd.R_reads ho1; have HB1 := Aside0.mk (HB.out.trans (below_to hb1 HB.out.size)); have HC1 := Aside0.mk hC1; have HR1 := Aside0.mk ho1; clear ho1 hb1 hC1 hle1) | ((with_reducible refine gate_callee (f := 43) rfl ?_); refine goesL_ (some 22) rfl rfl Try.func43 (by kernel_rfl) rfl #[.string a1] rfl (by (try simp only [List.map_toArray, List.map_cons, List.map_nil]); first | done | rfl) ?_; (with_reducible refine (name_starts.calls kb a1 lb false _ HKB.out).mono ?_); rintro e w2 ⟨v2, rfl, ho2, hb2⟩; refine ⟨_, rfl, ?_⟩; obtain ⟨A_2, c_2, rfl, hle2, hC2⟩ := Kd.R_reads ho2; have HC1 := Aside0.mk (Kd.C_below HC1.out hb2); have HB2 := Aside0.mk (HB1.out.trans (below_to hb2 HB1.out.size)); have HC2 := Aside0.mk hC2; have HR2 := Aside0.mk ho2; clear ho2 hb2 hC2 hle2) | ((with_reducible refine gate_callee (f := 59) rfl ?_); refine goesL_ (some 34) rfl rfl Try.func59 (by kernel_rfl) rfl #[.string a0, .string a1] rfl (by (try simp only [List.map_toArray, List.map_cons, List.map_nil]); first | done | rfl) ?_; (with_reducible refine (Try.strings_Compare a0 a1 _).mono ?_); rintro e w3 ⟨rfl, rfl⟩; refine ⟨_, rfl, ?_⟩))
      try rw [Exit.noGoto_ret]
      go_ret
      exact ⟨rfl, HB2.out⟩
    | some M =>
      rw [hdb] at h hkb
      have HKB : Aside0 (name_starts.f kb a1 = some (lb, true)) := ⟨hkb⟩
      simp only [] at h
      subst h
      clear hda hdb hka hkb hLa hLb hEa hEb
      go_enter Try.func41, Try.ntmps41
      go_wp2; go_step3
      go_wp2_with (first | ((with_reducible refine gate_callee (f := 43) rfl ?_); refine goesL_ (some 17) rfl rfl Try.func43 (by kernel_rfl) rfl #[.string a0] rfl (by (try simp only [List.map_toArray, List.map_cons, List.map_nil]); first | done | rfl) ?_; (with_reducible refine (name_starts.calls ka a0 la false _ HKA.out).mono ?_); rintro e w1 ⟨v1, rfl, ho1, hb1⟩; refine ⟨_, rfl, ?_⟩; obtain ⟨A_1, c_1, rfl, hle1, hC1⟩ := Kd.R_reads ho1; have HB1 := Aside0.mk (HB.out.trans (below_to hb1 HB.out.size)); have HC1 := Aside0.mk hC1; have HR1 := Aside0.mk ho1; clear ho1 hb1 hC1 hle1) | ((with_reducible refine gate_callee (f := 43) rfl ?_); refine goesL_ (some 22) rfl rfl Try.func43 (by kernel_rfl) rfl #[.string a1] rfl (by (try simp only [List.map_toArray, List.map_cons, List.map_nil]); first | done | rfl) ?_; (with_reducible refine (name_starts.calls kb a1 lb true _ HKB.out).mono ?_); rintro e w2 ⟨v2, rfl, ho2, hb2⟩; refine ⟨_, rfl, ?_⟩; obtain ⟨A_2, c_2, rfl, hle2, hC2⟩ := Kd.R_reads ho2; have HC1 := Aside0.mk (Kd.C_below HC1.out hb2); have HB2 := Aside0.mk (HB1.out.trans (below_to hb2 HB1.out.size)); have HC2 := Aside0.mk hC2; have HR2 := Aside0.mk ho2; clear ho2 hb2 hC2 hle2))
      try rw [Exit.noGoto_ret]
      go_ret
      exact ⟨rfl, HB2.out⟩
  | some L =>
    rw [hda] at h hka
    have HKA : Aside0 (name_starts.f ka a0 = some (la, true)) := ⟨hka⟩
    cases hdb : dec a1 with
    | none =>
      rw [hdb] at h hkb
      have HKB : Aside0 (name_starts.f kb a1 = some (lb, false)) := ⟨hkb⟩
      simp only [] at h
      subst h
      clear hda hdb hka hkb hLa hLb hEa hEb
      go_enter Try.func41, Try.ntmps41
      go_wp2; go_step3
      go_wp2_with (first | ((with_reducible refine gate_callee (f := 43) rfl ?_); refine goesL_ (some 17) rfl rfl Try.func43 (by kernel_rfl) rfl #[.string a0] rfl (by (try simp only [List.map_toArray, List.map_cons, List.map_nil]); first | done | rfl) ?_; (with_reducible refine (name_starts.calls ka a0 la true _ HKA.out).mono ?_); rintro e w1 ⟨v1, rfl, ho1, hb1⟩; refine ⟨_, rfl, ?_⟩; obtain ⟨A_1, c_1, rfl, hle1, hC1⟩ := Kd.R_reads ho1; have HB1 := Aside0.mk (HB.out.trans (below_to hb1 HB.out.size)); have HC1 := Aside0.mk hC1; have HR1 := Aside0.mk ho1; clear ho1 hb1 hC1 hle1) | ((with_reducible refine gate_callee (f := 43) rfl ?_); refine goesL_ (some 22) rfl rfl Try.func43 (by kernel_rfl) rfl #[.string a1] rfl (by (try simp only [List.map_toArray, List.map_cons, List.map_nil]); first | done | rfl) ?_; (with_reducible refine (name_starts.calls kb a1 lb false _ HKB.out).mono ?_); rintro e w2 ⟨v2, rfl, ho2, hb2⟩; refine ⟨_, rfl, ?_⟩; obtain ⟨A_2, c_2, rfl, hle2, hC2⟩ := Kd.R_reads ho2; have HC1 := Aside0.mk (Kd.C_below HC1.out hb2); have HB2 := Aside0.mk (HB1.out.trans (below_to hb2 HB1.out.size)); have HC2 := Aside0.mk hC2; have HR2 := Aside0.mk ho2; clear ho2 hb2 hC2 hle2))
      try rw [Exit.noGoto_ret]
      go_ret
      exact ⟨rfl, HB2.out⟩
    | some M =>
      rw [hdb] at h hkb
      have HKB : Aside0 (name_starts.f kb a1 = some (lb, true)) := ⟨hkb⟩
      simp only [] at h
      have hll : la.length = L.length := by rw [hLa L hda, offs_length]
      have hlm : lb.length = M.length := by rw [hLb M hdb, offs_length]
      have hl127 := labels_length hda
      have hm127 := labels_length hdb
      have HLA := Aside0.mk (hLa L hda)
      have HLB := Aside0.mk (hLb M hdb)
      have HDA := Aside0.mk hda
      have HDB := Aside0.mk hdb
      have HH := Aside0.mk h
      have HV0 : Aside0 (CmpInv L M la.length lb.length) := ⟨by rw [hll, hlm]; exact cmp0 L M⟩
      have hla7 : la.length ≤ 127 := by omega
      have hlb7 : lb.length ≤ 127 := by omega
      have HLL := Aside0.mk hll
      have HLM := Aside0.mk hlm
      clear h hda hdb hka hkb hLa hLb hEa hEb hll hlm
      go_enter Try.func41, Try.ntmps41
      go_wp2; go_step3
      go_wp2_with (first | ((with_reducible refine gate_callee (f := 43) rfl ?_); refine goesL_ (some 17) rfl rfl Try.func43 (by kernel_rfl) rfl #[.string a0] rfl (by (try simp only [List.map_toArray, List.map_cons, List.map_nil]); first | done | rfl) ?_; (with_reducible refine (name_starts.calls ka a0 la true _ HKA.out).mono ?_); rintro e w1 ⟨v1, rfl, ho1, hb1⟩; refine ⟨_, rfl, ?_⟩; obtain ⟨A_1, c_1, rfl, hle1, hC1⟩ := Kd.R_reads ho1; have HB1 := Aside0.mk (HB.out.trans (below_to hb1 HB.out.size)); have HC1 := Aside0.mk hC1; have HR1 := Aside0.mk ho1; clear ho1 hb1 hC1 hle1) | ((with_reducible refine gate_callee (f := 43) rfl ?_); refine goesL_ (some 22) rfl rfl Try.func43 (by kernel_rfl) rfl #[.string a1] rfl (by (try simp only [List.map_toArray, List.map_cons, List.map_nil]); first | done | rfl) ?_; (with_reducible refine (name_starts.calls kb a1 lb true _ HKB.out).mono ?_); rintro e w2 ⟨v2, rfl, ho2, hb2⟩; refine ⟨_, rfl, ?_⟩; obtain ⟨A_2, c_2, rfl, hle2, hC2⟩ := Kd.R_reads ho2; have HC1 := Aside0.mk (Kd.C_below HC1.out hb2); have HB2 := Aside0.mk (HB1.out.trans (below_to hb2 HB1.out.size)); have HC2 := Aside0.mk hC2; have HR2 := Aside0.mk ho2; clear ho2 hb2 hC2 hle2))
      go_step3
      go_wp2
      obtain ⟨wx, hwx⟩ : ∃ x, x = w2 := ⟨_, rfl⟩
      go_loopg [9, 10, 11] la.length (fun g s9 s10 s11 wr => ∃ (a b : Nat) (i j : Int), s9 = .int .i64 0 ∧ s10 = .int .i64 i ∧ s11 = .int .i64 j ∧ i = (a : Int) - 1 ∧ j = (b : Int) - 1 ∧ g = a ∧ Aside0 (CmpInv L M a b) ∧ ∃ nd : Nat, wr = w2.drewN nd)
      case atStart => exact ⟨la.length, lb.length, _, _, rfl, rfl, rfl, rfl, rfl, rfl, HV0, ⟨0, rfl⟩⟩
      case round =>
        obtain ⟨a, b, i, j, rfl, rfl, rfl, hi, hj, hga, HV, nd, rfl⟩ := hrel
        have hab : a ≤ 127 ∧ b ≤ 127 := by have := HV.out.1; have := HV.out.2.1; omega
        by_cases hz : a = 0 ∨ b = 0
        · have hh := HH.out
          rw [cmp_end HV.out hz, ← HLL.out, ← HLM.out] at hh
          have HH2 := Aside0.mk hh
          clear hh
          have hi0 : i < 0 ∨ (0 ≤ i ∧ j < 0) := by omega
          have hla : (-9223372036854775808 : Int) ≤ (la.length : Int) - (lb.length : Int) ∧ (la.length : Int) - (lb.length : Int) ≤ 9223372036854775807 := by omega
          rcases hi0 with hi0 | ⟨hi0, hj0⟩
          · have hd : decide (0 ≤ i) = false := decide_eq_false (by omega)
            go_wp2
            try rw [Exit.noGoto_ret]
            go_ret
            exact ⟨by rw [← HH2.out]; rfl, pw_below_drewN HB2.out _⟩
          · have hd : decide (0 ≤ i) = true := decide_eq_true hi0
            have hdj : decide (0 ≤ j) = false := decide_eq_false (by omega)
            go_wp2
            try rw [Exit.noGoto_ret]
            go_ret
            exact ⟨by rw [← HH2.out]; rfl, pw_below_drewN HB2.out _⟩
        · obtain ⟨a, rfl⟩ : ∃ a', a = a' + 1 := ⟨a - 1, by omega⟩
          obtain ⟨b, rfl⟩ : ∃ b', b = b' + 1 := ⟨b - 1, by omega⟩
          subst hga
          have hi' : i = (a : Int) := by omega
          have hj' : j = (b : Int) := by omega
          subst hi'; subst hj'
          have ha1 : a < L.length := by have := HV.out.1; omega
          have hb1 : b < M.length := by have := HV.out.2.1; omega
          obtain ⟨s, hs⟩ : ∃ s, L[a]? = some s := ⟨_, List.getElem?_eq_getElem ha1⟩
          obtain ⟨u, hu⟩ : ∃ u, M[b]? = some u := ⟨_, List.getElem?_eq_getElem hb1⟩
          obtain ⟨p, hp1, hp2, hp3, hp4, hp5, hp6, hp7⟩ := cmp_label HDA.out hs
          obtain ⟨q, hq1, hq2, hq3, hq4, hq5, hq6, hq7⟩ := cmp_label HDB.out hu
          rw [← HLA.out] at hp1
          rw [← HLB.out] at hq1
          obtain ⟨ada, ea, hca⟩ := Kd.at_int HC1.out (a : Int) (by omega) (by have := HLL.out; omega)
          obtain ⟨adb, eb, hcb⟩ := Kd.at_int HC2.out (b : Int) (by omega) (by have := HLM.out; omega)
          rw [hp1] at hca
          rw [hq1] at hcb
          simp only [Int.toNat_natCast] at hca hcb
          cases ea
          cases eb
          have hxp := bt_nat a0 p hp2
          have hxq := bt_nat a1 q hq2
          rw [hp3] at hxp
          rw [hq3] at hxq
          have HS := Aside0.mk hs
          have HU := Aside0.mk hu
          have h0a : (0 : Int) ≤ (a : Int) := by omega
          have h0b : (0 : Int) ≤ (b : Int) := by omega
          have h1a : (a : Int) < (la.length : Int) := by have := HLL.out; omega
          have h1b : (b : Int) < (lb.length : Int) := by have := HLM.out; omega
          have w1p : (0 : Int) ≤ (p : Int) + 1 := by omega
          have w2p : (p : Int) + 1 ≤ (p : Int) + 1 + (s.size : Int) := by omega
          have w3p : (p : Int) + 1 + (s.size : Int) ≤ (a0.size : Int) := by omega
          have w1q : (0 : Int) ≤ (q : Int) + 1 := by omega
          have w2q : (q : Int) + 1 ≤ (q : Int) + 1 + (u.size : Int) := by omega
          have w3q : (q : Int) + 1 + (u.size : Int) ≤ (a1.size : Int) := by omega
          have hep : a0.extract ((p : Int) + 1).toNat ((p : Int) + 1 + (s.size : Int)).toNat = s := by rw [show ((p : Int) + 1).toNat = p + 1 by omega, show ((p : Int) + 1 + (s.size : Int)).toNat = p + 1 + s.size by omega]; exact hp5
          have heq : a1.extract ((q : Int) + 1).toNat ((q : Int) + 1 + (u.size : Int)).toNat = u := by rw [show ((q : Int) + 1).toNat = q + 1 by omega, show ((q : Int) + 1 + (u.size : Int)).toNat = q + 1 + u.size by omega]; exact hq5
          have HE1 := Aside0.mk hp5
          have HE2 := Aside0.mk hq5
          clear hp1 hq1 hs hu hz hi hj hp3 hq3 ha1 hb1
          go_wp2
          go_quiet (fail)
          rw [hp5, hq5]
          clear hep heq hp5 hq5 w1p w2p w3p w1q w2q w3q hca hcb
          have hss : s.size ≤ 63 ∧ u.size ≤ 63 := ⟨hp6, hq6⟩
          go_wp2
          obtain ⟨n0, hn0⟩ : ∃ n0, nd + nq = n0 := ⟨_, rfl⟩
          rw [hn0]
          go_loopg [9, 102] s.size (fun g2 s9 s102 wy => ∃ k : Nat, s9 = .int .i64 0 ∧ s102 = .int .i64 (k : Int) ∧ k ≤ s.size ∧ k ≤ u.size ∧ k + g2 = s.size ∧ Aside0 (diffB ((bytesOf s).drop k) ((bytesOf u).drop k) = diffB (bytesOf s) (bytesOf u)) ∧ ∃ ne : Nat, wy = w2.drewN ne)
          case atStart => exact ⟨0, rfl, rfl, Nat.zero_le _, Nat.zero_le _, by omega, ⟨rfl⟩, ⟨_, rfl⟩⟩
          case round =>
            obtain ⟨k, rfl, rfl, hk1, hk2, hkg, HD, ne, rfl⟩ := hrel
            by_cases hk : k < s.size ∧ k < u.size
            · obtain ⟨hks, hku⟩ := hk
              obtain ⟨g3, rfl⟩ : ∃ g3, gk = g3 + 1 := ⟨gk - 1, by omega⟩
              have hd := HD.out
              rw [diffB_at hks hku] at hd
              have hmin : decide ((k : Int) < min (s.size : Int) (u.size : Int)) = true := decide_eq_true (by omega)
              have hxs := bt_nat s k hks
              have hxu := bt_nat u k hku
              have hrs := bt_range s (k : Int)
              have hru := bt_range u (k : Int)
              obtain ⟨x, hx⟩ : ∃ x, bt s (k : Int) = x := ⟨_, rfl⟩
              obtain ⟨y, hy⟩ : ∃ y, bt u (k : Int) = y := ⟨_, rfl⟩
              rw [hx] at hd hxs hrs
              rw [hy] at hd hxu hru
              have hlx := low1_range (c := x) (by omega) (by omega)
              have hly := low1_range (c := y) (by omega) (by omega)
              have cx := name_low_f x
              have cy := name_low_f y
              obtain ⟨lx, hlx1⟩ : ∃ l, low1 x = l := ⟨_, rfl⟩
              obtain ⟨ly, hly1⟩ : ∃ l, low1 y = l := ⟨_, rfl⟩
              rw [hlx1] at hd hlx cx
              rw [hly1] at hd hly cy
              have CX := Aside0.mk cx
              have CY := Aside0.mk cy
              clear hx hy hlx1 hly1 cx cy
              by_cases he : lx = ly
              · rw [if_pos he] at hd
                have HD2 := Aside0.mk hd
                have hne : (lx - ly != 0) = false := by rw [he]; simp
                have hne' : lx - ly = 0 := by omega
                clear he hd
                go_wp2
                go_quiet (first | (go_at_call 44; with_reducible exact low_quiet x lx w2 _ _ CX.out) | (go_at_call 44; with_reducible exact low_quiet y ly w2 _ _ CY.out))
                go_wp2
                go_roundg g3
                case measure => omega
                case rel => exact ⟨k + 1, by first | rfl | (rw [hne']; done), by go_num, by omega, by omega, by omega, HD2, ⟨_, rfl⟩⟩
              · rw [if_neg he] at hd
                have hne : (lx - ly != 0) = true := bne_iff_ne.2 (by omega)
                have hne2 : (lx - ly == 0) = false := beq_eq_false_iff_ne.2 (by omega)
                have hout := cmp_out HV.out HS.out HU.out (by rw [← hd]; omega)
                rw [← hd] at hout
                have hh := HH.out
                rw [hout] at hh
                have HH2 := Aside0.mk hh
                clear he hd hout hh
                go_wp2
                go_quiet (first | (go_at_call 44; with_reducible exact low_quiet x lx w2 _ _ CX.out) | (go_at_call 44; with_reducible exact low_quiet y ly w2 _ _ CY.out))
                go_wp2
                try rw [Exit.noGoto_ret]
                go_ret
                exact ⟨by rw [← HH2.out]; rfl, by repeat (first | exact HB2.out | apply pw_below_drewN)⟩
            · have hd := HD.out
              rw [diffB_end hk ⟨hk1, hk2⟩] at hd
              have hmin : decide ((k : Int) < min (s.size : Int) (u.size : Int)) = false := decide_eq_false (by omega)
              by_cases he : s.size = u.size
              · have hne : ((s.size : Int) - (u.size : Int) != 0) = false := by rw [he]; simp
                have hne' : (s.size : Int) - (u.size : Int) = 0 := by omega
                have HV2 := Aside0.mk (cmp_step HV.out HS.out HU.out (by rw [← hd]; omega))
                clear he hd
                go_wp2
                go_roundg a
                case measure => omega
                case rel => exact ⟨a, b, _, _, by first | rfl | (rw [hne']; done), by go_num, by go_num, rfl, rfl, rfl, HV2, ⟨_, rfl⟩⟩
              · have hne : ((s.size : Int) - (u.size : Int) != 0) = true := bne_iff_ne.2 (by omega)
                have hne2 : ((s.size : Int) - (u.size : Int) == 0) = false := beq_eq_false_iff_ne.2 (by omega)
                have hout := cmp_out HV.out HS.out HU.out (by rw [← hd]; omega)
                rw [← hd] at hout
                have hh := HH.out
                rw [hout] at hh
                have HH2 := Aside0.mk hh
                clear he hd hout hh
                go_wp2
                try rw [Exit.noGoto_ret]
                go_ret
                exact ⟨by rw [← HH2.out]; rfl, by repeat (first | exact HB2.out | apply pw_below_drewN)⟩
end Go.Proofs.Ytplnknhlgdoliaa.Print
end
section
-- Written by a program of this session, built on the kit's print (it is not the print's own text).
namespace Go.Proofs.Ytplnknhlgdoliaa.Print
open Go.RowKit Go.Proofs.YtplnknhlgdoliaaW.PrintWords Go.Proofs.YtplnknhlgdoliaaW.PrintLast Go.Proofs.YtplnknhlgdoliaaW.PrintMore
attribute [local go_sem] max2_int min2_int max_two min_two max_three min_three max_four min_four   -- for this text's walks alone
set_option linter.unusedVariables false
set_option linter.unusedSimpArgs false

/-! ### hearsayref01_text: function 60 -/
mutual
def hearsayref01_text.l0 : Nat → ByteArray → ByteArray → Int → Option (Int)
  | 0, _, _, _ => none
  | k + 1, x0, x1, x5 => if x5 < (x0.size : Int) then (hearsayref01_text.j1 k x0 x1 x5 (decide (x5 < (x1.size : Int)))) else (hearsayref01_text.j1 k x0 x1 x5 false)
def hearsayref01_text.j1 : Nat → ByteArray → ByteArray → Int → Bool → Option (Int)
  | 0, _, _, _, _ => none
  | k + 1, x0, x1, x5, x15 => if x15 = true then (if 0 ≤ x5 then (if x5 < (x0.size : Int) then (if x5 < (x1.size : Int) then (if (bt x0 x5) = (bt x1 x5) then (hearsayref01_text.l0 k x0 x1 (wrap64 (x5 + 1))) else (if (bt x0 x5) < (bt x1 x5) then (some (-1)) else (some 1))) else (none)) else (none)) else (none)) else (if (x0.size : Int) = (x1.size : Int) then (some 0) else (if (x0.size : Int) < (x1.size : Int) then (some (-1)) else (some 1)))
end
def hearsayref01_text.f (k : Nat) (a0 : ByteArray) (a1 : ByteArray) : Option (Int) := hearsayref01_text.l0 k a0 a1 0
theorem hearsayref01_text.mono_l : ∀ k, (∀ y0 y1 y2, LeO (hearsayref01_text.l0 k y0 y1 y2) (hearsayref01_text.l0 (k + 1) y0 y1 y2)) ∧ (∀ y0 y1 y2 y3, LeO (hearsayref01_text.j1 k y0 y1 y2 y3) (hearsayref01_text.j1 (k + 1) y0 y1 y2 y3))
  | 0 => ⟨fun _ _ _ r h => by simp [hearsayref01_text.l0] at h, fun _ _ _ _ r h => by simp [hearsayref01_text.j1] at h⟩
  | k + 1 => by
    obtain ⟨ih0, ih1⟩ := hearsayref01_text.mono_l k
    refine ⟨?_, ?_⟩
    · intro y0 y1 y2
      unfold hearsayref01_text.l0
      repeat' first
      | (with_reducible exact ih0 _ _ _)
      | (with_reducible exact ih1 _ _ _ _)
      | (with_reducible exact LeO.refl _)
      | (with_reducible exact LeO.none _)
      | (with_reducible refine LeO.ite ?_ ?_)
      | (with_reducible refine LeO.bind ?_ (fun _ => ?_))
      | exact ih0 _ _ _
      | exact ih1 _ _ _ _
      | exact LeO.none _
      | refine LeO.ite ?_ ?_
      | refine LeO.bind ?_ (fun _ => ?_)
    · intro y0 y1 y2 y3
      unfold hearsayref01_text.j1
      repeat' first
      | (with_reducible exact ih0 _ _ _)
      | (with_reducible exact ih1 _ _ _ _)
      | (with_reducible exact LeO.refl _)
      | (with_reducible exact LeO.none _)
      | (with_reducible refine LeO.ite ?_ ?_)
      | (with_reducible refine LeO.bind ?_ (fun _ => ?_))
      | exact ih0 _ _ _
      | exact ih1 _ _ _ _
      | exact LeO.none _
      | refine LeO.ite ?_ ?_
      | refine LeO.bind ?_ (fun _ => ?_)
theorem hearsayref01_text.mono : ∀ a0 a1 k, LeO (hearsayref01_text.f k a0 a1) (hearsayref01_text.f (k + 1) a0 a1) := by
  intro a0 a1 k
  obtain ⟨ih0, ih1⟩ := hearsayref01_text.mono_l k
  unfold hearsayref01_text.f
  repeat' first
      | (with_reducible exact ih0 _ _ _)
      | (with_reducible exact ih1 _ _ _ _)
      | (with_reducible exact LeO.refl _)
      | (with_reducible exact LeO.none _)
      | (with_reducible refine LeO.ite ?_ ?_)
      | (with_reducible refine LeO.bind ?_ (fun _ => ?_))
      | exact ih0 _ _ _
      | exact ih1 _ _ _ _
      | exact LeO.none _
      | refine LeO.ite ?_ ?_
      | refine LeO.bind ?_ (fun _ => ?_)
set_option maxHeartbeats 8000000 in
set_option maxRecDepth 100000 in
theorem hearsayref01_text.calls (k : Nat) (a0 : ByteArray) (a1 : ByteArray) (r : Int) (w : World) (h : hearsayref01_text.f k a0 a1 = some r) :
    Calls Try.prog 60 #[.string a0, .string a1] w fun e w' => e = .returned (.int .i64 r) ∧ Drawn0 w w' := by
  have H : (hearsayref01_text.l0 k a0 a1 0) = some r := h
  clear h
  have H' := Aside0.mk H
  clear H
  go_enter Try.func60, Try.ntmps60
  go_wp2
  repeat (go_quiet (fail); try go_wp2)
  go_loopg [5] k (fun kq v5 w' => ∃ (x5_1 : Int), v5 = .int .i64 x5_1 ∧ Aside0 (hearsayref01_text.l0 kq a0 a1 x5_1 = some r) ∧ Aside0 (kq ≤ k) ∧ Drawn0 w w')
  case atStart => exact ⟨(0), (by first | rfl | (simp; done) | (simp [*]; done)), H', ⟨Nat.le_refl _⟩, by repeat (first | exact Drawn0.refl _ | apply Drawn0.step)⟩
  case round =>
    clear H'
    try clear p2
    obtain ⟨x5_1, rfl, HA, HK1, ⟨m1, rfl⟩⟩ := hrel
    cases gk with
    | zero => exact absurd HA.out (by simp [hearsayref01_text.l0])
    | succ k1 =>
      have H := HA.out
      clear HA
      simp only [hearsayref01_text.l0] at H
      have HC3 := Aside0.mk H
      clear H
      go_upto_region 2 with (fail)
      repeat (go_quiet (fail); go_upto_region 2 with (fail))
      go_cut [15] (fun v15 wc => ∃ (kq : Nat) (x15_2 : Bool), v15 = .bool x15_2 ∧ Aside0 (hearsayref01_text.j1 kq a0 a1 x5_1 x15_2 = some r) ∧ Aside0 (kq ≤ k1) ∧ Drawn0 w wc)
      case first =>
        have H := HC3.out
        clear HC3
        by_cases c4 : x5_1 < (a0.size : Int)
        · rw [if_pos c4] at H
          have c4b0 : decide (x5_1 < (a0.size : Int)) = true := decide_eq_true c4
          clear c4
          (first | rw [c4b0] | (simp only [i64_w, i32_w]; rw [c4b0]) | skip)
          have H' := Aside0.mk H
          clear H
          go_wp2
          repeat (go_quiet (fail); try go_wp2)
          go_meet
          case rel => exact ⟨_, (decide (x5_1 < (a1.size : Int))), (by first | rfl | (simp; done) | (simp [*]; done)), H', ⟨by have := HK1.out; first | omega | exact Nat.le_refl _⟩, by repeat (first | exact Drawn0.refl _ | apply Drawn0.step)⟩
        · rw [if_neg c4] at H
          have c4b0 : decide (x5_1 < (a0.size : Int)) = false := decide_eq_false c4
          clear c4
          (first | rw [c4b0] | (simp only [i64_w, i32_w]; rw [c4b0]) | skip)
          have H' := Aside0.mk H
          clear H
          go_wp2
          repeat (go_quiet (fail); try go_wp2)
          go_meet
          case rel => exact ⟨_, (false), (by first | rfl | (simp; done) | (simp [*]; done)), H', ⟨by have := HK1.out; first | omega | exact Nat.le_refl _⟩, by repeat (first | exact Drawn0.refl _ | apply Drawn0.step)⟩
      case rest =>
        clear HC3
        try clear p2
        try clear c4
        try clear c4b0
        try clear p2
        obtain ⟨kq, x15_2, rfl, HA, HJ2, ⟨mc2, rfl⟩⟩ := hcut
        cases kq with
        | zero => exact absurd HA.out (by simp [hearsayref01_text.j1])
        | succ kj2 =>
          have H := HA.out
          clear HA
          simp only [hearsayref01_text.j1] at H
          by_cases c5 : x15_2 = true
          · subst c5
            have H1 : (if 0 ≤ x5_1 then (if x5_1 < (a0.size : Int) then (if x5_1 < (a1.size : Int) then (if (bt a0 x5_1) = (bt a1 x5_1) then (hearsayref01_text.l0 kj2 a0 a1 (wrap64 (x5_1 + 1))) else (if (bt a0 x5_1) < (bt a1 x5_1) then (some (-1)) else (some 1))) else (none)) else (none)) else (none)) = some r := by rw [if_pos rfl] at H; exact H
            clear H
            have H := H1
            clear H1
            by_cases c6 : 0 ≤ x5_1
            · rw [if_pos c6] at H
              have c6b0 : decide (0 ≤ x5_1) = true := decide_eq_true c6
              clear c6
              by_cases c7 : x5_1 < (a0.size : Int)
              · rw [if_pos c7] at H
                have c7b0 : decide (x5_1 < (a0.size : Int)) = true := decide_eq_true c7
                clear c7
                by_cases c9 : x5_1 < (a1.size : Int)
                · rw [if_pos c9] at H
                  have c9b0 : decide (x5_1 < (a1.size : Int)) = true := decide_eq_true c9
                  clear c9
                  by_cases c11 : (bt a0 x5_1) = (bt a1 x5_1)
                  · rw [if_pos c11] at H
                    have c11b0 : ((bt a0 x5_1) == (bt a1 x5_1)) = true := beq_iff_eq.mpr c11
                    have c11b1 : ((bt a0 x5_1) != (bt a1 x5_1)) = false := bne_eq_false_iff_eq.mpr c11
                    clear c11
                    have H' := Aside0.mk H
                    clear H
                    have p8 : 0 ≤ (x5_1 : Int) := of_decide_eq_true (by first | (with_reducible assumption) | assumption)
                    have q8 : x5_1 < (a0.size : Int) := of_decide_eq_true (by first | (with_reducible assumption) | assumption)
                    have hx8 := bt_at a0 x5_1
                    replace p8 := eq_true p8
                    replace q8 := eq_true q8
                    have p10 : 0 ≤ (x5_1 : Int) := of_decide_eq_true (by first | (with_reducible assumption) | assumption)
                    have q10 : x5_1 < (a1.size : Int) := of_decide_eq_true (by first | (with_reducible assumption) | assumption)
                    have hx10 := bt_at a1 x5_1
                    replace p10 := eq_true p10
                    replace q10 := eq_true q10
                    go_wp2
                    repeat (go_quiet (fail); try go_wp2)
                    go_roundg kj2
                    case measure => have := HK1.out; have := HJ2.out; omega
                    case rel => exact ⟨(wrap64 (x5_1 + 1)), (by first | rfl | (simp; done) | (simp [*]; done)), H', ⟨by have := HK1.out; have := HJ2.out; omega⟩, by repeat (first | exact Drawn0.refl _ | apply Drawn0.step)⟩
                  · rw [if_neg c11] at H
                    have c11b0 : ((bt a0 x5_1) == (bt a1 x5_1)) = false := beq_eq_false_iff_ne.mpr c11
                    have c11b1 : ((bt a0 x5_1) != (bt a1 x5_1)) = true := bne_iff_ne.mpr c11
                    by_cases c14 : (bt a0 x5_1) < (bt a1 x5_1)
                    · rw [if_pos c14] at H
                      have c14b0 : decide ((bt a0 x5_1) < (bt a1 x5_1)) = true := decide_eq_true c14
                      clear c14
                      obtain rfl := Option.some.inj H
                      have p8 : 0 ≤ (x5_1 : Int) := of_decide_eq_true (by first | (with_reducible assumption) | assumption)
                      have q8 : x5_1 < (a0.size : Int) := of_decide_eq_true (by first | (with_reducible assumption) | assumption)
                      have hx8 := bt_at a0 x5_1
                      replace p8 := eq_true p8
                      replace q8 := eq_true q8
                      have p10 : 0 ≤ (x5_1 : Int) := of_decide_eq_true (by first | (with_reducible assumption) | assumption)
                      have q10 : x5_1 < (a1.size : Int) := of_decide_eq_true (by first | (with_reducible assumption) | assumption)
                      have hx10 := bt_at a1 x5_1
                      replace p10 := eq_true p10
                      replace q10 := eq_true q10
                      have p12 : 0 ≤ (x5_1 : Int) := of_decide_eq_true (by first | (with_reducible assumption) | assumption)
                      have q12 : x5_1 < (a0.size : Int) := of_decide_eq_true (by first | (with_reducible assumption) | assumption)
                      have hx12 := bt_at a0 x5_1
                      replace p12 := eq_true p12
                      replace q12 := eq_true q12
                      have p13 : 0 ≤ (x5_1 : Int) := of_decide_eq_true (by first | (with_reducible assumption) | assumption)
                      have q13 : x5_1 < (a1.size : Int) := of_decide_eq_true (by first | (with_reducible assumption) | assumption)
                      have hx13 := bt_at a1 x5_1
                      replace p13 := eq_true p13
                      replace q13 := eq_true q13
                      go_wp2
                      repeat (go_quiet (fail); try go_wp2)
                      go_ret
                      exact ⟨by first | rfl | (simp; done) | (simp [*]; done), by repeat (first | exact Drawn0.refl _ | apply Drawn0.step)⟩
                    · rw [if_neg c14] at H
                      have c14b0 : decide ((bt a0 x5_1) < (bt a1 x5_1)) = false := decide_eq_false c14
                      clear c14
                      obtain rfl := Option.some.inj H
                      have p8 : 0 ≤ (x5_1 : Int) := of_decide_eq_true (by first | (with_reducible assumption) | assumption)
                      have q8 : x5_1 < (a0.size : Int) := of_decide_eq_true (by first | (with_reducible assumption) | assumption)
                      have hx8 := bt_at a0 x5_1
                      replace p8 := eq_true p8
                      replace q8 := eq_true q8
                      have p10 : 0 ≤ (x5_1 : Int) := of_decide_eq_true (by first | (with_reducible assumption) | assumption)
                      have q10 : x5_1 < (a1.size : Int) := of_decide_eq_true (by first | (with_reducible assumption) | assumption)
                      have hx10 := bt_at a1 x5_1
                      replace p10 := eq_true p10
                      replace q10 := eq_true q10
                      have p12 : 0 ≤ (x5_1 : Int) := of_decide_eq_true (by first | (with_reducible assumption) | assumption)
                      have q12 : x5_1 < (a0.size : Int) := of_decide_eq_true (by first | (with_reducible assumption) | assumption)
                      have hx12 := bt_at a0 x5_1
                      replace p12 := eq_true p12
                      replace q12 := eq_true q12
                      have p13 : 0 ≤ (x5_1 : Int) := of_decide_eq_true (by first | (with_reducible assumption) | assumption)
                      have q13 : x5_1 < (a1.size : Int) := of_decide_eq_true (by first | (with_reducible assumption) | assumption)
                      have hx13 := bt_at a1 x5_1
                      replace p13 := eq_true p13
                      replace q13 := eq_true q13
                      go_wp2
                      repeat (go_quiet (fail); try go_wp2)
                      go_ret
                      exact ⟨by first | rfl | (simp; done) | (simp [*]; done), by repeat (first | exact Drawn0.refl _ | apply Drawn0.step)⟩
                · rw [if_neg c9] at H
                  exact absurd H (by simp)
              · rw [if_neg c7] at H
                exact absurd H (by simp)
            · rw [if_neg c6] at H
              exact absurd H (by simp)
          · replace c5 := Bool.eq_false_iff.mpr c5
            subst c5
            have H1 : (if (a0.size : Int) = (a1.size : Int) then (some 0) else (if (a0.size : Int) < (a1.size : Int) then (some (-1)) else (some 1))) = some r := by rw [if_neg (show ¬ (false = true) by decide)] at H; exact H
            clear H
            have H := H1
            clear H1
            by_cases c15 : (a0.size : Int) = (a1.size : Int)
            · rw [if_pos c15] at H
              have c15b0 : ((a0.size : Int) == (a1.size : Int)) = true := beq_iff_eq.mpr c15
              have c15b1 : ((a0.size : Int) != (a1.size : Int)) = false := bne_eq_false_iff_eq.mpr c15
              have c15b2 : (a0.size == a1.size) = true := by first | simpa using c15 | (simp at c15 ⊢; omega)
              clear c15
              obtain rfl := Option.some.inj H
              go_wp2
              repeat (go_quiet (fail); try go_wp2)
              go_ret
              exact ⟨by first | rfl | (simp; done) | (simp [*]; done), by repeat (first | exact Drawn0.refl _ | apply Drawn0.step)⟩
            · rw [if_neg c15] at H
              have c15b0 : ((a0.size : Int) == (a1.size : Int)) = false := beq_eq_false_iff_ne.mpr c15
              have c15b1 : ((a0.size : Int) != (a1.size : Int)) = true := bne_iff_ne.mpr c15
              have c15b2 : (a0.size == a1.size) = false := by first | simpa using c15 | (simp at c15 ⊢; omega)
              by_cases c16 : (a0.size : Int) < (a1.size : Int)
              · rw [if_pos c16] at H
                have c16b0 : decide ((a0.size : Int) < (a1.size : Int)) = true := decide_eq_true c16
                have c16b1 : decide (a0.size < a1.size) = true := decide_eq_true (Int.ofNat_lt.mp c16)
                clear c16
                obtain rfl := Option.some.inj H
                go_wp2
                repeat (go_quiet (fail); try go_wp2)
                go_ret
                exact ⟨by first | rfl | (simp; done) | (simp [*]; done), by repeat (first | exact Drawn0.refl _ | apply Drawn0.step)⟩
              · rw [if_neg c16] at H
                have c16b0 : decide ((a0.size : Int) < (a1.size : Int)) = false := decide_eq_false c16
                have c16b1 : decide (a0.size < a1.size) = false := decide_eq_false (fun h => c16 (Int.ofNat_lt.mpr h))
                clear c16
                obtain rfl := Option.some.inj H
                go_wp2
                repeat (go_quiet (fail); try go_wp2)
                go_ret
                exact ⟨by first | rfl | (simp; done) | (simp [*]; done), by repeat (first | exact Drawn0.refl _ | apply Drawn0.step)⟩

end Go.Proofs.Ytplnknhlgdoliaa.Print
end
section
-- Written by a program of this session, built on the kit's print (it is not the print's own text).
namespace Go.Proofs.Ytplnknhlgdoliaa.Print
open Go.RowKit Go.Proofs.YtplnknhlgdoliaaW.PrintWords Go.Proofs.YtplnknhlgdoliaaW.PrintLast Go.Proofs.YtplnknhlgdoliaaW.PrintMore
attribute [local go_sem] max2_int min2_int max_two min_two max_three min_three max_four min_four   -- for this text's walks alone
set_option linter.unusedVariables false
set_option linter.unusedSimpArgs false

/-! ### hearsayref01_Cmp: function 42 -/
mutual
def hearsayref01_Cmp.j0 : Nat → ByteArray → ByteArray → List ByteArray → Bool → List ByteArray → Bool → Bool → Option (Int)
  | 0, _, _, _, _, _, _, _ => none
  | k + 1, x0, x1, x5, x6, x7, x8, x26 => if x26 = true then ((hearsayref01_text.f k x0 x1).bind fun t387 => (some t387)) else (if x6 = true then (if x8 = true then (hearsayref01_Cmp.l0 k x5 x7 1) else (some (-1))) else (some 1))
def hearsayref01_Cmp.l0 : Nat → List ByteArray → List ByteArray → Int → Option (Int)
  | 0, _, _, _ => none
  | k + 1, x5, x7, x9 => if x9 ≤ (x5.length : Int) then (hearsayref01_Cmp.j2 k x5 x7 x9 (decide (x9 ≤ (x7.length : Int)))) else (hearsayref01_Cmp.j2 k x5 x7 x9 false)
def hearsayref01_Cmp.j2 : Nat → List ByteArray → List ByteArray → Int → Bool → Option (Int)
  | 0, _, _, _, _ => none
  | k + 1, x5, x7, x9, x43 => if x43 = true then (if 0 ≤ (wrap64 ((x5.length : Int) - x9)) then (if (wrap64 ((x5.length : Int) - x9)) < (x5.length : Int) then ((hearsayref01_Low.f (rdOf ByteArray.empty x5 (wrap64 ((x5.length : Int) - x9)))).bind fun t389 => (if 0 ≤ (wrap64 ((x7.length : Int) - x9)) then (if (wrap64 ((x7.length : Int) - x9)) < (x7.length : Int) then ((hearsayref01_Low.f (rdOf ByteArray.empty x7 (wrap64 ((x7.length : Int) - x9)))).bind fun t391 => ((hearsayref01_text.f k t389 t391).bind fun t392 => (if t392 = 0 then (hearsayref01_Cmp.l0 k x5 x7 (wrap64 (x9 + 1))) else (some t392)))) else (none)) else (none))) else (none)) else (none)) else (if (x5.length : Int) = (x7.length : Int) then (some 0) else (if (x5.length : Int) < (x7.length : Int) then (some (-1)) else (some 1)))
end
def hearsayref01_Cmp.f (k : Nat) (a0 : ByteArray) (a1 : ByteArray) : Option (Int) := (hearsayref01_Split.f k a0).bind fun bt379 => ((hearsayref01_Split.f k a1).bind fun bt383 => (if bt379.2 = true then (hearsayref01_Cmp.j0 k a0 a1 bt379.1 bt379.2 bt383.1 bt383.2 false) else (hearsayref01_Cmp.j0 k a0 a1 bt379.1 bt379.2 bt383.1 bt383.2 (!bt383.2))))
theorem hearsayref01_Cmp.mono_l : ∀ k, (∀ y0 y1 y2 y3 y4 y5 y6, LeO (hearsayref01_Cmp.j0 k y0 y1 y2 y3 y4 y5 y6) (hearsayref01_Cmp.j0 (k + 1) y0 y1 y2 y3 y4 y5 y6)) ∧ (∀ y0 y1 y2, LeO (hearsayref01_Cmp.l0 k y0 y1 y2) (hearsayref01_Cmp.l0 (k + 1) y0 y1 y2)) ∧ (∀ y0 y1 y2 y3, LeO (hearsayref01_Cmp.j2 k y0 y1 y2 y3) (hearsayref01_Cmp.j2 (k + 1) y0 y1 y2 y3))
  | 0 => ⟨fun _ _ _ _ _ _ _ r h => by simp [hearsayref01_Cmp.j0] at h, fun _ _ _ r h => by simp [hearsayref01_Cmp.l0] at h, fun _ _ _ _ r h => by simp [hearsayref01_Cmp.j2] at h⟩
  | k + 1 => by
    obtain ⟨ih0, ih1, ih2⟩ := hearsayref01_Cmp.mono_l k
    refine ⟨?_, ?_, ?_⟩
    · intro y0 y1 y2 y3 y4 y5 y6
      unfold hearsayref01_Cmp.j0
      repeat' first
      | (with_reducible exact ih0 _ _ _ _ _ _ _)
      | (with_reducible exact ih1 _ _ _)
      | (with_reducible exact ih2 _ _ _ _)
      | (with_reducible exact hearsayref01_Split.mono _ _)
      | (with_reducible exact hearsayref01_text.mono _ _ _)
      | (with_reducible exact LeO.refl _)
      | (with_reducible exact LeO.none _)
      | (with_reducible refine LeO.ite ?_ ?_)
      | (with_reducible refine LeO.bind ?_ (fun _ => ?_))
      | exact ih0 _ _ _ _ _ _ _
      | exact ih1 _ _ _
      | exact ih2 _ _ _ _
      | exact hearsayref01_Split.mono _ _
      | exact hearsayref01_text.mono _ _ _
      | exact LeO.none _
      | refine LeO.ite ?_ ?_
      | refine LeO.bind ?_ (fun _ => ?_)
    · intro y0 y1 y2
      unfold hearsayref01_Cmp.l0
      repeat' first
      | (with_reducible exact ih0 _ _ _ _ _ _ _)
      | (with_reducible exact ih1 _ _ _)
      | (with_reducible exact ih2 _ _ _ _)
      | (with_reducible exact hearsayref01_Split.mono _ _)
      | (with_reducible exact hearsayref01_text.mono _ _ _)
      | (with_reducible exact LeO.refl _)
      | (with_reducible exact LeO.none _)
      | (with_reducible refine LeO.ite ?_ ?_)
      | (with_reducible refine LeO.bind ?_ (fun _ => ?_))
      | exact ih0 _ _ _ _ _ _ _
      | exact ih1 _ _ _
      | exact ih2 _ _ _ _
      | exact hearsayref01_Split.mono _ _
      | exact hearsayref01_text.mono _ _ _
      | exact LeO.none _
      | refine LeO.ite ?_ ?_
      | refine LeO.bind ?_ (fun _ => ?_)
    · intro y0 y1 y2 y3
      unfold hearsayref01_Cmp.j2
      repeat' first
      | (with_reducible exact ih0 _ _ _ _ _ _ _)
      | (with_reducible exact ih1 _ _ _)
      | (with_reducible exact ih2 _ _ _ _)
      | (with_reducible exact hearsayref01_Split.mono _ _)
      | (with_reducible exact hearsayref01_text.mono _ _ _)
      | (with_reducible exact LeO.refl _)
      | (with_reducible exact LeO.none _)
      | (with_reducible refine LeO.ite ?_ ?_)
      | (with_reducible refine LeO.bind ?_ (fun _ => ?_))
      | exact ih0 _ _ _ _ _ _ _
      | exact ih1 _ _ _
      | exact ih2 _ _ _ _
      | exact hearsayref01_Split.mono _ _
      | exact hearsayref01_text.mono _ _ _
      | exact LeO.none _
      | refine LeO.ite ?_ ?_
      | refine LeO.bind ?_ (fun _ => ?_)
theorem hearsayref01_Cmp.mono : ∀ a0 a1 k, LeO (hearsayref01_Cmp.f k a0 a1) (hearsayref01_Cmp.f (k + 1) a0 a1) := by
  intro a0 a1 k
  obtain ⟨ih0, ih1, ih2⟩ := hearsayref01_Cmp.mono_l k
  unfold hearsayref01_Cmp.f
  repeat' first
      | (with_reducible exact ih0 _ _ _ _ _ _ _)
      | (with_reducible exact ih1 _ _ _)
      | (with_reducible exact ih2 _ _ _ _)
      | (with_reducible exact hearsayref01_Split.mono _ _)
      | (with_reducible exact hearsayref01_text.mono _ _ _)
      | (with_reducible exact LeO.refl _)
      | (with_reducible exact LeO.none _)
      | (with_reducible refine LeO.ite ?_ ?_)
      | (with_reducible refine LeO.bind ?_ (fun _ => ?_))
      | exact ih0 _ _ _ _ _ _ _
      | exact ih1 _ _ _
      | exact ih2 _ _ _ _
      | exact hearsayref01_Split.mono _ _
      | exact hearsayref01_text.mono _ _ _
      | exact LeO.none _
      | refine LeO.ite ?_ ?_
      | refine LeO.bind ?_ (fun _ => ?_)
def hearsayref01_Cmp.T12 : Bool × List (List Nat × List Nat) := (true, [([], []), ([], []), ([1], [1]), ([], []), ([2, 3], [2, 3]), ([0, 4], [0, 4]), ([5], [5]), ([6], [6]), ([], []), ([], []), ([9], [9]), ([], []), ([10, 11], [10, 11]), ([8, 12], [8, 12]), ([13], [13]), ([14, 7], [14]), ([7, 15, 15], [7, 15]), ([16, 16, 0, 1, 2, 3, 4, 5, 6, 7, 8, 9, 10, 11, 12, 13, 14, 15, 16], [16])])
def hearsayref01_Cmp.B12 : List Nat := [0, 0, 2, 0, 14, 31, 63, 127, 0, 0, 512, 0, 3584, 7936, 16128, 32767, 65535, 131071]
theorem hearsayref01_Cmp.tab12 : rtab .any (opsOf Try.f42 12) = hearsayref01_Cmp.T12 := by kernel_rfl
theorem hearsayref01_Cmp.bits12 : waitsOk hearsayref01_Cmp.T12.2 hearsayref01_Cmp.B12 = true := by kernel_rfl
set_option maxHeartbeats 8000000 in
set_option maxRecDepth 100000 in
theorem hearsayref01_Cmp.calls (k : Nat) (a0 : ByteArray) (a1 : ByteArray) (r : Int) (w : World) (h : hearsayref01_Cmp.f k a0 a1 = some r) :
    Calls Try.prog 42 #[.string a0, .string a1] w fun e w' => e = .returned (.int .i64 r) ∧ Below w.heap.size w w' := by
  have HB := Aside0.mk (Below.refl w.heap.size w)
  have H : ((hearsayref01_Split.f k a0).bind fun bt379 => ((hearsayref01_Split.f k a1).bind fun bt383 => (if bt379.2 = true then (hearsayref01_Cmp.j0 k a0 a1 bt379.1 bt379.2 bt383.1 bt383.2 false) else (hearsayref01_Cmp.j0 k a0 a1 bt379.1 bt379.2 bt383.1 bt383.2 (!bt383.2))))) = some r := h
  clear h
  replace H := Option.bind_eq_some_iff.mp H
  obtain ⟨⟨t379, t380⟩, A30, H⟩ := H
  replace H : ((hearsayref01_Split.f k a1).bind fun bt383 => (if t380 = true then (hearsayref01_Cmp.j0 k a0 a1 t379 t380 bt383.1 bt383.2 false) else (hearsayref01_Cmp.j0 k a0 a1 t379 t380 bt383.1 bt383.2 (!bt383.2)))) = some r := H
  have A3 := Aside0.mk A30
  clear A30
  replace H := Option.bind_eq_some_iff.mp H
  obtain ⟨⟨t383, t384⟩, A40, H⟩ := H
  replace H : (if t380 = true then (hearsayref01_Cmp.j0 k a0 a1 t379 t380 t383 t384 false) else (hearsayref01_Cmp.j0 k a0 a1 t379 t380 t383 t384 (!t384))) = some r := H
  have A4 := Aside0.mk A40
  clear A40
  have HC5 := Aside0.mk H
  clear H
  go_enter Try.func42, Try.ntmps42
  go_upto_region 3 with (first | ((with_reducible refine gate_callee (f := 13) rfl ?_); refine goesL_ (some 13) rfl rfl Try.func13 (by kernel_rfl) rfl #[.string a0] rfl (by (try simp only [List.map_toArray, List.map_cons, List.map_nil]); first | done | rfl | (simp only [List.length_drop, List.length_take]; rfl)) ?_; (with_reducible refine (hearsayref01_Split.calls k a0 t379 t380 _ A3.out).mono ?_); rintro e w6 ⟨v381, rfl, ho0, hb⟩; refine ⟨_, rfl, ?_⟩; have n0_ := Aside0.mk (Kd.R_lower ho0 (below_size (by repeat (first | (with_reducible first | exact HB.out | apply below_alloc | apply pw_below_drewN | apply below_drew1) | exact HB.out)))); have n1_ := Aside0.mk (below_step (by repeat (first | (with_reducible first | exact HB.out | apply below_alloc | apply pw_below_drewN | apply below_drew1) | exact HB.out)) hb); clear HB; have HO382 := n0_; have HB := n1_; clear n0_ n1_; (try clear hb); (try clear hb2); (try clear hk); (try clear hi); (try clear ho0)) | ((with_reducible refine gate_callee (f := 13) rfl ?_); refine goesL_ (some 18) rfl rfl Try.func13 (by kernel_rfl) rfl #[.string a1] rfl (by (try simp only [List.map_toArray, List.map_cons, List.map_nil]); first | done | rfl | (simp only [List.length_drop, List.length_take]; rfl)) ?_; (with_reducible refine (hearsayref01_Split.calls k a1 t383 t384 _ A4.out).mono ?_); rintro e w7 ⟨v385, rfl, ho0, hb⟩; refine ⟨_, rfl, ?_⟩; have n0_ := Aside0.mk (Kd.R_elder' (by (with_reducible repeat (first | apply Kd.R_alloc | apply Kd.R_drewN | apply Kd.R_drew)); exact HO382.out) (Kd.R_base ho0) hb); have n1_ := Aside0.mk (Kd.R_lower (Kd.R_new' ho0 (Kd.R_lt (by (with_reducible repeat (first | apply Kd.R_alloc | apply Kd.R_drewN | apply Kd.R_drew)); exact HO382.out))) (below_size (by repeat (first | (with_reducible first | exact HB.out | apply below_alloc | apply pw_below_drewN | apply below_drew1) | exact HB.out)))); have n2_ := Aside0.mk (below_step (by repeat (first | (with_reducible first | exact HB.out | apply below_alloc | apply pw_below_drewN | apply below_drew1) | exact HB.out)) hb); clear HO382; clear HB; have HO382 := n0_; have HO386 := n1_; have HB := n2_; clear n0_ n1_ n2_; (try clear hb); (try clear hb2); (try clear hk); (try clear hi); (try clear ho0)))
  (try simp only [Act.put, List.setIfInBounds_toArray, List.set_cons_zero, List.set_cons_succ])
  go_cut [26] (fun v26 wc => ∃ (kq : Nat) (x26_4 : Bool), v26 = .bool x26_4 ∧ Aside0 (hearsayref01_Cmp.j0 kq a0 a1 t379 t380 t383 t384 x26_4 = some r) ∧ Aside0 (kq ≤ k) ∧ Aside0 (Kd.R Kd.string 9 wc w.heap.size (fun k_ => some k_ ≠ (v385 : Value).ownBlock) v381 t379) ∧ Aside0 (Kd.R Kd.string 9 wc w.heap.size (fun k_ => some k_ ≠ (v381 : Value).ownBlock) v385 t383) ∧ Aside0 (Below w.heap.size w wc))
  case first =>
    have H := HC5.out
    clear HC5
    by_cases c8 : t380 = true
    · subst c8
      have H1 : (hearsayref01_Cmp.j0 k a0 a1 t379 true t383 t384 false) = some r := by rw [if_pos rfl] at H; exact H
      clear H
      have H := H1
      clear H1
      have H' := Aside0.mk H
      clear H
      go_wp2
      go_meet
      case rel => exact ⟨_, (false), (by first | rfl | (simp; done) | (simp [*]; done)), H', ⟨by first | omega | exact Nat.le_refl _⟩, ⟨by (with_reducible repeat (first | apply Kd.R_alloc | apply Kd.R_drewN | apply Kd.R_drew)); exact Kd.R_mono HO382.out (fun _ hk => hk.2)⟩, ⟨by (with_reducible repeat (first | apply Kd.R_alloc | apply Kd.R_drewN | apply Kd.R_drew)); exact Kd.R_mono HO386.out (fun _ hk => hk.2)⟩, ⟨by repeat (first | (with_reducible first | exact HB.out | apply below_alloc | apply pw_below_drewN | apply below_drew1) | exact HB.out)⟩⟩
    · replace c8 := Bool.eq_false_iff.mpr c8
      subst c8
      have H1 : (hearsayref01_Cmp.j0 k a0 a1 t379 false t383 t384 (!t384)) = some r := by rw [if_neg (show ¬ (false = true) by decide)] at H; exact H
      clear H
      have H := H1
      clear H1
      have H' := Aside0.mk H
      clear H
      go_wp2
      go_meet
      case rel => exact ⟨_, (!t384), (by first | rfl | (simp; done) | (simp [*]; done)), H', ⟨by first | omega | exact Nat.le_refl _⟩, ⟨by (with_reducible repeat (first | apply Kd.R_alloc | apply Kd.R_drewN | apply Kd.R_drew)); exact Kd.R_mono HO382.out (fun _ hk => hk.2)⟩, ⟨by (with_reducible repeat (first | apply Kd.R_alloc | apply Kd.R_drewN | apply Kd.R_drew)); exact Kd.R_mono HO386.out (fun _ hk => hk.2)⟩, ⟨by repeat (first | (with_reducible first | exact HB.out | apply below_alloc | apply pw_below_drewN | apply below_drew1) | exact HB.out)⟩⟩
  case rest =>
    clear HC5
    try clear c1
    try clear p2
    try clear c4
    try clear c8
    obtain ⟨kq, x26_4, rfl, HA, HJ4, HO_5, HO_7, HB⟩ := hcut
    cases kq with
    | zero => exact absurd HA.out (by simp [hearsayref01_Cmp.j0])
    | succ kj4 =>
      have H := HA.out
      clear HA
      simp only [hearsayref01_Cmp.j0] at H
      by_cases c9 : x26_4 = true
      · subst c9
        have H1 : ((hearsayref01_text.f kj4 a0 a1).bind fun t387 => (some t387)) = some r := by rw [if_pos rfl] at H; exact H
        clear H
        have H := H1
        clear H1
        replace H := Option.bind_eq_some_iff.mp H
        obtain ⟨t387, A100, H⟩ := H
        replace H : (some t387) = some r := H
        have A10 := Aside0.mk A100
        clear A100
        obtain rfl := Option.some.inj H
        go_wp2_with (first | ((with_reducible refine gate_callee (f := 60) rfl ?_); refine goesL_ (some 29) rfl rfl Try.func60 (by kernel_rfl) rfl #[.string a0, .string a1] rfl (by (try simp only [List.map_toArray, List.map_cons, List.map_nil]); first | done | rfl | (simp only [List.length_drop, List.length_take]; rfl)) ?_; (with_reducible refine (hearsayref01_text.calls kj4 a0 a1 t387 _ A10.out).mono ?_); rintro e w' ⟨rfl, ⟨nd, rfl⟩⟩; refine ⟨_, rfl, ?_⟩))
        go_ret
        exact ⟨by first | rfl | (simp [errW_none, errW_some] <;> rfl) | (simp [*, errW_none, errW_some] <;> rfl), by repeat (first | (with_reducible first | exact HB.out | apply below_alloc | apply pw_below_drewN | apply below_drew1) | exact HB.out)⟩
      · replace c9 := Bool.eq_false_iff.mpr c9
        subst c9
        have H1 : (if t380 = true then (if t384 = true then (hearsayref01_Cmp.l0 kj4 t379 t383 1) else (some (-1))) else (some 1)) = some r := by rw [if_neg (show ¬ (false = true) by decide)] at H; exact H
        clear H
        have H := H1
        clear H1
        by_cases c11 : t380 = true
        · subst c11
          have H1 : (if t384 = true then (hearsayref01_Cmp.l0 kj4 t379 t383 1) else (some (-1))) = some r := by rw [if_pos rfl] at H; exact H
          clear H
          have H := H1
          clear H1
          by_cases c12 : t384 = true
          · subst c12
            have H1 : (hearsayref01_Cmp.l0 kj4 t379 t383 1) = some r := by rw [if_pos rfl] at H; exact H
            clear H
            have H := H1
            clear H1
            have H' := Aside0.mk H
            clear H
            go_wp2
            go_loopg [9] kj4 (fun kq v9 w' => ∃ (x9_2 : Int), v9 = .int .i64 x9_2 ∧ Aside0 (hearsayref01_Cmp.l0 kq t379 t383 x9_2 = some r) ∧ Aside0 (kq ≤ kj4) ∧ Aside0 (Kd.R Kd.string 9 w' w.heap.size (fun k_ => some k_ ≠ (v385 : Value).ownBlock) v381 t379) ∧ Aside0 (Kd.R Kd.string 9 w' w.heap.size (fun k_ => some k_ ≠ (v381 : Value).ownBlock) v385 t383) ∧ Aside0 (Below w.heap.size w w'))
            case atStart => exact ⟨(1), (by first | rfl | (simp; done) | (simp [*]; done)), H', ⟨Nat.le_refl _⟩, ⟨by (with_reducible repeat (first | apply Kd.R_alloc | apply Kd.R_drewN | apply Kd.R_drew)); exact HO_5.out⟩, ⟨by (with_reducible repeat (first | apply Kd.R_alloc | apply Kd.R_drewN | apply Kd.R_drew)); exact HO_7.out⟩, ⟨by repeat (first | (with_reducible first | exact HB.out | apply below_alloc | apply pw_below_drewN | apply below_drew1) | exact HB.out)⟩⟩
            case round =>
              clear H'
              try clear c1
              try clear p2
              try clear c4
              try clear c6
              try clear c8
              try clear c9
              try clear c11
              try clear c12
              try clear p2
              obtain ⟨x9_2, rfl, HA, HK2, HO_5, HO_7, HB⟩ := hrel
              cases gk with
              | zero => exact absurd HA.out (by simp [hearsayref01_Cmp.l0])
              | succ k2 =>
                have H := HA.out
                clear HA
                simp only [hearsayref01_Cmp.l0] at H
                have HC13 := Aside0.mk H
                clear H
                go_upto_region 10 with (fail)
                go_cut [43] (fun v43 wc => ∃ (kq : Nat) (x43_12 : Bool), v43 = .bool x43_12 ∧ Aside0 (hearsayref01_Cmp.j2 kq t379 t383 x9_2 x43_12 = some r) ∧ Aside0 (kq ≤ k2) ∧ Aside0 (Kd.R Kd.string 9 wc w.heap.size (fun k_ => some k_ ≠ (v385 : Value).ownBlock) v381 t379) ∧ Aside0 (Kd.R Kd.string 9 wc w.heap.size (fun k_ => some k_ ≠ (v381 : Value).ownBlock) v385 t383) ∧ Aside0 (Below w.heap.size w wc))
                case first =>
                  have H := HC13.out
                  clear HC13
                  by_cases c14 : x9_2 ≤ (t379.length : Int)
                  · rw [if_pos c14] at H
                    have c14b0 : decide (x9_2 ≤ (t379.length : Int)) = true := decide_eq_true c14
                    clear c14
                    (first | rw [c14b0] | (simp only [i64_w, i32_w]; rw [c14b0]) | skip)
                    have H' := Aside0.mk H
                    clear H
                    obtain ⟨Ao15, co15, eo15⟩ := Kd.R_slice HO_5.out
                    subst eo15
                    obtain ⟨Ao16, co16, eo16⟩ := Kd.R_slice HO_7.out
                    subst eo16
                    go_wp2
                    go_meet
                    case rel => exact ⟨_, (decide (x9_2 ≤ (t383.length : Int))), (by first | rfl | (simp; done) | (simp [*]; done)), H', ⟨by have := HJ4.out; have := HK2.out; first | omega | exact Nat.le_refl _⟩, ⟨by (with_reducible repeat (first | apply Kd.R_alloc | apply Kd.R_drewN | apply Kd.R_drew)); exact HO_5.out⟩, ⟨by (with_reducible repeat (first | apply Kd.R_alloc | apply Kd.R_drewN | apply Kd.R_drew)); exact HO_7.out⟩, ⟨by repeat (first | (with_reducible first | exact HB.out | apply below_alloc | apply pw_below_drewN | apply below_drew1) | exact HB.out)⟩⟩
                  · rw [if_neg c14] at H
                    have c14b0 : decide (x9_2 ≤ (t379.length : Int)) = false := decide_eq_false c14
                    clear c14
                    (first | rw [c14b0] | (simp only [i64_w, i32_w]; rw [c14b0]) | skip)
                    have H' := Aside0.mk H
                    clear H
                    obtain ⟨Ao17, co17, eo17⟩ := Kd.R_slice HO_5.out
                    subst eo17
                    go_wp2
                    go_meet
                    case rel => exact ⟨_, (false), (by first | rfl | (simp; done) | (simp [*]; done)), H', ⟨by have := HJ4.out; have := HK2.out; first | omega | exact Nat.le_refl _⟩, ⟨by (with_reducible repeat (first | apply Kd.R_alloc | apply Kd.R_drewN | apply Kd.R_drew)); exact HO_5.out⟩, ⟨by (with_reducible repeat (first | apply Kd.R_alloc | apply Kd.R_drewN | apply Kd.R_drew)); exact HO_7.out⟩, ⟨by repeat (first | (with_reducible first | exact HB.out | apply below_alloc | apply pw_below_drewN | apply below_drew1) | exact HB.out)⟩⟩
                case rest =>
                  clear HC13
                  try clear c1
                  try clear p2
                  try clear c4
                  try clear c6
                  try clear c8
                  try clear c9
                  try clear c11
                  try clear c12
                  try clear c13
                  try clear c14
                  try clear c14b0
                  try clear p2
                  obtain ⟨kq, x43_12, rfl, HA, HJ12, HO_5, HO_7, HB⟩ := hcut
                  cases kq with
                  | zero => exact absurd HA.out (by simp [hearsayref01_Cmp.j2])
                  | succ kj12 =>
                    have H := HA.out
                    clear HA
                    simp only [hearsayref01_Cmp.j2] at H
                    by_cases c18 : x43_12 = true
                    · subst c18
                      have H1 : (if 0 ≤ (wrap64 ((t379.length : Int) - x9_2)) then (if (wrap64 ((t379.length : Int) - x9_2)) < (t379.length : Int) then ((hearsayref01_Low.f (rdOf ByteArray.empty t379 (wrap64 ((t379.length : Int) - x9_2)))).bind fun t389 => (if 0 ≤ (wrap64 ((t383.length : Int) - x9_2)) then (if (wrap64 ((t383.length : Int) - x9_2)) < (t383.length : Int) then ((hearsayref01_Low.f (rdOf ByteArray.empty t383 (wrap64 ((t383.length : Int) - x9_2)))).bind fun t391 => ((hearsayref01_text.f kj12 t389 t391).bind fun t392 => (if t392 = 0 then (hearsayref01_Cmp.l0 kj12 t379 t383 (wrap64 (x9_2 + 1))) else (some t392)))) else (none)) else (none))) else (none)) else (none)) = some r := by rw [if_pos rfl] at H; exact H
                      clear H
                      have H := H1
                      clear H1
                      obtain ⟨ji19, hji19⟩ : ∃ j_ : Int, (wrap64 ((t379.length : Int) - x9_2)) = j_ := ⟨_, rfl⟩
                      replace H : (if 0 ≤ (ji19) then (if (ji19) < (t379.length : Int) then ((hearsayref01_Low.f (rdOf ByteArray.empty t379 (ji19))).bind fun t389 => (if 0 ≤ (wrap64 ((t383.length : Int) - x9_2)) then (if (wrap64 ((t383.length : Int) - x9_2)) < (t383.length : Int) then ((hearsayref01_Low.f (rdOf ByteArray.empty t383 (wrap64 ((t383.length : Int) - x9_2)))).bind fun t391 => ((hearsayref01_text.f kj12 t389 t391).bind fun t392 => (if t392 = 0 then (hearsayref01_Cmp.l0 kj12 t379 t383 (wrap64 (x9_2 + 1))) else (some t392)))) else (none)) else (none))) else (none)) else (none)) = some r := by first | (rw [hji19] at H; exact H) | (simp only [hji19] at H ⊢; exact H)
                      have hji19w : (IntKind.i64.wrap ((t379.length : Int) - x9_2)) = ji19 := (i64_w _).trans hji19
                      by_cases c20 : 0 ≤ (ji19)
                      · rw [if_pos c20] at H
                        have c20b0 : decide (0 ≤ (ji19)) = true := decide_eq_true c20
                        clear c20
                        by_cases c21 : (ji19) < (t379.length : Int)
                        · rw [if_pos c21] at H
                          have c21b0 : decide ((ji19) < (t379.length : Int)) = true := decide_eq_true c21
                          clear c21
                          replace H := Option.bind_eq_some_iff.mp H
                          obtain ⟨t389, A220, H⟩ := H
                          replace H : (if 0 ≤ (wrap64 ((t383.length : Int) - x9_2)) then (if (wrap64 ((t383.length : Int) - x9_2)) < (t383.length : Int) then ((hearsayref01_Low.f (rdOf ByteArray.empty t383 (wrap64 ((t383.length : Int) - x9_2)))).bind fun t391 => ((hearsayref01_text.f kj12 t389 t391).bind fun t392 => (if t392 = 0 then (hearsayref01_Cmp.l0 kj12 t379 t383 (wrap64 (x9_2 + 1))) else (some t392)))) else (none)) else (none)) = some r := H
                          have A22 := Aside0.mk A220
                          clear A220
                          obtain ⟨ji23, hji23⟩ : ∃ j_ : Int, (wrap64 ((t383.length : Int) - x9_2)) = j_ := ⟨_, rfl⟩
                          replace H : (if 0 ≤ (ji23) then (if (ji23) < (t383.length : Int) then ((hearsayref01_Low.f (rdOf ByteArray.empty t383 (ji23))).bind fun t391 => ((hearsayref01_text.f kj12 t389 t391).bind fun t392 => (if t392 = 0 then (hearsayref01_Cmp.l0 kj12 t379 t383 (wrap64 (x9_2 + 1))) else (some t392)))) else (none)) else (none)) = some r := by first | (rw [hji23] at H; exact H) | (simp only [hji23] at H ⊢; exact H)
                          (try rw [hji23] at A22)
                          have hji23w : (IntKind.i64.wrap ((t383.length : Int) - x9_2)) = ji23 := (i64_w _).trans hji23
                          by_cases c24 : 0 ≤ (ji23)
                          · rw [if_pos c24] at H
                            have c24b0 : decide (0 ≤ (ji23)) = true := decide_eq_true c24
                            clear c24
                            by_cases c25 : (ji23) < (t383.length : Int)
                            · rw [if_pos c25] at H
                              have c25b0 : decide ((ji23) < (t383.length : Int)) = true := decide_eq_true c25
                              clear c25
                              replace H := Option.bind_eq_some_iff.mp H
                              obtain ⟨t391, A260, H⟩ := H
                              replace H : ((hearsayref01_text.f kj12 t389 t391).bind fun t392 => (if t392 = 0 then (hearsayref01_Cmp.l0 kj12 t379 t383 (wrap64 (x9_2 + 1))) else (some t392))) = some r := H
                              have A26 := Aside0.mk A260
                              clear A260
                              replace H := Option.bind_eq_some_iff.mp H
                              obtain ⟨t392, A270, H⟩ := H
                              replace H : (if t392 = 0 then (hearsayref01_Cmp.l0 kj12 t379 t383 (wrap64 (x9_2 + 1))) else (some t392)) = some r := H
                              have A27 := Aside0.mk A270
                              clear A270
                              by_cases c28 : t392 = 0
                              · rw [if_pos c28] at H
                                have c28b0 : (t392 == 0) = true := beq_iff_eq.mpr c28
                                have c28b1 : (t392 != 0) = false := bne_eq_false_iff_eq.mpr c28
                                clear c28
                                have H' := Aside0.mk H
                                clear H
                                try go_wp2
                                have n0_ := Aside0.mk (Kd.R_drew HO_5.out)
                                have n1_ := Aside0.mk (Kd.R_drew HO_7.out)
                                have n2_ := Aside0.mk (below_drew1 HB.out)
                                clear HO_5
                                clear HO_7
                                clear HB
                                have HO_5 := n0_
                                have HO_7 := n1_
                                have HB := n2_
                                clear n0_ n1_ n2_
                                obtain ⟨Ao30, co30, eo30⟩ := Kd.R_slice HO_5.out
                                (first | subst eo30 | (injection eo30 with f1_ f2_ f3_; have f4_ := f1_.symm; have f5_ := f3_.symm; clear f1_ f2_ f3_; subst f4_; subst f5_))
                                have p388 : 0 ≤ ((ji19) : Int) := of_decide_eq_true (by first | (with_reducible assumption) | assumption)
                                have q388 : (ji19) < (t379.length : Int) := of_decide_eq_true (by first | (with_reducible assumption) | assumption)
                                obtain ⟨ad388, e388, hx388_0⟩ := Kd.at_string (Kd.R_reads' HO_5.out).2.2 (ji19) p388 q388
                                cases e388
                                replace p388 := eq_true p388
                                replace q388 := eq_true q388
                                obtain ⟨Ao31, co31, eo31⟩ := Kd.R_slice HO_7.out
                                (first | subst eo31 | (injection eo31 with f1_ f2_ f3_; have f4_ := f1_.symm; have f5_ := f3_.symm; clear f1_ f2_ f3_; subst f4_; subst f5_))
                                have p390 : 0 ≤ ((ji23) : Int) := of_decide_eq_true (by first | (with_reducible assumption) | assumption)
                                have q390 : (ji23) < (t383.length : Int) := of_decide_eq_true (by first | (with_reducible assumption) | assumption)
                                obtain ⟨ad390, e390, hx390_0⟩ := Kd.at_string (Kd.R_reads' HO_7.out).2.2 (ji23) p390 q390
                                cases e390
                                replace p390 := eq_true p390
                                replace q390 := eq_true q390
                                refine start_ (n := 18) (S := fun w' => w'.cell? (ad388.add ((ji19)).toNat) = some (.string (rdOf ByteArray.empty t379 (ji19))) ∧ w'.cell? (ad390.add ((ji23)).toNat) = some (.string (rdOf ByteArray.empty t383 (ji23)))) (ds := []) #[false, false, false, false, false, false, false, false, false, false, false, false, false, false, false, false, false, false] (by kernel_rfl) rfl rfl ⟨hx388_0, hx390_0⟩ (fun hHeld => ?_); refine with_tabW hearsayref01_Cmp.tab12 hearsayref01_Cmp.bits12 (fun HT_ HW_ => ?_)
                                generalize wc.drew = w29 at HO_5 HO_7 HB hx388_0 hx390_0 hHeld ⊢
                                refine pure_ (i := 0) (N := some 46) (v := ?_) (a' := ?_) #[true, false, false, false, false, false, false, false, false, false, false, false, false, false, false, false, false, false] rfl rfl (any_of HT_.out (by kernel_rfl)) (fun _ _ _ h => h) (Or.inl ⟨by rfl, ?_⟩) ?_ ?_
                                rotate_left
                                · intro w'
                                  go_simp
                                  with_reducible rfl
                                rotate_left
                                · simp only [Act.put, List.setIfInBounds_toArray, List.set_cons_zero, List.set_cons_succ, i64_w, i32_w]
                                  rfl
                                refine pure_ (i := 1) (N := some 47) (v := ?_) (a' := ?_) #[true, true, false, false, false, false, false, false, false, false, false, false, false, false, false, false, false, false] rfl rfl (any_of HT_.out (by kernel_rfl)) (fun _ _ _ h => h) (Or.inl ⟨by rfl, ?_⟩) ?_ ?_
                                rotate_left
                                · intro w'
                                  go_simp
                                  with_reducible rfl
                                rotate_left
                                · simp only [Act.put, List.setIfInBounds_toArray, List.set_cons_zero, List.set_cons_succ, i64_w, i32_w]
                                  rfl
                                refine pure_ (i := 2) (N := some 48) (v := ?_) (a' := ?_) #[true, true, true, false, false, false, false, false, false, false, false, false, false, false, false, false, false, false] rfl rfl (any_of HT_.out (by kernel_rfl)) (fun _ _ _ h => h) (Or.inl ⟨by rfl, ?_⟩) ?_ ?_
                                rotate_left
                                · intro w'
                                  go_simp
                                  with_reducible rfl
                                rotate_left
                                · simp only [Act.put, List.setIfInBounds_toArray, List.set_cons_zero, List.set_cons_succ, i64_w, i32_w]
                                  rfl
                                refine pure_ (i := 3) (N := some 49) (v := ?_) (a' := ?_) #[true, true, true, true, false, false, false, false, false, false, false, false, false, false, false, false, false, false] rfl rfl (any_of HT_.out (by kernel_rfl)) (fun _ _ _ h => h) (Or.inl ⟨by rfl, ?_⟩) ?_ ?_
                                rotate_left
                                · intro w'
                                  go_simp
                                  with_reducible rfl
                                rotate_left
                                · simp only [Act.put, List.setIfInBounds_toArray, List.set_cons_zero, List.set_cons_succ, i64_w, i32_w]
                                  rfl
                                refine pure_ (i := 4) (N := some 50) (v := ?_) (a' := ?_) #[true, true, true, true, true, false, false, false, false, false, false, false, false, false, false, false, false, false] rfl rfl (any_of HT_.out (by kernel_rfl)) (fun _ _ _ h => h) (Or.inl ⟨by rfl, ?_⟩) ?_ ?_
                                rotate_left
                                · intro w'
                                  go_simp
                                  with_reducible rfl
                                rotate_left
                                · simp only [Act.put, List.setIfInBounds_toArray, List.set_cons_zero, List.set_cons_succ, i64_w, i32_w]
                                  rfl
                                refine pure_ (i := 5) (N := some 51) (v := ?_) (a' := ?_) #[true, true, true, true, true, true, false, false, false, false, false, false, false, false, false, false, false, false] rfl rfl (any_of HT_.out (by kernel_rfl)) (fun _ _ _ h => h) (Or.inl ⟨by rfl, ?_⟩) ?_ ?_
                                rotate_left
                                · intro w'
                                  go_simp
                                  with_reducible rfl
                                rotate_left
                                · simp only [Act.put, List.setIfInBounds_toArray, List.set_cons_zero, List.set_cons_succ, i64_w, i32_w]
                                  rfl
                                refine pure_ (i := 8) (N := some 54) (v := ?_) (a' := ?_) #[true, true, true, true, true, true, false, false, true, false, false, false, false, false, false, false, false, false] rfl rfl (any_of HT_.out (by kernel_rfl)) (fun _ _ _ h => h) (Or.inl ⟨by rfl, ?_⟩) ?_ ?_
                                rotate_left
                                · intro w'
                                  go_simp
                                  with_reducible rfl
                                rotate_left
                                · simp only [Act.put, List.setIfInBounds_toArray, List.set_cons_zero, List.set_cons_succ, i64_w, i32_w]
                                  rfl
                                refine pure_ (i := 9) (N := some 55) (v := ?_) (a' := ?_) #[true, true, true, true, true, true, false, false, true, true, false, false, false, false, false, false, false, false] rfl rfl (any_of HT_.out (by kernel_rfl)) (fun _ _ _ h => h) (Or.inl ⟨by rfl, ?_⟩) ?_ ?_
                                rotate_left
                                · intro w'
                                  go_simp
                                  with_reducible rfl
                                rotate_left
                                · simp only [Act.put, List.setIfInBounds_toArray, List.set_cons_zero, List.set_cons_succ, i64_w, i32_w]
                                  rfl
                                refine pure_ (i := 10) (N := some 56) (v := ?_) (a' := ?_) #[true, true, true, true, true, true, false, false, true, true, true, false, false, false, false, false, false, false] rfl rfl (any_of HT_.out (by kernel_rfl)) (fun _ _ _ h => h) (Or.inl ⟨by rfl, ?_⟩) ?_ ?_
                                rotate_left
                                · intro w'
                                  go_simp
                                  with_reducible rfl
                                rotate_left
                                · simp only [Act.put, List.setIfInBounds_toArray, List.set_cons_zero, List.set_cons_succ, i64_w, i32_w]
                                  rfl
                                refine pure_ (i := 11) (N := some 57) (v := ?_) (a' := ?_) #[true, true, true, true, true, true, false, false, true, true, true, true, false, false, false, false, false, false] rfl rfl (any_of HT_.out (by kernel_rfl)) (fun _ _ _ h => h) (Or.inl ⟨by rfl, ?_⟩) ?_ ?_
                                rotate_left
                                · intro w'
                                  go_simp
                                  with_reducible rfl
                                rotate_left
                                · simp only [Act.put, List.setIfInBounds_toArray, List.set_cons_zero, List.set_cons_succ, i64_w, i32_w]
                                  rfl
                                refine pure_ (i := 12) (N := some 58) (v := ?_) (a' := ?_) #[true, true, true, true, true, true, false, false, true, true, true, true, true, false, false, false, false, false] rfl rfl (any_of HT_.out (by kernel_rfl)) (fun _ _ _ h => h) (Or.inl ⟨by rfl, ?_⟩) ?_ ?_
                                rotate_left
                                · intro w'
                                  go_simp
                                  with_reducible rfl
                                rotate_left
                                · simp only [Act.put, List.setIfInBounds_toArray, List.set_cons_zero, List.set_cons_succ, i64_w, i32_w]
                                  rfl
                                refine pure_ (i := 13) (N := some 59) (v := ?_) (a' := ?_) #[true, true, true, true, true, true, false, false, true, true, true, true, true, true, false, false, false, false] rfl rfl (any_of HT_.out (by kernel_rfl)) (fun _ _ _ h => h) (Or.inl ⟨by rfl, ?_⟩) ?_ ?_
                                rotate_left
                                · intro w'
                                  go_simp
                                  with_reducible rfl
                                rotate_left
                                · simp only [Act.put, List.setIfInBounds_toArray, List.set_cons_zero, List.set_cons_succ, i64_w, i32_w]
                                  rfl
                                refine take_ (i := 6) (N := some 52) (v := ?_) (a' := ?_) #[true, true, true, true, true, true, true, false, true, true, true, true, true, true, false, false, false, false] rfl rfl (take_ofW HT_.out HW_.out (by kernel_rfl)) (fun _ _ _ h => h) (Or.inl ⟨by rfl, ?_⟩) hHeld ?_ ?_
                                rotate_left
                                · rintro w' ⟨s0, s1⟩
                                  go_simp
                                  with_reducible rfl
                                rotate_left
                                · simp only [Act.put, List.setIfInBounds_toArray, List.set_cons_zero, List.set_cons_succ, i64_w, i32_w]
                                  rfl
                                refine take_ (i := 14) (N := some 60) (v := ?_) (a' := ?_) #[true, true, true, true, true, true, true, false, true, true, true, true, true, true, true, false, false, false] rfl rfl (take_ofW HT_.out HW_.out (by kernel_rfl)) (fun _ _ _ h => h) (Or.inl ⟨by rfl, ?_⟩) hHeld ?_ ?_
                                rotate_left
                                · rintro w' ⟨s0, s1⟩
                                  go_simp
                                  with_reducible rfl
                                rotate_left
                                · simp only [Act.put, List.setIfInBounds_toArray, List.set_cons_zero, List.set_cons_succ, i64_w, i32_w]
                                  rfl
                                refine one_ (i := 7) (N := some 53) #[true, true, true, true, true, true, true, true, true, true, true, true, true, true, true, false, false, false] rfl rfl (one_of HT_.out (by kernel_rfl)) (by decide) (fun K hK => ?_)
                                refine goes_ Try.func45 (by kernel_rfl) rfl #[.string (rdOf ByteArray.empty t379 (ji19))] (by rfl) rfl rfl (by (try simp only [List.map_toArray, List.map_cons, List.map_nil]); first | done | (simp only [hji19]; rfl) | rfl | (simp only [List.length_drop, List.length_take]; rfl)) ?_
                                with_reducible refine (hearsayref01_Low.calls (rdOf ByteArray.empty t379 (ji19)) t389 _ A22.out).mono ?_
                                rintro e w32 ⟨rfl, hb⟩
                                have HS0_ := (hb.cell (World.block_lt_of_cell? _ _ (hHeld.1))).trans (hHeld.1)
                                have HS1_ := (hb.cell (World.block_lt_of_cell? _ _ (hHeld.2))).trans (hHeld.2)
                                refine ⟨_, rfl, ?_⟩
                                have n0_ := Aside0.mk (Kd.R_below (by (with_reducible repeat (first | apply Kd.R_alloc | apply Kd.R_drewN | apply Kd.R_drew)); exact HO_5.out) hb)
                                have n1_ := Aside0.mk (Kd.R_below (by (with_reducible repeat (first | apply Kd.R_alloc | apply Kd.R_drewN | apply Kd.R_drew)); exact HO_7.out) hb)
                                have n2_ := Aside0.mk (below_step (by repeat (first | (with_reducible first | exact HB.out | apply below_alloc | apply pw_below_drewN | apply below_drew1) | exact HB.out)) hb)
                                clear HO_5
                                clear HO_7
                                clear HB
                                have HO_5 := n0_
                                have HO_7 := n1_
                                have HB := n2_
                                clear n0_ n1_ n2_
                                (try clear hb)
                                (try clear hb2)
                                (try clear hk)
                                (try clear hi)
                                refine hK.out _ _ ⟨HS0_, HS1_⟩ (fun hHeld => ?_)
                                clear hK K
                                refine norm_ (a' := ?_) ?_ ?_
                                rotate_left
                                · show Act.put _ (some 53) _ = _
                                  simp only [Act.put, List.setIfInBounds_toArray, List.set_cons_zero, List.set_cons_succ, i64_w, i32_w]
                                  rfl
                                refine one_ (i := 15) (N := some 61) #[true, true, true, true, true, true, true, true, true, true, true, true, true, true, true, true, false, false] rfl rfl (one_of HT_.out (by kernel_rfl)) (by decide) (fun K hK => ?_)
                                refine goes_ Try.func45 (by kernel_rfl) rfl #[.string (rdOf ByteArray.empty t383 (ji23))] (by rfl) rfl rfl (by (try simp only [List.map_toArray, List.map_cons, List.map_nil]); first | done | (simp only [hji23]; rfl) | rfl | (simp only [List.length_drop, List.length_take]; rfl)) ?_
                                with_reducible refine (hearsayref01_Low.calls (rdOf ByteArray.empty t383 (ji23)) t391 _ A26.out).mono ?_
                                rintro e w33 ⟨rfl, hb⟩
                                have HS0_ := (hb.cell (World.block_lt_of_cell? _ _ (hHeld.1))).trans (hHeld.1)
                                have HS1_ := (hb.cell (World.block_lt_of_cell? _ _ (hHeld.2))).trans (hHeld.2)
                                refine ⟨_, rfl, ?_⟩
                                have n0_ := Aside0.mk (Kd.R_below (by (with_reducible repeat (first | apply Kd.R_alloc | apply Kd.R_drewN | apply Kd.R_drew)); exact HO_5.out) hb)
                                have n1_ := Aside0.mk (Kd.R_below (by (with_reducible repeat (first | apply Kd.R_alloc | apply Kd.R_drewN | apply Kd.R_drew)); exact HO_7.out) hb)
                                have n2_ := Aside0.mk (below_step (by repeat (first | (with_reducible first | exact HB.out | apply below_alloc | apply pw_below_drewN | apply below_drew1) | exact HB.out)) hb)
                                clear HO_5
                                clear HO_7
                                clear HB
                                have HO_5 := n0_
                                have HO_7 := n1_
                                have HB := n2_
                                clear n0_ n1_ n2_
                                (try clear hb)
                                (try clear hb2)
                                (try clear hk)
                                (try clear hi)
                                refine hK.out _ _ ⟨HS0_, HS1_⟩ (fun hHeld => ?_)
                                clear hK K
                                refine norm_ (a' := ?_) ?_ ?_
                                rotate_left
                                · show Act.put _ (some 61) _ = _
                                  simp only [Act.put, List.setIfInBounds_toArray, List.set_cons_zero, List.set_cons_succ, i64_w, i32_w]
                                  rfl
                                refine one_ (i := 16) (N := some 62) #[true, true, true, true, true, true, true, true, true, true, true, true, true, true, true, true, true, false] rfl rfl (one_of HT_.out (by kernel_rfl)) (by decide) (fun K hK => ?_)
                                refine goes_ Try.func60 (by kernel_rfl) rfl #[.string t389, .string t391] (by rfl) rfl rfl (by (try simp only [List.map_toArray, List.map_cons, List.map_nil]); first | done | rfl | (simp only [List.length_drop, List.length_take]; rfl)) ?_
                                with_reducible refine (hearsayref01_text.calls kj12 t389 t391 t392 _ A27.out).mono ?_
                                rintro e w' ⟨rfl, ⟨nd, rfl⟩⟩
                                refine ⟨_, rfl, ?_⟩
                                refine hK.out _ _ ⟨hHeld.1, hHeld.2⟩ (fun hHeld => ?_)
                                clear hK K
                                refine norm_ (a' := ?_) ?_ ?_
                                rotate_left
                                · show Act.put _ (some 62) _ = _
                                  simp only [Act.put, List.setIfInBounds_toArray, List.set_cons_zero, List.set_cons_succ, i64_w, i32_w]
                                  rfl
                                refine pure_ (i := 17) (N := some 10) (v := ?_) (a' := ?_) #[true, true, true, true, true, true, true, true, true, true, true, true, true, true, true, true, true, true] rfl rfl (any_of HT_.out (by kernel_rfl)) (fun _ _ _ h => h) (Or.inl ⟨by rfl, ?_⟩) ?_ ?_
                                rotate_left
                                · intro w'
                                  go_simp
                                  with_reducible rfl
                                rotate_left
                                · simp only [Act.put, List.setIfInBounds_toArray, List.set_cons_zero, List.set_cons_succ, i64_w, i32_w]
                                  rfl
                                refine done_ (done_of HT_.out (by kernel_rfl)) ?_
                                try go_wp2
                                go_roundg kj12
                                case measure => have := HJ4.out; have := HK2.out; have := HJ12.out; omega
                                case rel => exact ⟨(wrap64 (x9_2 + 1)), (by first | rfl | (simp; done) | (simp [*]; done)), H', ⟨by have := HJ4.out; have := HK2.out; have := HJ12.out; omega⟩, ⟨by (with_reducible repeat (first | apply Kd.R_alloc | apply Kd.R_drewN | apply Kd.R_drew)); exact HO_5.out⟩, ⟨by (with_reducible repeat (first | apply Kd.R_alloc | apply Kd.R_drewN | apply Kd.R_drew)); exact HO_7.out⟩, ⟨by repeat (first | (with_reducible first | exact HB.out | apply below_alloc | apply pw_below_drewN | apply below_drew1) | exact HB.out)⟩⟩
                              · rw [if_neg c28] at H
                                have c28b0 : (t392 == 0) = false := beq_eq_false_iff_ne.mpr c28
                                have c28b1 : (t392 != 0) = true := bne_iff_ne.mpr c28
                                obtain rfl := Option.some.inj H
                                try go_wp2
                                have n0_ := Aside0.mk (Kd.R_drew HO_5.out)
                                have n1_ := Aside0.mk (Kd.R_drew HO_7.out)
                                have n2_ := Aside0.mk (below_drew1 HB.out)
                                clear HO_5
                                clear HO_7
                                clear HB
                                have HO_5 := n0_
                                have HO_7 := n1_
                                have HB := n2_
                                clear n0_ n1_ n2_
                                obtain ⟨Ao35, co35, eo35⟩ := Kd.R_slice HO_5.out
                                (first | subst eo35 | (injection eo35 with f1_ f2_ f3_; have f4_ := f1_.symm; have f5_ := f3_.symm; clear f1_ f2_ f3_; subst f4_; subst f5_))
                                have p388 : 0 ≤ ((ji19) : Int) := of_decide_eq_true (by first | (with_reducible assumption) | assumption)
                                have q388 : (ji19) < (t379.length : Int) := of_decide_eq_true (by first | (with_reducible assumption) | assumption)
                                obtain ⟨ad388, e388, hx388_0⟩ := Kd.at_string (Kd.R_reads' HO_5.out).2.2 (ji19) p388 q388
                                cases e388
                                replace p388 := eq_true p388
                                replace q388 := eq_true q388
                                obtain ⟨Ao36, co36, eo36⟩ := Kd.R_slice HO_7.out
                                (first | subst eo36 | (injection eo36 with f1_ f2_ f3_; have f4_ := f1_.symm; have f5_ := f3_.symm; clear f1_ f2_ f3_; subst f4_; subst f5_))
                                have p390 : 0 ≤ ((ji23) : Int) := of_decide_eq_true (by first | (with_reducible assumption) | assumption)
                                have q390 : (ji23) < (t383.length : Int) := of_decide_eq_true (by first | (with_reducible assumption) | assumption)
                                obtain ⟨ad390, e390, hx390_0⟩ := Kd.at_string (Kd.R_reads' HO_7.out).2.2 (ji23) p390 q390
                                cases e390
                                replace p390 := eq_true p390
                                replace q390 := eq_true q390
                                refine start_ (n := 18) (S := fun w' => w'.cell? (ad388.add ((ji19)).toNat) = some (.string (rdOf ByteArray.empty t379 (ji19))) ∧ w'.cell? (ad390.add ((ji23)).toNat) = some (.string (rdOf ByteArray.empty t383 (ji23)))) (ds := []) #[false, false, false, false, false, false, false, false, false, false, false, false, false, false, false, false, false, false] (by kernel_rfl) rfl rfl ⟨hx388_0, hx390_0⟩ (fun hHeld => ?_); refine with_tabW hearsayref01_Cmp.tab12 hearsayref01_Cmp.bits12 (fun HT_ HW_ => ?_)
                                generalize wc.drew = w34 at HO_5 HO_7 HB hx388_0 hx390_0 hHeld ⊢
                                refine pure_ (i := 0) (N := some 46) (v := ?_) (a' := ?_) #[true, false, false, false, false, false, false, false, false, false, false, false, false, false, false, false, false, false] rfl rfl (any_of HT_.out (by kernel_rfl)) (fun _ _ _ h => h) (Or.inl ⟨by rfl, ?_⟩) ?_ ?_
                                rotate_left
                                · intro w'
                                  go_simp
                                  with_reducible rfl
                                rotate_left
                                · simp only [Act.put, List.setIfInBounds_toArray, List.set_cons_zero, List.set_cons_succ, i64_w, i32_w]
                                  rfl
                                refine pure_ (i := 1) (N := some 47) (v := ?_) (a' := ?_) #[true, true, false, false, false, false, false, false, false, false, false, false, false, false, false, false, false, false] rfl rfl (any_of HT_.out (by kernel_rfl)) (fun _ _ _ h => h) (Or.inl ⟨by rfl, ?_⟩) ?_ ?_
                                rotate_left
                                · intro w'
                                  go_simp
                                  with_reducible rfl
                                rotate_left
                                · simp only [Act.put, List.setIfInBounds_toArray, List.set_cons_zero, List.set_cons_succ, i64_w, i32_w]
                                  rfl
                                refine pure_ (i := 2) (N := some 48) (v := ?_) (a' := ?_) #[true, true, true, false, false, false, false, false, false, false, false, false, false, false, false, false, false, false] rfl rfl (any_of HT_.out (by kernel_rfl)) (fun _ _ _ h => h) (Or.inl ⟨by rfl, ?_⟩) ?_ ?_
                                rotate_left
                                · intro w'
                                  go_simp
                                  with_reducible rfl
                                rotate_left
                                · simp only [Act.put, List.setIfInBounds_toArray, List.set_cons_zero, List.set_cons_succ, i64_w, i32_w]
                                  rfl
                                refine pure_ (i := 3) (N := some 49) (v := ?_) (a' := ?_) #[true, true, true, true, false, false, false, false, false, false, false, false, false, false, false, false, false, false] rfl rfl (any_of HT_.out (by kernel_rfl)) (fun _ _ _ h => h) (Or.inl ⟨by rfl, ?_⟩) ?_ ?_
                                rotate_left
                                · intro w'
                                  go_simp
                                  with_reducible rfl
                                rotate_left
                                · simp only [Act.put, List.setIfInBounds_toArray, List.set_cons_zero, List.set_cons_succ, i64_w, i32_w]
                                  rfl
                                refine pure_ (i := 4) (N := some 50) (v := ?_) (a' := ?_) #[true, true, true, true, true, false, false, false, false, false, false, false, false, false, false, false, false, false] rfl rfl (any_of HT_.out (by kernel_rfl)) (fun _ _ _ h => h) (Or.inl ⟨by rfl, ?_⟩) ?_ ?_
                                rotate_left
                                · intro w'
                                  go_simp
                                  with_reducible rfl
                                rotate_left
                                · simp only [Act.put, List.setIfInBounds_toArray, List.set_cons_zero, List.set_cons_succ, i64_w, i32_w]
                                  rfl
                                refine pure_ (i := 5) (N := some 51) (v := ?_) (a' := ?_) #[true, true, true, true, true, true, false, false, false, false, false, false, false, false, false, false, false, false] rfl rfl (any_of HT_.out (by kernel_rfl)) (fun _ _ _ h => h) (Or.inl ⟨by rfl, ?_⟩) ?_ ?_
                                rotate_left
                                · intro w'
                                  go_simp
                                  with_reducible rfl
                                rotate_left
                                · simp only [Act.put, List.setIfInBounds_toArray, List.set_cons_zero, List.set_cons_succ, i64_w, i32_w]
                                  rfl
                                refine pure_ (i := 8) (N := some 54) (v := ?_) (a' := ?_) #[true, true, true, true, true, true, false, false, true, false, false, false, false, false, false, false, false, false] rfl rfl (any_of HT_.out (by kernel_rfl)) (fun _ _ _ h => h) (Or.inl ⟨by rfl, ?_⟩) ?_ ?_
                                rotate_left
                                · intro w'
                                  go_simp
                                  with_reducible rfl
                                rotate_left
                                · simp only [Act.put, List.setIfInBounds_toArray, List.set_cons_zero, List.set_cons_succ, i64_w, i32_w]
                                  rfl
                                refine pure_ (i := 9) (N := some 55) (v := ?_) (a' := ?_) #[true, true, true, true, true, true, false, false, true, true, false, false, false, false, false, false, false, false] rfl rfl (any_of HT_.out (by kernel_rfl)) (fun _ _ _ h => h) (Or.inl ⟨by rfl, ?_⟩) ?_ ?_
                                rotate_left
                                · intro w'
                                  go_simp
                                  with_reducible rfl
                                rotate_left
                                · simp only [Act.put, List.setIfInBounds_toArray, List.set_cons_zero, List.set_cons_succ, i64_w, i32_w]
                                  rfl
                                refine pure_ (i := 10) (N := some 56) (v := ?_) (a' := ?_) #[true, true, true, true, true, true, false, false, true, true, true, false, false, false, false, false, false, false] rfl rfl (any_of HT_.out (by kernel_rfl)) (fun _ _ _ h => h) (Or.inl ⟨by rfl, ?_⟩) ?_ ?_
                                rotate_left
                                · intro w'
                                  go_simp
                                  with_reducible rfl
                                rotate_left
                                · simp only [Act.put, List.setIfInBounds_toArray, List.set_cons_zero, List.set_cons_succ, i64_w, i32_w]
                                  rfl
                                refine pure_ (i := 11) (N := some 57) (v := ?_) (a' := ?_) #[true, true, true, true, true, true, false, false, true, true, true, true, false, false, false, false, false, false] rfl rfl (any_of HT_.out (by kernel_rfl)) (fun _ _ _ h => h) (Or.inl ⟨by rfl, ?_⟩) ?_ ?_
                                rotate_left
                                · intro w'
                                  go_simp
                                  with_reducible rfl
                                rotate_left
                                · simp only [Act.put, List.setIfInBounds_toArray, List.set_cons_zero, List.set_cons_succ, i64_w, i32_w]
                                  rfl
                                refine pure_ (i := 12) (N := some 58) (v := ?_) (a' := ?_) #[true, true, true, true, true, true, false, false, true, true, true, true, true, false, false, false, false, false] rfl rfl (any_of HT_.out (by kernel_rfl)) (fun _ _ _ h => h) (Or.inl ⟨by rfl, ?_⟩) ?_ ?_
                                rotate_left
                                · intro w'
                                  go_simp
                                  with_reducible rfl
                                rotate_left
                                · simp only [Act.put, List.setIfInBounds_toArray, List.set_cons_zero, List.set_cons_succ, i64_w, i32_w]
                                  rfl
                                refine pure_ (i := 13) (N := some 59) (v := ?_) (a' := ?_) #[true, true, true, true, true, true, false, false, true, true, true, true, true, true, false, false, false, false] rfl rfl (any_of HT_.out (by kernel_rfl)) (fun _ _ _ h => h) (Or.inl ⟨by rfl, ?_⟩) ?_ ?_
                                rotate_left
                                · intro w'
                                  go_simp
                                  with_reducible rfl
                                rotate_left
                                · simp only [Act.put, List.setIfInBounds_toArray, List.set_cons_zero, List.set_cons_succ, i64_w, i32_w]
                                  rfl
                                refine take_ (i := 6) (N := some 52) (v := ?_) (a' := ?_) #[true, true, true, true, true, true, true, false, true, true, true, true, true, true, false, false, false, false] rfl rfl (take_ofW HT_.out HW_.out (by kernel_rfl)) (fun _ _ _ h => h) (Or.inl ⟨by rfl, ?_⟩) hHeld ?_ ?_
                                rotate_left
                                · rintro w' ⟨s0, s1⟩
                                  go_simp
                                  with_reducible rfl
                                rotate_left
                                · simp only [Act.put, List.setIfInBounds_toArray, List.set_cons_zero, List.set_cons_succ, i64_w, i32_w]
                                  rfl
                                refine take_ (i := 14) (N := some 60) (v := ?_) (a' := ?_) #[true, true, true, true, true, true, true, false, true, true, true, true, true, true, true, false, false, false] rfl rfl (take_ofW HT_.out HW_.out (by kernel_rfl)) (fun _ _ _ h => h) (Or.inl ⟨by rfl, ?_⟩) hHeld ?_ ?_
                                rotate_left
                                · rintro w' ⟨s0, s1⟩
                                  go_simp
                                  with_reducible rfl
                                rotate_left
                                · simp only [Act.put, List.setIfInBounds_toArray, List.set_cons_zero, List.set_cons_succ, i64_w, i32_w]
                                  rfl
                                refine one_ (i := 7) (N := some 53) #[true, true, true, true, true, true, true, true, true, true, true, true, true, true, true, false, false, false] rfl rfl (one_of HT_.out (by kernel_rfl)) (by decide) (fun K hK => ?_)
                                refine goes_ Try.func45 (by kernel_rfl) rfl #[.string (rdOf ByteArray.empty t379 (ji19))] (by rfl) rfl rfl (by (try simp only [List.map_toArray, List.map_cons, List.map_nil]); first | done | (simp only [hji19]; rfl) | rfl | (simp only [List.length_drop, List.length_take]; rfl)) ?_
                                with_reducible refine (hearsayref01_Low.calls (rdOf ByteArray.empty t379 (ji19)) t389 _ A22.out).mono ?_
                                rintro e w37 ⟨rfl, hb⟩
                                have HS0_ := (hb.cell (World.block_lt_of_cell? _ _ (hHeld.1))).trans (hHeld.1)
                                have HS1_ := (hb.cell (World.block_lt_of_cell? _ _ (hHeld.2))).trans (hHeld.2)
                                refine ⟨_, rfl, ?_⟩
                                have n0_ := Aside0.mk (Kd.R_below (by (with_reducible repeat (first | apply Kd.R_alloc | apply Kd.R_drewN | apply Kd.R_drew)); exact HO_5.out) hb)
                                have n1_ := Aside0.mk (Kd.R_below (by (with_reducible repeat (first | apply Kd.R_alloc | apply Kd.R_drewN | apply Kd.R_drew)); exact HO_7.out) hb)
                                have n2_ := Aside0.mk (below_step (by repeat (first | (with_reducible first | exact HB.out | apply below_alloc | apply pw_below_drewN | apply below_drew1) | exact HB.out)) hb)
                                clear HO_5
                                clear HO_7
                                clear HB
                                have HO_5 := n0_
                                have HO_7 := n1_
                                have HB := n2_
                                clear n0_ n1_ n2_
                                (try clear hb)
                                (try clear hb2)
                                (try clear hk)
                                (try clear hi)
                                refine hK.out _ _ ⟨HS0_, HS1_⟩ (fun hHeld => ?_)
                                clear hK K
                                refine norm_ (a' := ?_) ?_ ?_
                                rotate_left
                                · show Act.put _ (some 53) _ = _
                                  simp only [Act.put, List.setIfInBounds_toArray, List.set_cons_zero, List.set_cons_succ, i64_w, i32_w]
                                  rfl
                                refine one_ (i := 15) (N := some 61) #[true, true, true, true, true, true, true, true, true, true, true, true, true, true, true, true, false, false] rfl rfl (one_of HT_.out (by kernel_rfl)) (by decide) (fun K hK => ?_)
                                refine goes_ Try.func45 (by kernel_rfl) rfl #[.string (rdOf ByteArray.empty t383 (ji23))] (by rfl) rfl rfl (by (try simp only [List.map_toArray, List.map_cons, List.map_nil]); first | done | (simp only [hji23]; rfl) | rfl | (simp only [List.length_drop, List.length_take]; rfl)) ?_
                                with_reducible refine (hearsayref01_Low.calls (rdOf ByteArray.empty t383 (ji23)) t391 _ A26.out).mono ?_
                                rintro e w38 ⟨rfl, hb⟩
                                have HS0_ := (hb.cell (World.block_lt_of_cell? _ _ (hHeld.1))).trans (hHeld.1)
                                have HS1_ := (hb.cell (World.block_lt_of_cell? _ _ (hHeld.2))).trans (hHeld.2)
                                refine ⟨_, rfl, ?_⟩
                                have n0_ := Aside0.mk (Kd.R_below (by (with_reducible repeat (first | apply Kd.R_alloc | apply Kd.R_drewN | apply Kd.R_drew)); exact HO_5.out) hb)
                                have n1_ := Aside0.mk (Kd.R_below (by (with_reducible repeat (first | apply Kd.R_alloc | apply Kd.R_drewN | apply Kd.R_drew)); exact HO_7.out) hb)
                                have n2_ := Aside0.mk (below_step (by repeat (first | (with_reducible first | exact HB.out | apply below_alloc | apply pw_below_drewN | apply below_drew1) | exact HB.out)) hb)
                                clear HO_5
                                clear HO_7
                                clear HB
                                have HO_5 := n0_
                                have HO_7 := n1_
                                have HB := n2_
                                clear n0_ n1_ n2_
                                (try clear hb)
                                (try clear hb2)
                                (try clear hk)
                                (try clear hi)
                                refine hK.out _ _ ⟨HS0_, HS1_⟩ (fun hHeld => ?_)
                                clear hK K
                                refine norm_ (a' := ?_) ?_ ?_
                                rotate_left
                                · show Act.put _ (some 61) _ = _
                                  simp only [Act.put, List.setIfInBounds_toArray, List.set_cons_zero, List.set_cons_succ, i64_w, i32_w]
                                  rfl
                                refine one_ (i := 16) (N := some 62) #[true, true, true, true, true, true, true, true, true, true, true, true, true, true, true, true, true, false] rfl rfl (one_of HT_.out (by kernel_rfl)) (by decide) (fun K hK => ?_)
                                refine goes_ Try.func60 (by kernel_rfl) rfl #[.string t389, .string t391] (by rfl) rfl rfl (by (try simp only [List.map_toArray, List.map_cons, List.map_nil]); first | done | rfl | (simp only [List.length_drop, List.length_take]; rfl)) ?_
                                with_reducible refine (hearsayref01_text.calls kj12 t389 t391 t392 _ A27.out).mono ?_
                                rintro e w' ⟨rfl, ⟨nd, rfl⟩⟩
                                refine ⟨_, rfl, ?_⟩
                                refine hK.out _ _ ⟨hHeld.1, hHeld.2⟩ (fun hHeld => ?_)
                                clear hK K
                                refine norm_ (a' := ?_) ?_ ?_
                                rotate_left
                                · show Act.put _ (some 62) _ = _
                                  simp only [Act.put, List.setIfInBounds_toArray, List.set_cons_zero, List.set_cons_succ, i64_w, i32_w]
                                  rfl
                                refine pure_ (i := 17) (N := some 10) (v := ?_) (a' := ?_) #[true, true, true, true, true, true, true, true, true, true, true, true, true, true, true, true, true, true] rfl rfl (any_of HT_.out (by kernel_rfl)) (fun _ _ _ h => h) (Or.inl ⟨by rfl, ?_⟩) ?_ ?_
                                rotate_left
                                · intro w'
                                  go_simp
                                  with_reducible rfl
                                rotate_left
                                · simp only [Act.put, List.setIfInBounds_toArray, List.set_cons_zero, List.set_cons_succ, i64_w, i32_w]
                                  rfl
                                refine done_ (done_of HT_.out (by kernel_rfl)) ?_
                                try go_wp2
                                go_ret
                                exact ⟨by first | rfl | (simp [errW_none, errW_some] <;> rfl) | (simp only [← hji19, ← hji23]; first | rfl | (simp [errW_none, errW_some] <;> rfl)) | (simp [*, errW_none, errW_some] <;> rfl), by repeat (first | (with_reducible first | exact HB.out | apply below_alloc | apply pw_below_drewN | apply below_drew1) | exact HB.out)⟩
                            · rw [if_neg c25] at H
                              exact absurd H (by simp)
                          · rw [if_neg c24] at H
                            exact absurd H (by simp)
                        · rw [if_neg c21] at H
                          exact absurd H (by simp)
                      · rw [if_neg c20] at H
                        exact absurd H (by simp)
                    · replace c18 := Bool.eq_false_iff.mpr c18
                      subst c18
                      have H1 : (if (t379.length : Int) = (t383.length : Int) then (some 0) else (if (t379.length : Int) < (t383.length : Int) then (some (-1)) else (some 1))) = some r := by rw [if_neg (show ¬ (false = true) by decide)] at H; exact H
                      clear H
                      have H := H1
                      clear H1
                      by_cases c39 : (t379.length : Int) = (t383.length : Int)
                      · rw [if_pos c39] at H
                        have c39b0 : ((t379.length : Int) == (t383.length : Int)) = true := beq_iff_eq.mpr c39
                        have c39b1 : ((t379.length : Int) != (t383.length : Int)) = false := bne_eq_false_iff_eq.mpr c39
                        have c39b2 : (t379.length == t383.length) = true := by first | simpa using c39 | (simp at c39 ⊢; omega)
                        clear c39
                        obtain rfl := Option.some.inj H
                        obtain ⟨Ao40, co40, eo40⟩ := Kd.R_slice HO_5.out
                        subst eo40
                        obtain ⟨Ao41, co41, eo41⟩ := Kd.R_slice HO_7.out
                        subst eo41
                        go_wp2
                        go_ret
                        exact ⟨by first | rfl | (simp [errW_none, errW_some] <;> rfl) | (simp [*, errW_none, errW_some] <;> rfl), by repeat (first | (with_reducible first | exact HB.out | apply below_alloc | apply pw_below_drewN | apply below_drew1) | exact HB.out)⟩
                      · rw [if_neg c39] at H
                        have c39b0 : ((t379.length : Int) == (t383.length : Int)) = false := beq_eq_false_iff_ne.mpr c39
                        have c39b1 : ((t379.length : Int) != (t383.length : Int)) = true := bne_iff_ne.mpr c39
                        have c39b2 : (t379.length == t383.length) = false := by first | simpa using c39 | (simp at c39 ⊢; omega)
                        by_cases c42 : (t379.length : Int) < (t383.length : Int)
                        · rw [if_pos c42] at H
                          have c42b0 : decide ((t379.length : Int) < (t383.length : Int)) = true := decide_eq_true c42
                          have c42b1 : decide (t379.length < t383.length) = true := decide_eq_true (Int.ofNat_lt.mp c42)
                          clear c42
                          obtain rfl := Option.some.inj H
                          obtain ⟨Ao43, co43, eo43⟩ := Kd.R_slice HO_5.out
                          subst eo43
                          obtain ⟨Ao44, co44, eo44⟩ := Kd.R_slice HO_7.out
                          subst eo44
                          go_wp2
                          go_ret
                          exact ⟨by first | rfl | (simp [errW_none, errW_some] <;> rfl) | (simp [*, errW_none, errW_some] <;> rfl), by repeat (first | (with_reducible first | exact HB.out | apply below_alloc | apply pw_below_drewN | apply below_drew1) | exact HB.out)⟩
                        · rw [if_neg c42] at H
                          have c42b0 : decide ((t379.length : Int) < (t383.length : Int)) = false := decide_eq_false c42
                          have c42b1 : decide (t379.length < t383.length) = false := decide_eq_false (fun h => c42 (Int.ofNat_lt.mpr h))
                          clear c42
                          obtain rfl := Option.some.inj H
                          obtain ⟨Ao45, co45, eo45⟩ := Kd.R_slice HO_5.out
                          subst eo45
                          obtain ⟨Ao46, co46, eo46⟩ := Kd.R_slice HO_7.out
                          subst eo46
                          go_wp2
                          go_ret
                          exact ⟨by first | rfl | (simp [errW_none, errW_some] <;> rfl) | (simp [*, errW_none, errW_some] <;> rfl), by repeat (first | (with_reducible first | exact HB.out | apply below_alloc | apply pw_below_drewN | apply below_drew1) | exact HB.out)⟩
          · replace c12 := Bool.eq_false_iff.mpr c12
            subst c12
            have H1 : (some (-1)) = some r := by rw [if_neg (show ¬ (false = true) by decide)] at H; exact H
            clear H
            have H := H1
            clear H1
            obtain rfl := Option.some.inj H
            go_wp2
            go_ret
            exact ⟨by first | rfl | (simp [errW_none, errW_some] <;> rfl) | (simp [*, errW_none, errW_some] <;> rfl), by repeat (first | (with_reducible first | exact HB.out | apply below_alloc | apply pw_below_drewN | apply below_drew1) | exact HB.out)⟩
        · replace c11 := Bool.eq_false_iff.mpr c11
          subst c11
          have H1 : (some 1) = some r := by rw [if_neg (show ¬ (false = true) by decide)] at H; exact H
          clear H
          have H := H1
          clear H1
          obtain rfl := Option.some.inj H
          go_wp2
          go_ret
          exact ⟨by first | rfl | (simp [errW_none, errW_some] <;> rfl) | (simp [*, errW_none, errW_some] <;> rfl), by repeat (first | (with_reducible first | exact HB.out | apply below_alloc | apply pw_below_drewN | apply below_drew1) | exact HB.out)⟩

end Go.Proofs.Ytplnknhlgdoliaa.Print
end
section
/- name.Cmp and hearsayref01.Cmp tell the same. -/
namespace Go.Proofs.Ytplnknhlgdoliaa.Print
set_option linter.unusedVariables false
set_option linter.unusedSimpArgs false
open Go.RowKit Go.Proofs.YtplnknhlgdoliaaW.PrintWords Go.Proofs.YtplnknhlgdoliaaW.PrintLast Go.Proofs.YtplnknhlgdoliaaW.PrintMore
/-- two rows of bytes -/
def diffP : List Int → List Int → Int
  | x :: xs, y :: ys => if x = y then diffP xs ys else x - y
  | xs, ys => (xs.length : Int) - (ys.length : Int)
theorem diffB_map : ∀ xs ys : List Int, diffB xs ys = diffP (xs.map low1) (ys.map low1)
  | [], [] => rfl
  | [], y :: ys => by simp [diffB, diffP]
  | x :: xs, [] => by simp [diffB, diffP]
  | x :: xs, y :: ys => by simp only [diffB, diffP, List.map_cons]; rw [diffB_map xs ys]
theorem clamp_zero : clamp 0 = 0 := rfl
theorem clamp_pos {c : Int} (h : 0 < c) : clamp c = 1 := by unfold clamp; omega
theorem clamp_neg {c : Int} (h : c < 0) : clamp c = -1 := by unfold clamp; omega
theorem clamp_eq_zero {c : Int} : clamp c = 0 ↔ c = 0 := by unfold clamp; omega
theorem clamp_diff (a b : Int) : clamp (a - b) = if a = b then 0 else if a < b then -1 else 1 := by
  by_cases h : a = b
  · rw [if_pos h]; subst h; rw [Int.sub_self]; rfl
  · rw [if_neg h]
    by_cases h2 : a < b
    · rw [if_pos h2, clamp_neg (by omega)]
    · rw [if_neg h2, clamp_pos (by omega)]
theorem compare_diff : ∀ a b : List UInt8, Lib.compareBytes a b = clamp (diffP (a.map fun c => (c.toNat : Int)) (b.map fun c => (c.toNat : Int)))
  | [], [] => rfl
  | [], b :: ys => by simp only [Lib.compareBytes, List.map_nil, List.map_cons, diffP]; rw [clamp_neg (by simp only [List.length_nil, List.length_cons]; omega)]
  | a :: xs, [] => by simp only [Lib.compareBytes, List.map_nil, List.map_cons, diffP]; rw [clamp_pos (by simp only [List.length_nil, List.length_cons]; omega)]
  | a :: xs, b :: ys => by
    simp only [Lib.compareBytes, List.map_cons, diffP]
    rw [compare_diff xs ys]
    by_cases h : a = b
    · subst h; simp
    · have hn : a.toNat ≠ b.toNat := fun e => h (UInt8.toNat_inj.1 e)
      rw [if_neg (by omega : ¬ ((a.toNat : Int) = (b.toNat : Int)))]
      by_cases h2 : a < b
      · rw [if_pos h2, clamp_neg (by have := UInt8.lt_iff_toNat_lt.1 h2; omega)]
      · have h3 : b < a := UInt8.lt_iff_toNat_lt.2 (by have : ¬ a.toNat < b.toNat := fun e => h2 (UInt8.lt_iff_toNat_lt.2 e); omega)
        rw [if_neg h2, if_pos h3, clamp_pos (by have := UInt8.lt_iff_toNat_lt.1 h3; omega)]
theorem diffP_end {xs ys : List Int} (h : xs = [] ∨ ys = []) : diffP xs ys = (xs.length : Int) - (ys.length : Int) := by
  rcases h with rfl | rfl
  · rfl
  · cases xs <;> rfl
theorem text_ev (a b : ByteArray) (ha : a.size ≤ 140737488351232) (hb : b.size ≤ 140737488351232) (d : Nat) : ∀ i : Nat, a.size - i ≤ d → i ≤ a.size → i ≤ b.size →
    Ev (fun k => hearsayref01_text.l0 k a b (i : Int)) (clamp (diffP ((bytesOf a).drop i) ((bytesOf b).drop i))) := by
  have fin : ∀ i : Nat, i ≤ a.size → i ≤ b.size → ¬ (i < a.size ∧ i < b.size) → Ev (fun k => hearsayref01_text.j1 k a b (i : Int) false) (clamp (diffP ((bytesOf a).drop i) ((bytesOf b).drop i))) := by
    intro i h1 h2 h3
    have e : diffP ((bytesOf a).drop i) ((bytesOf b).drop i) = (a.size : Int) - (b.size : Int) := by
      rw [diffP_end (by by_cases h : i < a.size
                        · exact Or.inr (bo_end b i (by omega))
                        · exact Or.inl (bo_end a i (by omega)))]
      simp only [List.length_drop, bytesOf_length]; omega
    rw [e, clamp_diff]
    refine Ev.step (f := fun _ => some (if (a.size : Int) = (b.size : Int) then 0 else if (a.size : Int) < (b.size : Int) then -1 else 1)) (fun k => ?_) (Ev.now _)
    simp only [hearsayref01_text.j1]
    rw [if_neg (by simp)]
    split
    · rfl
    · split <;> rfl
  induction d with
  | zero =>
    intro i hd h1 h2
    refine Ev.step (f := fun k => hearsayref01_text.j1 k a b i false) (fun k => by simp only [hearsayref01_text.l0]; rw [if_neg (by omega)]) (fin i h1 h2 (by omega))
  | succ d ih =>
    intro i hd h1 h2
    by_cases ha' : i < a.size
    · by_cases hb' : i < b.size
      · refine Ev.step (f := fun k => hearsayref01_text.j1 k a b i true) (fun k => by simp only [hearsayref01_text.l0]; rw [if_pos (by omega)]; congr 1; simp; omega) ?_
        rw [bo_drop a i ha', bo_drop b i hb', diffP]
        by_cases he : bt a (i : Int) = bt b (i : Int)
        · rw [if_pos he]
          refine Ev.step (fun k => ?_) (ih (i + 1) (by omega) (by omega) (by omega))
          simp only [hearsayref01_text.j1]
          rw [if_pos trivial, if_pos (by omega), if_pos (by omega), if_pos (by omega), if_pos he, w64 (by omega) (by omega)]
          rfl
        · rw [if_neg he]
          refine Ev.step (f := fun _ => some (clamp (bt a (i : Int) - bt b (i : Int)))) (fun k => ?_) (Ev.now _)
          simp only [hearsayref01_text.j1]
          rw [if_pos trivial, if_pos (by omega), if_pos (by omega), if_pos (by omega), if_neg he, clamp_diff, if_neg he]
          split <;> rfl
      · refine Ev.step (f := fun k => hearsayref01_text.j1 k a b i false) (fun k => by simp only [hearsayref01_text.l0]; rw [if_pos (by omega)]; congr 1; simp; omega) (fin i h1 h2 (by omega))
    · refine Ev.step (f := fun k => hearsayref01_text.j1 k a b i false) (fun k => by simp only [hearsayref01_text.l0]; rw [if_neg (by omega)]) (fin i h1 h2 (by omega))
theorem text_f (a b : ByteArray) (ha : a.size ≤ 140737488351232) (hb : b.size ≤ 140737488351232) : Ev (fun k => hearsayref01_text.f k a b) (clamp (diffP (bytesOf a) (bytesOf b))) := by
  have h := text_ev a b ha hb a.size 0 (by omega) (by omega) (by omega)
  rw [List.drop_zero, List.drop_zero] at h
  exact h
theorem low_byte {c : Int} (h : 0 ≤ c ∧ c < 256) : 0 ≤ low1 c ∧ low1 c < 256 := low1_range h.1 h.2
theorem bytes_lowS (s : ByteArray) : bytesOf (lowS s) = (bytesOf s).map low1 := by
  unfold lowS
  refine bytes_strOfNums _ (fun x hx => ?_)
  obtain ⟨c, hc, rfl⟩ := List.mem_map.1 hx
  exact low_byte (bo_range s c hc)
theorem lowS_size (s : ByteArray) : (lowS s).size = s.size := by
  have := congrArg List.length (bytes_lowS s)
  rw [bytesOf_length, List.length_map, bytesOf_length] at this
  exact this
theorem low_f {s : ByteArray} (h : s.size ≤ 9223372036854775807) : hearsayref01_Low.f s = some (lowS s) := by
  unfold hearsayref01_Low.f name_Fold.f; rw [if_pos h]
theorem fold_f {s : ByteArray} (h : s.size ≤ 9223372036854775807) : name_Fold.f s = some (lowS s) := by
  unfold name_Fold.f; rw [if_pos h]
theorem label_small {n : ByteArray} {L : List ByteArray} (h : dec n = some L) {s : ByteArray} (hs : s ∈ L) : 0 < s.size ∧ s.size ≤ 63 := by
  have h3 := (dec_some h).2.2
  rw [List.any_eq_false] at h3
  exact bad_false (by simpa using h3 s hs)
theorem rd_rev {L : List ByteArray} {t : Nat} {s : ByteArray} {r : List ByteArray} (h : L.reverse.drop t = s :: r) : t < L.length ∧ rdOf ByteArray.empty L ((L.length : Int) - ((t : Int) + 1)) = s ∧ s ∈ L ∧ L.reverse.drop (t + 1) = r := by
  have ht : t < L.reverse.length := by
    have := congrArg List.length h
    rw [List.length_drop] at this
    simp only [List.length_cons] at this; omega
  have h2 := List.drop_eq_getElem_cons ht
  rw [h] at h2
  injection h2 with h3 h4
  rw [List.length_reverse] at ht
  refine ⟨ht, ?_, by rw [h3]; exact List.mem_reverse.1 (List.getElem_mem _), h4.symm⟩
  rw [h3, List.getElem_reverse]
  have e : ((L.length : Int) - ((t : Int) + 1)).toNat = L.length - 1 - t := by omega
  simp only [rdOf, e]
  rw [List.getD_eq_getElem?_getD, List.getElem?_eq_getElem (by omega)]
  rfl
theorem diffL_end {xs ys : List ByteArray} (h : xs = [] ∨ ys = []) : diffL xs ys = (xs.length : Int) - (ys.length : Int) := by
  rcases h with rfl | rfl
  · rfl
  · cases xs <;> rfl
theorem cmp_l0 {a b : ByteArray} {L M : List ByteArray} (hL : dec a = some L) (hM : dec b = some M) (d : Nat) : ∀ t : Nat, L.length - t ≤ d → t ≤ L.length → t ≤ M.length →
    Ev (fun k => hearsayref01_Cmp.l0 k L M ((t : Int) + 1)) (clamp (diffL (L.reverse.drop t) (M.reverse.drop t))) := by
  have hl := labels_length hL
  have hm := labels_length hM
  have fin : ∀ t : Nat, t ≤ L.length → t ≤ M.length → ¬ (t < L.length ∧ t < M.length) → Ev (fun k => hearsayref01_Cmp.j2 k L M ((t : Int) + 1) false) (clamp (diffL (L.reverse.drop t) (M.reverse.drop t))) := by
    intro t h1 h2 h3
    have e : diffL (L.reverse.drop t) (M.reverse.drop t) = (L.length : Int) - (M.length : Int) := by
      rw [diffL_end (by by_cases h : t < L.length
                        · exact Or.inr (List.drop_of_length_le (by rw [List.length_reverse]; omega))
                        · exact Or.inl (List.drop_of_length_le (by rw [List.length_reverse]; omega)))]
      simp only [List.length_drop, List.length_reverse]; omega
    rw [e, clamp_diff]
    refine Ev.step (f := fun _ => some (if (L.length : Int) = (M.length : Int) then 0 else if (L.length : Int) < (M.length : Int) then -1 else 1)) (fun k => ?_) (Ev.now _)
    simp only [hearsayref01_Cmp.j2]
    rw [if_neg (by simp)]
    split
    · rfl
    · split <;> rfl
  induction d with
  | zero =>
    intro t hd h1 h2
    refine Ev.step (f := fun k => hearsayref01_Cmp.j2 k L M ((t : Int) + 1) false) (fun k => by simp only [hearsayref01_Cmp.l0]; rw [if_neg (by omega)]) (fin t h1 h2 (by omega))
  | succ d ih =>
    intro t hd h1 h2
    by_cases ha' : t < L.length
    · by_cases hb' : t < M.length
      · refine Ev.step (f := fun k => hearsayref01_Cmp.j2 k L M ((t : Int) + 1) true) (fun k => by simp only [hearsayref01_Cmp.l0]; rw [if_pos (by omega)]; congr 1; simp; omega) ?_
        obtain ⟨s, r, hs⟩ : ∃ s r, L.reverse.drop t = s :: r := ⟨_, _, List.drop_eq_getElem_cons (by rw [List.length_reverse]; exact ha')⟩
        obtain ⟨u, q, hu⟩ : ∃ u q, M.reverse.drop t = u :: q := ⟨_, _, List.drop_eq_getElem_cons (by rw [List.length_reverse]; exact hb')⟩
        obtain ⟨_, hs2, hs3, hs4⟩ := rd_rev hs
        obtain ⟨_, hu2, hu3, hu4⟩ := rd_rev hu
        have hs5 := label_small hL hs3
        have hu5 := label_small hM hu3
        have hT := text_f (lowS s) (lowS u) (by rw [lowS_size]; omega) (by rw [lowS_size]; omega)
        rw [bytes_lowS, bytes_lowS, ← diffB_map] at hT
        have ih' := ih (t + 1) (by omega) (by omega) (by omega)
        rw [hs4, hu4] at ih'
        rw [hs, hu, diffL]
        refine Ev.step (f := fun k => (hearsayref01_text.f k (lowS s) (lowS u)).bind fun c => if c = 0 then hearsayref01_Cmp.l0 k L M (((t + 1 : Nat) : Int) + 1) else some c) (fun k => ?_) ?_
        · simp only [hearsayref01_Cmp.j2]
          rw [if_pos trivial, w64 (n := (L.length : Int) - ((t : Int) + 1)) (by omega) (by omega), w64 (n := (M.length : Int) - ((t : Int) + 1)) (by omega) (by omega), w64 (n := (t : Int) + 1 + 1) (by omega) (by omega)]
          rw [if_pos (by omega), if_pos (by omega), hs2, hu2, low_f (by omega), low_f (by omega)]
          simp only [Option.bind_some]
          rw [if_pos (by omega), if_pos (by omega)]
          rfl
        · refine Ev.bind (f := fun k c => if c = 0 then hearsayref01_Cmp.l0 k L M (((t + 1 : Nat) : Int) + 1) else some c) hT ?_
          by_cases hz : diffB (bytesOf s) (bytesOf u) = 0
          · rw [if_pos hz]
            refine Ev.congr (fun k => ?_) ih'
            rw [if_pos (clamp_eq_zero.2 hz)]
          · rw [if_neg hz]
            refine Ev.congr (fun k => ?_) (Ev.now _)
            rw [if_neg (fun h => hz (clamp_eq_zero.1 h))]
      · refine Ev.step (f := fun k => hearsayref01_Cmp.j2 k L M ((t : Int) + 1) false) (fun k => by simp only [hearsayref01_Cmp.l0]; rw [if_pos (by omega)]; congr 1; simp; omega) (fin t h1 h2 (by omega))
    · refine Ev.step (f := fun k => hearsayref01_Cmp.j2 k L M ((t : Int) + 1) false) (fun k => by simp only [hearsayref01_Cmp.l0]; rw [if_neg (by omega)]) (fin t h1 h2 (by omega))
theorem rcmp_f (a b : ByteArray) (ha : a.size ≤ 140737488351232) (hb : b.size ≤ 140737488351232) : Ev (fun k => hearsayref01_Cmp.f k a b) (cmpP a b) := by
  obtain ⟨l1, hE1, hL1⟩ := split_f a
  obtain ⟨l2, hE2, hL2⟩ := split_f b
  refine Ev.bind (f := fun k (x : List ByteArray × Bool) => (hearsayref01_Split.f k b).bind fun y => if x.2 = true then hearsayref01_Cmp.j0 k a b x.1 x.2 y.1 y.2 false else hearsayref01_Cmp.j0 k a b x.1 x.2 y.1 y.2 (!y.2)) hE1 ?_
  refine Ev.bind (f := fun k (y : List ByteArray × Bool) => if (dec a).isSome = true then hearsayref01_Cmp.j0 k a b l1 (dec a).isSome y.1 y.2 false else hearsayref01_Cmp.j0 k a b l1 (dec a).isSome y.1 y.2 (!y.2)) hE2 ?_
  unfold cmpP
  cases hd1 : dec a with
  | none =>
    cases hd2 : dec b with
    | none =>
      simp only [Option.isSome_none, Bool.not_false]
      refine Ev.step (f := fun k => (hearsayref01_text.f k a b).bind fun c => some c) (fun k => ?_) ?_
      · rw [if_neg (by simp)]; simp only [hearsayref01_Cmp.j0]; rw [if_pos trivial]
      · have h := text_f a b ha hb
        rw [compare_diff]
        exact Ev.bind (f := fun _ c => some c) h (Ev.now _)
    | some M =>
      simp only [Option.isSome_none, Option.isSome_some, Bool.not_true]
      refine Ev.step (f := fun _ => some 1) (fun k => ?_) (Ev.now _)
      rw [if_neg (by simp)]; simp only [hearsayref01_Cmp.j0]; rw [if_neg (by simp), if_neg (by simp)]
  | some L =>
    cases hd2 : dec b with
    | none =>
      simp only [Option.isSome_none, Option.isSome_some]
      refine Ev.step (f := fun _ => some (-1)) (fun k => ?_) (Ev.now _)
      rw [if_pos trivial]; simp only [hearsayref01_Cmp.j0]; rw [if_neg (by simp), if_pos trivial, if_neg (by simp)]
    | some M =>
      simp only [Option.isSome_some]
      have e1 := hL1 L hd1
      have e2 := hL2 M hd2
      subst e1; subst e2
      have h := cmp_l0 hd1 hd2 l1.length 0 (by omega) (by omega) (by omega)
      rw [List.drop_zero, List.drop_zero] at h
      refine Ev.step (fun k => ?_) h
      rw [if_pos trivial]; simp only [hearsayref01_Cmp.j0]; rw [if_neg (by simp), if_pos trivial, if_pos trivial]; rfl
end Go.Proofs.Ytplnknhlgdoliaa.Print
end
section
/- hearsayref01.Glue, walked: labels as a name. -/
namespace Go.Proofs.Ytplnknhlgdoliaa.Print
set_option linter.unusedVariables false
set_option linter.unusedSimpArgs false
open Go.RowKit Go.Proofs.YtplnknhlgdoliaaW.PrintWords Go.Proofs.YtplnknhlgdoliaaW.PrintLast Go.Proofs.YtplnknhlgdoliaaW.PrintMore
/-- a label with its length ahead, the length as one byte -/
def labw (s : ByteArray) : List Int := ((s.size : Int) % 256) :: bytesOf s
def gluew (l : List ByteArray) : List Int := l.flatMap labw
def hearsayref01_Glue.f (l : List ByteArray) : Option ByteArray := if (gluew l).length + 1 ≤ 9223372036854775807 then some (strOfNums (gluew l ++ [0])) else none
theorem strOfNums_append (a b : List Int) : strOfNums a ++ strOfNums b = strOfNums (a ++ b) := by
  apply ByteArray.ext
  apply Array.ext'
  simp [strOfNums]
theorem strOfNums_bytes (s : ByteArray) : strOfNums (bytesOf s) = s := by
  apply ByteArray.ext
  apply Array.ext'
  rw [strOfNums_data]
  unfold bytesOf
  rw [List.map_map]
  conv => rhs; rw [← List.map_id s.data.toList]
  refine List.map_congr_left fun b _ => ?_
  simp
theorem gluew_snoc (l : List ByteArray) (s : ByteArray) : gluew (l ++ [s]) = gluew l ++ labw s := by simp [gluew]
theorem labw_length (s : ByteArray) : (labw s).length = s.size + 1 := by simp [labw, bytesOf_length]
theorem gluew_mono (l : List ByteArray) (k : Nat) : (gluew (l.take k)).length ≤ (gluew l).length := by
  conv => rhs; rw [← List.take_append_drop k l]
  simp only [gluew, List.flatMap_append, List.length_append]
  omega
theorem one_string (W : World) (x : Int) : (convert 58 9 (.slice (some ⟨W.heap.size, 0, none⟩) 1 1)).run Try.prog (W.alloc (.cells #[.int .u8 x] 5)) = .ok (.string (strOfNums [x])) (W.alloc (.cells #[.int .u8 x] 5)) := by
  refine string_of_reads Try.underlying58 Try.underlying5 Try.underlying9 ⟨rfl, by decide, fun _ => ⟨_, rfl, fun j hj => ?_⟩⟩
  obtain rfl : j = 0 := by omega
  rw [add_plain]
  exact cell_fresh W (.int .u8 x) 5
theorem one_string_drew (W : World) (x : Int) : (convert 58 9 (.slice (some ⟨W.heap.size, 0, none⟩) 1 1)).run Try.prog (W.alloc (.cells #[.int .u8 x] 5)).drew = .ok (.string (strOfNums [x])) (W.alloc (.cells #[.int .u8 x] 5)).drew := by
  refine string_of_reads Try.underlying58 Try.underlying5 Try.underlying9 ⟨rfl, by decide, fun _ => ⟨_, rfl, fun j hj => ?_⟩⟩
  obtain rfl : j = 0 := by omega
  rw [add_plain]
  exact cell_fresh W (.int .u8 x) 5
set_option maxHeartbeats 4000000 in
set_option maxRecDepth 100000 in
theorem hearsayref01_Glue.calls (A0 : Option Addr) (c0 : Nat) (l0 : List ByteArray) (r : ByteArray) (w : World) (hr0 : Kd.C Kd.string w A0 l0.length l0) (hc0 : l0.length ≤ c0) (h : hearsayref01_Glue.f l0 = some r) :
    Calls Try.prog 50 #[.slice A0 l0.length c0] w fun e w' => e = .returned (.string r) ∧ Below w.heap.size w w' := by
  unfold hearsayref01_Glue.f at h
  by_cases hsz : (gluew l0).length + 1 ≤ 9223372036854775807
  · rw [if_pos hsz] at h
    simp only [Option.some.injEq] at h
    subst h
    have HR := Aside0.mk hr0
    have hml : l0.length ≤ 9223372036854775807 := Kd.C_max hr0
    clear hr0 hc0
    have HB0 := Aside0.mk (Below.refl w.heap.size w)
    go_enter Try.func50, Try.ntmps50
    go_wp2
    go_loopw [3, 4] (fun sv i wr => ∃ (k : Nat), k ≤ l0.length ∧ sv = .string (strOfNums (gluew (l0.take k))) ∧ i = .int .i64 k ∧ Aside0 (Below w.heap.size w wr)) (fun _ i _ => l0.length - (intOf i).toNat)
    case atStart => exact ⟨0, Nat.zero_le _, rfl, rfl, HB0⟩
    case round =>
      clear HB0
      obtain ⟨k, hk, rfl, rfl, HB⟩ := hrel
      have hgk := gluew_mono l0 k
      obtain ⟨acc, hacc⟩ : ∃ acc, acc = strOfNums (gluew (l0.take k)) := ⟨_, rfl⟩
      have hal : acc.size = (gluew (l0.take k)).length := by rw [hacc, strOfNums_size]
      by_cases hlt : k < l0.length
      · obtain ⟨ad, hA, hcell⟩ := Kd.at_string (Kd.C_below HR.out HB.out) (k : Int) (by omega) (by omega)
        obtain ⟨s, hs⟩ : ∃ s, l0[k]? = some s := ⟨l0[k], List.getElem?_eq_getElem hlt⟩
        have hrd : rdOf ByteArray.empty l0 (k : Int) = s := by simp [rdOf, List.getD_eq_getElem?_getD, hs]
        rw [hrd] at hcell
        simp only [Int.toNat_natCast] at hcell
        subst hA
        have hg1 : gluew (l0.take (k + 1)) = gluew (l0.take k) ++ labw s := by rw [take_succ' hs, gluew_snoc]
        have hgk1 := gluew_mono l0 (k + 1)
        rw [hg1, List.length_append, labw_length] at hgk1
        have hw8 : IntKind.u8.wrap (s.size : Int) = (s.size : Int) % 256 := by simp [IntKind.wrap, IntKind.bits, IntKind.signed]
        have hnew : acc ++ strOfNums [(s.size : Int) % 256] ++ s = strOfNums (gluew (l0.take (k + 1))) := by
          rw [hg1, hacc, strOfNums_append]
          conv => lhs; rhs; rw [← strOfNums_bytes s]
          rw [strOfNums_append]
          simp [labw]
        obtain ⟨t1, ht1⟩ : ∃ t1, t1 = strOfNums [IntKind.u8.wrap (s.size : Int)] := ⟨_, rfl⟩
        rw [← hw8, ← ht1] at hnew
        have ht1s : t1.size = 1 := by rw [ht1, strOfNums_size]; rfl
        have hsum1 : (9223372036854775807 < acc.size + t1.size) = False := eq_false (by omega)
        have hsum2 : (9223372036854775807 < (acc ++ t1).size + s.size) = False := eq_false (by rw [ByteArray.size_append]; omega)
        have hsum3 : (9223372036854775807 < acc.size + t1.size + s.size) = False := eq_false (by omega)
        have HN := Aside0.mk hnew
        have HT1 := Aside0.mk ht1
        rw [← hacc]
        clear hnew hg1 hs hrd hacc hw8 ht1 ht1s hal
        have h0k : (0 : Int) ≤ (k : Int) := by omega
        have h1k : (k : Int) < (l0.length : Int) := by omega
        have HBd := Aside0.mk (below_drew HB.out)
        have hcelld : wr.drew.cell? (ad.add k) = some (.string s) := pw_cell_below (below_drew (Below.refl _ _)) hcell
        go_wp2
        refine start_ (n := 16) (S := (fun w' => w'.cell? (ad.add k) = some (.string s))) (ds := []) #[false, false, false, false, false, false, false, false, false, false, false, false, false, false, false, false] (by kernel_rfl) rfl rfl hcelld (fun hHeld => ?_)
        generalize wr.drew = wd at HBd hcelld hHeld ⊢
        refine pure_ (i := 0) (N := some 11) (v := ?_) (a' := ?_) #[true, false, false, false, false, false, false, false, false, false, false, false, false, false, false, false] rfl rfl (by kernel_rfl) (fun _ _ _ h => h) (Or.inl ⟨by rfl, ?_⟩) ?_ ?_
        rotate_left
        · intro w'
          go_simp
          with_reducible rfl
        rotate_left
        · simp only [Act.put, List.setIfInBounds_toArray, List.set_cons_zero, List.set_cons_succ, i64_w, i32_w]
          rfl
        refine pure_ (i := 1) (N := some 12) (v := ?_) (a' := ?_) #[true, true, false, false, false, false, false, false, false, false, false, false, false, false, false, false] rfl rfl (by kernel_rfl) (fun _ _ _ h => h) (Or.inl ⟨by rfl, ?_⟩) ?_ ?_
        rotate_left
        · intro w'
          go_simp
          with_reducible rfl
        rotate_left
        · simp only [Act.put, List.setIfInBounds_toArray, List.set_cons_zero, List.set_cons_succ, i64_w, i32_w]
          rfl
        refine pure_ (i := 2) (N := some 13) (v := ?_) (a' := ?_) #[true, true, true, false, false, false, false, false, false, false, false, false, false, false, false, false] rfl rfl (by kernel_rfl) (fun _ _ _ h => h) (Or.inl ⟨by rfl, ?_⟩) ?_ ?_
        rotate_left
        · intro w'
          go_simp
          with_reducible rfl
        rotate_left
        · simp only [Act.put, List.setIfInBounds_toArray, List.set_cons_zero, List.set_cons_succ, i64_w, i32_w]
          rfl
        refine pure_ (i := 3) (N := some 14) (v := ?_) (a' := ?_) #[true, true, true, true, false, false, false, false, false, false, false, false, false, false, false, false] rfl rfl (by kernel_rfl) (fun _ _ _ h => h) (Or.inl ⟨by rfl, ?_⟩) ?_ ?_
        rotate_left
        · intro w'
          go_simp
          with_reducible rfl
        rotate_left
        · simp only [Act.put, List.setIfInBounds_toArray, List.set_cons_zero, List.set_cons_succ, i64_w, i32_w]
          rfl
        refine take_ (i := 4) (N := some 15) (v := ?_) (a' := ?_) #[true, true, true, true, true, false, false, false, false, false, false, false, false, false, false, false] rfl rfl (by kernel_rfl) (fun _ _ _ h => h) (Or.inl ⟨by rfl, ?_⟩) hHeld ?_ ?_
        rotate_left
        · rintro w' hs0
          go_simp
          with_reducible rfl
        rotate_left
        · simp only [Act.put, List.setIfInBounds_toArray, List.set_cons_zero, List.set_cons_succ, i64_w, i32_w]
          rfl
        refine pure_ (i := 5) (N := some 16) (v := ?_) (a' := ?_) #[true, true, true, true, true, true, false, false, false, false, false, false, false, false, false, false] rfl rfl (by kernel_rfl) (fun _ _ _ h => h) (Or.inl ⟨by rfl, ?_⟩) ?_ ?_
        rotate_left
        · intro w'
          go_simp
          with_reducible rfl
        rotate_left
        · simp only [Act.put, List.setIfInBounds_toArray, List.set_cons_zero, List.set_cons_succ, i64_w, i32_w]
          rfl
        refine pure_ (i := 6) (N := some 17) (v := ?_) (a' := ?_) #[true, true, true, true, true, true, true, false, false, false, false, false, false, false, false, false] rfl rfl (by kernel_rfl) (fun _ _ _ h => h) (Or.inl ⟨by rfl, ?_⟩) ?_ ?_
        rotate_left
        · intro w'
          go_simp
          with_reducible rfl
        rotate_left
        · simp only [Act.put, List.setIfInBounds_toArray, List.set_cons_zero, List.set_cons_succ, i64_w, i32_w]
          rfl
        refine pure_ (i := 10) (N := some 21) (v := ?_) (a' := ?_) #[true, true, true, true, true, true, true, false, false, false, true, false, false, false, false, false] rfl rfl (by kernel_rfl) (fun _ _ _ h => h) (Or.inl ⟨by rfl, ?_⟩) ?_ ?_
        rotate_left
        · intro w'
          go_simp
          with_reducible rfl
        rotate_left
        · simp only [Act.put, List.setIfInBounds_toArray, List.set_cons_zero, List.set_cons_succ, i64_w, i32_w]
          rfl
        refine pure_ (i := 11) (N := some 22) (v := ?_) (a' := ?_) #[true, true, true, true, true, true, true, false, false, false, true, true, false, false, false, false] rfl rfl (by kernel_rfl) (fun _ _ _ h => h) (Or.inl ⟨by rfl, ?_⟩) ?_ ?_
        rotate_left
        · intro w'
          go_simp
          with_reducible rfl
        rotate_left
        · simp only [Act.put, List.setIfInBounds_toArray, List.set_cons_zero, List.set_cons_succ, i64_w, i32_w]
          rfl
        refine pure_ (i := 12) (N := some 23) (v := ?_) (a' := ?_) #[true, true, true, true, true, true, true, false, false, false, true, true, true, false, false, false] rfl rfl (by kernel_rfl) (fun _ _ _ h => h) (Or.inl ⟨by rfl, ?_⟩) ?_ ?_
        rotate_left
        · intro w'
          go_simp
          with_reducible rfl
        rotate_left
        · simp only [Act.put, List.setIfInBounds_toArray, List.set_cons_zero, List.set_cons_succ, i64_w, i32_w]
          rfl
        refine take_ (i := 13) (N := some 24) (v := ?_) (a' := ?_) #[true, true, true, true, true, true, true, false, false, false, true, true, true, true, false, false] rfl rfl (by kernel_rfl) (fun _ _ _ h => h) (Or.inl ⟨by rfl, ?_⟩) hHeld ?_ ?_
        rotate_left
        · rintro w' hs0
          go_simp
          with_reducible rfl
        rotate_left
        · simp only [Act.put, List.setIfInBounds_toArray, List.set_cons_zero, List.set_cons_succ, i64_w, i32_w]
          rfl
        refine one_ (i := 7) (N := some 18) #[true, true, true, true, true, true, true, true, false, false, true, true, true, true, false, false] rfl rfl (by kernel_rfl) (by decide) (fun K hK => ?_)
        refine value_ (v := .slice (some ⟨wd.heap.size, 0, none⟩) 1 1) (w1 := wd.alloc (.cells #[.int .u8 (IntKind.u8.wrap (s.size : Int))] 5)) (by rfl) rfl ?_ ?_
        · go_simp
          try with_reducible rfl
        refine hK.out _ _ (pw_cell_below (below_alloc (Below.refl _ _) _) hHeld) (fun hHeld => ?_)
        clear hK K
        refine norm_ (a' := ?_) ?_ ?_
        rotate_left
        · show Act.put _ (some 18) _ = _
          simp only [Act.put, List.setIfInBounds_toArray, List.set_cons_zero, List.set_cons_succ, i64_w, i32_w]
          rfl
        have hone := one_string wd (IntKind.u8.wrap (s.size : Int))
        rw [← HT1.out] at hone
        refine one_ (i := 8) (N := some 19) #[true, true, true, true, true, true, true, true, true, false, true, true, true, true, false, false] rfl rfl (by kernel_rfl) (by decide) (fun K hK => ?_)
        refine value_ (v := .string t1) (w1 := wd.alloc (.cells #[.int .u8 (IntKind.u8.wrap (s.size : Int))] 5)) (by rfl) rfl ?_ ?_
        · go_simp
          try with_reducible rfl
        refine hK.out _ _ hHeld (fun hHeld => ?_)
        clear hK K
        refine norm_ (a' := ?_) ?_ ?_
        rotate_left
        · show Act.put _ (some 19) _ = _
          simp only [Act.put, List.setIfInBounds_toArray, List.set_cons_zero, List.set_cons_succ, i64_w, i32_w]
          rfl
        refine pure_ (i := 9) (N := some 20) (v := ?_) (a' := ?_) #[true, true, true, true, true, true, true, true, true, true, true, true, true, true, false, false] rfl rfl (by kernel_rfl) (fun _ _ _ h => h) (Or.inl ⟨by rfl, ?_⟩) ?_ ?_
        rotate_left
        · intro w'
          go_simp
          with_reducible rfl
        rotate_left
        · simp only [Act.put, List.setIfInBounds_toArray, List.set_cons_zero, List.set_cons_succ, i64_w, i32_w]
          rfl
        refine pure_ (i := 14) (N := some 25) (v := ?_) (a' := ?_) #[true, true, true, true, true, true, true, true, true, true, true, true, true, true, true, false] rfl rfl (by kernel_rfl) (fun _ _ _ h => h) (Or.inl ⟨by rfl, ?_⟩) ?_ ?_
        rotate_left
        · intro w'
          go_simp
          with_reducible rfl
        rotate_left
        · simp only [Act.put, List.setIfInBounds_toArray, List.set_cons_zero, List.set_cons_succ, i64_w, i32_w]
          rfl
        refine pure_ (i := 15) (N := some 3) (v := ?_) (a' := ?_) #[true, true, true, true, true, true, true, true, true, true, true, true, true, true, true, true] rfl rfl (by kernel_rfl) (fun _ _ _ h => h) (Or.inl ⟨by rfl, ?_⟩) ?_ ?_
        rotate_left
        · intro w'
          go_simp
          with_reducible rfl
        rotate_left
        · simp only [Act.put, List.setIfInBounds_toArray, List.set_cons_zero, List.set_cons_succ, i64_w, i32_w]
          rfl
        refine done_ (by kernel_rfl) ?_
        go_wp2
        go_roundw
        case rel => exact ⟨k + 1, by omega, by first | (rw [← HN.out]; done) | (rw [← HN.out]; simp; done), by go_num, ⟨by repeat (first | (with_reducible first | exact HBd.out | apply below_alloc | apply pw_below_drewN | apply below_drew1) | exact HBd.out)⟩⟩
        case measure => simp [intOf]; omega
      · have hge : (l0.take k) = l0 := List.take_of_length_le (by omega)
        have hfin : acc ++ (⟨#[0]⟩ : ByteArray) = strOfNums (gluew l0 ++ [0]) := by
          rw [← strOfNums_append, hacc, hge]; rfl
        have hsum : acc.size + 1 ≤ 9223372036854775807 := by rw [hal, hge]; omega
        have HF := Aside0.mk hfin
        rw [← hacc]
        clear hfin hge hacc hal hgk
        go_wp2
        go_ret
        exact ⟨by first | (rw [← HF.out]; done) | (rw [← HF.out]; simp; done), HB.out⟩
  · rw [if_neg hsz] at h; exact absurd h (by simp)
end Go.Proofs.Ytplnknhlgdoliaa.Print
end
section
-- Written by a program of this session, built on the kit's print (it is not the print's own text).
namespace Go.Proofs.Ytplnknhlgdoliaa.Print
open Go.RowKit Go.Proofs.YtplnknhlgdoliaaW.PrintWords Go.Proofs.YtplnknhlgdoliaaW.PrintLast Go.Proofs.YtplnknhlgdoliaaW.PrintMore
attribute [local go_sem] max2_int min2_int max_two min_two max_three min_three max_four min_four   -- for this text's walks alone
set_option linter.unusedVariables false
set_option linter.unusedSimpArgs false

/-! ### hearsayref01_Of: function 22 -/
mutual
def hearsayref01_Of.l0 : Nat → List ByteArray → Int → Int → Option (ByteArray × Int)
  | 0, _, _, _ => none
  | k + 1, x0, x4, x5 => if x5 < (x0.length : Int) then (if 0 ≤ x5 then (if ((rdOf ByteArray.empty x0 x5).size : Int) < 1 then (some ((⟨#[]⟩ : ByteArray), 10)) else (if ((rdOf ByteArray.empty x0 x5).size : Int) > 63 then (some ((⟨#[]⟩ : ByteArray), 10)) else (hearsayref01_Of.l0 k x0 x4 (wrap64 (x5 + 1))))) else (none)) else (hearsayref01_Of.l1 k x0 x4 0)
def hearsayref01_Of.l1 : Nat → List ByteArray → Int → Int → Option (ByteArray × Int)
  | 0, _, _, _ => none
  | k + 1, x0, x4, x6 => if x6 < (x0.length : Int) then (if 0 ≤ x6 then (if (wrap64 ((wrap64 (x4 + 1)) + ((rdOf ByteArray.empty x0 x6).size : Int))) > 255 then (some ((⟨#[]⟩ : ByteArray), 2)) else (hearsayref01_Of.l1 k x0 (wrap64 ((wrap64 (x4 + 1)) + ((rdOf ByteArray.empty x0 x6).size : Int))) (wrap64 (x6 + 1)))) else (none)) else ((hearsayref01_Glue.f x0).bind fun t160 => (some (t160, 0)))
end
def hearsayref01_Of.f (k : Nat) (l0 : List ByteArray) : Option (ByteArray × Int) := hearsayref01_Of.l0 k l0 1 0
theorem hearsayref01_Of.mono_l : ∀ k, (∀ y0 y1 y2, LeO (hearsayref01_Of.l0 k y0 y1 y2) (hearsayref01_Of.l0 (k + 1) y0 y1 y2)) ∧ (∀ y0 y1 y2, LeO (hearsayref01_Of.l1 k y0 y1 y2) (hearsayref01_Of.l1 (k + 1) y0 y1 y2))
  | 0 => ⟨fun _ _ _ r h => by simp [hearsayref01_Of.l0] at h, fun _ _ _ r h => by simp [hearsayref01_Of.l1] at h⟩
  | k + 1 => by
    obtain ⟨ih0, ih1⟩ := hearsayref01_Of.mono_l k
    refine ⟨?_, ?_⟩
    · intro y0 y1 y2
      unfold hearsayref01_Of.l0
      repeat' first
      | (with_reducible exact ih0 _ _ _)
      | (with_reducible exact ih1 _ _ _)
      | (with_reducible exact LeO.refl _)
      | (with_reducible exact LeO.none _)
      | (with_reducible refine LeO.ite ?_ ?_)
      | (with_reducible refine LeO.bind ?_ (fun _ => ?_))
      | exact ih0 _ _ _
      | exact ih1 _ _ _
      | exact LeO.none _
      | refine LeO.ite ?_ ?_
      | refine LeO.bind ?_ (fun _ => ?_)
    · intro y0 y1 y2
      unfold hearsayref01_Of.l1
      repeat' first
      | (with_reducible exact ih0 _ _ _)
      | (with_reducible exact ih1 _ _ _)
      | (with_reducible exact LeO.refl _)
      | (with_reducible exact LeO.none _)
      | (with_reducible refine LeO.ite ?_ ?_)
      | (with_reducible refine LeO.bind ?_ (fun _ => ?_))
      | exact ih0 _ _ _
      | exact ih1 _ _ _
      | exact LeO.none _
      | refine LeO.ite ?_ ?_
      | refine LeO.bind ?_ (fun _ => ?_)
theorem hearsayref01_Of.mono : ∀ a0 k, LeO (hearsayref01_Of.f k a0) (hearsayref01_Of.f (k + 1) a0) := by
  intro a0 k
  obtain ⟨ih0, ih1⟩ := hearsayref01_Of.mono_l k
  unfold hearsayref01_Of.f
  repeat' first
      | (with_reducible exact ih0 _ _ _)
      | (with_reducible exact ih1 _ _ _)
      | (with_reducible exact LeO.refl _)
      | (with_reducible exact LeO.none _)
      | (with_reducible refine LeO.ite ?_ ?_)
      | (with_reducible refine LeO.bind ?_ (fun _ => ?_))
      | exact ih0 _ _ _
      | exact ih1 _ _ _
      | exact LeO.none _
      | refine LeO.ite ?_ ?_
      | refine LeO.bind ?_ (fun _ => ?_)
set_option maxHeartbeats 8000000 in
set_option maxRecDepth 100000 in
theorem hearsayref01_Of.calls (k : Nat) (A0 : Option Addr) (c0 : Nat) (l0 : List ByteArray) (r1 : ByteArray) (r2 : Int) (w : World) (hr0 : Kd.C Kd.string w A0 l0.length l0) (hc0 : l0.length ≤ c0) (h : hearsayref01_Of.f k l0 = some (r1, r2)) :
    Calls Try.prog 22 #[.slice A0 l0.length c0] w fun e w' => e = .returned (.tuple #[.string r1, .int .i64 r2]) ∧ Below w.heap.size w w' := by
  have HR0 := Aside0.mk hr0
  have HC0 := Aside0.mk hc0
  clear hr0 hc0
  have HB := Aside0.mk (Below.refl w.heap.size w)
  have H : (hearsayref01_Of.l0 k l0 1 0) = some (r1, r2) := h
  clear h
  have H' := Aside0.mk H
  clear H
  go_enter Try.func22, Try.ntmps22
  go_wp2
  go_loopg [5] k (fun kq v5 w' => ∃ (x5_1 : Int), v5 = .int .i64 x5_1 ∧ Aside0 (hearsayref01_Of.l0 kq l0 1 x5_1 = some (r1, r2)) ∧ Aside0 (kq ≤ k) ∧ Aside0 (Below w.heap.size w w'))
  case atStart => exact ⟨(0), (by first | rfl | (simp; done) | (simp [*]; done)), H', ⟨Nat.le_refl _⟩, ⟨by repeat (first | (with_reducible first | exact HB.out | apply below_alloc | apply pw_below_drewN | apply below_drew1) | exact HB.out)⟩⟩
  case round =>
    clear H'
    obtain ⟨x5_1, rfl, HA, HK1, HB⟩ := hrel
    cases gk with
    | zero => exact absurd HA.out (by simp [hearsayref01_Of.l0])
    | succ k1 =>
      have H := HA.out
      clear HA
      simp only [hearsayref01_Of.l0] at H
      by_cases c2 : x5_1 < (l0.length : Int)
      · rw [if_pos c2] at H
        have c2b0 : decide (x5_1 < (l0.length : Int)) = true := decide_eq_true c2
        clear c2
        by_cases c3 : 0 ≤ x5_1
        · rw [if_pos c3] at H
          have c3b0 : decide (0 ≤ x5_1) = true := decide_eq_true c3
          clear c3
          by_cases c4 : ((rdOf ByteArray.empty l0 x5_1).size : Int) < 1
          · rw [if_pos c4] at H
            have c4b0 : decide (((rdOf ByteArray.empty l0 x5_1).size : Int) < 1) = true := decide_eq_true c4
            have c4b1 : decide ((rdOf ByteArray.empty l0 x5_1).size < 1) = true := decide_eq_true (by omega)
            clear c4
            simp only [Option.some.injEq, Prod.mk.injEq] at H
            obtain ⟨rfl, rfl⟩ := H
            have p157 : 0 ≤ (x5_1 : Int) := of_decide_eq_true (by first | (with_reducible assumption) | assumption)
            have q157 : x5_1 < (l0.length : Int) := of_decide_eq_true (by first | (with_reducible assumption) | assumption)
            obtain ⟨ad157, e157, hx157_0⟩ := Kd.at_string HR0.out x5_1 p157 q157
            cases e157
            replace hx157_0 := (HB.out.cell (World.block_lt_of_cell? w _ hx157_0)).trans hx157_0
            replace p157 := eq_true p157
            replace q157 := eq_true q157
            go_wp2
            go_ret2
            exact ⟨by first | rfl | (simp [errW_none, errW_some] <;> rfl) | (simp [*, errW_none, errW_some] <;> rfl), by repeat (first | (with_reducible first | exact HB.out | apply below_alloc | apply pw_below_drewN | apply below_drew1) | exact HB.out)⟩
          · rw [if_neg c4] at H
            have c4b0 : decide (((rdOf ByteArray.empty l0 x5_1).size : Int) < 1) = false := decide_eq_false c4
            have c4b1 : decide ((rdOf ByteArray.empty l0 x5_1).size < 1) = false := decide_eq_false (by omega)
            clear c4
            by_cases c5 : ((rdOf ByteArray.empty l0 x5_1).size : Int) > 63
            · rw [if_pos c5] at H
              have c5b0 : decide (63 < ((rdOf ByteArray.empty l0 x5_1).size : Int)) = true := decide_eq_true c5
              have c5b1 : decide (63 < (rdOf ByteArray.empty l0 x5_1).size) = true := decide_eq_true (by omega)
              clear c5
              simp only [Option.some.injEq, Prod.mk.injEq] at H
              obtain ⟨rfl, rfl⟩ := H
              have p157 : 0 ≤ (x5_1 : Int) := of_decide_eq_true (by first | (with_reducible assumption) | assumption)
              have q157 : x5_1 < (l0.length : Int) := of_decide_eq_true (by first | (with_reducible assumption) | assumption)
              obtain ⟨ad157, e157, hx157_0⟩ := Kd.at_string HR0.out x5_1 p157 q157
              cases e157
              replace hx157_0 := (HB.out.cell (World.block_lt_of_cell? w _ hx157_0)).trans hx157_0
              replace p157 := eq_true p157
              replace q157 := eq_true q157
              have p158 : 0 ≤ (x5_1 : Int) := of_decide_eq_true (by first | (with_reducible assumption) | assumption)
              have q158 : x5_1 < (l0.length : Int) := of_decide_eq_true (by first | (with_reducible assumption) | assumption)
              obtain ⟨ad158, e158, hx158_0⟩ := Kd.at_string HR0.out x5_1 p158 q158
              obtain rfl : ad157 = ad158 := (by injection e158)
              replace hx158_0 := (HB.out.cell (World.block_lt_of_cell? w _ hx158_0)).trans hx158_0
              replace p158 := eq_true p158
              replace q158 := eq_true q158
              go_wp2
              go_ret2
              exact ⟨by first | rfl | (simp [errW_none, errW_some] <;> rfl) | (simp [*, errW_none, errW_some] <;> rfl), by repeat (first | (with_reducible first | exact HB.out | apply below_alloc | apply pw_below_drewN | apply below_drew1) | exact HB.out)⟩
            · rw [if_neg c5] at H
              have c5b0 : decide (63 < ((rdOf ByteArray.empty l0 x5_1).size : Int)) = false := decide_eq_false c5
              have c5b1 : decide (63 < (rdOf ByteArray.empty l0 x5_1).size) = false := decide_eq_false (by omega)
              clear c5
              have H' := Aside0.mk H
              clear H
              have p157 : 0 ≤ (x5_1 : Int) := of_decide_eq_true (by first | (with_reducible assumption) | assumption)
              have q157 : x5_1 < (l0.length : Int) := of_decide_eq_true (by first | (with_reducible assumption) | assumption)
              obtain ⟨ad157, e157, hx157_0⟩ := Kd.at_string HR0.out x5_1 p157 q157
              cases e157
              replace hx157_0 := (HB.out.cell (World.block_lt_of_cell? w _ hx157_0)).trans hx157_0
              replace p157 := eq_true p157
              replace q157 := eq_true q157
              have p158 : 0 ≤ (x5_1 : Int) := of_decide_eq_true (by first | (with_reducible assumption) | assumption)
              have q158 : x5_1 < (l0.length : Int) := of_decide_eq_true (by first | (with_reducible assumption) | assumption)
              obtain ⟨ad158, e158, hx158_0⟩ := Kd.at_string HR0.out x5_1 p158 q158
              obtain rfl : ad157 = ad158 := (by injection e158)
              replace hx158_0 := (HB.out.cell (World.block_lt_of_cell? w _ hx158_0)).trans hx158_0
              replace p158 := eq_true p158
              replace q158 := eq_true q158
              go_wp2
              go_roundg k1
              case measure => have := HK1.out; omega
              case rel => exact ⟨(wrap64 (x5_1 + 1)), (by first | rfl | (simp; done) | (simp [*]; done)), H', ⟨by have := HK1.out; omega⟩, ⟨by repeat (first | (with_reducible first | exact HB.out | apply below_alloc | apply pw_below_drewN | apply below_drew1) | exact HB.out)⟩⟩
        · rw [if_neg c3] at H
          exact absurd H (by simp)
      · rw [if_neg c2] at H
        have c2b0 : decide (x5_1 < (l0.length : Int)) = false := decide_eq_false c2
        clear c2
        have H' := Aside0.mk H
        clear H
        go_wp2
        go_loopg [4, 6] k1 (fun kq v4 v6 w' => ∃ (x4_2 : Int) (x6_2 : Int), v4 = .int .i64 x4_2 ∧ v6 = .int .i64 x6_2 ∧ Aside0 (hearsayref01_Of.l1 kq l0 x4_2 x6_2 = some (r1, r2)) ∧ Aside0 (kq ≤ k1) ∧ Aside0 (Below w.heap.size w w'))
        case atStart => exact ⟨(1), (0), (by first | rfl | (simp; done) | (simp [*]; done)), (by first | rfl | (simp; done) | (simp [*]; done)), H', ⟨Nat.le_refl _⟩, ⟨by repeat (first | (with_reducible first | exact HB.out | apply below_alloc | apply pw_below_drewN | apply below_drew1) | exact HB.out)⟩⟩
        case round =>
          clear H'
          try clear p1
          try clear q1
          try clear hx1
          try clear c2
          try clear c2b0
          try clear p2
          try clear c3
          try clear c3b0
          try clear c4
          try clear c4b0
          try clear c4b1
          try clear c5
          try clear c5b0
          try clear c5b1
          try clear hx157_0
          try clear hx158_0
          try clear p157
          try clear p158
          try clear q157
          try clear q158
          obtain ⟨x4_2, x6_2, rfl, rfl, HA, HK2, HB⟩ := hrel
          cases gk with
          | zero => exact absurd HA.out (by simp [hearsayref01_Of.l1])
          | succ k2 =>
            have H := HA.out
            clear HA
            simp only [hearsayref01_Of.l1] at H
            by_cases c6 : x6_2 < (l0.length : Int)
            · rw [if_pos c6] at H
              have c6b0 : decide (x6_2 < (l0.length : Int)) = true := decide_eq_true c6
              clear c6
              by_cases c7 : 0 ≤ x6_2
              · rw [if_pos c7] at H
                have c7b0 : decide (0 ≤ x6_2) = true := decide_eq_true c7
                clear c7
                by_cases c8 : (wrap64 ((wrap64 (x4_2 + 1)) + ((rdOf ByteArray.empty l0 x6_2).size : Int))) > 255
                · rw [if_pos c8] at H
                  have c8b0 : decide (255 < (wrap64 ((wrap64 (x4_2 + 1)) + ((rdOf ByteArray.empty l0 x6_2).size : Int)))) = true := decide_eq_true c8
                  clear c8
                  simp only [Option.some.injEq, Prod.mk.injEq] at H
                  obtain ⟨rfl, rfl⟩ := H
                  have p159 : 0 ≤ (x6_2 : Int) := of_decide_eq_true (by first | (with_reducible assumption) | assumption)
                  have q159 : x6_2 < (l0.length : Int) := of_decide_eq_true (by first | (with_reducible assumption) | assumption)
                  obtain ⟨ad159, e159, hx159_0⟩ := Kd.at_string HR0.out x6_2 p159 q159
                  cases e159
                  replace hx159_0 := (HB.out.cell (World.block_lt_of_cell? w _ hx159_0)).trans hx159_0
                  replace p159 := eq_true p159
                  replace q159 := eq_true q159
                  go_wp2
                  go_ret2
                  exact ⟨by first | rfl | (simp [errW_none, errW_some] <;> rfl) | (simp [*, errW_none, errW_some] <;> rfl), by repeat (first | (with_reducible first | exact HB.out | apply below_alloc | apply pw_below_drewN | apply below_drew1) | exact HB.out)⟩
                · rw [if_neg c8] at H
                  have c8b0 : decide (255 < (wrap64 ((wrap64 (x4_2 + 1)) + ((rdOf ByteArray.empty l0 x6_2).size : Int)))) = false := decide_eq_false c8
                  clear c8
                  have H' := Aside0.mk H
                  clear H
                  have p159 : 0 ≤ (x6_2 : Int) := of_decide_eq_true (by first | (with_reducible assumption) | assumption)
                  have q159 : x6_2 < (l0.length : Int) := of_decide_eq_true (by first | (with_reducible assumption) | assumption)
                  obtain ⟨ad159, e159, hx159_0⟩ := Kd.at_string HR0.out x6_2 p159 q159
                  cases e159
                  replace hx159_0 := (HB.out.cell (World.block_lt_of_cell? w _ hx159_0)).trans hx159_0
                  replace p159 := eq_true p159
                  replace q159 := eq_true q159
                  go_wp2
                  go_roundg k2
                  case measure => have := HK1.out; have := HK2.out; omega
                  case rel => exact ⟨(wrap64 ((wrap64 (x4_2 + 1)) + ((rdOf ByteArray.empty l0 x6_2).size : Int))), (wrap64 (x6_2 + 1)), (by first | rfl | (simp; done) | (simp [*]; done)), (by first | rfl | (simp; done) | (simp [*]; done)), H', ⟨by have := HK1.out; have := HK2.out; omega⟩, ⟨by repeat (first | (with_reducible first | exact HB.out | apply below_alloc | apply pw_below_drewN | apply below_drew1) | exact HB.out)⟩⟩
              · rw [if_neg c7] at H
                exact absurd H (by simp)
            · rw [if_neg c6] at H
              have c6b0 : decide (x6_2 < (l0.length : Int)) = false := decide_eq_false c6
              clear c6
              replace H := Option.bind_eq_some_iff.mp H
              obtain ⟨t160, A90, H⟩ := H
              replace H : (some (t160, 0)) = some (r1, r2) := H
              have A9 := Aside0.mk A90
              clear A90
              simp only [Option.some.injEq, Prod.mk.injEq] at H
              obtain ⟨rfl, rfl⟩ := H
              go_wp2_with (first | ((with_reducible refine gate_callee (f := 50) rfl ?_); refine goesL_ (some 44) rfl rfl Try.func50 (by kernel_rfl) rfl #[.slice A0 l0.length c0] rfl (by (try simp only [List.map_toArray, List.map_cons, List.map_nil]); first | done | rfl | (simp only [List.length_drop, List.length_take]; rfl)) ?_; (with_reducible refine (hearsayref01_Glue.calls _ _ l0 t160 _ ?side1 ?side2 A9.out).mono ?_); (case side1 => repeat (first | exact (Kd.C_below HR0.out HB.out) | (with_reducible refine Kd.C_alloc ?_ _) | (with_reducible refine Kd.C_drewN ?_ _) | (with_reducible refine Kd.C_drew ?_))); (case side2 => exact HC0.out); rintro e w10 ⟨rfl, hb⟩; refine ⟨_, rfl, ?_⟩; have n0_ := Aside0.mk (below_step (by repeat (first | (with_reducible first | exact HB.out | apply below_alloc | apply pw_below_drewN | apply below_drew1) | exact HB.out)) hb); clear HB; have HB := n0_; clear n0_; (try clear hb); (try clear hb2); (try clear hk); (try clear hi)))
              go_ret2
              exact ⟨by first | rfl | (simp [errW_none, errW_some] <;> rfl) | (simp [*, errW_none, errW_some] <;> rfl), by repeat (first | (with_reducible first | exact HB.out | apply below_alloc | apply pw_below_drewN | apply below_drew1) | exact HB.out)⟩

end Go.Proofs.Ytplnknhlgdoliaa.Print
end
