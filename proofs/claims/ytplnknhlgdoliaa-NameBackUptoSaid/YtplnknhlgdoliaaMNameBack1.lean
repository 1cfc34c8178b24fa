/- A part of the proof of NameBackSaid: 12 texts in one. -/
import Derived.Test.YtplnknhlgdoliaaMNameBack0
import Derived.Deep.LoopGhost
section
-- Written by a program of this session, built on the kit's print (it is not the print's own text).
namespace Go.Proofs.Ytplnknhlgdoliaa.Print
open Go.RowKit Go.Proofs.YtplnknhlgdoliaaW.PrintWords Go.Proofs.YtplnknhlgdoliaaW.PrintLast Go.Proofs.YtplnknhlgdoliaaW.PrintMore
attribute [local go_sem] max2_int min2_int max_two min_two max_three min_three max_four min_four   -- for this text's walks alone
set_option linter.unusedVariables false
set_option linter.unusedSimpArgs false

/-! ### hearsaylaw01_NameBack: function 7 -/
mutual
def hearsaylaw01_NameBack.j0 : Nat → ByteArray → ByteArray → ByteArray → Bool → Bool → Option (Bool)
  | 0, _, _, _, _, _ => none
  | k + 1, x0, x1, x2, x3, x20 => if x20 = true then ((name_Text.f x0).bind fun t267 => ((name_Parse.f t267 x1).bind fun bt268 => (if bt268.2 = 0 then (hearsaylaw01_NameBack.j1 k x2 x3 (bt268.1.toList != x0.toList)) else (hearsaylaw01_NameBack.j1 k x2 x3 true)))) else ((name_Escape.f x2 x3).bind fun t274 => ((name_Bytes.f t274).bind fun bt275 => (if bt275.2 = 0 then (if bt275.1.toList = x2.toList then ((hearsaylaw01_wakes.f k).bind fun t277 => (some t277)) else (some false)) else (some false))))
def hearsaylaw01_NameBack.j1 : Nat → ByteArray → Bool → Bool → Option (Bool)
  | 0, _, _, _ => none
  | k + 1, x2, x3, x34 => if x34 = true then (some false) else ((name_Escape.f x2 x3).bind fun t270 => ((name_Bytes.f t270).bind fun bt271 => (if bt271.2 = 0 then (if bt271.1.toList = x2.toList then ((hearsaylaw01_wakes.f k).bind fun t273 => (some t273)) else (some false)) else (some false))))
end
def hearsaylaw01_NameBack.f (k : Nat) (a0 : ByteArray) (a1 : ByteArray) (a2 : ByteArray) (a3 : Bool) : Option (Bool) := (name_Check.f k a0).bind fun t265 => (if t265 = 0 then ((name_Check.f k a1).bind fun t266 => (hearsaylaw01_NameBack.j0 k a0 a1 a2 a3 (t266 == 0))) else (hearsaylaw01_NameBack.j0 k a0 a1 a2 a3 false))
theorem hearsaylaw01_NameBack.mono_l : ∀ k, (∀ y0 y1 y2 y3 y4, LeO (hearsaylaw01_NameBack.j0 k y0 y1 y2 y3 y4) (hearsaylaw01_NameBack.j0 (k + 1) y0 y1 y2 y3 y4)) ∧ (∀ y0 y1 y2, LeO (hearsaylaw01_NameBack.j1 k y0 y1 y2) (hearsaylaw01_NameBack.j1 (k + 1) y0 y1 y2))
  | 0 => ⟨fun _ _ _ _ _ r h => by simp [hearsaylaw01_NameBack.j0] at h, fun _ _ _ r h => by simp [hearsaylaw01_NameBack.j1] at h⟩
  | k + 1 => by
    obtain ⟨ih0, ih1⟩ := hearsaylaw01_NameBack.mono_l k
    refine ⟨?_, ?_⟩
    · intro y0 y1 y2 y3 y4
      unfold hearsaylaw01_NameBack.j0
      repeat' first
      | (with_reducible exact ih0 _ _ _ _ _)
      | (with_reducible exact ih1 _ _ _)
      | (with_reducible exact hearsaylaw01_wakes.mono _)
      | (with_reducible exact name_Check.mono _ _)
      | (with_reducible exact LeO.refl _)
      | (with_reducible exact LeO.none _)
      | (with_reducible refine LeO.ite ?_ ?_)
      | (with_reducible refine LeO.bind ?_ (fun _ => ?_))
      | exact ih0 _ _ _ _ _
      | exact ih1 _ _ _
      | exact hearsaylaw01_wakes.mono _
      | exact name_Check.mono _ _
      | exact LeO.none _
      | refine LeO.ite ?_ ?_
      | refine LeO.bind ?_ (fun _ => ?_)
    · intro y0 y1 y2
      unfold hearsaylaw01_NameBack.j1
      repeat' first
      | (with_reducible exact ih0 _ _ _ _ _)
      | (with_reducible exact ih1 _ _ _)
      | (with_reducible exact hearsaylaw01_wakes.mono _)
      | (with_reducible exact name_Check.mono _ _)
      | (with_reducible exact LeO.refl _)
      | (with_reducible exact LeO.none _)
      | (with_reducible refine LeO.ite ?_ ?_)
      | (with_reducible refine LeO.bind ?_ (fun _ => ?_))
      | exact ih0 _ _ _ _ _
      | exact ih1 _ _ _
      | exact hearsaylaw01_wakes.mono _
      | exact name_Check.mono _ _
      | exact LeO.none _
      | refine LeO.ite ?_ ?_
      | refine LeO.bind ?_ (fun _ => ?_)
theorem hearsaylaw01_NameBack.mono : ∀ a0 a1 a2 a3 k, LeO (hearsaylaw01_NameBack.f k a0 a1 a2 a3) (hearsaylaw01_NameBack.f (k + 1) a0 a1 a2 a3) := by
  intro a0 a1 a2 a3 k
  obtain ⟨ih0, ih1⟩ := hearsaylaw01_NameBack.mono_l k
  unfold hearsaylaw01_NameBack.f
  repeat' first
      | (with_reducible exact ih0 _ _ _ _ _)
      | (with_reducible exact ih1 _ _ _)
      | (with_reducible exact hearsaylaw01_wakes.mono _)
      | (with_reducible exact name_Check.mono _ _)
      | (with_reducible exact LeO.refl _)
      | (with_reducible exact LeO.none _)
      | (with_reducible refine LeO.ite ?_ ?_)
      | (with_reducible refine LeO.bind ?_ (fun _ => ?_))
      | exact ih0 _ _ _ _ _
      | exact ih1 _ _ _
      | exact hearsaylaw01_wakes.mono _
      | exact name_Check.mono _ _
      | exact LeO.none _
      | refine LeO.ite ?_ ?_
      | refine LeO.bind ?_ (fun _ => ?_)
set_option maxHeartbeats 8000000 in
set_option maxRecDepth 100000 in
theorem hearsaylaw01_NameBack.calls (k : Nat) (a0 : ByteArray) (a1 : ByteArray) (a2 : ByteArray) (a3 : Bool) (r : Bool) (w : World) (h : hearsaylaw01_NameBack.f k a0 a1 a2 a3 = some r) :
    Calls Try.prog 7 #[.string a0, .string a1, .string a2, .bool a3] w fun e w' => e = .returned (.bool r) ∧ Below w.heap.size w w' := by
  have HB := Aside0.mk (Below.refl w.heap.size w)
  have H : ((name_Check.f k a0).bind fun t265 => (if t265 = 0 then ((name_Check.f k a1).bind fun t266 => (hearsaylaw01_NameBack.j0 k a0 a1 a2 a3 (t266 == 0))) else (hearsaylaw01_NameBack.j0 k a0 a1 a2 a3 false))) = some r := h
  clear h
  have HC5 := Aside0.mk H
  clear H
  go_enter Try.func7, Try.ntmps7
  go_upto_region 1 with (fail)
  go_cut [20] (fun v20 wc => ∃ (kq : Nat) (x20_4 : Bool), v20 = .bool x20_4 ∧ Aside0 (hearsaylaw01_NameBack.j0 kq a0 a1 a2 a3 x20_4 = some r) ∧ Aside0 (kq ≤ k) ∧ Aside0 (Below w.heap.size w wc))
  case first =>
    have H := HC5.out
    clear HC5
    replace H := Option.bind_eq_some_iff.mp H
    obtain ⟨t265, A60, H⟩ := H
    replace H : (if t265 = 0 then ((name_Check.f k a1).bind fun t266 => (hearsaylaw01_NameBack.j0 k a0 a1 a2 a3 (t266 == 0))) else (hearsaylaw01_NameBack.j0 k a0 a1 a2 a3 false)) = some r := H
    have A6 := Aside0.mk A60
    clear A60
    by_cases c7 : t265 = 0
    · rw [if_pos c7] at H
      have c7b0 : (t265 == 0) = true := beq_iff_eq.mpr c7
      have c7b1 : (t265 != 0) = false := bne_eq_false_iff_eq.mpr c7
      clear c7
      (first | rw [c7b0] | (simp only [i64_w, i32_w]; rw [c7b0]) | skip)
      replace H := Option.bind_eq_some_iff.mp H
      obtain ⟨t266, A80, H⟩ := H
      replace H : (hearsaylaw01_NameBack.j0 k a0 a1 a2 a3 (t266 == 0)) = some r := H
      have A8 := Aside0.mk A80
      clear A80
      have H' := Aside0.mk H
      clear H
      go_wp2_with (first | ((with_reducible refine gate_callee (f := 14) rfl ?_); refine goesL_ (some 14) rfl rfl Try.func14 (by kernel_rfl) rfl #[.string a0] rfl (by (try simp only [List.map_toArray, List.map_cons, List.map_nil]); first | done | rfl | (simp only [List.length_drop, List.length_take]; rfl)) ?_; (with_reducible refine (name_Check.calls k a0 t265 _ A6.out).mono ?_); rintro e w9 ⟨rfl, hb⟩; refine ⟨_, rfl, ?_⟩; have n0_ := Aside0.mk (below_step (by repeat (first | (with_reducible first | exact HB.out | apply below_alloc | apply pw_below_drewN | apply below_drew1) | exact HB.out)) hb); clear HB; have HB := n0_; clear n0_; (try clear hb); (try clear hb2); (try clear hk); (try clear hi)) | (go_at_call 14; (with_reducible refine (name_Check.calls k a1 t266 _ A8.out).mono ?_); rintro e w10 ⟨rfl, hb⟩; have n0_ := Aside0.mk (below_step (by repeat (first | (with_reducible first | exact HB.out | apply below_alloc | apply pw_below_drewN | apply below_drew1) | exact HB.out)) hb); clear HB; have HB := n0_; clear n0_; (try clear hb); (try clear hb2); (try clear hk); (try clear hi)))
      go_meet
      case rel => exact ⟨_, ((t266 == 0)), (by first | rfl | (simp; done) | (simp [*]; done)), H', ⟨by first | omega | exact Nat.le_refl _⟩, ⟨by repeat (first | (with_reducible first | exact HB.out | apply below_alloc | apply pw_below_drewN | apply below_drew1) | exact HB.out)⟩⟩
    · rw [if_neg c7] at H
      have c7b0 : (t265 == 0) = false := beq_eq_false_iff_ne.mpr c7
      have c7b1 : (t265 != 0) = true := bne_iff_ne.mpr c7
      (first | rw [c7b0] | (simp only [i64_w, i32_w]; rw [c7b0]) | skip)
      have H' := Aside0.mk H
      clear H
      go_wp2_with (first | ((with_reducible refine gate_callee (f := 14) rfl ?_); refine goesL_ (some 14) rfl rfl Try.func14 (by kernel_rfl) rfl #[.string a0] rfl (by (try simp only [List.map_toArray, List.map_cons, List.map_nil]); first | done | rfl | (simp only [List.length_drop, List.length_take]; rfl)) ?_; (with_reducible refine (name_Check.calls k a0 t265 _ A6.out).mono ?_); rintro e w11 ⟨rfl, hb⟩; refine ⟨_, rfl, ?_⟩; have n0_ := Aside0.mk (below_step (by repeat (first | (with_reducible first | exact HB.out | apply below_alloc | apply pw_below_drewN | apply below_drew1) | exact HB.out)) hb); clear HB; have HB := n0_; clear n0_; (try clear hb); (try clear hb2); (try clear hk); (try clear hi)))
      go_meet
      case rel => exact ⟨_, (false), (by first | rfl | (simp; done) | (simp [*]; done)), H', ⟨by first | omega | exact Nat.le_refl _⟩, ⟨by repeat (first | (with_reducible first | exact HB.out | apply below_alloc | apply pw_below_drewN | apply below_drew1) | exact HB.out)⟩⟩
  case rest =>
    clear HC5
    try clear c1
    try clear p2
    try clear c7
    try clear c7b0
    try clear c7b1
    obtain ⟨kq, x20_4, rfl, HA, HJ4, HB⟩ := hcut
    cases kq with
    | zero => exact absurd HA.out (by simp [hearsaylaw01_NameBack.j0])
    | succ kj4 =>
      have H := HA.out
      clear HA
      simp only [hearsaylaw01_NameBack.j0] at H
      by_cases c12 : x20_4 = true
      · subst c12
        have H1 : ((name_Text.f a0).bind fun t267 => ((name_Parse.f t267 a1).bind fun bt268 => (if bt268.2 = 0 then (hearsaylaw01_NameBack.j1 kj4 a2 a3 (bt268.1.toList != a0.toList)) else (hearsaylaw01_NameBack.j1 kj4 a2 a3 true)))) = some r := by rw [if_pos rfl] at H; exact H
        clear H
        have H := H1
        clear H1
        replace H := Option.bind_eq_some_iff.mp H
        obtain ⟨t267, A130, H⟩ := H
        replace H : ((name_Parse.f t267 a1).bind fun bt268 => (if bt268.2 = 0 then (hearsaylaw01_NameBack.j1 kj4 a2 a3 (bt268.1.toList != a0.toList)) else (hearsaylaw01_NameBack.j1 kj4 a2 a3 true))) = some r := H
        have A13 := Aside0.mk A130
        clear A130
        replace H := Option.bind_eq_some_iff.mp H
        obtain ⟨⟨t268, t269⟩, A140, H⟩ := H
        replace H : (if t269 = 0 then (hearsaylaw01_NameBack.j1 kj4 a2 a3 (t268.toList != a0.toList)) else (hearsaylaw01_NameBack.j1 kj4 a2 a3 true)) = some r := H
        have A14 := Aside0.mk A140
        clear A140
        have HC15 := Aside0.mk H
        clear H
        go_upto_region 3 with (first | ((with_reducible refine gate_callee (f := 29) rfl ?_); refine goesL_ (some 23) rfl rfl Try.func29 (by kernel_rfl) rfl #[.string a0] rfl (by (try simp only [List.map_toArray, List.map_cons, List.map_nil]); first | done | rfl | (simp only [List.length_drop, List.length_take]; rfl)) ?_; (with_reducible refine (name_Text.calls a0 t267 _ A13.out).mono ?_); rintro e w16 ⟨rfl, hb⟩; refine ⟨_, rfl, ?_⟩; have n0_ := Aside0.mk (below_step (by repeat (first | (with_reducible first | exact HB.out | apply below_alloc | apply pw_below_drewN | apply below_drew1) | exact HB.out)) hb); clear HB; have HB := n0_; clear n0_; (try clear hb); (try clear hb2); (try clear hk); (try clear hi)) | ((with_reducible refine gate_callee (f := 27) rfl ?_); refine goesL_ (some 25) rfl rfl Try.func27 (by kernel_rfl) rfl #[.string t267, .string a1] rfl (by (try simp only [List.map_toArray, List.map_cons, List.map_nil]); first | done | rfl | (simp only [List.length_drop, List.length_take]; rfl)) ?_; (with_reducible refine (name_Parse.calls t267 a1 t268 t269 _ A14.out).mono ?_); rintro e w17 ⟨rfl, hb⟩; refine ⟨_, rfl, ?_⟩; have n0_ := Aside0.mk (below_step (by repeat (first | (with_reducible first | exact HB.out | apply below_alloc | apply pw_below_drewN | apply below_drew1) | exact HB.out)) hb); clear HB; have HB := n0_; clear n0_; (try clear hb); (try clear hb2); (try clear hk); (try clear hi)))
        (try simp only [Act.put, List.setIfInBounds_toArray, List.set_cons_zero, List.set_cons_succ])
        go_cut [34] (fun v34 wc => ∃ (kq : Nat) (x34_14 : Bool), v34 = .bool x34_14 ∧ Aside0 (hearsaylaw01_NameBack.j1 kq a2 a3 x34_14 = some r) ∧ Aside0 (kq ≤ kj4) ∧ Aside0 (Below w.heap.size w wc))
        case first =>
          have H := HC15.out
          clear HC15
          by_cases c18 : t269 = 0
          · rw [if_pos c18] at H
            have c18b0 : (t269 == 0) = true := beq_iff_eq.mpr c18
            have c18b1 : (t269 != 0) = false := bne_eq_false_iff_eq.mpr c18
            clear c18
            (first | rw [c18b0] | (simp only [i64_w, i32_w]; rw [c18b0]) | skip)
            have H' := Aside0.mk H
            clear H
            go_wp2
            go_meet
            case rel => exact ⟨_, ((t268.toList != a0.toList)), (by first | rfl | (simp; done) | (simp [*]; done)), H', ⟨by have := HJ4.out; first | omega | exact Nat.le_refl _⟩, ⟨by repeat (first | (with_reducible first | exact HB.out | apply below_alloc | apply pw_below_drewN | apply below_drew1) | exact HB.out)⟩⟩
          · rw [if_neg c18] at H
            have c18b0 : (t269 == 0) = false := beq_eq_false_iff_ne.mpr c18
            have c18b1 : (t269 != 0) = true := bne_iff_ne.mpr c18
            (first | rw [c18b0] | (simp only [i64_w, i32_w]; rw [c18b0]) | skip)
            have H' := Aside0.mk H
            clear H
            go_wp2
            go_meet
            case rel => exact ⟨_, (true), (by first | rfl | (simp; done) | (simp [*]; done)), H', ⟨by have := HJ4.out; first | omega | exact Nat.le_refl _⟩, ⟨by repeat (first | (with_reducible first | exact HB.out | apply below_alloc | apply pw_below_drewN | apply below_drew1) | exact HB.out)⟩⟩
        case rest =>
          clear HC15
          try clear c1
          try clear c2
          try clear p2
          try clear c7
          try clear c7b0
          try clear c7b1
          try clear c12
          try clear c14
          try clear c18
          try clear c18b0
          try clear c18b1
          try clear p2
          obtain ⟨kq, x34_14, rfl, HA, HJ14, HB⟩ := hcut
          cases kq with
          | zero => exact absurd HA.out (by simp [hearsaylaw01_NameBack.j1])
          | succ kj14 =>
            have H := HA.out
            clear HA
            simp only [hearsaylaw01_NameBack.j1] at H
            by_cases c19 : x34_14 = true
            · subst c19
              have H1 : (some false) = some r := by rw [if_pos rfl] at H; exact H
              clear H
              have H := H1
              clear H1
              obtain rfl := Option.some.inj H
              go_wp2
              go_ret
              exact ⟨by first | rfl | (simp [errW_none, errW_some] <;> rfl) | (simp [*, errW_none, errW_some] <;> rfl), by repeat (first | (with_reducible first | exact HB.out | apply below_alloc | apply pw_below_drewN | apply below_drew1) | exact HB.out)⟩
            · replace c19 := Bool.eq_false_iff.mpr c19
              subst c19
              have H1 : ((name_Escape.f a2 a3).bind fun t270 => ((name_Bytes.f t270).bind fun bt271 => (if bt271.2 = 0 then (if bt271.1.toList = a2.toList then ((hearsaylaw01_wakes.f kj14).bind fun t273 => (some t273)) else (some false)) else (some false)))) = some r := by rw [if_neg (show ¬ (false = true) by decide)] at H; exact H
              clear H
              have H := H1
              clear H1
              replace H := Option.bind_eq_some_iff.mp H
              obtain ⟨t270, A200, H⟩ := H
              replace H : ((name_Bytes.f t270).bind fun bt271 => (if bt271.2 = 0 then (if bt271.1.toList = a2.toList then ((hearsaylaw01_wakes.f kj14).bind fun t273 => (some t273)) else (some false)) else (some false))) = some r := H
              have A20 := Aside0.mk A200
              clear A200
              replace H := Option.bind_eq_some_iff.mp H
              obtain ⟨⟨t271, t272⟩, A210, H⟩ := H
              replace H : (if t272 = 0 then (if t271.toList = a2.toList then ((hearsaylaw01_wakes.f kj14).bind fun t273 => (some t273)) else (some false)) else (some false)) = some r := H
              have A21 := Aside0.mk A210
              clear A210
              by_cases c22 : t272 = 0
              · rw [if_pos c22] at H
                have c22b0 : (t272 == 0) = true := beq_iff_eq.mpr c22
                have c22b1 : (t272 != 0) = false := bne_eq_false_iff_eq.mpr c22
                clear c22
                by_cases c23 : t271.toList = a2.toList
                · rw [if_pos c23] at H
                  have c23b0 : (t271.toList == a2.toList) = true := beq_iff_eq.mpr c23
                  have c23b1 : (t271.toList != a2.toList) = false := bne_eq_false_iff_eq.mpr c23
                  clear c23
                  replace H := Option.bind_eq_some_iff.mp H
                  obtain ⟨t273, A240, H⟩ := H
                  replace H : (some t273) = some r := H
                  have A24 := Aside0.mk A240
                  clear A240
                  obtain rfl := Option.some.inj H
                  go_wp2_with (first | ((with_reducible refine gate_callee (f := 25) rfl ?_); refine goesL_ (some 38) rfl rfl Try.func25 (by kernel_rfl) rfl #[.string a2, .bool a3] rfl (by (try simp only [List.map_toArray, List.map_cons, List.map_nil]); first | done | rfl | (simp only [List.length_drop, List.length_take]; rfl)) ?_; (with_reducible refine (name_Escape.calls a2 a3 t270 _ A20.out).mono ?_); rintro e w25 ⟨rfl, hb⟩; refine ⟨_, rfl, ?_⟩; have n0_ := Aside0.mk (below_step (by repeat (first | (with_reducible first | exact HB.out | apply below_alloc | apply pw_below_drewN | apply below_drew1) | exact HB.out)) hb); clear HB; have HB := n0_; clear n0_; (try clear hb); (try clear hb2); (try clear hk); (try clear hi)) | ((with_reducible refine gate_callee (f := 23) rfl ?_); refine goesL_ (some 39) rfl rfl Try.func23 (by kernel_rfl) rfl #[.string t270] rfl (by (try simp only [List.map_toArray, List.map_cons, List.map_nil]); first | done | rfl | (simp only [List.length_drop, List.length_take]; rfl)) ?_; (with_reducible refine (name_Bytes.calls t270 t271 t272 _ A21.out).mono ?_); rintro e w26 ⟨rfl, hb⟩; refine ⟨_, rfl, ?_⟩; have n0_ := Aside0.mk (below_step (by repeat (first | (with_reducible first | exact HB.out | apply below_alloc | apply pw_below_drewN | apply below_drew1) | exact HB.out)) hb); clear HB; have HB := n0_; clear n0_; (try clear hb); (try clear hb2); (try clear hk); (try clear hi)) | (go_at_call 19; (with_reducible refine (hearsaylaw01_wakes.calls kj14  t273 _ A24.out).mono ?_); rintro e w27 ⟨rfl, hb⟩; have n0_ := Aside0.mk (below_step (by repeat (first | (with_reducible first | exact HB.out | apply below_alloc | apply pw_below_drewN | apply below_drew1) | exact HB.out)) hb); clear HB; have HB := n0_; clear n0_; (try clear hb); (try clear hb2); (try clear hk); (try clear hi)))
                  go_ret
                  exact ⟨by first | rfl | (simp [errW_none, errW_some] <;> rfl) | (simp [*, errW_none, errW_some] <;> rfl), by repeat (first | (with_reducible first | exact HB.out | apply below_alloc | apply pw_below_drewN | apply below_drew1) | exact HB.out)⟩
                · rw [if_neg c23] at H
                  have c23b0 : (t271.toList == a2.toList) = false := beq_eq_false_iff_ne.mpr c23
                  have c23b1 : (t271.toList != a2.toList) = true := bne_iff_ne.mpr c23
                  obtain rfl := Option.some.inj H
                  go_wp2_with (first | ((with_reducible refine gate_callee (f := 25) rfl ?_); refine goesL_ (some 38) rfl rfl Try.func25 (by kernel_rfl) rfl #[.string a2, .bool a3] rfl (by (try simp only [List.map_toArray, List.map_cons, List.map_nil]); first | done | rfl | (simp only [List.length_drop, List.length_take]; rfl)) ?_; (with_reducible refine (name_Escape.calls a2 a3 t270 _ A20.out).mono ?_); rintro e w28 ⟨rfl, hb⟩; refine ⟨_, rfl, ?_⟩; have n0_ := Aside0.mk (below_step (by repeat (first | (with_reducible first | exact HB.out | apply below_alloc | apply pw_below_drewN | apply below_drew1) | exact HB.out)) hb); clear HB; have HB := n0_; clear n0_; (try clear hb); (try clear hb2); (try clear hk); (try clear hi)) | ((with_reducible refine gate_callee (f := 23) rfl ?_); refine goesL_ (some 39) rfl rfl Try.func23 (by kernel_rfl) rfl #[.string t270] rfl (by (try simp only [List.map_toArray, List.map_cons, List.map_nil]); first | done | rfl | (simp only [List.length_drop, List.length_take]; rfl)) ?_; (with_reducible refine (name_Bytes.calls t270 t271 t272 _ A21.out).mono ?_); rintro e w29 ⟨rfl, hb⟩; refine ⟨_, rfl, ?_⟩; have n0_ := Aside0.mk (below_step (by repeat (first | (with_reducible first | exact HB.out | apply below_alloc | apply pw_below_drewN | apply below_drew1) | exact HB.out)) hb); clear HB; have HB := n0_; clear n0_; (try clear hb); (try clear hb2); (try clear hk); (try clear hi)))
                  go_ret
                  exact ⟨by first | rfl | (simp [errW_none, errW_some] <;> rfl) | (simp [*, errW_none, errW_some] <;> rfl), by repeat (first | (with_reducible first | exact HB.out | apply below_alloc | apply pw_below_drewN | apply below_drew1) | exact HB.out)⟩
              · rw [if_neg c22] at H
                have c22b0 : (t272 == 0) = false := beq_eq_false_iff_ne.mpr c22
                have c22b1 : (t272 != 0) = true := bne_iff_ne.mpr c22
                obtain rfl := Option.some.inj H
                go_wp2_with (first | ((with_reducible refine gate_callee (f := 25) rfl ?_); refine goesL_ (some 38) rfl rfl Try.func25 (by kernel_rfl) rfl #[.string a2, .bool a3] rfl (by (try simp only [List.map_toArray, List.map_cons, List.map_nil]); first | done | rfl | (simp only [List.length_drop, List.length_take]; rfl)) ?_; (with_reducible refine (name_Escape.calls a2 a3 t270 _ A20.out).mono ?_); rintro e w30 ⟨rfl, hb⟩; refine ⟨_, rfl, ?_⟩; have n0_ := Aside0.mk (below_step (by repeat (first | (with_reducible first | exact HB.out | apply below_alloc | apply pw_below_drewN | apply below_drew1) | exact HB.out)) hb); clear HB; have HB := n0_; clear n0_; (try clear hb); (try clear hb2); (try clear hk); (try clear hi)) | ((with_reducible refine gate_callee (f := 23) rfl ?_); refine goesL_ (some 39) rfl rfl Try.func23 (by kernel_rfl) rfl #[.string t270] rfl (by (try simp only [List.map_toArray, List.map_cons, List.map_nil]); first | done | rfl | (simp only [List.length_drop, List.length_take]; rfl)) ?_; (with_reducible refine (name_Bytes.calls t270 t271 t272 _ A21.out).mono ?_); rintro e w31 ⟨rfl, hb⟩; refine ⟨_, rfl, ?_⟩; have n0_ := Aside0.mk (below_step (by repeat (first | (with_reducible first | exact HB.out | apply below_alloc | apply pw_below_drewN | apply below_drew1) | exact HB.out)) hb); clear HB; have HB := n0_; clear n0_; (try clear hb); (try clear hb2); (try clear hk); (try clear hi)))
                go_ret
                exact ⟨by first | rfl | (simp [errW_none, errW_some] <;> rfl) | (simp [*, errW_none, errW_some] <;> rfl), by repeat (first | (with_reducible first | exact HB.out | apply below_alloc | apply pw_below_drewN | apply below_drew1) | exact HB.out)⟩
      · replace c12 := Bool.eq_false_iff.mpr c12
        subst c12
        have H1 : ((name_Escape.f a2 a3).bind fun t274 => ((name_Bytes.f t274).bind fun bt275 => (if bt275.2 = 0 then (if bt275.1.toList = a2.toList then ((hearsaylaw01_wakes.f kj4).bind fun t277 => (some t277)) else (some false)) else (some false)))) = some r := by rw [if_neg (show ¬ (false = true) by decide)] at H; exact H
        clear H
        have H := H1
        clear H1
        replace H := Option.bind_eq_some_iff.mp H
        obtain ⟨t274, A320, H⟩ := H
        replace H : ((name_Bytes.f t274).bind fun bt275 => (if bt275.2 = 0 then (if bt275.1.toList = a2.toList then ((hearsaylaw01_wakes.f kj4).bind fun t277 => (some t277)) else (some false)) else (some false))) = some r := H
        have A32 := Aside0.mk A320
        clear A320
        replace H := Option.bind_eq_some_iff.mp H
        obtain ⟨⟨t275, t276⟩, A330, H⟩ := H
        replace H : (if t276 = 0 then (if t275.toList = a2.toList then ((hearsaylaw01_wakes.f kj4).bind fun t277 => (some t277)) else (some false)) else (some false)) = some r := H
        have A33 := Aside0.mk A330
        clear A330
        by_cases c34 : t276 = 0
        · rw [if_pos c34] at H
          have c34b0 : (t276 == 0) = true := beq_iff_eq.mpr c34
          have c34b1 : (t276 != 0) = false := bne_eq_false_iff_eq.mpr c34
          clear c34
          by_cases c35 : t275.toList = a2.toList
          · rw [if_pos c35] at H
            have c35b0 : (t275.toList == a2.toList) = true := beq_iff_eq.mpr c35
            have c35b1 : (t275.toList != a2.toList) = false := bne_eq_false_iff_eq.mpr c35
            clear c35
            replace H := Option.bind_eq_some_iff.mp H
            obtain ⟨t277, A360, H⟩ := H
            replace H : (some t277) = some r := H
            have A36 := Aside0.mk A360
            clear A360
            obtain rfl := Option.some.inj H
            go_wp2_with (first | ((with_reducible refine gate_callee (f := 25) rfl ?_); refine goesL_ (some 38) rfl rfl Try.func25 (by kernel_rfl) rfl #[.string a2, .bool a3] rfl (by (try simp only [List.map_toArray, List.map_cons, List.map_nil]); first | done | rfl | (simp only [List.length_drop, List.length_take]; rfl)) ?_; (with_reducible refine (name_Escape.calls a2 a3 t274 _ A32.out).mono ?_); rintro e w37 ⟨rfl, hb⟩; refine ⟨_, rfl, ?_⟩; have n0_ := Aside0.mk (below_step (by repeat (first | (with_reducible first | exact HB.out | apply below_alloc | apply pw_below_drewN | apply below_drew1) | exact HB.out)) hb); clear HB; have HB := n0_; clear n0_; (try clear hb); (try clear hb2); (try clear hk); (try clear hi)) | ((with_reducible refine gate_callee (f := 23) rfl ?_); refine goesL_ (some 39) rfl rfl Try.func23 (by kernel_rfl) rfl #[.string t274] rfl (by (try simp only [List.map_toArray, List.map_cons, List.map_nil]); first | done | rfl | (simp only [List.length_drop, List.length_take]; rfl)) ?_; (with_reducible refine (name_Bytes.calls t274 t275 t276 _ A33.out).mono ?_); rintro e w38 ⟨rfl, hb⟩; refine ⟨_, rfl, ?_⟩; have n0_ := Aside0.mk (below_step (by repeat (first | (with_reducible first | exact HB.out | apply below_alloc | apply pw_below_drewN | apply below_drew1) | exact HB.out)) hb); clear HB; have HB := n0_; clear n0_; (try clear hb); (try clear hb2); (try clear hk); (try clear hi)) | (go_at_call 19; (with_reducible refine (hearsaylaw01_wakes.calls kj4  t277 _ A36.out).mono ?_); rintro e w39 ⟨rfl, hb⟩; have n0_ := Aside0.mk (below_step (by repeat (first | (with_reducible first | exact HB.out | apply below_alloc | apply pw_below_drewN | apply below_drew1) | exact HB.out)) hb); clear HB; have HB := n0_; clear n0_; (try clear hb); (try clear hb2); (try clear hk); (try clear hi)))
            go_ret
            exact ⟨by first | rfl | (simp [errW_none, errW_some] <;> rfl) | (simp [*, errW_none, errW_some] <;> rfl), by repeat (first | (with_reducible first | exact HB.out | apply below_alloc | apply pw_below_drewN | apply below_drew1) | exact HB.out)⟩
          · rw [if_neg c35] at H
            have c35b0 : (t275.toList == a2.toList) = false := beq_eq_false_iff_ne.mpr c35
            have c35b1 : (t275.toList != a2.toList) = true := bne_iff_ne.mpr c35
            obtain rfl := Option.some.inj H
            go_wp2_with (first | ((with_reducible refine gate_callee (f := 25) rfl ?_); refine goesL_ (some 38) rfl rfl Try.func25 (by kernel_rfl) rfl #[.string a2, .bool a3] rfl (by (try simp only [List.map_toArray, List.map_cons, List.map_nil]); first | done | rfl | (simp only [List.length_drop, List.length_take]; rfl)) ?_; (with_reducible refine (name_Escape.calls a2 a3 t274 _ A32.out).mono ?_); rintro e w40 ⟨rfl, hb⟩; refine ⟨_, rfl, ?_⟩; have n0_ := Aside0.mk (below_step (by repeat (first | (with_reducible first | exact HB.out | apply below_alloc | apply pw_below_drewN | apply below_drew1) | exact HB.out)) hb); clear HB; have HB := n0_; clear n0_; (try clear hb); (try clear hb2); (try clear hk); (try clear hi)) | ((with_reducible refine gate_callee (f := 23) rfl ?_); refine goesL_ (some 39) rfl rfl Try.func23 (by kernel_rfl) rfl #[.string t274] rfl (by (try simp only [List.map_toArray, List.map_cons, List.map_nil]); first | done | rfl | (simp only [List.length_drop, List.length_take]; rfl)) ?_; (with_reducible refine (name_Bytes.calls t274 t275 t276 _ A33.out).mono ?_); rintro e w41 ⟨rfl, hb⟩; refine ⟨_, rfl, ?_⟩; have n0_ := Aside0.mk (below_step (by repeat (first | (with_reducible first | exact HB.out | apply below_alloc | apply pw_below_drewN | apply below_drew1) | exact HB.out)) hb); clear HB; have HB := n0_; clear n0_; (try clear hb); (try clear hb2); (try clear hk); (try clear hi)))
            go_ret
            exact ⟨by first | rfl | (simp [errW_none, errW_some] <;> rfl) | (simp [*, errW_none, errW_some] <;> rfl), by repeat (first | (with_reducible first | exact HB.out | apply below_alloc | apply pw_below_drewN | apply below_drew1) | exact HB.out)⟩
        · rw [if_neg c34] at H
          have c34b0 : (t276 == 0) = false := beq_eq_false_iff_ne.mpr c34
          have c34b1 : (t276 != 0) = true := bne_iff_ne.mpr c34
          obtain rfl := Option.some.inj H
          go_wp2_with (first | ((with_reducible refine gate_callee (f := 25) rfl ?_); refine goesL_ (some 38) rfl rfl Try.func25 (by kernel_rfl) rfl #[.string a2, .bool a3] rfl (by (try simp only [List.map_toArray, List.map_cons, List.map_nil]); first | done | rfl | (simp only [List.length_drop, List.length_take]; rfl)) ?_; (with_reducible refine (name_Escape.calls a2 a3 t274 _ A32.out).mono ?_); rintro e w42 ⟨rfl, hb⟩; refine ⟨_, rfl, ?_⟩; have n0_ := Aside0.mk (below_step (by repeat (first | (with_reducible first | exact HB.out | apply below_alloc | apply pw_below_drewN | apply below_drew1) | exact HB.out)) hb); clear HB; have HB := n0_; clear n0_; (try clear hb); (try clear hb2); (try clear hk); (try clear hi)) | ((with_reducible refine gate_callee (f := 23) rfl ?_); refine goesL_ (some 39) rfl rfl Try.func23 (by kernel_rfl) rfl #[.string t274] rfl (by (try simp only [List.map_toArray, List.map_cons, List.map_nil]); first | done | rfl | (simp only [List.length_drop, List.length_take]; rfl)) ?_; (with_reducible refine (name_Bytes.calls t274 t275 t276 _ A33.out).mono ?_); rintro e w43 ⟨rfl, hb⟩; refine ⟨_, rfl, ?_⟩; have n0_ := Aside0.mk (below_step (by repeat (first | (with_reducible first | exact HB.out | apply below_alloc | apply pw_below_drewN | apply below_drew1) | exact HB.out)) hb); clear HB; have HB := n0_; clear n0_; (try clear hb); (try clear hb2); (try clear hk); (try clear hi)))
          go_ret
          exact ⟨by first | rfl | (simp [errW_none, errW_some] <;> rfl) | (simp [*, errW_none, errW_some] <;> rfl), by repeat (first | (with_reducible first | exact HB.out | apply below_alloc | apply pw_below_drewN | apply below_drew1) | exact HB.out)⟩

/-- THE ONE PURE STATEMENT of hearsaylaw01_NameBack: yours. -/
def hearsaylaw01_NameBack.Pure : Prop := ∀ (a0 : ByteArray) (a1 : ByteArray) (a2 : ByteArray) (a3 : Bool), a0.size ≤ 140737488351232 → a1.size ≤ 140737488351232 → a2.size ≤ 140737488351232 → ∃ k, hearsaylaw01_NameBack.f k a0 a1 a2 a3 = some true
theorem hearsaylaw01_NameBack.walk (P : hearsaylaw01_NameBack.Pure) (a0 : ByteArray) (a1 : ByteArray) (a2 : ByteArray) (a3 : Bool) (w : World) (w0 : a0.size ≤ 140737488351232) (w1 : a1.size ≤ 140737488351232) (w2 : a2.size ≤ 140737488351232) :
    Calls Try.prog 7 #[.string a0, .string a1, .string a2, .bool a3] w fun e w' => e = .returned (.bool true) ∧ Below w.heap.size w w' := by
  obtain ⟨k, h⟩ := P a0 a1 a2 a3 w0 w1 w2
  refine (hearsaylaw01_NameBack.calls k a0 a1 a2 a3 true w h).mono ?_
  rintro e w' ⟨rfl, hd⟩
  exact ⟨rfl, hd⟩

end Go.Proofs.Ytplnknhlgdoliaa.Print
end
section
/- hearsayref01.Glue, walked: labels as a name. -/
namespace Go.Proofs.Ytplnknhlgdoliaa.Print
set_option linter.unusedVariables false
set_option linter.unusedSimpArgs false
open Go.RowKit Go.Proofs.YtplnknhlgdoliaaW.PrintWords Go.Proofs.YtplnknhlgdoliaaW.PrintLast Go.Proofs.YtplnknhlgdoliaaW.PrintMore
/-- a label with its length ahead, the length as one byte -/
def labw (s : ByteArray) : List Int := ((s.size : Int) % 256) :: bytesOf s
def gluew (l : List ByteArray) : List Int := l.flatMap labw
def hearsayref01_Glue.f (l : List ByteArray) : Option ByteArray := if (gluew l).length + 1 ≤ 9223372036854775807 then some (strOfNums (gluew l ++ [0])) else none
theorem strOfNums_append (a b : List Int) : strOfNums a ++ strOfNums b = strOfNums (a ++ b) := by
  apply ByteArray.ext
  apply Array.ext'
  simp [strOfNums]
theorem strOfNums_bytes (s : ByteArray) : strOfNums (bytesOf s) = s := by
  apply ByteArray.ext
  apply Array.ext'
  rw [strOfNums_data]
  unfold bytesOf
  rw [List.map_map]
  conv => rhs; rw [← List.map_id s.data.toList]
  refine List.map_congr_left fun b _ => ?_
  simp
theorem gluew_snoc (l : List ByteArray) (s : ByteArray) : gluew (l ++ [s]) = gluew l ++ labw s := by simp [gluew]
theorem labw_length (s : ByteArray) : (labw s).length = s.size + 1 := by simp [labw, bytesOf_length]
theorem gluew_mono (l : List ByteArray) (k : Nat) : (gluew (l.take k)).length ≤ (gluew l).length := by
  conv => rhs; rw [← List.take_append_drop k l]
  simp only [gluew, List.flatMap_append, List.length_append]
  omega
theorem one_string (W : World) (x : Int) : (convert 58 9 (.slice (some ⟨W.heap.size, 0, none⟩) 1 1)).run Try.prog (W.alloc (.cells #[.int .u8 x] 5)) = .ok (.string (strOfNums [x])) (W.alloc (.cells #[.int .u8 x] 5)) := by
  refine string_of_reads Try.underlying58 Try.underlying5 Try.underlying9 ⟨rfl, by decide, fun _ => ⟨_, rfl, fun j hj => ?_⟩⟩
  obtain rfl : j = 0 := by omega
  rw [add_plain]
  exact cell_fresh W (.int .u8 x) 5
theorem one_string_drew (W : World) (x : Int) : (convert 58 9 (.slice (some ⟨W.heap.size, 0, none⟩) 1 1)).run Try.prog (W.alloc (.cells #[.int .u8 x] 5)).drew = .ok (.string (strOfNums [x])) (W.alloc (.cells #[.int .u8 x] 5)).drew := by
  refine string_of_reads Try.underlying58 Try.underlying5 Try.underlying9 ⟨rfl, by decide, fun _ => ⟨_, rfl, fun j hj => ?_⟩⟩
  obtain rfl : j = 0 := by omega
  rw [add_plain]
  exact cell_fresh W (.int .u8 x) 5
set_option maxHeartbeats 4000000 in
set_option maxRecDepth 100000 in
theorem hearsayref01_Glue.calls (A0 : Option Addr) (c0 : Nat) (l0 : List ByteArray) (r : ByteArray) (w : World) (hr0 : Kd.C Kd.string w A0 l0.length l0) (hc0 : l0.length ≤ c0) (h : hearsayref01_Glue.f l0 = some r) :
    Calls Try.prog 50 #[.slice A0 l0.length c0] w fun e w' => e = .returned (.string r) ∧ Below w.heap.size w w' := by
  unfold hearsayref01_Glue.f at h
  by_cases hsz : (gluew l0).length + 1 ≤ 9223372036854775807
  · rw [if_pos hsz] at h
    simp only [Option.some.injEq] at h
    subst h
    have HR := Aside0.mk hr0
    have hml : l0.length ≤ 9223372036854775807 := Kd.C_max hr0
    clear hr0 hc0
    have HB0 := Aside0.mk (Below.refl w.heap.size w)
    go_enter Try.func50, Try.ntmps50
    go_wp2
    go_loopw [3, 4] (fun sv i wr => ∃ (k : Nat), k ≤ l0.length ∧ sv = .string (strOfNums (gluew (l0.take k))) ∧ i = .int .i64 k ∧ Aside0 (Below w.heap.size w wr)) (fun _ i _ => l0.length - (intOf i).toNat)
    case atStart => exact ⟨0, Nat.zero_le _, rfl, rfl, HB0⟩
    case round =>
      clear HB0
      obtain ⟨k, hk, rfl, rfl, HB⟩ := hrel
      have hgk := gluew_mono l0 k
      obtain ⟨acc, hacc⟩ : ∃ acc, acc = strOfNums (gluew (l0.take k)) := ⟨_, rfl⟩
      have hal : acc.size = (gluew (l0.take k)).length := by rw [hacc, strOfNums_size]
      by_cases hlt : k < l0.length
      · obtain ⟨ad, hA, hcell⟩ := Kd.at_string (Kd.C_below HR.out HB.out) (k : Int) (by omega) (by omega)
        obtain ⟨s, hs⟩ : ∃ s, l0[k]? = some s := ⟨l0[k], List.getElem?_eq_getElem hlt⟩
        have hrd : rdOf ByteArray.empty l0 (k : Int) = s := by simp [rdOf, List.getD_eq_getElem?_getD, hs]
        rw [hrd] at hcell
        simp only [Int.toNat_natCast] at hcell
        subst hA
        have hg1 : gluew (l0.take (k + 1)) = gluew (l0.take k) ++ labw s := by rw [take_succ' hs, gluew_snoc]
        have hgk1 := gluew_mono l0 (k + 1)
        rw [hg1, List.length_append, labw_length] at hgk1
        have hw8 : IntKind.u8.wrap (s.size : Int) = (s.size : Int) % 256 := by simp [IntKind.wrap, IntKind.bits, IntKind.signed]
        have hnew : acc ++ strOfNums [(s.size : Int) % 256] ++ s = strOfNums (gluew (l0.take (k + 1))) := by
          rw [hg1, hacc, strOfNums_append]
          conv => lhs; rhs; rw [← strOfNums_bytes s]
          rw [strOfNums_append]
          simp [labw]
        obtain ⟨t1, ht1⟩ : ∃ t1, t1 = strOfNums [IntKind.u8.wrap (s.size : Int)] := ⟨_, rfl⟩
        rw [← hw8, ← ht1] at hnew
        have ht1s : t1.size = 1 := by rw [ht1, strOfNums_size]; rfl
        have hsum1 : (9223372036854775807 < acc.size + t1.size) = False := eq_false (by omega)
        have hsum2 : (9223372036854775807 < (acc ++ t1).size + s.size) = False := eq_false (by rw [ByteArray.size_append]; omega)
        have hsum3 : (9223372036854775807 < acc.size + t1.size + s.size) = False := eq_false (by omega)
        have HN := Aside0.mk hnew
        have HT1 := Aside0.mk ht1
        rw [← hacc]
        clear hnew hg1 hs hrd hacc hw8 ht1 ht1s hal
        have h0k : (0 : Int) ≤ (k : Int) := by omega
        have h1k : (k : Int) < (l0.length : Int) := by omega
        have HBd := Aside0.mk (below_drew HB.out)
        have hcelld : wr.drew.cell? (ad.add k) = some (.string s) := pw_cell_below (below_drew (Below.refl _ _)) hcell
        go_wp2
        refine start_ (n := 16) (S := (fun w' => w'.cell? (ad.add k) = some (.string s))) (ds := []) #[false, false, false, false, false, false, false, false, false, false, false, false, false, false, false, false] (by kernel_rfl) rfl rfl hcelld (fun hHeld => ?_)
        generalize wr.drew = wd at HBd hcelld hHeld ⊢
        refine pure_ (i := 0) (N := some 11) (v := ?_) (a' := ?_) #[true, false, false, false, false, false, false, false, false, false, false, false, false, false, false, false] rfl rfl (by kernel_rfl) (fun _ _ _ h => h) (Or.inl ⟨by rfl, ?_⟩) ?_ ?_
        rotate_left
        · intro w'
          go_simp
          with_reducible rfl
        rotate_left
        · simp only [Act.put, List.setIfInBounds_toArray, List.set_cons_zero, List.set_cons_succ, i64_w, i32_w]
          rfl
        refine pure_ (i := 1) (N := some 12) (v := ?_) (a' := ?_) #[true, true, false, false, false, false, false, false, false, false, false, false, false, false, false, false] rfl rfl (by kernel_rfl) (fun _ _ _ h => h) (Or.inl ⟨by rfl, ?_⟩) ?_ ?_
        rotate_left
        · intro w'
          go_simp
          with_reducible rfl
        rotate_left
        · simp only [Act.put, List.setIfInBounds_toArray, List.set_cons_zero, List.set_cons_succ, i64_w, i32_w]
          rfl
        refine pure_ (i := 2) (N := some 13) (v := ?_) (a' := ?_) #[true, true, true, false, false, false, false, false, false, false, false, false, false, false, false, false] rfl rfl (by kernel_rfl) (fun _ _ _ h => h) (Or.inl ⟨by rfl, ?_⟩) ?_ ?_
        rotate_left
        · intro w'
          go_simp
          with_reducible rfl
        rotate_left
        · simp only [Act.put, List.setIfInBounds_toArray, List.set_cons_zero, List.set_cons_succ, i64_w, i32_w]
          rfl
        refine pure_ (i := 3) (N := some 14) (v := ?_) (a' := ?_) #[true, true, true, true, false, false, false, false, false, false, false, false, false, false, false, false] rfl rfl (by kernel_rfl) (fun _ _ _ h => h) (Or.inl ⟨by rfl, ?_⟩) ?_ ?_
        rotate_left
        · intro w'
          go_simp
          with_reducible rfl
        rotate_left
        · simp only [Act.put, List.setIfInBounds_toArray, List.set_cons_zero, List.set_cons_succ, i64_w, i32_w]
          rfl
        refine take_ (i := 4) (N := some 15) (v := ?_) (a' := ?_) #[true, true, true, true, true, false, false, false, false, false, false, false, false, false, false, false] rfl rfl (by kernel_rfl) (fun _ _ _ h => h) (Or.inl ⟨by rfl, ?_⟩) hHeld ?_ ?_
        rotate_left
        · rintro w' hs0
          go_simp
          with_reducible rfl
        rotate_left
        · simp only [Act.put, List.setIfInBounds_toArray, List.set_cons_zero, List.set_cons_succ, i64_w, i32_w]
          rfl
        refine pure_ (i := 5) (N := some 16) (v := ?_) (a' := ?_) #[true, true, true, true, true, true, false, false, false, false, false, false, false, false, false, false] rfl rfl (by kernel_rfl) (fun _ _ _ h => h) (Or.inl ⟨by rfl, ?_⟩) ?_ ?_
        rotate_left
        · intro w'
          go_simp
          with_reducible rfl
        rotate_left
        · simp only [Act.put, List.setIfInBounds_toArray, List.set_cons_zero, List.set_cons_succ, i64_w, i32_w]
          rfl
        refine pure_ (i := 6) (N := some 17) (v := ?_) (a' := ?_) #[true, true, true, true, true, true, true, false, false, false, false, false, false, false, false, false] rfl rfl (by kernel_rfl) (fun _ _ _ h => h) (Or.inl ⟨by rfl, ?_⟩) ?_ ?_
        rotate_left
        · intro w'
          go_simp
          with_reducible rfl
        rotate_left
        · simp only [Act.put, List.setIfInBounds_toArray, List.set_cons_zero, List.set_cons_succ, i64_w, i32_w]
          rfl
        refine pure_ (i := 10) (N := some 21) (v := ?_) (a' := ?_) #[true, true, true, true, true, true, true, false, false, false, true, false, false, false, false, false] rfl rfl (by kernel_rfl) (fun _ _ _ h => h) (Or.inl ⟨by rfl, ?_⟩) ?_ ?_
        rotate_left
        · intro w'
          go_simp
          with_reducible rfl
        rotate_left
        · simp only [Act.put, List.setIfInBounds_toArray, List.set_cons_zero, List.set_cons_succ, i64_w, i32_w]
          rfl
        refine pure_ (i := 11) (N := some 22) (v := ?_) (a' := ?_) #[true, true, true, true, true, true, true, false, false, false, true, true, false, false, false, false] rfl rfl (by kernel_rfl) (fun _ _ _ h => h) (Or.inl ⟨by rfl, ?_⟩) ?_ ?_
        rotate_left
        · intro w'
          go_simp
          with_reducible rfl
        rotate_left
        · simp only [Act.put, List.setIfInBounds_toArray, List.set_cons_zero, List.set_cons_succ, i64_w, i32_w]
          rfl
        refine pure_ (i := 12) (N := some 23) (v := ?_) (a' := ?_) #[true, true, true, true, true, true, true, false, false, false, true, true, true, false, false, false] rfl rfl (by kernel_rfl) (fun _ _ _ h => h) (Or.inl ⟨by rfl, ?_⟩) ?_ ?_
        rotate_left
        · intro w'
          go_simp
          with_reducible rfl
        rotate_left
        · simp only [Act.put, List.setIfInBounds_toArray, List.set_cons_zero, List.set_cons_succ, i64_w, i32_w]
          rfl
        refine take_ (i := 13) (N := some 24) (v := ?_) (a' := ?_) #[true, true, true, true, true, true, true, false, false, false, true, true, true, true, false, false] rfl rfl (by kernel_rfl) (fun _ _ _ h => h) (Or.inl ⟨by rfl, ?_⟩) hHeld ?_ ?_
        rotate_left
        · rintro w' hs0
          go_simp
          with_reducible rfl
        rotate_left
        · simp only [Act.put, List.setIfInBounds_toArray, List.set_cons_zero, List.set_cons_succ, i64_w, i32_w]
          rfl
        refine one_ (i := 7) (N := some 18) #[true, true, true, true, true, true, true, true, false, false, true, true, true, true, false, false] rfl rfl (by kernel_rfl) (by decide) (fun K hK => ?_)
        refine value_ (v := .slice (some ⟨wd.heap.size, 0, none⟩) 1 1) (w1 := wd.alloc (.cells #[.int .u8 (IntKind.u8.wrap (s.size : Int))] 5)) (by rfl) rfl ?_ ?_
        · go_simp
          try with_reducible rfl
        refine hK.out _ _ (pw_cell_below (below_alloc (Below.refl _ _) _) hHeld) (fun hHeld => ?_)
        clear hK K
        refine norm_ (a' := ?_) ?_ ?_
        rotate_left
        · show Act.put _ (some 18) _ = _
          simp only [Act.put, List.setIfInBounds_toArray, List.set_cons_zero, List.set_cons_succ, i64_w, i32_w]
          rfl
        have hone := one_string wd (IntKind.u8.wrap (s.size : Int))
        rw [← HT1.out] at hone
        refine one_ (i := 8) (N := some 19) #[true, true, true, true, true, true, true, true, true, false, true, true, true, true, false, false] rfl rfl (by kernel_rfl) (by decide) (fun K hK => ?_)
        refine value_ (v := .string t1) (w1 := wd.alloc (.cells #[.int .u8 (IntKind.u8.wrap (s.size : Int))] 5)) (by rfl) rfl ?_ ?_
        · go_simp
          try with_reducible rfl
        refine hK.out _ _ hHeld (fun hHeld => ?_)
        clear hK K
        refine norm_ (a' := ?_) ?_ ?_
        rotate_left
        · show Act.put _ (some 19) _ = _
          simp only [Act.put, List.setIfInBounds_toArray, List.set_cons_zero, List.set_cons_succ, i64_w, i32_w]
          rfl
        refine pure_ (i := 9) (N := some 20) (v := ?_) (a' := ?_) #[true, true, true, true, true, true, true, true, true, true, true, true, true, true, false, false] rfl rfl (by kernel_rfl) (fun _ _ _ h => h) (Or.inl ⟨by rfl, ?_⟩) ?_ ?_
        rotate_left
        · intro w'
          go_simp
          with_reducible rfl
        rotate_left
        · simp only [Act.put, List.setIfInBounds_toArray, List.set_cons_zero, List.set_cons_succ, i64_w, i32_w]
          rfl
        refine pure_ (i := 14) (N := some 25) (v := ?_) (a' := ?_) #[true, true, true, true, true, true, true, true, true, true, true, true, true, true, true, false] rfl rfl (by kernel_rfl) (fun _ _ _ h => h) (Or.inl ⟨by rfl, ?_⟩) ?_ ?_
        rotate_left
        · intro w'
          go_simp
          with_reducible rfl
        rotate_left
        · simp only [Act.put, List.setIfInBounds_toArray, List.set_cons_zero, List.set_cons_succ, i64_w, i32_w]
          rfl
        refine pure_ (i := 15) (N := some 3) (v := ?_) (a' := ?_) #[true, true, true, true, true, true, true, true, true, true, true, true, true, true, true, true] rfl rfl (by kernel_rfl) (fun _ _ _ h => h) (Or.inl ⟨by rfl, ?_⟩) ?_ ?_
        rotate_left
        · intro w'
          go_simp
          with_reducible rfl
        rotate_left
        · simp only [Act.put, List.setIfInBounds_toArray, List.set_cons_zero, List.set_cons_succ, i64_w, i32_w]
          rfl
        refine done_ (by kernel_rfl) ?_
        go_wp2
        go_roundw
        case rel => exact ⟨k + 1, by omega, by first | (rw [← HN.out]; done) | (rw [← HN.out]; simp; done), by go_num, ⟨by repeat (first | (with_reducible first | exact HBd.out | apply below_alloc | apply pw_below_drewN | apply below_drew1) | exact HBd.out)⟩⟩
        case measure => simp [intOf]; omega
      · have hge : (l0.take k) = l0 := List.take_of_length_le (by omega)
        have hfin : acc ++ (⟨#[0]⟩ : ByteArray) = strOfNums (gluew l0 ++ [0]) := by
          rw [← strOfNums_append, hacc, hge]; rfl
        have hsum : acc.size + 1 ≤ 9223372036854775807 := by rw [hal, hge]; omega
        have HF := Aside0.mk hfin
        rw [← hacc]
        clear hfin hge hacc hal hgk
        go_wp2
        go_ret
        exact ⟨by first | (rw [← HF.out]; done) | (rw [← HF.out]; simp; done), HB.out⟩
  · rw [if_neg hsz] at h; exact absurd h (by simp)
end Go.Proofs.Ytplnknhlgdoliaa.Print
end
section
-- Written by a program of this session, built on the kit's print (it is not the print's own text).
namespace Go.Proofs.Ytplnknhlgdoliaa.Print
open Go.RowKit Go.Proofs.YtplnknhlgdoliaaW.PrintWords Go.Proofs.YtplnknhlgdoliaaW.PrintLast Go.Proofs.YtplnknhlgdoliaaW.PrintMore
attribute [local go_sem] max2_int min2_int max_two min_two max_three min_three max_four min_four   -- for this text's walks alone
set_option linter.unusedVariables false
set_option linter.unusedSimpArgs false

/-! ### hearsayref01_Of: function 22 -/
mutual
def hearsayref01_Of.l0 : Nat → List ByteArray → Int → Int → Option (ByteArray × Int)
  | 0, _, _, _ => none
  | k + 1, x0, x4, x5 => if x5 < (x0.length : Int) then (if 0 ≤ x5 then (if ((rdOf ByteArray.empty x0 x5).size : Int) < 1 then (some ((⟨#[]⟩ : ByteArray), 10)) else (if ((rdOf ByteArray.empty x0 x5).size : Int) > 63 then (some ((⟨#[]⟩ : ByteArray), 10)) else (hearsayref01_Of.l0 k x0 x4 (wrap64 (x5 + 1))))) else (none)) else (hearsayref01_Of.l1 k x0 x4 0)
def hearsayref01_Of.l1 : Nat → List ByteArray → Int → Int → Option (ByteArray × Int)
  | 0, _, _, _ => none
  | k + 1, x0, x4, x6 => if x6 < (x0.length : Int) then (if 0 ≤ x6 then (if (wrap64 ((wrap64 (x4 + 1)) + ((rdOf ByteArray.empty x0 x6).size : Int))) > 255 then (some ((⟨#[]⟩ : ByteArray), 2)) else (hearsayref01_Of.l1 k x0 (wrap64 ((wrap64 (x4 + 1)) + ((rdOf ByteArray.empty x0 x6).size : Int))) (wrap64 (x6 + 1)))) else (none)) else ((hearsayref01_Glue.f x0).bind fun t160 => (some (t160, 0)))
end
def hearsayref01_Of.f (k : Nat) (l0 : List ByteArray) : Option (ByteArray × Int) := hearsayref01_Of.l0 k l0 1 0
theorem hearsayref01_Of.mono_l : ∀ k, (∀ y0 y1 y2, LeO (hearsayref01_Of.l0 k y0 y1 y2) (hearsayref01_Of.l0 (k + 1) y0 y1 y2)) ∧ (∀ y0 y1 y2, LeO (hearsayref01_Of.l1 k y0 y1 y2) (hearsayref01_Of.l1 (k + 1) y0 y1 y2))
  | 0 => ⟨fun _ _ _ r h => by simp [hearsayref01_Of.l0] at h, fun _ _ _ r h => by simp [hearsayref01_Of.l1] at h⟩
  | k + 1 => by
    obtain ⟨ih0, ih1⟩ := hearsayref01_Of.mono_l k
    refine ⟨?_, ?_⟩
    · intro y0 y1 y2
      unfold hearsayref01_Of.l0
      repeat' first
      | (with_reducible exact ih0 _ _ _)
      | (with_reducible exact ih1 _ _ _)
      | (with_reducible exact LeO.refl _)
      | (with_reducible exact LeO.none _)
      | (with_reducible refine LeO.ite ?_ ?_)
      | (with_reducible refine LeO.bind ?_ (fun _ => ?_))
      | exact ih0 _ _ _
      | exact ih1 _ _ _
      | exact LeO.none _
      | refine LeO.ite ?_ ?_
      | refine LeO.bind ?_ (fun _ => ?_)
    · intro y0 y1 y2
      unfold hearsayref01_Of.l1
      repeat' first
      | (with_reducible exact ih0 _ _ _)
      | (with_reducible exact ih1 _ _ _)
      | (with_reducible exact LeO.refl _)
      | (with_reducible exact LeO.none _)
      | (with_reducible refine LeO.ite ?_ ?_)
      | (with_reducible refine LeO.bind ?_ (fun _ => ?_))
      | exact ih0 _ _ _
      | exact ih1 _ _ _
      | exact LeO.none _
      | refine LeO.ite ?_ ?_
      | refine LeO.bind ?_ (fun _ => ?_)
theorem hearsayref01_Of.mono : ∀ a0 k, LeO (hearsayref01_Of.f k a0) (hearsayref01_Of.f (k + 1) a0) := by
  intro a0 k
  obtain ⟨ih0, ih1⟩ := hearsayref01_Of.mono_l k
  unfold hearsayref01_Of.f
  repeat' first
      | (with_reducible exact ih0 _ _ _)
      | (with_reducible exact ih1 _ _ _)
      | (with_reducible exact LeO.refl _)
      | (with_reducible exact LeO.none _)
      | (with_reducible refine LeO.ite ?_ ?_)
      | (with_reducible refine LeO.bind ?_ (fun _ => ?_))
      | exact ih0 _ _ _
      | exact ih1 _ _ _
      | exact LeO.none _
      | refine LeO.ite ?_ ?_
      | refine LeO.bind ?_ (fun _ => ?_)
set_option maxHeartbeats 8000000 in
set_option maxRecDepth 100000 in
theorem hearsayref01_Of.calls (k : Nat) (A0 : Option Addr) (c0 : Nat) (l0 : List ByteArray) (r1 : ByteArray) (r2 : Int) (w : World) (hr0 : Kd.C Kd.string w A0 l0.length l0) (hc0 : l0.length ≤ c0) (h : hearsayref01_Of.f k l0 = some (r1, r2)) :
    Calls Try.prog 22 #[.slice A0 l0.length c0] w fun e w' => e = .returned (.tuple #[.string r1, .int .i64 r2]) ∧ Below w.heap.size w w' := by
  have HR0 := Aside0.mk hr0
  have HC0 := Aside0.mk hc0
  clear hr0 hc0
  have HB := Aside0.mk (Below.refl w.heap.size w)
  have H : (hearsayref01_Of.l0 k l0 1 0) = some (r1, r2) := h
  clear h
  have H' := Aside0.mk H
  clear H
  go_enter Try.func22, Try.ntmps22
  go_wp2
  go_loopg [5] k (fun kq v5 w' => ∃ (x5_1 : Int), v5 = .int .i64 x5_1 ∧ Aside0 (hearsayref01_Of.l0 kq l0 1 x5_1 = some (r1, r2)) ∧ Aside0 (kq ≤ k) ∧ Aside0 (Below w.heap.size w w'))
  case atStart => exact ⟨(0), (by first | rfl | (simp; done) | (simp [*]; done)), H', ⟨Nat.le_refl _⟩, ⟨by repeat (first | (with_reducible first | exact HB.out | apply below_alloc | apply pw_below_drewN | apply below_drew1) | exact HB.out)⟩⟩
  case round =>
    clear H'
    obtain ⟨x5_1, rfl, HA, HK1, HB⟩ := hrel
    cases gk with
    | zero => exact absurd HA.out (by simp [hearsayref01_Of.l0])
    | succ k1 =>
      have H := HA.out
      clear HA
      simp only [hearsayref01_Of.l0] at H
      by_cases c2 : x5_1 < (l0.length : Int)
      · rw [if_pos c2] at H
        have c2b0 : decide (x5_1 < (l0.length : Int)) = true := decide_eq_true c2
        clear c2
        by_cases c3 : 0 ≤ x5_1
        · rw [if_pos c3] at H
          have c3b0 : decide (0 ≤ x5_1) = true := decide_eq_true c3
          clear c3
          by_cases c4 : ((rdOf ByteArray.empty l0 x5_1).size : Int) < 1
          · rw [if_pos c4] at H
            have c4b0 : decide (((rdOf ByteArray.empty l0 x5_1).size : Int) < 1) = true := decide_eq_true c4
            have c4b1 : decide ((rdOf ByteArray.empty l0 x5_1).size < 1) = true := decide_eq_true (by omega)
            clear c4
            simp only [Option.some.injEq, Prod.mk.injEq] at H
            obtain ⟨rfl, rfl⟩ := H
            have p157 : 0 ≤ (x5_1 : Int) := of_decide_eq_true (by first | (with_reducible assumption) | assumption)
            have q157 : x5_1 < (l0.length : Int) := of_decide_eq_true (by first | (with_reducible assumption) | assumption)
            obtain ⟨ad157, e157, hx157_0⟩ := Kd.at_string HR0.out x5_1 p157 q157
            cases e157
            replace hx157_0 := (HB.out.cell (World.block_lt_of_cell? w _ hx157_0)).trans hx157_0
            replace p157 := eq_true p157
            replace q157 := eq_true q157
            go_wp2
            go_ret2
            exact ⟨by first | rfl | (simp [errW_none, errW_some] <;> rfl) | (simp [*, errW_none, errW_some] <;> rfl), by repeat (first | (with_reducible first | exact HB.out | apply below_alloc | apply pw_below_drewN | apply below_drew1) | exact HB.out)⟩
          · rw [if_neg c4] at H
            have c4b0 : decide (((rdOf ByteArray.empty l0 x5_1).size : Int) < 1) = false := decide_eq_false c4
            have c4b1 : decide ((rdOf ByteArray.empty l0 x5_1).size < 1) = false := decide_eq_false (by omega)
            clear c4
            by_cases c5 : ((rdOf ByteArray.empty l0 x5_1).size : Int) > 63
            · rw [if_pos c5] at H
              have c5b0 : decide (63 < ((rdOf ByteArray.empty l0 x5_1).size : Int)) = true := decide_eq_true c5
              have c5b1 : decide (63 < (rdOf ByteArray.empty l0 x5_1).size) = true := decide_eq_true (by omega)
              clear c5
              simp only [Option.some.injEq, Prod.mk.injEq] at H
              obtain ⟨rfl, rfl⟩ := H
              have p157 : 0 ≤ (x5_1 : Int) := of_decide_eq_true (by first | (with_reducible assumption) | assumption)
              have q157 : x5_1 < (l0.length : Int) := of_decide_eq_true (by first | (with_reducible assumption) | assumption)
              obtain ⟨ad157, e157, hx157_0⟩ := Kd.at_string HR0.out x5_1 p157 q157
              cases e157
              replace hx157_0 := (HB.out.cell (World.block_lt_of_cell? w _ hx157_0)).trans hx157_0
              replace p157 := eq_true p157
              replace q157 := eq_true q157
              have p158 : 0 ≤ (x5_1 : Int) := of_decide_eq_true (by first | (with_reducible assumption) | assumption)
              have q158 : x5_1 < (l0.length : Int) := of_decide_eq_true (by first | (with_reducible assumption) | assumption)
              obtain ⟨ad158, e158, hx158_0⟩ := Kd.at_string HR0.out x5_1 p158 q158
              obtain rfl : ad157 = ad158 := (by injection e158)
              replace hx158_0 := (HB.out.cell (World.block_lt_of_cell? w _ hx158_0)).trans hx158_0
              replace p158 := eq_true p158
              replace q158 := eq_true q158
              go_wp2
              go_ret2
              exact ⟨by first | rfl | (simp [errW_none, errW_some] <;> rfl) | (simp [*, errW_none, errW_some] <;> rfl), by repeat (first | (with_reducible first | exact HB.out | apply below_alloc | apply pw_below_drewN | apply below_drew1) | exact HB.out)⟩
            · rw [if_neg c5] at H
              have c5b0 : decide (63 < ((rdOf ByteArray.empty l0 x5_1).size : Int)) = false := decide_eq_false c5
              have c5b1 : decide (63 < (rdOf ByteArray.empty l0 x5_1).size) = false := decide_eq_false (by omega)
              clear c5
              have H' := Aside0.mk H
              clear H
              have p157 : 0 ≤ (x5_1 : Int) := of_decide_eq_true (by first | (with_reducible assumption) | assumption)
              have q157 : x5_1 < (l0.length : Int) := of_decide_eq_true (by first | (with_reducible assumption) | assumption)
              obtain ⟨ad157, e157, hx157_0⟩ := Kd.at_string HR0.out x5_1 p157 q157
              cases e157
              replace hx157_0 := (HB.out.cell (World.block_lt_of_cell? w _ hx157_0)).trans hx157_0
              replace p157 := eq_true p157
              replace q157 := eq_true q157
              have p158 : 0 ≤ (x5_1 : Int) := of_decide_eq_true (by first | (with_reducible assumption) | assumption)
              have q158 : x5_1 < (l0.length : Int) := of_decide_eq_true (by first | (with_reducible assumption) | assumption)
              obtain ⟨ad158, e158, hx158_0⟩ := Kd.at_string HR0.out x5_1 p158 q158
              obtain rfl : ad157 = ad158 := (by injection e158)
              replace hx158_0 := (HB.out.cell (World.block_lt_of_cell? w _ hx158_0)).trans hx158_0
              replace p158 := eq_true p158
              replace q158 := eq_true q158
              go_wp2
              go_roundg k1
              case measure => have := HK1.out; omega
              case rel => exact ⟨(wrap64 (x5_1 + 1)), (by first | rfl | (simp; done) | (simp [*]; done)), H', ⟨by have := HK1.out; omega⟩, ⟨by repeat (first | (with_reducible first | exact HB.out | apply below_alloc | apply pw_below_drewN | apply below_drew1) | exact HB.out)⟩⟩
        · rw [if_neg c3] at H
          exact absurd H (by simp)
      · rw [if_neg c2] at H
        have c2b0 : decide (x5_1 < (l0.length : Int)) = false := decide_eq_false c2
        clear c2
        have H' := Aside0.mk H
        clear H
        go_wp2
        go_loopg [4, 6] k1 (fun kq v4 v6 w' => ∃ (x4_2 : Int) (x6_2 : Int), v4 = .int .i64 x4_2 ∧ v6 = .int .i64 x6_2 ∧ Aside0 (hearsayref01_Of.l1 kq l0 x4_2 x6_2 = some (r1, r2)) ∧ Aside0 (kq ≤ k1) ∧ Aside0 (Below w.heap.size w w'))
        case atStart => exact ⟨(1), (0), (by first | rfl | (simp; done) | (simp [*]; done)), (by first | rfl | (simp; done) | (simp [*]; done)), H', ⟨Nat.le_refl _⟩, ⟨by repeat (first | (with_reducible first | exact HB.out | apply below_alloc | apply pw_below_drewN | apply below_drew1) | exact HB.out)⟩⟩
        case round =>
          clear H'
          try clear p1
          try clear q1
          try clear hx1
          try clear c2
          try clear c2b0
          try clear p2
          try clear c3
          try clear c3b0
          try clear c4
          try clear c4b0
          try clear c4b1
          try clear c5
          try clear c5b0
          try clear c5b1
          try clear hx157_0
          try clear hx158_0
          try clear p157
          try clear p158
          try clear q157
          try clear q158
          obtain ⟨x4_2, x6_2, rfl, rfl, HA, HK2, HB⟩ := hrel
          cases gk with
          | zero => exact absurd HA.out (by simp [hearsayref01_Of.l1])
          | succ k2 =>
            have H := HA.out
            clear HA
            simp only [hearsayref01_Of.l1] at H
            by_cases c6 : x6_2 < (l0.length : Int)
            · rw [if_pos c6] at H
              have c6b0 : decide (x6_2 < (l0.length : Int)) = true := decide_eq_true c6
              clear c6
              by_cases c7 : 0 ≤ x6_2
              · rw [if_pos c7] at H
                have c7b0 : decide (0 ≤ x6_2) = true := decide_eq_true c7
                clear c7
                by_cases c8 : (wrap64 ((wrap64 (x4_2 + 1)) + ((rdOf ByteArray.empty l0 x6_2).size : Int))) > 255
                · rw [if_pos c8] at H
                  have c8b0 : decide (255 < (wrap64 ((wrap64 (x4_2 + 1)) + ((rdOf ByteArray.empty l0 x6_2).size : Int)))) = true := decide_eq_true c8
                  clear c8
                  simp only [Option.some.injEq, Prod.mk.injEq] at H
                  obtain ⟨rfl, rfl⟩ := H
                  have p159 : 0 ≤ (x6_2 : Int) := of_decide_eq_true (by first | (with_reducible assumption) | assumption)
                  have q159 : x6_2 < (l0.length : Int) := of_decide_eq_true (by first | (with_reducible assumption) | assumption)
                  obtain ⟨ad159, e159, hx159_0⟩ := Kd.at_string HR0.out x6_2 p159 q159
                  cases e159
                  replace hx159_0 := (HB.out.cell (World.block_lt_of_cell? w _ hx159_0)).trans hx159_0
                  replace p159 := eq_true p159
                  replace q159 := eq_true q159
                  go_wp2
                  go_ret2
                  exact ⟨by first | rfl | (simp [errW_none, errW_some] <;> rfl) | (simp [*, errW_none, errW_some] <;> rfl), by repeat (first | (with_reducible first | exact HB.out | apply below_alloc | apply pw_below_drewN | apply below_drew1) | exact HB.out)⟩
                · rw [if_neg c8] at H
                  have c8b0 : decide (255 < (wrap64 ((wrap64 (x4_2 + 1)) + ((rdOf ByteArray.empty l0 x6_2).size : Int)))) = false := decide_eq_false c8
                  clear c8
                  have H' := Aside0.mk H
                  clear H
                  have p159 : 0 ≤ (x6_2 : Int) := of_decide_eq_true (by first | (with_reducible assumption) | assumption)
                  have q159 : x6_2 < (l0.length : Int) := of_decide_eq_true (by first | (with_reducible assumption) | assumption)
                  obtain ⟨ad159, e159, hx159_0⟩ := Kd.at_string HR0.out x6_2 p159 q159
                  cases e159
                  replace hx159_0 := (HB.out.cell (World.block_lt_of_cell? w _ hx159_0)).trans hx159_0
                  replace p159 := eq_true p159
                  replace q159 := eq_true q159
                  go_wp2
                  go_roundg k2
                  case measure => have := HK1.out; have := HK2.out; omega
                  case rel => exact ⟨(wrap64 ((wrap64 (x4_2 + 1)) + ((rdOf ByteArray.empty l0 x6_2).size : Int))), (wrap64 (x6_2 + 1)), (by first | rfl | (simp; done) | (simp [*]; done)), (by first | rfl | (simp; done) | (simp [*]; done)), H', ⟨by have := HK1.out; have := HK2.out; omega⟩, ⟨by repeat (first | (with_reducible first | exact HB.out | apply below_alloc | apply pw_below_drewN | apply below_drew1) | exact HB.out)⟩⟩
              · rw [if_neg c7] at H
                exact absurd H (by simp)
            · rw [if_neg c6] at H
              have c6b0 : decide (x6_2 < (l0.length : Int)) = false := decide_eq_false c6
              clear c6
              replace H := Option.bind_eq_some_iff.mp H
              obtain ⟨t160, A90, H⟩ := H
              replace H : (some (t160, 0)) = some (r1, r2) := H
              have A9 := Aside0.mk A90
              clear A90
              simp only [Option.some.injEq, Prod.mk.injEq] at H
              obtain ⟨rfl, rfl⟩ := H
              go_wp2_with (first | ((with_reducible refine gate_callee (f := 50) rfl ?_); refine goesL_ (some 44) rfl rfl Try.func50 (by kernel_rfl) rfl #[.slice A0 l0.length c0] rfl (by (try simp only [List.map_toArray, List.map_cons, List.map_nil]); first | done | rfl | (simp only [List.length_drop, List.length_take]; rfl)) ?_; (with_reducible refine (hearsayref01_Glue.calls _ _ l0 t160 _ ?side1 ?side2 A9.out).mono ?_); (case side1 => repeat (first | exact (Kd.C_below HR0.out HB.out) | (with_reducible refine Kd.C_alloc ?_ _) | (with_reducible refine Kd.C_drewN ?_ _) | (with_reducible refine Kd.C_drew ?_))); (case side2 => exact HC0.out); rintro e w10 ⟨rfl, hb⟩; refine ⟨_, rfl, ?_⟩; have n0_ := Aside0.mk (below_step (by repeat (first | (with_reducible first | exact HB.out | apply below_alloc | apply pw_below_drewN | apply below_drew1) | exact HB.out)) hb); clear HB; have HB := n0_; clear n0_; (try clear hb); (try clear hb2); (try clear hk); (try clear hi)))
              go_ret2
              exact ⟨by first | rfl | (simp [errW_none, errW_some] <;> rfl) | (simp [*, errW_none, errW_some] <;> rfl), by repeat (first | (with_reducible first | exact HB.out | apply below_alloc | apply pw_below_drewN | apply below_drew1) | exact HB.out)⟩

end Go.Proofs.Ytplnknhlgdoliaa.Print
end
section
-- Written by a program of this session, built on the kit's print (it is not the print's own text).
namespace Go.Proofs.Ytplnknhlgdoliaa.Print
open Go.RowKit Go.Proofs.YtplnknhlgdoliaaW.PrintWords Go.Proofs.YtplnknhlgdoliaaW.PrintLast Go.Proofs.YtplnknhlgdoliaaW.PrintMore
attribute [local go_sem] max2_int min2_int max_two min_two max_three min_three max_four min_four   -- for this text's walks alone
set_option linter.unusedVariables false
set_option linter.unusedSimpArgs false

/-! ### hearsayref01_pieces: function 56 -/
def hearsayref01_pieces.l0 : Nat → ByteArray → List ByteArray → Int → Int → Option (List ByteArray × Bool)
  | 0, _, _, _, _ => none
  | k + 1, x0, x4, x5, x6 => if x6 < (x0.size : Int) then (if 0 ≤ x6 then (if (bt x0 x6) = 92 then (hearsayref01_pieces.l0 k x0 x4 x5 (wrap64 ((wrap64 (x6 + 1)) + 1))) else (if (bt x0 x6) = 46 then (if 0 ≤ x5 then (if x5 ≤ x6 then (if x6 ≤ (x0.size : Int) then (if x4.length < 8796093022208 then (hearsayref01_pieces.l0 k x0 (x4 ++ [x0.extract (x5 : Int).toNat (x6 : Int).toNat]) (wrap64 (x6 + 1)) (wrap64 (x6 + 1))) else (none)) else (none)) else (none)) else (none)) else (hearsayref01_pieces.l0 k x0 x4 x5 (wrap64 (x6 + 1))))) else (none)) else (if x5 = (x0.size : Int) then (if x5 > 0 then (some (x4, true)) else (if 0 ≤ x5 then (if x5 ≤ (x0.size : Int) then (if x4.length < 8796093022208 then (some ((x4 ++ [x0.extract (x5 : Int).toNat x0.size]), false)) else (none)) else (none)) else (none))) else (if 0 ≤ x5 then (if x5 ≤ (x0.size : Int) then (if x4.length < 8796093022208 then (some ((x4 ++ [x0.extract (x5 : Int).toNat x0.size]), false)) else (none)) else (none)) else (none)))
def hearsayref01_pieces.f (k : Nat) (a0 : ByteArray) : Option (List ByteArray × Bool) := hearsayref01_pieces.l0 k a0 ([] : List ByteArray) 0 0
theorem hearsayref01_pieces.mono_l : ∀ k, (∀ y0 y1 y2 y3, LeO (hearsayref01_pieces.l0 k y0 y1 y2 y3) (hearsayref01_pieces.l0 (k + 1) y0 y1 y2 y3))
  | 0 => fun _ _ _ _ r h => by simp [hearsayref01_pieces.l0] at h
  | k + 1 => by
    have ih0 := hearsayref01_pieces.mono_l k
    · intro y0 y1 y2 y3
      unfold hearsayref01_pieces.l0
      repeat' first
      | (with_reducible exact ih0 _ _ _ _)
      | (with_reducible exact LeO.refl _)
      | (with_reducible exact LeO.none _)
      | (with_reducible refine LeO.ite ?_ ?_)
      | (with_reducible refine LeO.bind ?_ (fun _ => ?_))
      | exact ih0 _ _ _ _
      | exact LeO.none _
      | refine LeO.ite ?_ ?_
      | refine LeO.bind ?_ (fun _ => ?_)
theorem hearsayref01_pieces.mono : ∀ a0 k, LeO (hearsayref01_pieces.f k a0) (hearsayref01_pieces.f (k + 1) a0) := by
  intro a0 k
  have ih0 := hearsayref01_pieces.mono_l k
  unfold hearsayref01_pieces.f
  repeat' first
      | (with_reducible exact ih0 _ _ _ _)
      | (with_reducible exact LeO.refl _)
      | (with_reducible exact LeO.none _)
      | (with_reducible refine LeO.ite ?_ ?_)
      | (with_reducible refine LeO.bind ?_ (fun _ => ?_))
      | exact ih0 _ _ _ _
      | exact LeO.none _
      | refine LeO.ite ?_ ?_
      | refine LeO.bind ?_ (fun _ => ?_)
set_option maxHeartbeats 8000000 in
set_option maxRecDepth 100000 in
theorem hearsayref01_pieces.calls (k : Nat) (a0 : ByteArray) (r1 : List ByteArray) (r2 : Bool) (w : World) (h : hearsayref01_pieces.f k a0 = some (r1, r2)) :
    Calls Try.prog 56 #[.string a0] w fun e w' => ∃ v0_ : Value, e = .returned (.tuple #[v0_, .bool r2]) ∧ Kd.R Kd.string 9 w' w.heap.size (fun _ => True) v0_ r1 ∧ Below w.heap.size w w' := by
  have HB := Aside0.mk (Below.refl w.heap.size w)
  have H : (hearsayref01_pieces.l0 k a0 ([] : List ByteArray) 0 0) = some (r1, r2) := h
  clear h
  have H' := Aside0.mk H
  clear H
  go_enter Try.func56, Try.ntmps56
  go_wp2
  go_loopg [4, 5, 6] k (fun kq v4 v5 v6 w' => ∃ (x4_1 : List ByteArray) (x5_1 : Int) (x6_1 : Int), v5 = .int .i64 x5_1 ∧ v6 = .int .i64 x6_1 ∧ Aside0 (hearsayref01_pieces.l0 kq a0 x4_1 x5_1 x6_1 = some (r1, r2)) ∧ Aside0 (kq ≤ k) ∧ Aside0 (Kd.R Kd.string 9 w' w.heap.size (fun _ => True) v4 x4_1) ∧ Aside0 (Below w.heap.size w w'))
  case atStart => exact ⟨(([] : List ByteArray)), (0), (0), (by first | rfl | (simp; done) | (simp [*]; done)), (by first | rfl | (simp; done) | (simp [*]; done)), H', ⟨Nat.le_refl _⟩, ⟨by first | exact Kd.R_nil _ _ _ _ _ | exact Kd.N_nil _ _ _ _ _ | exact Kd.V_nil _ _ _ _ _ | exact Kd.Q_nil _ _ _ _ _ | exact Kd.S_nil _ _ _ _ _⟩, ⟨by repeat (first | (with_reducible first | exact HB.out | apply below_alloc | apply pw_below_drewN | apply below_drew1) | exact HB.out)⟩⟩
  case round =>
    clear H'
    obtain ⟨x4_1, x5_1, x6_1, rfl, rfl, HA, HK1, HO_4, HB⟩ := hrel
    cases gk with
    | zero => exact absurd HA.out (by simp [hearsayref01_pieces.l0])
    | succ k1 =>
      have H := HA.out
      clear HA
      simp only [hearsayref01_pieces.l0] at H
      by_cases c2 : x6_1 < (a0.size : Int)
      · rw [if_pos c2] at H
        have c2b0 : decide (x6_1 < (a0.size : Int)) = true := decide_eq_true c2
        clear c2
        by_cases c3 : 0 ≤ x6_1
        · rw [if_pos c3] at H
          have c3b0 : decide (0 ≤ x6_1) = true := decide_eq_true c3
          clear c3
          by_cases c5 : (bt a0 x6_1) = 92
          · rw [if_pos c5] at H
            have c5b0 : ((bt a0 x6_1) == 92) = true := beq_iff_eq.mpr c5
            have c5b1 : ((bt a0 x6_1) != 92) = false := bne_eq_false_iff_eq.mpr c5
            clear c5
            have H' := Aside0.mk H
            clear H
            have p4 : 0 ≤ (x6_1 : Int) := of_decide_eq_true (by first | (with_reducible assumption) | assumption)
            have q4 : x6_1 < (a0.size : Int) := of_decide_eq_true (by first | (with_reducible assumption) | assumption)
            have hx4 := bt_at a0 x6_1
            replace p4 := eq_true p4
            replace q4 := eq_true q4
            go_wp2
            go_roundg k1
            case measure => have := HK1.out; omega
            case rel => exact ⟨(x4_1), (x5_1), (wrap64 ((wrap64 (x6_1 + 1)) + 1)), (by first | rfl | (simp; done) | (simp [*]; done)), (by first | rfl | (simp; done) | (simp [*]; done)), H', ⟨by have := HK1.out; omega⟩, ⟨by (with_reducible repeat (first | apply Kd.R_alloc | apply Kd.R_drewN | apply Kd.R_drew)); exact HO_4.out⟩, ⟨by repeat (first | (with_reducible first | exact HB.out | apply below_alloc | apply pw_below_drewN | apply below_drew1) | exact HB.out)⟩⟩
          · rw [if_neg c5] at H
            have c5b0 : ((bt a0 x6_1) == 92) = false := beq_eq_false_iff_ne.mpr c5
            have c5b1 : ((bt a0 x6_1) != 92) = true := bne_iff_ne.mpr c5
            by_cases c7 : (bt a0 x6_1) = 46
            · rw [if_pos c7] at H
              have c7b0 : ((bt a0 x6_1) == 46) = true := beq_iff_eq.mpr c7
              have c7b1 : ((bt a0 x6_1) != 46) = false := bne_eq_false_iff_eq.mpr c7
              clear c7
              by_cases c8 : 0 ≤ x5_1
              · rw [if_pos c8] at H
                have c8b0 := eq_true c8
                have c8b1 : decide (0 ≤ x5_1) = true := decide_eq_true c8
                clear c8
                by_cases c9 : x5_1 ≤ x6_1
                · rw [if_pos c9] at H
                  have c9b0 := eq_true c9
                  have c9b1 : decide (x5_1 ≤ x6_1) = true := decide_eq_true c9
                  clear c9
                  by_cases c10 : x6_1 ≤ (a0.size : Int)
                  · rw [if_pos c10] at H
                    have c10b0 := eq_true c10
                    have c10b1 : decide (x6_1 ≤ (a0.size : Int)) = true := decide_eq_true c10
                    clear c10
                    by_cases c11 : x4_1.length < 8796093022208
                    · rw [if_pos c11] at H
                      have LMc11 := Aside0.mk c11
                      clear c11
                      obtain ⟨y228, hy228⟩ : ∃ y_ : List ByteArray, y_ = (x4_1 ++ [a0.extract (x5_1 : Int).toNat (x6_1 : Int).toNat]) := ⟨_, rfl⟩
                      replace H : (hearsayref01_pieces.l0 k1 a0 y228 (wrap64 (x6_1 + 1)) (wrap64 (x6_1 + 1))) = some (r1, r2) := by first | (rw [hy228]; with_reducible exact H) | (have H2_ := (Option.bind_some _ _).symm.trans H; rw [hy228]; with_reducible exact H2_) | (have H2_ := (Option.bind_some _ _).symm.trans H; with_reducible exact H2_) | with_reducible exact H | (rw [hy228]; exact H) | exact H
                      have Ny228 := Aside0.mk hy228
                      clear hy228
                      have H' := Aside0.mk H
                      clear H
                      have p4 : 0 ≤ (x6_1 : Int) := of_decide_eq_true (by first | (with_reducible assumption) | assumption)
                      have q4 : x6_1 < (a0.size : Int) := of_decide_eq_true (by first | (with_reducible assumption) | assumption)
                      have hx4 := bt_at a0 x6_1
                      replace p4 := eq_true p4
                      replace q4 := eq_true q4
                      have p6 : 0 ≤ (x6_1 : Int) := of_decide_eq_true (by first | (with_reducible assumption) | assumption)
                      have q6 : x6_1 < (a0.size : Int) := of_decide_eq_true (by first | (with_reducible assumption) | assumption)
                      have hx6 := bt_at a0 x6_1
                      replace p6 := eq_true p6
                      replace q6 := eq_true q6
                      go_wp2_with (first | ((with_reducible refine gate_builtin (b := .append) (xs := #[.tmp 23, .tmp 28]) rfl ?_); at_builtin; refine Kd.R_append Kd.string (w0 := w) w.heap.size rfl (.tmp 23) (.tmp 28) 23 9 (.string ⟨#[]⟩) 16 rfl Try.underlying23 info9 rfl (by decide) (by omega) u4 x4_1 (a0.extract (x5_1 : Int).toNat (x6_1 : Int).toNat) [.string (a0.extract (x5_1 : Int).toNat (x6_1 : Int).toNat)] (fun _ => True) (fun _ => False) rfl rfl ?aP (fun _ hk => hk.elim) ?aF ?aO ?aB ?aS ?aL ?_; (case aP => exact rfl); (case aB => exact (by repeat (first | (with_reducible first | exact HB.out | apply below_alloc | apply pw_below_drewN | apply below_drew1) | exact HB.out))); (case aF => exact (fun _ _ => trivial)); (case aO => exact (by (with_reducible repeat (first | apply Kd.R_alloc | apply Kd.R_drewN | apply Kd.R_drew)); exact HO_4.out)); (case aS => exact (below_size (by repeat (first | (with_reducible first | exact HB.out | apply below_alloc | apply pw_below_drewN | apply below_drew1) | exact HB.out)))); (case aL => have := LMc11.out; omega); intro v229 w12 ho hb hg hat; rw [← Ny228.out] at ho; have n0_ := Aside0.mk (hb); have n1_ := Aside0.mk (ho); clear HB; clear HO_4; have HB := n0_; have HO230 := n1_; clear n0_ n1_; clear ho hb hg hat))
                      go_roundg k1
                      case measure => have := HK1.out; omega
                      case rel => exact ⟨(y228), (wrap64 (x6_1 + 1)), (wrap64 (x6_1 + 1)), (by first | rfl | (simp; done) | (simp [*]; done)), (by first | rfl | (simp; done) | (simp [*]; done)), H', ⟨by have := HK1.out; omega⟩, ⟨by (with_reducible repeat (first | apply Kd.R_alloc | apply Kd.R_drewN | apply Kd.R_drew)); exact HO230.out⟩, ⟨by repeat (first | (with_reducible first | exact HB.out | apply below_alloc | apply pw_below_drewN | apply below_drew1) | exact HB.out)⟩⟩
                    · rw [if_neg c11] at H
                      exact absurd H (by simp)
                  · rw [if_neg c10] at H
                    exact absurd H (by simp)
                · rw [if_neg c9] at H
                  exact absurd H (by simp)
              · rw [if_neg c8] at H
                exact absurd H (by simp)
            · rw [if_neg c7] at H
              have c7b0 : ((bt a0 x6_1) == 46) = false := beq_eq_false_iff_ne.mpr c7
              have c7b1 : ((bt a0 x6_1) != 46) = true := bne_iff_ne.mpr c7
              have H' := Aside0.mk H
              clear H
              have p4 : 0 ≤ (x6_1 : Int) := of_decide_eq_true (by first | (with_reducible assumption) | assumption)
              have q4 : x6_1 < (a0.size : Int) := of_decide_eq_true (by first | (with_reducible assumption) | assumption)
              have hx4 := bt_at a0 x6_1
              replace p4 := eq_true p4
              replace q4 := eq_true q4
              have p6 : 0 ≤ (x6_1 : Int) := of_decide_eq_true (by first | (with_reducible assumption) | assumption)
              have q6 : x6_1 < (a0.size : Int) := of_decide_eq_true (by first | (with_reducible assumption) | assumption)
              have hx6 := bt_at a0 x6_1
              replace p6 := eq_true p6
              replace q6 := eq_true q6
              go_wp2
              go_roundg k1
              case measure => have := HK1.out; omega
              case rel => exact ⟨(x4_1), (x5_1), (wrap64 (x6_1 + 1)), (by first | rfl | (simp; done) | (simp [*]; done)), (by first | rfl | (simp; done) | (simp [*]; done)), H', ⟨by have := HK1.out; omega⟩, ⟨by (with_reducible repeat (first | apply Kd.R_alloc | apply Kd.R_drewN | apply Kd.R_drew)); exact HO_4.out⟩, ⟨by repeat (first | (with_reducible first | exact HB.out | apply below_alloc | apply pw_below_drewN | apply below_drew1) | exact HB.out)⟩⟩
        · rw [if_neg c3] at H
          exact absurd H (by simp)
      · rw [if_neg c2] at H
        have c2b0 : decide (x6_1 < (a0.size : Int)) = false := decide_eq_false c2
        clear c2
        by_cases c13 : x5_1 = (a0.size : Int)
        · rw [if_pos c13] at H
          have c13b0 : (x5_1 == (a0.size : Int)) = true := beq_iff_eq.mpr c13
          have c13b1 : (x5_1 != (a0.size : Int)) = false := bne_eq_false_iff_eq.mpr c13
          clear c13
          by_cases c14 : x5_1 > 0
          · rw [if_pos c14] at H
            have c14b0 : decide (0 < x5_1) = true := decide_eq_true c14
            clear c14
            simp only [Option.some.injEq, Prod.mk.injEq] at H
            obtain ⟨rfl, rfl⟩ := H
            go_wp2
            go_ret2
            exact ⟨_, by first | rfl | (simp [errW_none, errW_some] <;> rfl) | (simp [*, errW_none, errW_some] <;> rfl), by (with_reducible repeat (first | apply Kd.R_alloc | apply Kd.R_drewN | apply Kd.R_drew)); exact HO_4.out, by repeat (first | (with_reducible first | exact HB.out | apply below_alloc | apply pw_below_drewN | apply below_drew1) | exact HB.out)⟩
          · rw [if_neg c14] at H
            have c14b0 : decide (0 < x5_1) = false := decide_eq_false c14
            clear c14
            by_cases c15 : 0 ≤ x5_1
            · rw [if_pos c15] at H
              have c15b0 := eq_true c15
              have c15b1 : decide (0 ≤ x5_1) = true := decide_eq_true c15
              clear c15
              by_cases c16 : x5_1 ≤ (a0.size : Int)
              · rw [if_pos c16] at H
                have c16b0 := eq_true c16
                have c16b1 : decide (x5_1 ≤ (a0.size : Int)) = true := decide_eq_true c16
                clear c16
                by_cases c17 : x4_1.length < 8796093022208
                · rw [if_pos c17] at H
                  have LMc17 := Aside0.mk c17
                  clear c17
                  obtain ⟨y222, hy222⟩ : ∃ y_ : List ByteArray, y_ = (x4_1 ++ [a0.extract (x5_1 : Int).toNat a0.size]) := ⟨_, rfl⟩
                  replace H : (some (y222, false)) = some (r1, r2) := by first | (rw [hy222]; with_reducible exact H) | (have H2_ := (Option.bind_some _ _).symm.trans H; rw [hy222]; with_reducible exact H2_) | (have H2_ := (Option.bind_some _ _).symm.trans H; with_reducible exact H2_) | with_reducible exact H | (rw [hy222]; exact H) | exact H
                  have Ny222 := Aside0.mk hy222
                  clear hy222
                  simp only [Option.some.injEq, Prod.mk.injEq] at H
                  obtain ⟨rfl, rfl⟩ := H
                  go_wp2_with (first | ((with_reducible refine gate_builtin (b := .append) (xs := #[.tmp 41, .tmp 45]) rfl ?_); at_builtin; refine Kd.R_append Kd.string (w0 := w) w.heap.size rfl (.tmp 41) (.tmp 45) 23 9 (.string ⟨#[]⟩) 16 rfl Try.underlying23 info9 rfl (by decide) (by omega) u4 x4_1 (a0.extract (x5_1 : Int).toNat a0.size) [.string (a0.extract (x5_1 : Int).toNat a0.size)] (fun _ => True) (fun _ => False) rfl rfl ?aP (fun _ hk => hk.elim) ?aF ?aO ?aB ?aS ?aL ?_; (case aP => exact rfl); (case aB => exact (by repeat (first | (with_reducible first | exact HB.out | apply below_alloc | apply pw_below_drewN | apply below_drew1) | exact HB.out))); (case aF => exact (fun _ _ => trivial)); (case aO => exact (by (with_reducible repeat (first | apply Kd.R_alloc | apply Kd.R_drewN | apply Kd.R_drew)); exact HO_4.out)); (case aS => exact (below_size (by repeat (first | (with_reducible first | exact HB.out | apply below_alloc | apply pw_below_drewN | apply below_drew1) | exact HB.out)))); (case aL => have := LMc17.out; omega); intro v223 w18 ho hb hg hat; rw [← Ny222.out] at ho; have n0_ := Aside0.mk (hb); have n1_ := Aside0.mk (ho); clear HB; clear HO_4; have HB := n0_; have HO224 := n1_; clear n0_ n1_; clear ho hb hg hat))
                  go_ret2
                  exact ⟨_, by first | rfl | (simp [errW_none, errW_some] <;> rfl) | (simp [*, errW_none, errW_some] <;> rfl), by (with_reducible repeat (first | apply Kd.R_alloc | apply Kd.R_drewN | apply Kd.R_drew)); exact HO224.out, by repeat (first | (with_reducible first | exact HB.out | apply below_alloc | apply pw_below_drewN | apply below_drew1) | exact HB.out)⟩
                · rw [if_neg c17] at H
                  exact absurd H (by simp)
              · rw [if_neg c16] at H
                exact absurd H (by simp)
            · rw [if_neg c15] at H
              exact absurd H (by simp)
        · rw [if_neg c13] at H
          have c13b0 : (x5_1 == (a0.size : Int)) = false := beq_eq_false_iff_ne.mpr c13
          have c13b1 : (x5_1 != (a0.size : Int)) = true := bne_iff_ne.mpr c13
          by_cases c19 : 0 ≤ x5_1
          · rw [if_pos c19] at H
            have c19b0 := eq_true c19
            have c19b1 : decide (0 ≤ x5_1) = true := decide_eq_true c19
            clear c19
            by_cases c20 : x5_1 ≤ (a0.size : Int)
            · rw [if_pos c20] at H
              have c20b0 := eq_true c20
              have c20b1 : decide (x5_1 ≤ (a0.size : Int)) = true := decide_eq_true c20
              clear c20
              by_cases c21 : x4_1.length < 8796093022208
              · rw [if_pos c21] at H
                have LMc21 := Aside0.mk c21
                clear c21
                obtain ⟨y225, hy225⟩ : ∃ y_ : List ByteArray, y_ = (x4_1 ++ [a0.extract (x5_1 : Int).toNat a0.size]) := ⟨_, rfl⟩
                replace H : (some (y225, false)) = some (r1, r2) := by first | (rw [hy225]; with_reducible exact H) | (have H2_ := (Option.bind_some _ _).symm.trans H; rw [hy225]; with_reducible exact H2_) | (have H2_ := (Option.bind_some _ _).symm.trans H; with_reducible exact H2_) | with_reducible exact H | (rw [hy225]; exact H) | exact H
                have Ny225 := Aside0.mk hy225
                clear hy225
                simp only [Option.some.injEq, Prod.mk.injEq] at H
                obtain ⟨rfl, rfl⟩ := H
                go_wp2_with (first | ((with_reducible refine gate_builtin (b := .append) (xs := #[.tmp 41, .tmp 45]) rfl ?_); at_builtin; refine Kd.R_append Kd.string (w0 := w) w.heap.size rfl (.tmp 41) (.tmp 45) 23 9 (.string ⟨#[]⟩) 16 rfl Try.underlying23 info9 rfl (by decide) (by omega) u4 x4_1 (a0.extract (x5_1 : Int).toNat a0.size) [.string (a0.extract (x5_1 : Int).toNat a0.size)] (fun _ => True) (fun _ => False) rfl rfl ?aP (fun _ hk => hk.elim) ?aF ?aO ?aB ?aS ?aL ?_; (case aP => exact rfl); (case aB => exact (by repeat (first | (with_reducible first | exact HB.out | apply below_alloc | apply pw_below_drewN | apply below_drew1) | exact HB.out))); (case aF => exact (fun _ _ => trivial)); (case aO => exact (by (with_reducible repeat (first | apply Kd.R_alloc | apply Kd.R_drewN | apply Kd.R_drew)); exact HO_4.out)); (case aS => exact (below_size (by repeat (first | (with_reducible first | exact HB.out | apply below_alloc | apply pw_below_drewN | apply below_drew1) | exact HB.out)))); (case aL => have := LMc21.out; omega); intro v226 w22 ho hb hg hat; rw [← Ny225.out] at ho; have n0_ := Aside0.mk (hb); have n1_ := Aside0.mk (ho); clear HB; clear HO_4; have HB := n0_; have HO227 := n1_; clear n0_ n1_; clear ho hb hg hat))
                go_ret2
                exact ⟨_, by first | rfl | (simp [errW_none, errW_some] <;> rfl) | (simp [*, errW_none, errW_some] <;> rfl), by (with_reducible repeat (first | apply Kd.R_alloc | apply Kd.R_drewN | apply Kd.R_drew)); exact HO227.out, by repeat (first | (with_reducible first | exact HB.out | apply below_alloc | apply pw_below_drewN | apply below_drew1) | exact HB.out)⟩
              · rw [if_neg c21] at H
                exact absurd H (by simp)
            · rw [if_neg c20] at H
              exact absurd H (by simp)
          · rw [if_neg c19] at H
            exact absurd H (by simp)

end Go.Proofs.Ytplnknhlgdoliaa.Print
end
section
/- hearsayref01.Bytes, walked: it answers what 'unesc' says of the text. -/
namespace Go.Proofs.Ytplnknhlgdoliaa.Print
open Go.RowKit Go.Proofs.YtplnknhlgdoliaaW.PrintWords Go.Proofs.YtplnknhlgdoliaaW.PrintLast Go.Proofs.YtplnknhlgdoliaaW.PrintMore
set_option linter.unusedVariables false
set_option linter.unusedSimpArgs false
def hearsayref01_Bytes.f (s : ByteArray) : Option (ByteArray × Int) := name_Bytes.f s
theorem digit29_calls (c : Int) (w : World) : Calls Try.prog 52 #[.int .u8 c] w fun e w' => e = .returned (.bool (isDig c)) ∧ w = w' := by
  unfold isDig
  by_cases h1 : 48 ≤ c
  · go_enter Try.func52, Try.ntmps52
    go_wp2
    go_ret
    exact ⟨by simp [h1], rfl⟩
  · go_enter Try.func52, Try.ntmps52
    go_wp2
    go_ret
    exact ⟨by simp [h1] <;> omega, rfl⟩
set_option maxHeartbeats 4000000 in
set_option maxRecDepth 100000 in
theorem hearsayref01_Bytes.calls (a0 : ByteArray) (r1 : ByteArray) (r2 : Int) (w : World) (h : hearsayref01_Bytes.f a0 = some (r1, r2)) :
    Calls Try.prog 24 #[.string a0] w fun e w' => e = .returned (.tuple #[.string r1, .int .i64 r2]) ∧ Below w.heap.size w w' := by
  unfold hearsayref01_Bytes.f name_Bytes.f at h
  by_cases hlen : a0.size < 140737488355328
  · rw [if_pos hlen] at h
    have H := Aside0.mk h
    clear h
    have HL := Aside0.mk hlen
    clear hlen
    have HB0 := Aside0.mk (Below.refl w.heap.size w)
    go_enter Try.func24, Try.ntmps24
    go_wp2
    go_loopw [4, 5] (fun v i wr => ∃ (k : Nat) (acc : List Int), i = .int .i64 k ∧ Aside0 (Inv a0 k acc) ∧ Aside0 (Kd.R (Kd.int .u8) 5 wr w.heap.size (fun _ => True) v acc) ∧ Aside0 (Below w.heap.size w wr)) (fun _ i _ => a0.size - (intOf i).toNat)
    case atStart => exact ⟨0, [], rfl, ⟨inv0 a0⟩, ⟨Kd.R_nil _ _ _ _ _⟩, HB0⟩
    case round =>
      obtain ⟨k, acc, rfl, HI, HO, HB⟩ := hrel
      have hkb : k ≤ 140737488355328 := by have := HI.out.1; have := HL.out; omega
      have hsb : a0.size ≤ 140737488355328 := by have := HL.out; omega
      by_cases hk : k < a0.size
      · have hx0 := bt_nat a0 k hk
        by_cases hc : bt a0 (k : Int) = 92
        · have hcb : ((bt a0 (k : Int)) != 92) = false := bne_eq_false_iff_eq.mpr hc
          by_cases he : k + 1 = a0.size
          · have heb : (((k : Int) + 1) == (a0.size : Int)) = true := beq_iff_eq.mpr (by omega)
            have h2 := H.out
            rw [inv_last HI.out hk hc he] at h2
            simp only [Option.some.injEq, Prod.mk.injEq] at h2
            obtain ⟨rfl, rfl⟩ := h2
            clear hc he
            go_wp2
            go_ret2
            exact ⟨by first | rfl | (simp; done) | (simp [*]; done), (by repeat (first | (with_reducible first | exact HB.out | apply below_alloc | apply pw_below_drewN | apply below_drew1) | exact HB.out))⟩
          · have heb : (((k : Int) + 1) == (a0.size : Int)) = false := beq_eq_false_iff_ne.mpr (by omega)
            have he1 : k + 1 < a0.size := by omega
            have hx1 := bt_nat a0 (k + 1) he1
            by_cases hd : digAt a0 ((k + 1 : Nat) : Int) = false
            · have HI' := Aside0.mk (inv_one HI.out hk hc he1 hd)
              have hd' : isDig (bt a0 ((k : Int) + 1)) = false := (digAt_eq he1).symm.trans hd
              clear hc he hd
              go_wp2_with (first | (go_at_call 52; refine (digit29_calls _ _).mono ?_; rintro e w2 ⟨rfl, rfl⟩) | ((with_reducible refine gate_builtin (b := .append) (xs := #[.tmp 34, .tmp 39]) rfl ?_); at_builtin; refine Kd.R_append (Kd.int .u8) (w0 := w) w.heap.size rfl (.tmp 34) (.tmp 39) 58 5 (.int .u8 0) 1 rfl Try.underlying58 infoByte rfl (by decide) (by omega) _ acc (bt a0 ((k + 1 : Nat) : Int)) [.int .u8 (bt a0 ((k + 1 : Nat) : Int))] (fun _ => True) (fun _ => False) rfl rfl ?aP (fun _ hk => hk.elim) ?aF ?aO ?aB ?aS ?aL ?_; (case aP => exact rfl); (case aB => exact (by repeat (first | (with_reducible first | exact HB.out | apply below_alloc | apply pw_below_drewN | apply below_drew1) | exact HB.out))); (case aF => exact (fun _ _ => trivial)); (case aO => exact (by (with_reducible repeat (first | apply Kd.R_alloc | apply Kd.R_drewN | apply Kd.R_drew)); exact HO.out)); (case aS => exact (below_size (by repeat (first | (with_reducible first | exact HB.out | apply below_alloc | apply pw_below_drewN | apply below_drew1) | exact HB.out)))); (case aL => exact (by have := HI.out.2.1; omega)); intro v1_ w1_ ho hb hg hat; have n0_ := Aside0.mk hb; have n1_ := Aside0.mk ho; clear HB HO; have HB := n0_; have HO := n1_; clear n0_ n1_; clear ho hb hg hat))
              go_roundw
              case rel => exact ⟨k + 2, acc ++ [bt a0 ((k + 1 : Nat) : Int)], by go_num, HI', ⟨by (with_reducible repeat (first | apply Kd.R_alloc | apply Kd.R_drewN | apply Kd.R_drew)); exact HO.out⟩, ⟨(by repeat (first | (with_reducible first | exact HB.out | apply below_alloc | apply pw_below_drewN | apply below_drew1) | exact HB.out))⟩⟩
              case measure => simp [intOf]; omega
            · simp only [Bool.not_eq_false] at hd
              have hd' : isDig (bt a0 ((k : Int) + 1)) = true := (digAt_eq he1).symm.trans hd
              by_cases he3 : k + 3 < a0.size
              · have he2 : k + 2 < a0.size := by omega
                have hx2 := bt_nat a0 (k + 2) he2
                have hx3 := bt_nat a0 (k + 3) he3
                have hge : decide ((a0.size : Int) ≤ (k : Int) + 3) = false := decide_eq_false (by omega)
                by_cases h2 : digAt a0 ((k + 2 : Nat) : Int) = false
                · have hh := H.out
                  rw [inv_bad HI.out hk hc he1 hd (Or.inl h2)] at hh
                  simp only [Option.some.injEq, Prod.mk.injEq] at hh
                  obtain ⟨rfl, rfl⟩ := hh
                  have h2' : isDig (bt a0 ((k : Int) + 2)) = false := (digAt_eq he2).symm.trans h2
                  clear hc he hd h2
                  go_wp2_with (first | (go_at_call 52; refine (digit29_calls _ _).mono ?_; rintro e w2 ⟨rfl, rfl⟩))
                  go_ret2
                  exact ⟨by first | rfl | (simp; done) | (simp [*]; done), (by repeat (first | (with_reducible first | exact HB.out | apply below_alloc | apply pw_below_drewN | apply below_drew1) | exact HB.out))⟩
                · simp only [Bool.not_eq_false] at h2
                  have h2' : isDig (bt a0 ((k : Int) + 2)) = true := (digAt_eq he2).symm.trans h2
                  by_cases h3 : digAt a0 ((k + 3 : Nat) : Int) = false
                  · have hh := H.out
                    rw [inv_bad HI.out hk hc he1 hd (Or.inr h3)] at hh
                    simp only [Option.some.injEq, Prod.mk.injEq] at hh
                    obtain ⟨rfl, rfl⟩ := hh
                    have h3' : isDig (bt a0 ((k : Int) + 3)) = false := (digAt_eq he3).symm.trans h3
                    clear hc he hd h2 h3
                    go_wp2_with (first | (go_at_call 52; refine (digit29_calls _ _).mono ?_; rintro e w2 ⟨rfl, rfl⟩))
                    go_ret2
                    exact ⟨by first | rfl | (simp; done) | (simp [*]; done), (by repeat (first | (with_reducible first | exact HB.out | apply below_alloc | apply pw_below_drewN | apply below_drew1) | exact HB.out))⟩
                  · simp only [Bool.not_eq_false] at h3
                    have h3' : isDig (bt a0 ((k : Int) + 3)) = true := (digAt_eq he3).symm.trans h3
                    have HT := Aside0.mk (inv_three HI.out hk hc hd h2 h3)
                    have g1 := dig_bounds he1 hd
                    have g2 := dig_bounds he2 h2
                    have g3 := dig_bounds he3 h3
                    clear hc he hd h2 h3
                    obtain ⟨g1a, g1b⟩ := g1
                    obtain ⟨g2a, g2b⟩ := g2
                    obtain ⟨g3a, g3b⟩ := g3
                    go_wp2_with (first | (go_at_call 52; refine (digit29_calls _ _).mono ?_; rintro e w2 ⟨rfl, rfl⟩))
                    have w1q : IntKind.i64.wrap ((k : Int) + 1) = (k : Int) + 1 := (i64_w _).trans (by unfold wrap64; omega)
                    have w2q : IntKind.i64.wrap ((k : Int) + 2) = (k : Int) + 2 := (i64_w _).trans (by unfold wrap64; omega)
                    have w3q : IntKind.i64.wrap ((k : Int) + 3) = (k : Int) + 3 := (i64_w _).trans (by unfold wrap64; omega)
                    have p1 := eq_true (show 0 ≤ (k : Int) + 1 by omega)
                    have p2 := eq_true (show 0 ≤ (k : Int) + 2 by omega)
                    have p3 := eq_true (show 0 ≤ (k : Int) + 3 by omega)
                    have q1 := eq_true (show (k : Int) + 1 < (a0.size : Int) by omega)
                    have q2 := eq_true (show (k : Int) + 2 < (a0.size : Int) by omega)
                    have q3 := eq_true (show (k : Int) + 3 < (a0.size : Int) by omega)
                    have n1 : ((k : Int) + 1).toNat = k + 1 := by omega
                    have n2 : ((k : Int) + 2).toNat = k + 2 := by omega
                    have n3 : ((k : Int) + 3).toNat = k + 3 := by omega
                    go_quiet (fail)
                    clear w1q w2q w3q p1 p2 p3 q1 q2 q3 n1 n2 n3
                    have hv : 100 * ((bt a0 ((k : Int) + 1) - 48) % 256) + 10 * ((bt a0 ((k : Int) + 2) - 48) % 256) + (bt a0 ((k : Int) + 3) - 48) % 256 = three a0 k := by
                      have e1 : ((k + 1 : Nat) : Int) = (k : Int) + 1 := by omega
                      have e2 : ((k + 2 : Nat) : Int) = (k : Int) + 2 := by omega
                      have e3 : ((k + 3 : Nat) : Int) = (k : Int) + 3 := by omega
                      unfold three
                      rw [e1] at g1a g1b ⊢; rw [e2] at g2a g2b ⊢; rw [e3] at g3a g3b ⊢
                      omega
                    have hv0 : 0 ≤ three a0 k := by unfold three; omega
                    rw [hv]
                    clear hv hx1 hx2 hx3 g1a g1b g2a g2b g3a g3b
                    by_cases hb : 255 < three a0 k
                    · have hh := H.out
                      rw [HT.out.1 hb] at hh
                      simp only [Option.some.injEq, Prod.mk.injEq] at hh
                      obtain ⟨rfl, rfl⟩ := hh
                      go_wp2
                      go_ret2
                      exact ⟨by first | rfl | (simp; done) | (simp [*]; done), (by repeat (first | (with_reducible first | exact HB.out | apply below_alloc | apply pw_below_drewN | apply below_drew1) | exact HB.out))⟩
                    · have HI' := Aside0.mk (HT.out.2 (by omega))
                      have hb' : three a0 k ≤ 255 := by omega
                      go_wp2_with (first | ((with_reducible refine gate_builtin (b := .append) (xs := #[.tmp 88, .tmp 91]) rfl ?_); at_builtin; refine Kd.R_append (Kd.int .u8) (w0 := w) w.heap.size rfl (.tmp 88) (.tmp 91) 58 5 (.int .u8 0) 1 rfl Try.underlying58 infoByte rfl (by decide) (by omega) _ acc (three a0 k) [.int .u8 (three a0 k)] (fun _ => True) (fun _ => False) rfl rfl ?aP (fun _ hk => hk.elim) ?aF ?aO ?aB ?aS ?aL ?_; (case aP => exact rfl); (case aB => exact (by repeat (first | (with_reducible first | exact HB.out | apply below_alloc | apply pw_below_drewN | apply below_drew1) | exact HB.out))); (case aF => exact (fun _ _ => trivial)); (case aO => exact (by (with_reducible repeat (first | apply Kd.R_alloc | apply Kd.R_drewN | apply Kd.R_drew)); exact HO.out)); (case aS => exact (below_size (by repeat (first | (with_reducible first | exact HB.out | apply below_alloc | apply pw_below_drewN | apply below_drew1) | exact HB.out)))); (case aL => exact (by have := HI.out.2.1; omega)); intro v1_ w1_ ho hb hg hat; have n0_ := Aside0.mk hb; have n1_ := Aside0.mk ho; clear HB HO; have HB := n0_; have HO := n1_; clear n0_ n1_; clear ho hb hg hat))
                      go_roundw
                      case rel => exact ⟨k + 4, acc ++ [three a0 k], by go_num, HI', ⟨by (with_reducible repeat (first | apply Kd.R_alloc | apply Kd.R_drewN | apply Kd.R_drew)); exact HO.out⟩, ⟨(by repeat (first | (with_reducible first | exact HB.out | apply below_alloc | apply pw_below_drewN | apply below_drew1) | exact HB.out))⟩⟩
                      case measure => simp [intOf]; omega
              · have hge : decide ((a0.size : Int) ≤ (k : Int) + 3) = true := decide_eq_true (by omega)
                have hh := H.out
                rw [inv_bad HI.out hk hc he1 hd (Or.inr (by simp [digAt]; omega))] at hh
                simp only [Option.some.injEq, Prod.mk.injEq] at hh
                obtain ⟨rfl, rfl⟩ := hh
                clear hc he hd
                go_wp2_with (first | (go_at_call 52; refine (digit29_calls _ _).mono ?_; rintro e w2 ⟨rfl, rfl⟩))
                go_ret2
                exact ⟨by first | rfl | (simp; done) | (simp [*]; done), (by repeat (first | (with_reducible first | exact HB.out | apply below_alloc | apply pw_below_drewN | apply below_drew1) | exact HB.out))⟩
        · have hcb : ((bt a0 (k : Int)) != 92) = true := bne_iff_ne.mpr hc
          have HI' := Aside0.mk (inv_plain HI.out hk hc)
          clear hc
          go_wp2_with (first | ((with_reducible refine gate_builtin (b := .append) (xs := #[.tmp 17, .tmp 21]) rfl ?_); at_builtin; refine Kd.R_append (Kd.int .u8) (w0 := w) w.heap.size rfl (.tmp 17) (.tmp 21) 58 5 (.int .u8 0) 1 rfl Try.underlying58 infoByte rfl (by decide) (by omega) _ acc (bt a0 (k : Int)) [.int .u8 (bt a0 (k : Int))] (fun _ => True) (fun _ => False) rfl rfl ?aP (fun _ hk => hk.elim) ?aF ?aO ?aB ?aS ?aL ?_; (case aP => exact rfl); (case aB => exact (by repeat (first | (with_reducible first | exact HB.out | apply below_alloc | apply pw_below_drewN | apply below_drew1) | exact HB.out))); (case aF => exact (fun _ _ => trivial)); (case aO => exact (by (with_reducible repeat (first | apply Kd.R_alloc | apply Kd.R_drewN | apply Kd.R_drew)); exact HO.out)); (case aS => exact (below_size (by repeat (first | (with_reducible first | exact HB.out | apply below_alloc | apply pw_below_drewN | apply below_drew1) | exact HB.out)))); (case aL => exact (by have := HI.out.2.1; omega)); intro v1_ w1_ ho hb hg hat; have n0_ := Aside0.mk hb; have n1_ := Aside0.mk ho; clear HB HO; have HB := n0_; have HO := n1_; clear n0_ n1_; clear ho hb hg hat))
          go_roundw
          case rel => exact ⟨k + 1, acc ++ [bt a0 (k : Int)], by go_num, HI', ⟨by (with_reducible repeat (first | apply Kd.R_alloc | apply Kd.R_drewN | apply Kd.R_drew)); exact HO.out⟩, ⟨(by repeat (first | (with_reducible first | exact HB.out | apply below_alloc | apply pw_below_drewN | apply below_drew1) | exact HB.out))⟩⟩
          case measure => simp [intOf]; omega
      · have hu := inv_end HI.out hk
        have h2 := H.out
        rw [hu] at h2
        simp only [Option.some.injEq, Prod.mk.injEq] at h2
        obtain ⟨rfl, rfl⟩ := h2
        have hcv := own_string (P := Try.prog) Try.underlying58 Try.underlying5 Try.underlying9 (Kd.own_of_R HO.out)
        clear hu
        go_wp2
        go_ret2
        exact ⟨by first | rfl | (simp; done) | (simp [*]; done), (by repeat (first | (with_reducible first | exact HB.out | apply below_alloc | apply pw_below_drewN | apply below_drew1) | exact HB.out))⟩
  · rw [if_neg hlen] at h; exact absurd h (by simp)

end Go.Proofs.Ytplnknhlgdoliaa.Print
end
section
-- Written by a program of this session, built on the kit's print (it is not the print's own text).
namespace Go.Proofs.Ytplnknhlgdoliaa.Print
open Go.RowKit Go.Proofs.YtplnknhlgdoliaaW.PrintWords Go.Proofs.YtplnknhlgdoliaaW.PrintLast Go.Proofs.YtplnknhlgdoliaaW.PrintMore
attribute [local go_sem] max2_int min2_int max_two min_two max_three min_three max_four min_four   -- for this text's walks alone
set_option linter.unusedVariables false
set_option linter.unusedSimpArgs false

/-! ### hearsayref01_Parse: function 28 -/
def hearsayref01_Parse.l0 : Nat → List ByteArray → List ByteArray → Bool → List ByteArray → Int → Option (ByteArray × Int)
  | 0, _, _, _, _, _ => none
  | k + 1, x6, x8, x9, x10, x11 => if x11 < (x8.length : Int) then (if 0 ≤ x11 then ((hearsayref01_Bytes.f (rdOf ByteArray.empty x8 x11)).bind fun bt247 => (if bt247.2 = 0 then (if (bt247.1.size : Int) < 1 then (some ((⟨#[]⟩ : ByteArray), 10)) else (if (bt247.1.size : Int) > 63 then (some ((⟨#[]⟩ : ByteArray), 10)) else (if x10.length < 8796093022208 then (hearsayref01_Parse.l0 k x6 x8 x9 (x10 ++ [bt247.1]) (wrap64 (x11 + 1))) else (none)))) else (some ((⟨#[]⟩ : ByteArray), bt247.2)))) else (none)) else (if x9 = true then ((hearsayref01_Of.f k x10).bind fun bt239 => (some (bt239.1, bt239.2))) else (if x10.length + x6.length < 8796093022208 then ((hearsayref01_Of.f k (x10 ++ x6)).bind fun bt244 => (some (bt244.1, bt244.2))) else (none)))
def hearsayref01_Parse.f (k : Nat) (a0 : ByteArray) (a1 : ByteArray) : Option (ByteArray × Int) := (hearsayref01_Split.f k a1).bind fun bt231 => (if bt231.2 = true then (if a0.toList = ([46] : List UInt8) then (some ((⟨#[0]⟩ : ByteArray), 0)) else ((hearsayref01_pieces.f k a0).bind fun bt235 => (hearsayref01_Parse.l0 k bt231.1 bt235.1 bt235.2 ([] : List ByteArray) 0))) else (some ((⟨#[]⟩ : ByteArray), 11)))
theorem hearsayref01_Parse.mono_l : ∀ k, (∀ y0 y1 y2 y3 y4, LeO (hearsayref01_Parse.l0 k y0 y1 y2 y3 y4) (hearsayref01_Parse.l0 (k + 1) y0 y1 y2 y3 y4))
  | 0 => fun _ _ _ _ _ r h => by simp [hearsayref01_Parse.l0] at h
  | k + 1 => by
    have ih0 := hearsayref01_Parse.mono_l k
    · intro y0 y1 y2 y3 y4
      unfold hearsayref01_Parse.l0
      repeat' first
      | (with_reducible exact ih0 _ _ _ _ _)
      | (with_reducible exact hearsayref01_Of.mono _ _)
      | (with_reducible exact hearsayref01_Split.mono _ _)
      | (with_reducible exact hearsayref01_pieces.mono _ _)
      | (with_reducible exact LeO.refl _)
      | (with_reducible exact LeO.none _)
      | (with_reducible refine LeO.ite ?_ ?_)
      | (with_reducible refine LeO.bind ?_ (fun _ => ?_))
      | exact ih0 _ _ _ _ _
      | exact hearsayref01_Of.mono _ _
      | exact hearsayref01_Split.mono _ _
      | exact hearsayref01_pieces.mono _ _
      | exact LeO.none _
      | refine LeO.ite ?_ ?_
      | refine LeO.bind ?_ (fun _ => ?_)
theorem hearsayref01_Parse.mono : ∀ a0 a1 k, LeO (hearsayref01_Parse.f k a0 a1) (hearsayref01_Parse.f (k + 1) a0 a1) := by
  intro a0 a1 k
  have ih0 := hearsayref01_Parse.mono_l k
  unfold hearsayref01_Parse.f
  repeat' first
      | (with_reducible exact ih0 _ _ _ _ _)
      | (with_reducible exact hearsayref01_Of.mono _ _)
      | (with_reducible exact hearsayref01_Split.mono _ _)
      | (with_reducible exact hearsayref01_pieces.mono _ _)
      | (with_reducible exact LeO.refl _)
      | (with_reducible exact LeO.none _)
      | (with_reducible refine LeO.ite ?_ ?_)
      | (with_reducible refine LeO.bind ?_ (fun _ => ?_))
      | exact ih0 _ _ _ _ _
      | exact hearsayref01_Of.mono _ _
      | exact hearsayref01_Split.mono _ _
      | exact hearsayref01_pieces.mono _ _
      | exact LeO.none _
      | refine LeO.ite ?_ ?_
      | refine LeO.bind ?_ (fun _ => ?_)
set_option maxHeartbeats 8000000 in
set_option maxRecDepth 100000 in
theorem hearsayref01_Parse.calls (k : Nat) (a0 : ByteArray) (a1 : ByteArray) (r1 : ByteArray) (r2 : Int) (w : World) (h : hearsayref01_Parse.f k a0 a1 = some (r1, r2)) :
    Calls Try.prog 28 #[.string a0, .string a1] w fun e w' => e = .returned (.tuple #[.string r1, .int .i64 r2]) ∧ Below w.heap.size w w' := by
  have HB := Aside0.mk (Below.refl w.heap.size w)
  have H : ((hearsayref01_Split.f k a1).bind fun bt231 => (if bt231.2 = true then (if a0.toList = ([46] : List UInt8) then (some ((⟨#[0]⟩ : ByteArray), 0)) else ((hearsayref01_pieces.f k a0).bind fun bt235 => (hearsayref01_Parse.l0 k bt231.1 bt235.1 bt235.2 ([] : List ByteArray) 0))) else (some ((⟨#[]⟩ : ByteArray), 11)))) = some (r1, r2) := h
  clear h
  replace H := Option.bind_eq_some_iff.mp H
  obtain ⟨⟨t231, t232⟩, A30, H⟩ := H
  replace H : (if t232 = true then (if a0.toList = ([46] : List UInt8) then (some ((⟨#[0]⟩ : ByteArray), 0)) else ((hearsayref01_pieces.f k a0).bind fun bt235 => (hearsayref01_Parse.l0 k t231 bt235.1 bt235.2 ([] : List ByteArray) 0))) else (some ((⟨#[]⟩ : ByteArray), 11))) = some (r1, r2) := H
  have A3 := Aside0.mk A30
  clear A30
  by_cases c4 : t232 = true
  · subst c4
    have H1 : (if a0.toList = ([46] : List UInt8) then (some ((⟨#[0]⟩ : ByteArray), 0)) else ((hearsayref01_pieces.f k a0).bind fun bt235 => (hearsayref01_Parse.l0 k t231 bt235.1 bt235.2 ([] : List ByteArray) 0))) = some (r1, r2) := by rw [if_pos rfl] at H; exact H
    clear H
    have H := H1
    clear H1
    by_cases c5 : a0.toList = ([46] : List UInt8)
    · rw [if_pos c5] at H
      have c5b0 : (a0.toList == ([46] : List UInt8)) = true := beq_iff_eq.mpr c5
      have c5b1 : (a0.toList != ([46] : List UInt8)) = false := bne_eq_false_iff_eq.mpr c5
      clear c5
      simp only [Option.some.injEq, Prod.mk.injEq] at H
      obtain ⟨rfl, rfl⟩ := H
      go_enter Try.func28, Try.ntmps28
      go_wp2_with (first | ((with_reducible refine gate_callee (f := 13) rfl ?_); refine goesL_ (some 16) rfl rfl Try.func13 (by kernel_rfl) rfl #[.string a1] rfl (by (try simp only [List.map_toArray, List.map_cons, List.map_nil]); first | done | rfl | (simp only [List.length_drop, List.length_take]; rfl)) ?_; (with_reducible refine (hearsayref01_Split.calls k a1 t231 true _ A3.out).mono ?_); rintro e w6 ⟨v233, rfl, ho0, hb⟩; refine ⟨_, rfl, ?_⟩; have n0_ := Aside0.mk (Kd.R_lower ho0 (below_size (by repeat (first | (with_reducible first | exact HB.out | apply below_alloc | apply pw_below_drewN | apply below_drew1) | exact HB.out)))); have n1_ := Aside0.mk (below_step (by repeat (first | (with_reducible first | exact HB.out | apply below_alloc | apply pw_below_drewN | apply below_drew1) | exact HB.out)) hb); clear HB; have HO234 := n0_; have HB := n1_; clear n0_ n1_; (try clear hb); (try clear hb2); (try clear hk); (try clear hi); (try clear ho0)))
      go_ret2
      exact ⟨by first | rfl | (simp [errW_none, errW_some] <;> rfl) | (simp [*, errW_none, errW_some] <;> rfl), by repeat (first | (with_reducible first | exact HB.out | apply below_alloc | apply pw_below_drewN | apply below_drew1) | exact HB.out)⟩
    · rw [if_neg c5] at H
      have c5b0 : (a0.toList == ([46] : List UInt8)) = false := beq_eq_false_iff_ne.mpr c5
      have c5b1 : (a0.toList != ([46] : List UInt8)) = true := bne_iff_ne.mpr c5
      replace H := Option.bind_eq_some_iff.mp H
      obtain ⟨⟨t235, t236⟩, A70, H⟩ := H
      replace H : (hearsayref01_Parse.l0 k t231 t235 t236 ([] : List ByteArray) 0) = some (r1, r2) := H
      have A7 := Aside0.mk A70
      clear A70
      have H' := Aside0.mk H
      clear H
      go_enter Try.func28, Try.ntmps28
      go_wp2_with (first | ((with_reducible refine gate_callee (f := 13) rfl ?_); refine goesL_ (some 16) rfl rfl Try.func13 (by kernel_rfl) rfl #[.string a1] rfl (by (try simp only [List.map_toArray, List.map_cons, List.map_nil]); first | done | rfl | (simp only [List.length_drop, List.length_take]; rfl)) ?_; (with_reducible refine (hearsayref01_Split.calls k a1 t231 true _ A3.out).mono ?_); rintro e w8 ⟨v233, rfl, ho0, hb⟩; refine ⟨_, rfl, ?_⟩; have n0_ := Aside0.mk (Kd.R_lower ho0 (below_size (by repeat (first | (with_reducible first | exact HB.out | apply below_alloc | apply pw_below_drewN | apply below_drew1) | exact HB.out)))); have n1_ := Aside0.mk (below_step (by repeat (first | (with_reducible first | exact HB.out | apply below_alloc | apply pw_below_drewN | apply below_drew1) | exact HB.out)) hb); clear HB; have HO234 := n0_; have HB := n1_; clear n0_ n1_; (try clear hb); (try clear hb2); (try clear hk); (try clear hi); (try clear ho0)) | ((with_reducible refine gate_callee (f := 56) rfl ?_); refine goesL_ (some 25) rfl rfl Try.func56 (by kernel_rfl) rfl #[.string a0] rfl (by (try simp only [List.map_toArray, List.map_cons, List.map_nil]); first | done | rfl | (simp only [List.length_drop, List.length_take]; rfl)) ?_; (with_reducible refine (hearsayref01_pieces.calls k a0 t235 t236 _ A7.out).mono ?_); rintro e w9 ⟨v237, rfl, ho0, hb⟩; refine ⟨_, rfl, ?_⟩; have n0_ := Aside0.mk (Kd.R_elder' (by (with_reducible repeat (first | apply Kd.R_alloc | apply Kd.R_drewN | apply Kd.R_drew)); exact HO234.out) (Kd.R_base ho0) hb); have n1_ := Aside0.mk (Kd.R_lower (Kd.R_new' ho0 (Kd.R_lt (by (with_reducible repeat (first | apply Kd.R_alloc | apply Kd.R_drewN | apply Kd.R_drew)); exact HO234.out))) (below_size (by repeat (first | (with_reducible first | exact HB.out | apply below_alloc | apply pw_below_drewN | apply below_drew1) | exact HB.out)))); have n2_ := Aside0.mk (below_step (by repeat (first | (with_reducible first | exact HB.out | apply below_alloc | apply pw_below_drewN | apply below_drew1) | exact HB.out)) hb); clear HO234; clear HB; have HO234 := n0_; have HO238 := n1_; have HB := n2_; clear n0_ n1_ n2_; (try clear hb); (try clear hb2); (try clear hk); (try clear hi); (try clear ho0)))
      go_loopg [10, 11] k (fun kq v10 v11 w' => ∃ (x10_1 : List ByteArray) (x11_1 : Int), v11 = .int .i64 x11_1 ∧ Aside0 (hearsayref01_Parse.l0 kq t231 t235 t236 x10_1 x11_1 = some (r1, r2)) ∧ Aside0 (kq ≤ k) ∧ Aside0 (Kd.R Kd.string 9 w' w.heap.size (fun k_ => some k_ ≠ (v237 : Value).ownBlock ∧ some k_ ≠ (v10 : Value).ownBlock) v233 t231) ∧ Aside0 (Kd.R Kd.string 9 w' w.heap.size (fun k_ => some k_ ≠ (v233 : Value).ownBlock ∧ some k_ ≠ (v10 : Value).ownBlock) v237 t235) ∧ Aside0 (Kd.R Kd.string 9 w' w.heap.size (fun k_ => some k_ ≠ (v233 : Value).ownBlock ∧ some k_ ≠ (v237 : Value).ownBlock) v10 x10_1) ∧ Aside0 (Below w.heap.size w w'))
      case atStart => exact ⟨(([] : List ByteArray)), (0), (by first | rfl | (simp; done) | (simp [*]; done)), H', ⟨Nat.le_refl _⟩, ⟨by (with_reducible repeat (first | apply Kd.R_alloc | apply Kd.R_drewN | apply Kd.R_drew)); exact Kd.R_mono HO234.out (fun _ hk => ⟨hk.2, (by simp [Value.ownBlock])⟩)⟩, ⟨by (with_reducible repeat (first | apply Kd.R_alloc | apply Kd.R_drewN | apply Kd.R_drew)); exact Kd.R_mono HO238.out (fun _ hk => ⟨hk.2, (by simp [Value.ownBlock])⟩)⟩, ⟨by first | exact Kd.R_nil _ _ _ _ _ | exact Kd.N_nil _ _ _ _ _ | exact Kd.V_nil _ _ _ _ _ | exact Kd.Q_nil _ _ _ _ _ | exact Kd.S_nil _ _ _ _ _⟩, ⟨by repeat (first | (with_reducible first | exact HB.out | apply below_alloc | apply pw_below_drewN | apply below_drew1) | exact HB.out)⟩⟩
      case round =>
        clear H'
        try clear c1
        try clear c2
        try clear p2
        try clear c4
        try clear c5
        try clear c5b0
        try clear c5b1
        obtain ⟨x10_1, x11_1, rfl, HA, HK1, HO_6, HO_8, HO_10, HB⟩ := hrel
        cases gk with
        | zero => exact absurd HA.out (by simp [hearsayref01_Parse.l0])
        | succ k1 =>
          have H := HA.out
          clear HA
          simp only [hearsayref01_Parse.l0] at H
          by_cases c10 : x11_1 < (t235.length : Int)
          · rw [if_pos c10] at H
            have c10b0 : decide (x11_1 < (t235.length : Int)) = true := decide_eq_true c10
            clear c10
            by_cases c11 : 0 ≤ x11_1
            · rw [if_pos c11] at H
              have c11b0 : decide (0 ≤ x11_1) = true := decide_eq_true c11
              clear c11
              replace H := Option.bind_eq_some_iff.mp H
              obtain ⟨⟨t247, t248⟩, A120, H⟩ := H
              replace H : (if t248 = 0 then (if (t247.size : Int) < 1 then (some ((⟨#[]⟩ : ByteArray), 10)) else (if (t247.size : Int) > 63 then (some ((⟨#[]⟩ : ByteArray), 10)) else (if x10_1.length < 8796093022208 then (hearsayref01_Parse.l0 k1 t231 t235 t236 (x10_1 ++ [t247]) (wrap64 (x11_1 + 1))) else (none)))) else (some ((⟨#[]⟩ : ByteArray), t248))) = some (r1, r2) := H
              have A12 := Aside0.mk A120
              clear A120
              by_cases c13 : t248 = 0
              · rw [if_pos c13] at H
                have c13b0 : (t248 == 0) = true := beq_iff_eq.mpr c13
                have c13b1 : (t248 != 0) = false := bne_eq_false_iff_eq.mpr c13
                clear c13
                by_cases c14 : (t247.size : Int) < 1
                · rw [if_pos c14] at H
                  have c14b0 : decide ((t247.size : Int) < 1) = true := decide_eq_true c14
                  have c14b1 : decide (t247.size < 1) = true := decide_eq_true (by omega)
                  clear c14
                  simp only [Option.some.injEq, Prod.mk.injEq] at H
                  obtain ⟨rfl, rfl⟩ := H
                  obtain ⟨Ao15, co15, eo15⟩ := Kd.R_slice HO_8.out
                  subst eo15
                  have p246 : 0 ≤ (x11_1 : Int) := of_decide_eq_true (by first | (with_reducible assumption) | assumption)
                  have q246 : x11_1 < (t235.length : Int) := of_decide_eq_true (by first | (with_reducible assumption) | assumption)
                  obtain ⟨ad246, e246, hx246_0⟩ := Kd.at_string (Kd.R_reads' HO_8.out).2.2 x11_1 p246 q246
                  cases e246
                  replace p246 := eq_true p246
                  replace q246 := eq_true q246
                  go_wp2_with (first | ((with_reducible refine gate_callee (f := 24) rfl ?_); refine goesL_ (some 39) rfl rfl Try.func24 (by kernel_rfl) rfl #[.string (rdOf ByteArray.empty t235 x11_1)] rfl (by (try simp only [List.map_toArray, List.map_cons, List.map_nil]); first | done | rfl | (simp only [List.length_drop, List.length_take]; rfl)) ?_; (with_reducible refine (hearsayref01_Bytes.calls (rdOf ByteArray.empty t235 x11_1) t247 t248 _ A12.out).mono ?_); rintro e w16 ⟨rfl, hb⟩; refine ⟨_, rfl, ?_⟩; have n0_ := Aside0.mk (Kd.R_below (by (with_reducible repeat (first | apply Kd.R_alloc | apply Kd.R_drewN | apply Kd.R_drew)); exact HO_6.out) hb); have n1_ := Aside0.mk (Kd.R_below (by (with_reducible repeat (first | apply Kd.R_alloc | apply Kd.R_drewN | apply Kd.R_drew)); exact HO_8.out) hb); have n2_ := Aside0.mk (Kd.R_below (by (with_reducible repeat (first | apply Kd.R_alloc | apply Kd.R_drewN | apply Kd.R_drew)); exact HO_10.out) hb); have n3_ := Aside0.mk (below_step (by repeat (first | (with_reducible first | exact HB.out | apply below_alloc | apply pw_below_drewN | apply below_drew1) | exact HB.out)) hb); clear HO_6; clear HO_8; clear HO_10; clear HB; have HO_6 := n0_; have HO_8 := n1_; have HO_10 := n2_; have HB := n3_; clear n0_ n1_ n2_ n3_; (try clear hb); (try clear hb2); (try clear hk); (try clear hi)))
                  go_ret2
                  exact ⟨by first | rfl | (simp [errW_none, errW_some] <;> rfl) | (simp [*, errW_none, errW_some] <;> rfl), by repeat (first | (with_reducible first | exact HB.out | apply below_alloc | apply pw_below_drewN | apply below_drew1) | exact HB.out)⟩
                · rw [if_neg c14] at H
                  have c14b0 : decide ((t247.size : Int) < 1) = false := decide_eq_false c14
                  have c14b1 : decide (t247.size < 1) = false := decide_eq_false (by omega)
                  clear c14
                  by_cases c17 : (t247.size : Int) > 63
                  · rw [if_pos c17] at H
                    have c17b0 : decide (63 < (t247.size : Int)) = true := decide_eq_true c17
                    have c17b1 : decide (63 < t247.size) = true := decide_eq_true (by omega)
                    clear c17
                    simp only [Option.some.injEq, Prod.mk.injEq] at H
                    obtain ⟨rfl, rfl⟩ := H
                    obtain ⟨Ao18, co18, eo18⟩ := Kd.R_slice HO_8.out
                    subst eo18
                    have p246 : 0 ≤ (x11_1 : Int) := of_decide_eq_true (by first | (with_reducible assumption) | assumption)
                    have q246 : x11_1 < (t235.length : Int) := of_decide_eq_true (by first | (with_reducible assumption) | assumption)
                    obtain ⟨ad246, e246, hx246_0⟩ := Kd.at_string (Kd.R_reads' HO_8.out).2.2 x11_1 p246 q246
                    cases e246
                    replace p246 := eq_true p246
                    replace q246 := eq_true q246
                    go_wp2_with (first | ((with_reducible refine gate_callee (f := 24) rfl ?_); refine goesL_ (some 39) rfl rfl Try.func24 (by kernel_rfl) rfl #[.string (rdOf ByteArray.empty t235 x11_1)] rfl (by (try simp only [List.map_toArray, List.map_cons, List.map_nil]); first | done | rfl | (simp only [List.length_drop, List.length_take]; rfl)) ?_; (with_reducible refine (hearsayref01_Bytes.calls (rdOf ByteArray.empty t235 x11_1) t247 t248 _ A12.out).mono ?_); rintro e w19 ⟨rfl, hb⟩; refine ⟨_, rfl, ?_⟩; have n0_ := Aside0.mk (Kd.R_below (by (with_reducible repeat (first | apply Kd.R_alloc | apply Kd.R_drewN | apply Kd.R_drew)); exact HO_6.out) hb); have n1_ := Aside0.mk (Kd.R_below (by (with_reducible repeat (first | apply Kd.R_alloc | apply Kd.R_drewN | apply Kd.R_drew)); exact HO_8.out) hb); have n2_ := Aside0.mk (Kd.R_below (by (with_reducible repeat (first | apply Kd.R_alloc | apply Kd.R_drewN | apply Kd.R_drew)); exact HO_10.out) hb); have n3_ := Aside0.mk (below_step (by repeat (first | (with_reducible first | exact HB.out | apply below_alloc | apply pw_below_drewN | apply below_drew1) | exact HB.out)) hb); clear HO_6; clear HO_8; clear HO_10; clear HB; have HO_6 := n0_; have HO_8 := n1_; have HO_10 := n2_; have HB := n3_; clear n0_ n1_ n2_ n3_; (try clear hb); (try clear hb2); (try clear hk); (try clear hi)))
                    go_ret2
                    exact ⟨by first | rfl | (simp [errW_none, errW_some] <;> rfl) | (simp [*, errW_none, errW_some] <;> rfl), by repeat (first | (with_reducible first | exact HB.out | apply below_alloc | apply pw_below_drewN | apply below_drew1) | exact HB.out)⟩
                  · rw [if_neg c17] at H
                    have c17b0 : decide (63 < (t247.size : Int)) = false := decide_eq_false c17
                    have c17b1 : decide (63 < t247.size) = false := decide_eq_false (by omega)
                    clear c17
                    by_cases c20 : x10_1.length < 8796093022208
                    · rw [if_pos c20] at H
                      have LMc20 := Aside0.mk c20
                      clear c20
                      obtain ⟨y249, hy249⟩ : ∃ y_ : List ByteArray, y_ = (x10_1 ++ [t247]) := ⟨_, rfl⟩
                      replace H : (hearsayref01_Parse.l0 k1 t231 t235 t236 y249 (wrap64 (x11_1 + 1))) = some (r1, r2) := by first | (rw [hy249]; with_reducible exact H) | (have H2_ := (Option.bind_some _ _).symm.trans H; rw [hy249]; with_reducible exact H2_) | (have H2_ := (Option.bind_some _ _).symm.trans H; with_reducible exact H2_) | with_reducible exact H | (rw [hy249]; exact H) | exact H
                      have Ny249 := Aside0.mk hy249
                      clear hy249
                      have H' := Aside0.mk H
                      clear H
                      obtain ⟨Ao21, co21, eo21⟩ := Kd.R_slice HO_8.out
                      subst eo21
                      have p246 : 0 ≤ (x11_1 : Int) := of_decide_eq_true (by first | (with_reducible assumption) | assumption)
                      have q246 : x11_1 < (t235.length : Int) := of_decide_eq_true (by first | (with_reducible assumption) | assumption)
                      obtain ⟨ad246, e246, hx246_0⟩ := Kd.at_string (Kd.R_reads' HO_8.out).2.2 x11_1 p246 q246
                      cases e246
                      replace p246 := eq_true p246
                      replace q246 := eq_true q246
                      go_wp2_with (first | ((with_reducible refine gate_callee (f := 24) rfl ?_); refine goesL_ (some 39) rfl rfl Try.func24 (by kernel_rfl) rfl #[.string (rdOf ByteArray.empty t235 x11_1)] rfl (by (try simp only [List.map_toArray, List.map_cons, List.map_nil]); first | done | rfl | (simp only [List.length_drop, List.length_take]; rfl)) ?_; (with_reducible refine (hearsayref01_Bytes.calls (rdOf ByteArray.empty t235 x11_1) t247 t248 _ A12.out).mono ?_); rintro e w22 ⟨rfl, hb⟩; refine ⟨_, rfl, ?_⟩; have n0_ := Aside0.mk (Kd.R_below (by (with_reducible repeat (first | apply Kd.R_alloc | apply Kd.R_drewN | apply Kd.R_drew)); exact HO_6.out) hb); have n1_ := Aside0.mk (Kd.R_below (by (with_reducible repeat (first | apply Kd.R_alloc | apply Kd.R_drewN | apply Kd.R_drew)); exact HO_8.out) hb); have n2_ := Aside0.mk (Kd.R_below (by (with_reducible repeat (first | apply Kd.R_alloc | apply Kd.R_drewN | apply Kd.R_drew)); exact HO_10.out) hb); have n3_ := Aside0.mk (below_step (by repeat (first | (with_reducible first | exact HB.out | apply below_alloc | apply pw_below_drewN | apply below_drew1) | exact HB.out)) hb); clear HO_6; clear HO_8; clear HO_10; clear HB; have HO_6 := n0_; have HO_8 := n1_; have HO_10 := n2_; have HB := n3_; clear n0_ n1_ n2_ n3_; (try clear hb); (try clear hb2); (try clear hk); (try clear hi)) | ((with_reducible refine gate_builtin (b := .append) (xs := #[.tmp 53, .tmp 55]) rfl ?_); (try (refine gate_guard (by rfl) ?_; dsimp only)); at_builtin; refine Kd.R_append Kd.string (w0 := w) w.heap.size rfl (.tmp 53) (.tmp 55) 23 9 (.string ⟨#[]⟩) 16 rfl Try.underlying23 info9 rfl (by decide) (by omega) u10 x10_1 t247 [.string t247] (fun k_ => some k_ ≠ (v233 : Value).ownBlock ∧ some k_ ≠ (.slice (some ad246) t235.length co21 : Value).ownBlock) (fun _ => False) rfl rfl ?aP (fun _ hk => hk.elim) ?aF ?aO ?aB ?aS ?aL ?_; (case aP => exact rfl); (case aB => exact (by repeat (first | (with_reducible first | exact HB.out | apply below_alloc | apply pw_below_drewN | apply below_drew1) | exact HB.out))); (case aF => exact (fun k_ hk => ⟨Kd.fresh' (Kd.R_lt (by (with_reducible repeat (first | apply Kd.R_alloc | apply Kd.R_drewN | apply Kd.R_drew)); exact HO_6.out)) k_ hk, Kd.fresh' (Kd.R_lt (by (with_reducible repeat (first | apply Kd.R_alloc | apply Kd.R_drewN | apply Kd.R_drew)); exact HO_8.out)) k_ hk⟩)); (case aO => exact (by (with_reducible repeat (first | apply Kd.R_alloc | apply Kd.R_drewN | apply Kd.R_drew)); exact HO_10.out)); (case aS => exact (below_size (by repeat (first | (with_reducible first | exact HB.out | apply below_alloc | apply pw_below_drewN | apply below_drew1) | exact HB.out)))); (case aL => have := LMc20.out; omega); intro v250 w23 ho hb hg hat; rw [← Ny249.out] at ho; have n0_ := Aside0.mk (Kd.R_after (ok := (fun k_ => some k_ ≠ (.slice (some ad246) t235.length co21 : Value).ownBlock)) (by (with_reducible repeat (first | apply Kd.R_alloc | apply Kd.R_drewN | apply Kd.R_drew)); exact HO_6.out) hg hat); have n1_ := Aside0.mk (Kd.R_after (ok := (fun k_ => some k_ ≠ (v233 : Value).ownBlock)) (by (with_reducible repeat (first | apply Kd.R_alloc | apply Kd.R_drewN | apply Kd.R_drew)); exact HO_8.out) hg hat); have n2_ := Aside0.mk (hb); have n3_ := Aside0.mk (ho); clear HO_6; clear HO_8; clear HB; clear HO_10; have HO_6 := n0_; have HO_8 := n1_; have HB := n2_; have HO251 := n3_; clear n0_ n1_ n2_ n3_; clear ho hb hg hat))
                      go_roundg k1
                      case measure => have := HK1.out; omega
                      case rel => exact ⟨(y249), (wrap64 (x11_1 + 1)), (by first | rfl | (simp; done) | (simp [*]; done)), H', ⟨by have := HK1.out; omega⟩, ⟨by (with_reducible repeat (first | apply Kd.R_alloc | apply Kd.R_drewN | apply Kd.R_drew)); exact HO_6.out⟩, ⟨by (with_reducible repeat (first | apply Kd.R_alloc | apply Kd.R_drewN | apply Kd.R_drew)); exact HO_8.out⟩, ⟨by (with_reducible repeat (first | apply Kd.R_alloc | apply Kd.R_drewN | apply Kd.R_drew)); exact HO251.out⟩, ⟨by repeat (first | (with_reducible first | exact HB.out | apply below_alloc | apply pw_below_drewN | apply below_drew1) | exact HB.out)⟩⟩
                    · rw [if_neg c20] at H
                      exact absurd H (by simp)
              · rw [if_neg c13] at H
                have c13b0 : (t248 == 0) = false := beq_eq_false_iff_ne.mpr c13
                have c13b1 : (t248 != 0) = true := bne_iff_ne.mpr c13
                simp only [Option.some.injEq, Prod.mk.injEq] at H
                obtain ⟨rfl, rfl⟩ := H
                obtain ⟨Ao24, co24, eo24⟩ := Kd.R_slice HO_8.out
                subst eo24
                have p246 : 0 ≤ (x11_1 : Int) := of_decide_eq_true (by first | (with_reducible assumption) | assumption)
                have q246 : x11_1 < (t235.length : Int) := of_decide_eq_true (by first | (with_reducible assumption) | assumption)
                obtain ⟨ad246, e246, hx246_0⟩ := Kd.at_string (Kd.R_reads' HO_8.out).2.2 x11_1 p246 q246
                cases e246
                replace p246 := eq_true p246
                replace q246 := eq_true q246
                go_wp2_with (first | ((with_reducible refine gate_callee (f := 24) rfl ?_); refine goesL_ (some 39) rfl rfl Try.func24 (by kernel_rfl) rfl #[.string (rdOf ByteArray.empty t235 x11_1)] rfl (by (try simp only [List.map_toArray, List.map_cons, List.map_nil]); first | done | rfl | (simp only [List.length_drop, List.length_take]; rfl)) ?_; (with_reducible refine (hearsayref01_Bytes.calls (rdOf ByteArray.empty t235 x11_1) t247 t248 _ A12.out).mono ?_); rintro e w25 ⟨rfl, hb⟩; refine ⟨_, rfl, ?_⟩; have n0_ := Aside0.mk (Kd.R_below (by (with_reducible repeat (first | apply Kd.R_alloc | apply Kd.R_drewN | apply Kd.R_drew)); exact HO_6.out) hb); have n1_ := Aside0.mk (Kd.R_below (by (with_reducible repeat (first | apply Kd.R_alloc | apply Kd.R_drewN | apply Kd.R_drew)); exact HO_8.out) hb); have n2_ := Aside0.mk (Kd.R_below (by (with_reducible repeat (first | apply Kd.R_alloc | apply Kd.R_drewN | apply Kd.R_drew)); exact HO_10.out) hb); have n3_ := Aside0.mk (below_step (by repeat (first | (with_reducible first | exact HB.out | apply below_alloc | apply pw_below_drewN | apply below_drew1) | exact HB.out)) hb); clear HO_6; clear HO_8; clear HO_10; clear HB; have HO_6 := n0_; have HO_8 := n1_; have HO_10 := n2_; have HB := n3_; clear n0_ n1_ n2_ n3_; (try clear hb); (try clear hb2); (try clear hk); (try clear hi)))
                go_ret2
                exact ⟨by first | rfl | (simp [errW_none, errW_some] <;> rfl) | (simp [*, errW_none, errW_some] <;> rfl), by repeat (first | (with_reducible first | exact HB.out | apply below_alloc | apply pw_below_drewN | apply below_drew1) | exact HB.out)⟩
            · rw [if_neg c11] at H
              exact absurd H (by simp)
          · rw [if_neg c10] at H
            have c10b0 : decide (x11_1 < (t235.length : Int)) = false := decide_eq_false c10
            clear c10
            by_cases c26 : t236 = true
            · subst c26
              have H1 : ((hearsayref01_Of.f k1 x10_1).bind fun bt239 => (some (bt239.1, bt239.2))) = some (r1, r2) := by rw [if_pos rfl] at H; exact H
              clear H
              have H := H1
              clear H1
              replace H := Option.bind_eq_some_iff.mp H
              obtain ⟨⟨t239, t240⟩, A270, H⟩ := H
              replace H : (some (t239, t240)) = some (r1, r2) := H
              have A27 := Aside0.mk A270
              clear A270
              simp only [Option.some.injEq, Prod.mk.injEq] at H
              obtain ⟨rfl, rfl⟩ := H
              obtain ⟨Ao28, co28, eo28⟩ := Kd.R_slice HO_8.out
              subst eo28
              obtain ⟨Ao29, co29, eo29⟩ := Kd.R_slice HO_10.out
              subst eo29
              go_wp2_with (first | ((with_reducible refine gate_callee (f := 22) rfl ?_); refine goesL_ (some 63) rfl rfl Try.func22 (by kernel_rfl) rfl #[.slice Ao29 x10_1.length co29] rfl (by (try simp only [List.map_toArray, List.map_cons, List.map_nil]); first | done | rfl | (simp only [List.length_drop, List.length_take]; rfl)) ?_; (with_reducible refine (hearsayref01_Of.calls k1 _ _ x10_1 t239 t240 _ ?side1 ?side2 A27.out).mono ?_); (case side1 => repeat (first | exact (Kd.R_reads' HO_10.out).2.2 | (with_reducible refine Kd.C_alloc ?_ _) | (with_reducible refine Kd.C_drewN ?_ _) | (with_reducible refine Kd.C_drew ?_))); (case side2 => exact (Kd.R_reads' HO_10.out).2.1); rintro e w30 ⟨rfl, hb⟩; refine ⟨_, rfl, ?_⟩; have n0_ := Aside0.mk (Kd.R_below (by (with_reducible repeat (first | apply Kd.R_alloc | apply Kd.R_drewN | apply Kd.R_drew)); exact HO_6.out) hb); have n1_ := Aside0.mk (Kd.R_below (by (with_reducible repeat (first | apply Kd.R_alloc | apply Kd.R_drewN | apply Kd.R_drew)); exact HO_8.out) hb); have n2_ := Aside0.mk (Kd.R_below (by (with_reducible repeat (first | apply Kd.R_alloc | apply Kd.R_drewN | apply Kd.R_drew)); exact HO_10.out) hb); have n3_ := Aside0.mk (below_step (by repeat (first | (with_reducible first | exact HB.out | apply below_alloc | apply pw_below_drewN | apply below_drew1) | exact HB.out)) hb); clear HO_6; clear HO_8; clear HO_10; clear HB; have HO_6 := n0_; have HO_8 := n1_; have HO_10 := n2_; have HB := n3_; clear n0_ n1_ n2_ n3_; (try clear hb); (try clear hb2); (try clear hk); (try clear hi)))
              go_ret2
              exact ⟨by first | rfl | (simp [errW_none, errW_some] <;> rfl) | (simp [*, errW_none, errW_some] <;> rfl), by repeat (first | (with_reducible first | exact HB.out | apply below_alloc | apply pw_below_drewN | apply below_drew1) | exact HB.out)⟩
            · replace c26 := Bool.eq_false_iff.mpr c26
              subst c26
              have H1 : (if x10_1.length + t231.length < 8796093022208 then ((hearsayref01_Of.f k1 (x10_1 ++ t231)).bind fun bt244 => (some (bt244.1, bt244.2))) else (none)) = some (r1, r2) := by rw [if_neg (show ¬ (false = true) by decide)] at H; exact H
              clear H
              have H := H1
              clear H1
              by_cases c31 : x10_1.length + t231.length < 8796093022208
              · rw [if_pos c31] at H
                have LMc31 := Aside0.mk c31
                clear c31
                obtain ⟨y241, hy241⟩ : ∃ y_ : List ByteArray, y_ = (x10_1 ++ t231) := ⟨_, rfl⟩
                replace H : ((hearsayref01_Of.f k1 y241).bind fun bt244 => (some (bt244.1, bt244.2))) = some (r1, r2) := by first | (rw [hy241]; with_reducible exact H) | (have H2_ := (Option.bind_some _ _).symm.trans H; rw [hy241]; with_reducible exact H2_) | (have H2_ := (Option.bind_some _ _).symm.trans H; with_reducible exact H2_) | with_reducible exact H | (rw [hy241]; exact H) | exact H
                have Ny241 := Aside0.mk hy241
                clear hy241
                replace H := Option.bind_eq_some_iff.mp H
                obtain ⟨⟨t244, t245⟩, A320, H⟩ := H
                replace H : (some (t244, t245)) = some (r1, r2) := H
                have A32 := Aside0.mk A320
                clear A320
                simp only [Option.some.injEq, Prod.mk.injEq] at H
                obtain ⟨rfl, rfl⟩ := H
                obtain ⟨Ao33, co33, eo33⟩ := Kd.R_slice HO_8.out
                subst eo33
                obtain ⟨Ao35, co35, eo35⟩ := Kd.R_slice HO_6.out
                subst eo35
                go_wp2_with (first | ((with_reducible refine gate_builtin (b := .append) (xs := #[.tmp 59, .tmp 60]) rfl ?_); (try (refine gate_guard (by rfl) ?_; dsimp only)); at_builtin; refine Kd.R_append_rows Kd.string (w0 := w) w.heap.size rfl (.tmp 59) (.tmp 60) 23 9 (.string ⟨#[]⟩) 16 rfl Try.underlying23 info9 rfl (by decide) (by omega) u10 x10_1 t231 _ _ _ (fun k_ => some k_ ≠ (.slice Ao35 t231.length co35 : Value).ownBlock ∧ some k_ ≠ (.slice Ao33 t235.length co33 : Value).ownBlock) (fun _ => False) rfl rfl ?aO ?aR (fun _ _ h => h) (fun _ h => h.elim) ?aF ?aB ?aS ?aL ?_; (case aR => repeat (first | exact (Kd.R_reads' HO_6.out).2.2 | (with_reducible refine Kd.C_alloc ?_ _) | (with_reducible refine Kd.C_drewN ?_ _) | (with_reducible refine Kd.C_drew ?_))); (case aB => exact (by repeat (first | (with_reducible first | exact HB.out | apply below_alloc | apply pw_below_drewN | apply below_drew1) | exact HB.out))); (case aF => exact (fun k_ hk => ⟨Kd.fresh' (Kd.R_lt (by (with_reducible repeat (first | apply Kd.R_alloc | apply Kd.R_drewN | apply Kd.R_drew)); exact HO_6.out)) k_ hk, Kd.fresh' (Kd.R_lt (by (with_reducible repeat (first | apply Kd.R_alloc | apply Kd.R_drewN | apply Kd.R_drew)); exact HO_8.out)) k_ hk⟩)); (case aO => exact (by (with_reducible repeat (first | apply Kd.R_alloc | apply Kd.R_drewN | apply Kd.R_drew)); exact HO_10.out)); (case aS => exact (below_size (by repeat (first | (with_reducible first | exact HB.out | apply below_alloc | apply pw_below_drewN | apply below_drew1) | exact HB.out)))); (case aL => have := LMc31.out; omega); intro v242 w34 ho hb hg hat; rw [← Ny241.out] at ho; have n0_ := Aside0.mk (Kd.R_after (ok := (fun k_ => some k_ ≠ (.slice Ao33 t235.length co33 : Value).ownBlock)) (by (with_reducible repeat (first | apply Kd.R_alloc | apply Kd.R_drewN | apply Kd.R_drew)); exact HO_6.out) hg hat); have n1_ := Aside0.mk (Kd.R_after (ok := (fun k_ => some k_ ≠ (.slice Ao35 t231.length co35 : Value).ownBlock)) (by (with_reducible repeat (first | apply Kd.R_alloc | apply Kd.R_drewN | apply Kd.R_drew)); exact HO_8.out) hg hat); have n2_ := Aside0.mk (hb); have n3_ := Aside0.mk (ho); clear HO_6; clear HO_8; clear HB; clear HO_10; have HO_6 := n0_; have HO_8 := n1_; have HB := n2_; have HO243 := n3_; clear n0_ n1_ n2_ n3_; clear ho hb hg hat; obtain ⟨Ao36, co36, eo36⟩ := Kd.R_slice HO243.out; subst eo36) | ((with_reducible refine gate_callee (f := 22) rfl ?_); refine goesL_ (some 63) rfl rfl Try.func22 (by kernel_rfl) rfl #[.slice Ao36 y241.length co36] rfl (by (try simp only [List.map_toArray, List.map_cons, List.map_nil]); first | done | rfl | (simp only [List.length_drop, List.length_take]; rfl)) ?_; (with_reducible refine (hearsayref01_Of.calls k1 _ _ y241 t244 t245 _ ?side1 ?side2 A32.out).mono ?_); (case side1 => repeat (first | exact (Kd.R_reads' HO243.out).2.2 | (with_reducible refine Kd.C_alloc ?_ _) | (with_reducible refine Kd.C_drewN ?_ _) | (with_reducible refine Kd.C_drew ?_))); (case side2 => exact (Kd.R_reads' HO243.out).2.1); rintro e w37 ⟨rfl, hb⟩; refine ⟨_, rfl, ?_⟩; have n0_ := Aside0.mk (Kd.R_below (by (with_reducible repeat (first | apply Kd.R_alloc | apply Kd.R_drewN | apply Kd.R_drew)); exact HO_6.out) hb); have n1_ := Aside0.mk (Kd.R_below (by (with_reducible repeat (first | apply Kd.R_alloc | apply Kd.R_drewN | apply Kd.R_drew)); exact HO_8.out) hb); have n2_ := Aside0.mk (Kd.R_below (by (with_reducible repeat (first | apply Kd.R_alloc | apply Kd.R_drewN | apply Kd.R_drew)); exact HO243.out) hb); have n3_ := Aside0.mk (below_step (by repeat (first | (with_reducible first | exact HB.out | apply below_alloc | apply pw_below_drewN | apply below_drew1) | exact HB.out)) hb); clear HO_6; clear HO_8; clear HO243; clear HB; have HO_6 := n0_; have HO_8 := n1_; have HO243 := n2_; have HB := n3_; clear n0_ n1_ n2_ n3_; (try clear hb); (try clear hb2); (try clear hk); (try clear hi)))
                go_ret2
                exact ⟨by first | rfl | (simp [errW_none, errW_some] <;> rfl) | (simp [*, errW_none, errW_some] <;> rfl), by repeat (first | (with_reducible first | exact HB.out | apply below_alloc | apply pw_below_drewN | apply below_drew1) | exact HB.out)⟩
              · rw [if_neg c31] at H
                exact absurd H (by simp)
  · replace c4 := Bool.eq_false_iff.mpr c4
    subst c4
    have H1 : (some ((⟨#[]⟩ : ByteArray), 11)) = some (r1, r2) := by rw [if_neg (show ¬ (false = true) by decide)] at H; exact H
    clear H
    have H := H1
    clear H1
    simp only [Option.some.injEq, Prod.mk.injEq] at H
    obtain ⟨rfl, rfl⟩ := H
    go_enter Try.func28, Try.ntmps28
    go_wp2_with (first | ((with_reducible refine gate_callee (f := 13) rfl ?_); refine goesL_ (some 16) rfl rfl Try.func13 (by kernel_rfl) rfl #[.string a1] rfl (by (try simp only [List.map_toArray, List.map_cons, List.map_nil]); first | done | rfl | (simp only [List.length_drop, List.length_take]; rfl)) ?_; (with_reducible refine (hearsayref01_Split.calls k a1 t231 false _ A3.out).mono ?_); rintro e w38 ⟨v233, rfl, ho0, hb⟩; refine ⟨_, rfl, ?_⟩; have n0_ := Aside0.mk (Kd.R_lower ho0 (below_size (by repeat (first | (with_reducible first | exact HB.out | apply below_alloc | apply pw_below_drewN | apply below_drew1) | exact HB.out)))); have n1_ := Aside0.mk (below_step (by repeat (first | (with_reducible first | exact HB.out | apply below_alloc | apply pw_below_drewN | apply below_drew1) | exact HB.out)) hb); clear HB; have HO234 := n0_; have HB := n1_; clear n0_ n1_; (try clear hb); (try clear hb2); (try clear hk); (try clear hi); (try clear ho0)))
    go_ret2
    exact ⟨by first | rfl | (simp [errW_none, errW_some] <;> rfl) | (simp [*, errW_none, errW_some] <;> rfl), by repeat (first | (with_reducible first | exact HB.out | apply below_alloc | apply pw_below_drewN | apply below_drew1) | exact HB.out)⟩

end Go.Proofs.Ytplnknhlgdoliaa.Print
end
section
-- Written by a program of this session, built on the kit's print (it is not the print's own text).
namespace Go.Proofs.Ytplnknhlgdoliaa.Print
open Go.RowKit Go.Proofs.YtplnknhlgdoliaaW.PrintWords Go.Proofs.YtplnknhlgdoliaaW.PrintLast Go.Proofs.YtplnknhlgdoliaaW.PrintMore
attribute [local go_sem] max2_int min2_int max_two min_two max_three min_three max_four min_four   -- for this text's walks alone
set_option linter.unusedVariables false
set_option linter.unusedSimpArgs false

/-! ### hearsayref01_marked: function 54 -/
def hearsayref01_marked.f (a0 : Int) (a1 : Bool) : Option (Bool) := if a0 = 34 then (some true) else (if a0 = 92 then (some true) else (if a1 = true then (some false) else (if a0 = 46 then (some true) else (if a0 = 59 then (some true) else (if a0 = 40 then (some true) else (if a0 = 41 then (some true) else (if a0 = 64 then (some true) else (some (a0 == 36)))))))))
set_option maxHeartbeats 8000000 in
set_option maxRecDepth 100000 in
theorem hearsayref01_marked.calls (a0 : Int) (a1 : Bool) (r : Bool) (w : World) (h : hearsayref01_marked.f a0 a1 = some r) :
    Calls Try.prog 54 #[.int .u8 a0, .bool a1] w fun e w' => e = .returned (.bool r) ∧ Drawn0 w w' := by
  have H : (if a0 = 34 then (some true) else (if a0 = 92 then (some true) else (if a1 = true then (some false) else (if a0 = 46 then (some true) else (if a0 = 59 then (some true) else (if a0 = 40 then (some true) else (if a0 = 41 then (some true) else (if a0 = 64 then (some true) else (some (a0 == 36)))))))))) = some r := h
  clear h
  by_cases c3 : a0 = 34
  · rw [if_pos c3] at H
    have c3b0 : (a0 == 34) = true := beq_iff_eq.mpr c3
    have c3b1 : (a0 != 34) = false := bne_eq_false_iff_eq.mpr c3
    clear c3
    obtain rfl := Option.some.inj H
    go_enter Try.func54, Try.ntmps54
    go_wp2
    go_ret
    exact ⟨by first | rfl | (simp; done) | (simp [*]; done), by repeat (first | exact Drawn0.refl _ | apply Drawn0.step)⟩
  · rw [if_neg c3] at H
    have c3b0 : (a0 == 34) = false := beq_eq_false_iff_ne.mpr c3
    have c3b1 : (a0 != 34) = true := bne_iff_ne.mpr c3
    by_cases c4 : a0 = 92
    · rw [if_pos c4] at H
      have c4b0 : (a0 == 92) = true := beq_iff_eq.mpr c4
      have c4b1 : (a0 != 92) = false := bne_eq_false_iff_eq.mpr c4
      clear c4
      obtain rfl := Option.some.inj H
      go_enter Try.func54, Try.ntmps54
      go_wp2
      go_ret
      exact ⟨by first | rfl | (simp; done) | (simp [*]; done), by repeat (first | exact Drawn0.refl _ | apply Drawn0.step)⟩
    · rw [if_neg c4] at H
      have c4b0 : (a0 == 92) = false := beq_eq_false_iff_ne.mpr c4
      have c4b1 : (a0 != 92) = true := bne_iff_ne.mpr c4
      by_cases c5 : a1 = true
      · subst c5
        have H1 : (some false) = some r := by rw [if_pos rfl] at H; exact H
        clear H
        have H := H1
        clear H1
        obtain rfl := Option.some.inj H
        go_enter Try.func54, Try.ntmps54
        go_wp2
        go_ret
        exact ⟨by first | rfl | (simp; done) | (simp [*]; done), by repeat (first | exact Drawn0.refl _ | apply Drawn0.step)⟩
      · replace c5 := Bool.eq_false_iff.mpr c5
        subst c5
        have H1 : (if a0 = 46 then (some true) else (if a0 = 59 then (some true) else (if a0 = 40 then (some true) else (if a0 = 41 then (some true) else (if a0 = 64 then (some true) else (some (a0 == 36))))))) = some r := by rw [if_neg (show ¬ (false = true) by decide)] at H; exact H
        clear H
        have H := H1
        clear H1
        by_cases c6 : a0 = 46
        · rw [if_pos c6] at H
          have c6b0 : (a0 == 46) = true := beq_iff_eq.mpr c6
          have c6b1 : (a0 != 46) = false := bne_eq_false_iff_eq.mpr c6
          clear c6
          obtain rfl := Option.some.inj H
          go_enter Try.func54, Try.ntmps54
          go_wp2
          go_ret
          exact ⟨by first | rfl | (simp; done) | (simp [*]; done), by repeat (first | exact Drawn0.refl _ | apply Drawn0.step)⟩
        · rw [if_neg c6] at H
          have c6b0 : (a0 == 46) = false := beq_eq_false_iff_ne.mpr c6
          have c6b1 : (a0 != 46) = true := bne_iff_ne.mpr c6
          by_cases c7 : a0 = 59
          · rw [if_pos c7] at H
            have c7b0 : (a0 == 59) = true := beq_iff_eq.mpr c7
            have c7b1 : (a0 != 59) = false := bne_eq_false_iff_eq.mpr c7
            clear c7
            obtain rfl := Option.some.inj H
            go_enter Try.func54, Try.ntmps54
            go_wp2
            go_ret
            exact ⟨by first | rfl | (simp; done) | (simp [*]; done), by repeat (first | exact Drawn0.refl _ | apply Drawn0.step)⟩
          · rw [if_neg c7] at H
            have c7b0 : (a0 == 59) = false := beq_eq_false_iff_ne.mpr c7
            have c7b1 : (a0 != 59) = true := bne_iff_ne.mpr c7
            by_cases c8 : a0 = 40
            · rw [if_pos c8] at H
              have c8b0 : (a0 == 40) = true := beq_iff_eq.mpr c8
              have c8b1 : (a0 != 40) = false := bne_eq_false_iff_eq.mpr c8
              clear c8
              obtain rfl := Option.some.inj H
              go_enter Try.func54, Try.ntmps54
              go_wp2
              go_ret
              exact ⟨by first | rfl | (simp; done) | (simp [*]; done), by repeat (first | exact Drawn0.refl _ | apply Drawn0.step)⟩
            · rw [if_neg c8] at H
              have c8b0 : (a0 == 40) = false := beq_eq_false_iff_ne.mpr c8
              have c8b1 : (a0 != 40) = true := bne_iff_ne.mpr c8
              by_cases c9 : a0 = 41
              · rw [if_pos c9] at H
                have c9b0 : (a0 == 41) = true := beq_iff_eq.mpr c9
                have c9b1 : (a0 != 41) = false := bne_eq_false_iff_eq.mpr c9
                clear c9
                obtain rfl := Option.some.inj H
                go_enter Try.func54, Try.ntmps54
                go_wp2
                go_ret
                exact ⟨by first | rfl | (simp; done) | (simp [*]; done), by repeat (first | exact Drawn0.refl _ | apply Drawn0.step)⟩
              · rw [if_neg c9] at H
                have c9b0 : (a0 == 41) = false := beq_eq_false_iff_ne.mpr c9
                have c9b1 : (a0 != 41) = true := bne_iff_ne.mpr c9
                by_cases c10 : a0 = 64
                · rw [if_pos c10] at H
                  have c10b0 : (a0 == 64) = true := beq_iff_eq.mpr c10
                  have c10b1 : (a0 != 64) = false := bne_eq_false_iff_eq.mpr c10
                  clear c10
                  obtain rfl := Option.some.inj H
                  go_enter Try.func54, Try.ntmps54
                  go_wp2
                  go_ret
                  exact ⟨by first | rfl | (simp; done) | (simp [*]; done), by repeat (first | exact Drawn0.refl _ | apply Drawn0.step)⟩
                · rw [if_neg c10] at H
                  have c10b0 : (a0 == 64) = false := beq_eq_false_iff_ne.mpr c10
                  have c10b1 : (a0 != 64) = true := bne_iff_ne.mpr c10
                  obtain rfl := Option.some.inj H
                  go_enter Try.func54, Try.ntmps54
                  go_wp2
                  go_ret
                  exact ⟨by first | rfl | (simp; done) | (simp [*]; done), by repeat (first | exact Drawn0.refl _ | apply Drawn0.step)⟩

end Go.Proofs.Ytplnknhlgdoliaa.Print
end
section
-- Written by a program of this session, built on the kit's print (it is not the print's own text).
namespace Go.Proofs.Ytplnknhlgdoliaa.Print
open Go.RowKit Go.Proofs.YtplnknhlgdoliaaW.PrintWords Go.Proofs.YtplnknhlgdoliaaW.PrintLast Go.Proofs.YtplnknhlgdoliaaW.PrintMore
attribute [local go_sem] max2_int min2_int max_two min_two max_three min_three max_four min_four   -- for this text's walks alone
set_option linter.unusedVariables false
set_option linter.unusedSimpArgs false

/-! ### hearsayref01_Escape: function 26 -/
def hearsayref01_Escape.l0 : Nat → ByteArray → Bool → List Int → Int → Option (ByteArray)
  | 0, _, _, _, _ => none
  | k + 1, x0, x1, x5, x6 => if x6 < (x0.size : Int) then (if 0 ≤ x6 then ((hearsayref01_marked.f (bt x0 x6) x1).bind fun t175 => (if t175 = true then ((some (([92, bt x0 x6] : List Int) : List Int)).bind fun y176 => (if x5.length + y176.length < 140737488355328 then (hearsayref01_Escape.l0 k x0 x1 (x5 ++ y176) (wrap64 (x6 + 1))) else (none))) else (if (bt x0 x6) > 32 then (if (bt x0 x6) < 127 then (if x5.length < 140737488355328 then (hearsayref01_Escape.l0 k x0 x1 (x5 ++ [bt x0 x6]) (wrap64 (x6 + 1))) else (none)) else (if (bt x0 x6) = 32 then (if x1 = true then (if x5.length < 140737488355328 then (hearsayref01_Escape.l0 k x0 x1 (x5 ++ [bt x0 x6]) (wrap64 (x6 + 1))) else (none)) else ((some (([92, (48 + ((Int.tdiv (bt x0 x6) 100) % 256)) % 256, 48 + (((Int.tdiv (bt x0 x6) 10) % 256) % 10), (48 + (Int.tmod (bt x0 x6) 10)) % 256] : List Int) : List Int)).bind fun y188 => (if x5.length + y188.length < 140737488355328 then (hearsayref01_Escape.l0 k x0 x1 (x5 ++ y188) (wrap64 (x6 + 1))) else (none)))) else ((some (([92, (48 + ((Int.tdiv (bt x0 x6) 100) % 256)) % 256, 48 + (((Int.tdiv (bt x0 x6) 10) % 256) % 10), (48 + (Int.tmod (bt x0 x6) 10)) % 256] : List Int) : List Int)).bind fun y194 => (if x5.length + y194.length < 140737488355328 then (hearsayref01_Escape.l0 k x0 x1 (x5 ++ y194) (wrap64 (x6 + 1))) else (none))))) else (if (bt x0 x6) = 32 then (if x1 = true then (if x5.length < 140737488355328 then (hearsayref01_Escape.l0 k x0 x1 (x5 ++ [bt x0 x6]) (wrap64 (x6 + 1))) else (none)) else ((some (([92, (48 + ((Int.tdiv (bt x0 x6) 100) % 256)) % 256, 48 + (((Int.tdiv (bt x0 x6) 10) % 256) % 10), (48 + (Int.tmod (bt x0 x6) 10)) % 256] : List Int) : List Int)).bind fun y203 => (if x5.length + y203.length < 140737488355328 then (hearsayref01_Escape.l0 k x0 x1 (x5 ++ y203) (wrap64 (x6 + 1))) else (none)))) else ((some (([92, (48 + ((Int.tdiv (bt x0 x6) 100) % 256)) % 256, 48 + (((Int.tdiv (bt x0 x6) 10) % 256) % 10), (48 + (Int.tmod (bt x0 x6) 10)) % 256] : List Int) : List Int)).bind fun y209 => (if x5.length + y209.length < 140737488355328 then (hearsayref01_Escape.l0 k x0 x1 (x5 ++ y209) (wrap64 (x6 + 1))) else (none))))))) else (none)) else (some (strOfNums x5))
def hearsayref01_Escape.f (k : Nat) (a0 : ByteArray) (a1 : Bool) : Option (ByteArray) := hearsayref01_Escape.l0 k a0 a1 ([] : List Int) 0
theorem hearsayref01_Escape.mono_l : ∀ k, (∀ y0 y1 y2 y3, LeO (hearsayref01_Escape.l0 k y0 y1 y2 y3) (hearsayref01_Escape.l0 (k + 1) y0 y1 y2 y3))
  | 0 => fun _ _ _ _ r h => by simp [hearsayref01_Escape.l0] at h
  | k + 1 => by
    have ih0 := hearsayref01_Escape.mono_l k
    · intro y0 y1 y2 y3
      unfold hearsayref01_Escape.l0
      repeat' first
      | (with_reducible exact ih0 _ _ _ _)
      | (with_reducible exact LeO.refl _)
      | (with_reducible exact LeO.none _)
      | (with_reducible refine LeO.ite ?_ ?_)
      | (with_reducible refine LeO.bind ?_ (fun _ => ?_))
      | exact ih0 _ _ _ _
      | exact LeO.none _
      | refine LeO.ite ?_ ?_
      | refine LeO.bind ?_ (fun _ => ?_)
theorem hearsayref01_Escape.mono : ∀ a0 a1 k, LeO (hearsayref01_Escape.f k a0 a1) (hearsayref01_Escape.f (k + 1) a0 a1) := by
  intro a0 a1 k
  have ih0 := hearsayref01_Escape.mono_l k
  unfold hearsayref01_Escape.f
  repeat' first
      | (with_reducible exact ih0 _ _ _ _)
      | (with_reducible exact LeO.refl _)
      | (with_reducible exact LeO.none _)
      | (with_reducible refine LeO.ite ?_ ?_)
      | (with_reducible refine LeO.bind ?_ (fun _ => ?_))
      | exact ih0 _ _ _ _
      | exact LeO.none _
      | refine LeO.ite ?_ ?_
      | refine LeO.bind ?_ (fun _ => ?_)
set_option maxHeartbeats 8000000 in
set_option maxRecDepth 100000 in
theorem hearsayref01_Escape.calls (k : Nat) (a0 : ByteArray) (a1 : Bool) (r : ByteArray) (w : World) (h : hearsayref01_Escape.f k a0 a1 = some r) :
    Calls Try.prog 26 #[.string a0, .bool a1] w fun e w' => e = .returned (.string r) ∧ Below w.heap.size w w' := by
  have HB := Aside0.mk (Below.refl w.heap.size w)
  have H : (hearsayref01_Escape.l0 k a0 a1 ([] : List Int) 0) = some r := h
  clear h
  have H' := Aside0.mk H
  clear H
  go_enter Try.func26, Try.ntmps26
  go_wp2
  go_loopg [5, 6] k (fun kq v5 v6 w' => ∃ (x5_1 : List Int) (x6_1 : Int), v6 = .int .i64 x6_1 ∧ Aside0 (hearsayref01_Escape.l0 kq a0 a1 x5_1 x6_1 = some r) ∧ Aside0 (kq ≤ k) ∧ Aside0 (Kd.R (Kd.int .u8) 5 w' w.heap.size (fun _ => True) v5 x5_1) ∧ Aside0 (Below w.heap.size w w'))
  case atStart => exact ⟨(([] : List Int)), (0), (by first | rfl | (simp; done) | (simp [*]; done)), H', ⟨Nat.le_refl _⟩, ⟨by first | exact Kd.R_nil _ _ _ _ _ | exact Kd.N_nil _ _ _ _ _ | exact Kd.V_nil _ _ _ _ _ | exact Kd.Q_nil _ _ _ _ _ | exact Kd.S_nil _ _ _ _ _⟩, ⟨by repeat (first | (with_reducible first | exact HB.out | apply below_alloc | apply pw_below_drewN | apply below_drew1) | exact HB.out)⟩⟩
  case round =>
    clear H'
    try clear c2
    try clear p2
    obtain ⟨x5_1, x6_1, rfl, HA, HK1, HO_5, HB⟩ := hrel
    cases gk with
    | zero => exact absurd HA.out (by simp [hearsayref01_Escape.l0])
    | succ k1 =>
      have H := HA.out
      clear HA
      simp only [hearsayref01_Escape.l0] at H
      by_cases c3 : x6_1 < (a0.size : Int)
      · rw [if_pos c3] at H
        have c3b0 : decide (x6_1 < (a0.size : Int)) = true := decide_eq_true c3
        clear c3
        by_cases c4 : 0 ≤ x6_1
        · rw [if_pos c4] at H
          have c4b0 : decide (0 ≤ x6_1) = true := decide_eq_true c4
          clear c4
          replace H := Option.bind_eq_some_iff.mp H
          obtain ⟨t175, A60, H⟩ := H
          replace H : (if t175 = true then ((some (([92, bt a0 x6_1] : List Int) : List Int)).bind fun y176 => (if x5_1.length + y176.length < 140737488355328 then (hearsayref01_Escape.l0 k1 a0 a1 (x5_1 ++ y176) (wrap64 (x6_1 + 1))) else (none))) else (if (bt a0 x6_1) > 32 then (if (bt a0 x6_1) < 127 then (if x5_1.length < 140737488355328 then (hearsayref01_Escape.l0 k1 a0 a1 (x5_1 ++ [bt a0 x6_1]) (wrap64 (x6_1 + 1))) else (none)) else (if (bt a0 x6_1) = 32 then (if a1 = true then (if x5_1.length < 140737488355328 then (hearsayref01_Escape.l0 k1 a0 a1 (x5_1 ++ [bt a0 x6_1]) (wrap64 (x6_1 + 1))) else (none)) else ((some (([92, (48 + ((Int.tdiv (bt a0 x6_1) 100) % 256)) % 256, 48 + (((Int.tdiv (bt a0 x6_1) 10) % 256) % 10), (48 + (Int.tmod (bt a0 x6_1) 10)) % 256] : List Int) : List Int)).bind fun y188 => (if x5_1.length + y188.length < 140737488355328 then (hearsayref01_Escape.l0 k1 a0 a1 (x5_1 ++ y188) (wrap64 (x6_1 + 1))) else (none)))) else ((some (([92, (48 + ((Int.tdiv (bt a0 x6_1) 100) % 256)) % 256, 48 + (((Int.tdiv (bt a0 x6_1) 10) % 256) % 10), (48 + (Int.tmod (bt a0 x6_1) 10)) % 256] : List Int) : List Int)).bind fun y194 => (if x5_1.length + y194.length < 140737488355328 then (hearsayref01_Escape.l0 k1 a0 a1 (x5_1 ++ y194) (wrap64 (x6_1 + 1))) else (none))))) else (if (bt a0 x6_1) = 32 then (if a1 = true then (if x5_1.length < 140737488355328 then (hearsayref01_Escape.l0 k1 a0 a1 (x5_1 ++ [bt a0 x6_1]) (wrap64 (x6_1 + 1))) else (none)) else ((some (([92, (48 + ((Int.tdiv (bt a0 x6_1) 100) % 256)) % 256, 48 + (((Int.tdiv (bt a0 x6_1) 10) % 256) % 10), (48 + (Int.tmod (bt a0 x6_1) 10)) % 256] : List Int) : List Int)).bind fun y203 => (if x5_1.length + y203.length < 140737488355328 then (hearsayref01_Escape.l0 k1 a0 a1 (x5_1 ++ y203) (wrap64 (x6_1 + 1))) else (none)))) else ((some (([92, (48 + ((Int.tdiv (bt a0 x6_1) 100) % 256)) % 256, 48 + (((Int.tdiv (bt a0 x6_1) 10) % 256) % 10), (48 + (Int.tmod (bt a0 x6_1) 10)) % 256] : List Int) : List Int)).bind fun y209 => (if x5_1.length + y209.length < 140737488355328 then (hearsayref01_Escape.l0 k1 a0 a1 (x5_1 ++ y209) (wrap64 (x6_1 + 1))) else (none)))))) = some r := H
          have A6 := Aside0.mk A60
          clear A60
          by_cases c7 : t175 = true
          · subst c7
            have H1 : ((some (([92, bt a0 x6_1] : List Int) : List Int)).bind fun y176 => (if x5_1.length + y176.length < 140737488355328 then (hearsayref01_Escape.l0 k1 a0 a1 (x5_1 ++ y176) (wrap64 (x6_1 + 1))) else (none))) = some r := by rw [if_pos rfl] at H; exact H
            clear H
            have H := H1
            clear H1
            obtain ⟨y176, hy176⟩ : ∃ y_ : List Int, y_ = (([92, bt a0 x6_1] : List Int)) := ⟨_, rfl⟩
            replace H : (if x5_1.length + y176.length < 140737488355328 then (hearsayref01_Escape.l0 k1 a0 a1 (x5_1 ++ y176) (wrap64 (x6_1 + 1))) else (none)) = some r := by first | (rw [hy176]; with_reducible exact H) | (have H2_ := (Option.bind_some _ _).symm.trans H; rw [hy176]; with_reducible exact H2_) | (have H2_ := (Option.bind_some _ _).symm.trans H; with_reducible exact H2_) | with_reducible exact H | (rw [hy176]; exact H) | exact H
            have Ny176 := Aside0.mk hy176
            clear hy176
            by_cases c8 : x5_1.length + y176.length < 140737488355328
            · rw [if_pos c8] at H
              have LMc8 := Aside0.mk c8
              clear c8
              obtain ⟨y179, hy179⟩ : ∃ y_ : List Int, y_ = (x5_1 ++ y176) := ⟨_, rfl⟩
              replace H : (hearsayref01_Escape.l0 k1 a0 a1 y179 (wrap64 (x6_1 + 1))) = some r := by first | (rw [hy179]; with_reducible exact H) | (have H2_ := (Option.bind_some _ _).symm.trans H; rw [hy179]; with_reducible exact H2_) | (have H2_ := (Option.bind_some _ _).symm.trans H; with_reducible exact H2_) | with_reducible exact H | (rw [hy179]; exact H) | exact H
              have Ny179 := Aside0.mk hy179
              clear hy179
              have H' := Aside0.mk H
              clear H
              have p5 : 0 ≤ (x6_1 : Int) := of_decide_eq_true (by first | (with_reducible assumption) | assumption)
              have q5 : x6_1 < (a0.size : Int) := of_decide_eq_true (by first | (with_reducible assumption) | assumption)
              have hx5 := bt_at a0 x6_1
              replace p5 := eq_true p5
              replace q5 := eq_true q5
              go_wp2_with (first | ((with_reducible refine gate_callee (f := 54) rfl ?_); refine goesL_ (some 33) rfl rfl Try.func54 (by kernel_rfl) rfl #[.int .u8 (bt a0 x6_1), .bool a1] rfl (by (try simp only [List.map_toArray, List.map_cons, List.map_nil]); first | done | rfl | (simp only [List.length_drop, List.length_take]; rfl)) ?_; (with_reducible refine (hearsayref01_marked.calls (bt a0 x6_1) a1 true _ A6.out).mono ?_); rintro e w' ⟨rfl, ⟨nd, rfl⟩⟩; refine ⟨_, rfl, ?_⟩) | ((with_reducible refine gate_dst (N := 36) rfl ?_); refine Kd.R_lit (Kd.int .u8) _ 5 ?hg (N := 36) ?hd (xs := ([92, bt a0 x6_1] : List Int)) (inner := [.int .u8 92, .int .u8 (bt a0 x6_1)]) (ok := fun _ => True) (okp := fun _ => True) ?hr ?hp (fun _ hk => hk) trivial (Below.refl _ _) (Nat.le_refl _) (by simp) ?_; (case hd => rfl); (case hg => rfl); (case hr => first | (go_simp; done) | (go_simp; rfl)); (case hp => exact (Reps.one (show Kd.M (Kd.int .u8) _ _ _ 92 [.int .u8 92] from rfl) (Reps.one (show Kd.M (Kd.int .u8) _ _ _ (bt a0 x6_1) [.int .u8 (bt a0 x6_1)] from rfl) (Reps.none _ _)))); intro v177 w9 ho10 hb hg_ hnew_; clear hg_ hnew_; (first | rw [← Ny176.out] at ho10 | (simp only [Int.reduceToNat] at ho10; rw [← Ny176.out] at ho10)); have n0_ := Aside0.mk (Kd.R_elder' (by (with_reducible repeat (first | apply Kd.R_alloc | apply Kd.R_drewN | apply Kd.R_drew)); exact HO_5.out) (Kd.R_base ho10) hb); have n1_ := Aside0.mk (Kd.R_lower (Kd.R_new' ho10 (Kd.R_lt (by (with_reducible repeat (first | apply Kd.R_alloc | apply Kd.R_drewN | apply Kd.R_drew)); exact HO_5.out))) (below_size (by repeat (first | (with_reducible first | exact HB.out | apply below_alloc | apply pw_below_drewN | apply below_drew1) | exact HB.out)))); have n2_ := Aside0.mk (below_step (by repeat (first | (with_reducible first | exact HB.out | apply below_alloc | apply pw_below_drewN | apply below_drew1) | exact HB.out)) hb); clear HO_5; clear HB; have HO_5 := n0_; have HO178 := n1_; have HB := n2_; clear n0_ n1_ n2_; clear hb ho10; obtain ⟨Ao12, co12, eo12⟩ := Kd.R_slice HO178.out; subst eo12) | ((with_reducible refine gate_builtin (b := .append) (xs := #[.tmp 34, .tmp 36]) rfl ?_); at_builtin; refine Kd.R_append_rows (Kd.int .u8) (w0 := w) w.heap.size rfl (.tmp 34) (.tmp 36) 58 5 (.int .u8 0) 1 rfl Try.underlying58 info5 rfl (by decide) (by omega) u5 x5_1 y176 _ _ _ (fun k_ => some k_ ≠ (.slice Ao12 y176.length co12 : Value).ownBlock) (fun _ => False) rfl rfl ?aO ?aR (fun _ _ h => h) (fun _ h => h.elim) ?aF ?aB ?aS ?aL ?_; (case aR => repeat (first | exact (Kd.R_reads' HO178.out).2.2 | (with_reducible refine Kd.C_alloc ?_ _) | (with_reducible refine Kd.C_drewN ?_ _) | (with_reducible refine Kd.C_drew ?_))); (case aB => exact (by repeat (first | (with_reducible first | exact HB.out | apply below_alloc | apply pw_below_drewN | apply below_drew1) | exact HB.out))); (case aF => exact (fun k_ hk => Kd.fresh' (Kd.R_lt (by (with_reducible repeat (first | apply Kd.R_alloc | apply Kd.R_drewN | apply Kd.R_drew)); exact HO178.out)) k_ hk)); (case aO => exact (by (with_reducible repeat (first | apply Kd.R_alloc | apply Kd.R_drewN | apply Kd.R_drew)); exact Kd.R_mono HO_5.out (fun _ hk => hk.2))); (case aS => exact (below_size (by repeat (first | (with_reducible first | exact HB.out | apply below_alloc | apply pw_below_drewN | apply below_drew1) | exact HB.out)))); (case aL => have := LMc8.out; omega); intro v180 w11 ho hb hg hat; rw [← Ny179.out] at ho; have n0_ := Aside0.mk (Kd.R_after (ok := (fun _ => True)) (by (with_reducible repeat (first | apply Kd.R_alloc | apply Kd.R_drewN | apply Kd.R_drew)); exact HO178.out) hg hat); have n1_ := Aside0.mk (hb); have n2_ := Aside0.mk (ho); clear HO178; clear HB; clear HO_5; have HO178 := n0_; have HB := n1_; have HO181 := n2_; clear n0_ n1_ n2_; clear ho hb hg hat))
              go_roundg k1
              case measure => have := HK1.out; omega
              case rel => exact ⟨(y179), (wrap64 (x6_1 + 1)), (by first | rfl | (simp; done) | (simp [*]; done)), H', ⟨by have := HK1.out; omega⟩, ⟨by (with_reducible repeat (first | apply Kd.R_alloc | apply Kd.R_drewN | apply Kd.R_drew)); exact Kd.R_mono HO181.out (fun _ hk => trivial)⟩, ⟨by repeat (first | (with_reducible first | exact HB.out | apply below_alloc | apply pw_below_drewN | apply below_drew1) | exact HB.out)⟩⟩
            · rw [if_neg c8] at H
              exact absurd H (by simp)
          · replace c7 := Bool.eq_false_iff.mpr c7
            subst c7
            have H1 : (if (bt a0 x6_1) > 32 then (if (bt a0 x6_1) < 127 then (if x5_1.length < 140737488355328 then (hearsayref01_Escape.l0 k1 a0 a1 (x5_1 ++ [bt a0 x6_1]) (wrap64 (x6_1 + 1))) else (none)) else (if (bt a0 x6_1) = 32 then (if a1 = true then (if x5_1.length < 140737488355328 then (hearsayref01_Escape.l0 k1 a0 a1 (x5_1 ++ [bt a0 x6_1]) (wrap64 (x6_1 + 1))) else (none)) else ((some (([92, (48 + ((Int.tdiv (bt a0 x6_1) 100) % 256)) % 256, 48 + (((Int.tdiv (bt a0 x6_1) 10) % 256) % 10), (48 + (Int.tmod (bt a0 x6_1) 10)) % 256] : List Int) : List Int)).bind fun y188 => (if x5_1.length + y188.length < 140737488355328 then (hearsayref01_Escape.l0 k1 a0 a1 (x5_1 ++ y188) (wrap64 (x6_1 + 1))) else (none)))) else ((some (([92, (48 + ((Int.tdiv (bt a0 x6_1) 100) % 256)) % 256, 48 + (((Int.tdiv (bt a0 x6_1) 10) % 256) % 10), (48 + (Int.tmod (bt a0 x6_1) 10)) % 256] : List Int) : List Int)).bind fun y194 => (if x5_1.length + y194.length < 140737488355328 then (hearsayref01_Escape.l0 k1 a0 a1 (x5_1 ++ y194) (wrap64 (x6_1 + 1))) else (none))))) else (if (bt a0 x6_1) = 32 then (if a1 = true then (if x5_1.length < 140737488355328 then (hearsayref01_Escape.l0 k1 a0 a1 (x5_1 ++ [bt a0 x6_1]) (wrap64 (x6_1 + 1))) else (none)) else ((some (([92, (48 + ((Int.tdiv (bt a0 x6_1) 100) % 256)) % 256, 48 + (((Int.tdiv (bt a0 x6_1) 10) % 256) % 10), (48 + (Int.tmod (bt a0 x6_1) 10)) % 256] : List Int) : List Int)).bind fun y203 => (if x5_1.length + y203.length < 140737488355328 then (hearsayref01_Escape.l0 k1 a0 a1 (x5_1 ++ y203) (wrap64 (x6_1 + 1))) else (none)))) else ((some (([92, (48 + ((Int.tdiv (bt a0 x6_1) 100) % 256)) % 256, 48 + (((Int.tdiv (bt a0 x6_1) 10) % 256) % 10), (48 + (Int.tmod (bt a0 x6_1) 10)) % 256] : List Int) : List Int)).bind fun y209 => (if x5_1.length + y209.length < 140737488355328 then (hearsayref01_Escape.l0 k1 a0 a1 (x5_1 ++ y209) (wrap64 (x6_1 + 1))) else (none))))) = some r := by rw [if_neg (show ¬ (false = true) by decide)] at H; exact H
            clear H
            have H := H1
            clear H1
            by_cases c13 : (bt a0 x6_1) > 32
            · rw [if_pos c13] at H
              have c13b0 : decide (32 < (bt a0 x6_1)) = true := decide_eq_true c13
              clear c13
              by_cases c14 : (bt a0 x6_1) < 127
              · rw [if_pos c14] at H
                have c14b0 : decide ((bt a0 x6_1) < 127) = true := decide_eq_true c14
                clear c14
                by_cases c15 : x5_1.length < 140737488355328
                · rw [if_pos c15] at H
                  have LMc15 := Aside0.mk c15
                  clear c15
                  obtain ⟨y182, hy182⟩ : ∃ y_ : List Int, y_ = (x5_1 ++ [bt a0 x6_1]) := ⟨_, rfl⟩
                  replace H : (hearsayref01_Escape.l0 k1 a0 a1 y182 (wrap64 (x6_1 + 1))) = some r := by first | (rw [hy182]; with_reducible exact H) | (have H2_ := (Option.bind_some _ _).symm.trans H; rw [hy182]; with_reducible exact H2_) | (have H2_ := (Option.bind_some _ _).symm.trans H; with_reducible exact H2_) | with_reducible exact H | (rw [hy182]; exact H) | exact H
                  have Ny182 := Aside0.mk hy182
                  clear hy182
                  have H' := Aside0.mk H
                  clear H
                  have p5 : 0 ≤ (x6_1 : Int) := of_decide_eq_true (by first | (with_reducible assumption) | assumption)
                  have q5 : x6_1 < (a0.size : Int) := of_decide_eq_true (by first | (with_reducible assumption) | assumption)
                  have hx5 := bt_at a0 x6_1
                  replace p5 := eq_true p5
                  replace q5 := eq_true q5
                  go_wp2_with (first | ((with_reducible refine gate_callee (f := 54) rfl ?_); refine goesL_ (some 33) rfl rfl Try.func54 (by kernel_rfl) rfl #[.int .u8 (bt a0 x6_1), .bool a1] rfl (by (try simp only [List.map_toArray, List.map_cons, List.map_nil]); first | done | rfl | (simp only [List.length_drop, List.length_take]; rfl)) ?_; (with_reducible refine (hearsayref01_marked.calls (bt a0 x6_1) a1 false _ A6.out).mono ?_); rintro e w' ⟨rfl, ⟨nd, rfl⟩⟩; refine ⟨_, rfl, ?_⟩) | ((with_reducible refine gate_builtin (b := .append) (xs := #[.tmp 52, .tmp 54]) rfl ?_); at_builtin; refine Kd.R_append (Kd.int .u8) (w0 := w) w.heap.size rfl (.tmp 52) (.tmp 54) 58 5 (.int .u8 0) 1 rfl Try.underlying58 info5 rfl (by decide) (by omega) u5 x5_1 (bt a0 x6_1) [.int .u8 (bt a0 x6_1)] (fun _ => True) (fun _ => False) rfl rfl ?aP (fun _ hk => hk.elim) ?aF ?aO ?aB ?aS ?aL ?_; (case aP => exact rfl); (case aB => exact (by repeat (first | (with_reducible first | exact HB.out | apply below_alloc | apply pw_below_drewN | apply below_drew1) | exact HB.out))); (case aF => exact (fun _ _ => trivial)); (case aO => exact (by (with_reducible repeat (first | apply Kd.R_alloc | apply Kd.R_drewN | apply Kd.R_drew)); exact HO_5.out)); (case aS => exact (below_size (by repeat (first | (with_reducible first | exact HB.out | apply below_alloc | apply pw_below_drewN | apply below_drew1) | exact HB.out)))); (case aL => have := LMc15.out; omega); intro v183 w16 ho hb hg hat; rw [← Ny182.out] at ho; have n0_ := Aside0.mk (hb); have n1_ := Aside0.mk (ho); clear HB; clear HO_5; have HB := n0_; have HO184 := n1_; clear n0_ n1_; clear ho hb hg hat))
                  go_roundg k1
                  case measure => have := HK1.out; omega
                  case rel => exact ⟨(y182), (wrap64 (x6_1 + 1)), (by first | rfl | (simp; done) | (simp [*]; done)), H', ⟨by have := HK1.out; omega⟩, ⟨by (with_reducible repeat (first | apply Kd.R_alloc | apply Kd.R_drewN | apply Kd.R_drew)); exact HO184.out⟩, ⟨by repeat (first | (with_reducible first | exact HB.out | apply below_alloc | apply pw_below_drewN | apply below_drew1) | exact HB.out)⟩⟩
                · rw [if_neg c15] at H
                  exact absurd H (by simp)
              · rw [if_neg c14] at H
                have c14b0 : decide ((bt a0 x6_1) < 127) = false := decide_eq_false c14
                clear c14
                by_cases c17 : (bt a0 x6_1) = 32
                · rw [if_pos c17] at H
                  have c17b0 : ((bt a0 x6_1) == 32) = true := beq_iff_eq.mpr c17
                  have c17b1 : ((bt a0 x6_1) != 32) = false := bne_eq_false_iff_eq.mpr c17
                  clear c17
                  by_cases c18 : a1 = true
                  · subst c18
                    have H1 : (if x5_1.length < 140737488355328 then (hearsayref01_Escape.l0 k1 a0 true (x5_1 ++ [bt a0 x6_1]) (wrap64 (x6_1 + 1))) else (none)) = some r := by rw [if_pos rfl] at H; exact H
                    clear H
                    have H := H1
                    clear H1
                    by_cases c19 : x5_1.length < 140737488355328
                    · rw [if_pos c19] at H
                      have LMc19 := Aside0.mk c19
                      clear c19
                      obtain ⟨y185, hy185⟩ : ∃ y_ : List Int, y_ = (x5_1 ++ [bt a0 x6_1]) := ⟨_, rfl⟩
                      replace H : (hearsayref01_Escape.l0 k1 a0 true y185 (wrap64 (x6_1 + 1))) = some r := by first | (rw [hy185]; with_reducible exact H) | (have H2_ := (Option.bind_some _ _).symm.trans H; rw [hy185]; with_reducible exact H2_) | (have H2_ := (Option.bind_some _ _).symm.trans H; with_reducible exact H2_) | with_reducible exact H | (rw [hy185]; exact H) | exact H
                      have Ny185 := Aside0.mk hy185
                      clear hy185
                      have H' := Aside0.mk H
                      clear H
                      have p5 : 0 ≤ (x6_1 : Int) := of_decide_eq_true (by first | (with_reducible assumption) | assumption)
                      have q5 : x6_1 < (a0.size : Int) := of_decide_eq_true (by first | (with_reducible assumption) | assumption)
                      have hx5 := bt_at a0 x6_1
                      replace p5 := eq_true p5
                      replace q5 := eq_true q5
                      go_wp2_with (first | ((with_reducible refine gate_callee (f := 54) rfl ?_); refine goesL_ (some 33) rfl rfl Try.func54 (by kernel_rfl) rfl #[.int .u8 (bt a0 x6_1), .bool true] rfl (by (try simp only [List.map_toArray, List.map_cons, List.map_nil]); first | done | rfl | (simp only [List.length_drop, List.length_take]; rfl)) ?_; (with_reducible refine (hearsayref01_marked.calls (bt a0 x6_1) true false _ A6.out).mono ?_); rintro e w' ⟨rfl, ⟨nd, rfl⟩⟩; refine ⟨_, rfl, ?_⟩) | ((with_reducible refine gate_builtin (b := .append) (xs := #[.tmp 52, .tmp 54]) rfl ?_); at_builtin; refine Kd.R_append (Kd.int .u8) (w0 := w) w.heap.size rfl (.tmp 52) (.tmp 54) 58 5 (.int .u8 0) 1 rfl Try.underlying58 info5 rfl (by decide) (by omega) u5 x5_1 (bt a0 x6_1) [.int .u8 (bt a0 x6_1)] (fun _ => True) (fun _ => False) rfl rfl ?aP (fun _ hk => hk.elim) ?aF ?aO ?aB ?aS ?aL ?_; (case aP => exact rfl); (case aB => exact (by repeat (first | (with_reducible first | exact HB.out | apply below_alloc | apply pw_below_drewN | apply below_drew1) | exact HB.out))); (case aF => exact (fun _ _ => trivial)); (case aO => exact (by (with_reducible repeat (first | apply Kd.R_alloc | apply Kd.R_drewN | apply Kd.R_drew)); exact HO_5.out)); (case aS => exact (below_size (by repeat (first | (with_reducible first | exact HB.out | apply below_alloc | apply pw_below_drewN | apply below_drew1) | exact HB.out)))); (case aL => have := LMc19.out; omega); intro v186 w20 ho hb hg hat; rw [← Ny185.out] at ho; have n0_ := Aside0.mk (hb); have n1_ := Aside0.mk (ho); clear HB; clear HO_5; have HB := n0_; have HO187 := n1_; clear n0_ n1_; clear ho hb hg hat))
                      go_roundg k1
                      case measure => have := HK1.out; omega
                      case rel => exact ⟨(y185), (wrap64 (x6_1 + 1)), (by first | rfl | (simp; done) | (simp [*]; done)), H', ⟨by have := HK1.out; omega⟩, ⟨by (with_reducible repeat (first | apply Kd.R_alloc | apply Kd.R_drewN | apply Kd.R_drew)); exact HO187.out⟩, ⟨by repeat (first | (with_reducible first | exact HB.out | apply below_alloc | apply pw_below_drewN | apply below_drew1) | exact HB.out)⟩⟩
                    · rw [if_neg c19] at H
                      exact absurd H (by simp)
                  · replace c18 := Bool.eq_false_iff.mpr c18
                    subst c18
                    have H1 : ((some (([92, (48 + ((Int.tdiv (bt a0 x6_1) 100) % 256)) % 256, 48 + (((Int.tdiv (bt a0 x6_1) 10) % 256) % 10), (48 + (Int.tmod (bt a0 x6_1) 10)) % 256] : List Int) : List Int)).bind fun y188 => (if x5_1.length + y188.length < 140737488355328 then (hearsayref01_Escape.l0 k1 a0 false (x5_1 ++ y188) (wrap64 (x6_1 + 1))) else (none))) = some r := by rw [if_neg (show ¬ (false = true) by decide)] at H; exact H
                    clear H
                    have H := H1
                    clear H1
                    obtain ⟨y188, hy188⟩ : ∃ y_ : List Int, y_ = (([92, (48 + ((Int.tdiv (bt a0 x6_1) 100) % 256)) % 256, 48 + (((Int.tdiv (bt a0 x6_1) 10) % 256) % 10), (48 + (Int.tmod (bt a0 x6_1) 10)) % 256] : List Int)) := ⟨_, rfl⟩
                    replace H : (if x5_1.length + y188.length < 140737488355328 then (hearsayref01_Escape.l0 k1 a0 false (x5_1 ++ y188) (wrap64 (x6_1 + 1))) else (none)) = some r := by first | (rw [hy188]; with_reducible exact H) | (have H2_ := (Option.bind_some _ _).symm.trans H; rw [hy188]; with_reducible exact H2_) | (have H2_ := (Option.bind_some _ _).symm.trans H; with_reducible exact H2_) | with_reducible exact H | (rw [hy188]; exact H) | exact H
                    have Ny188 := Aside0.mk hy188
                    clear hy188
                    by_cases c21 : x5_1.length + y188.length < 140737488355328
                    · rw [if_pos c21] at H
                      have LMc21 := Aside0.mk c21
                      clear c21
                      obtain ⟨y191, hy191⟩ : ∃ y_ : List Int, y_ = (x5_1 ++ y188) := ⟨_, rfl⟩
                      replace H : (hearsayref01_Escape.l0 k1 a0 false y191 (wrap64 (x6_1 + 1))) = some r := by first | (rw [hy191]; with_reducible exact H) | (have H2_ := (Option.bind_some _ _).symm.trans H; rw [hy191]; with_reducible exact H2_) | (have H2_ := (Option.bind_some _ _).symm.trans H; with_reducible exact H2_) | with_reducible exact H | (rw [hy191]; exact H) | exact H
                      have Ny191 := Aside0.mk hy191
                      clear hy191
                      have H' := Aside0.mk H
                      clear H
                      have p5 : 0 ≤ (x6_1 : Int) := of_decide_eq_true (by first | (with_reducible assumption) | assumption)
                      have q5 : x6_1 < (a0.size : Int) := of_decide_eq_true (by first | (with_reducible assumption) | assumption)
                      have hx5 := bt_at a0 x6_1
                      replace p5 := eq_true p5
                      replace q5 := eq_true q5
                      go_wp2_with (first | ((with_reducible refine gate_callee (f := 54) rfl ?_); refine goesL_ (some 33) rfl rfl Try.func54 (by kernel_rfl) rfl #[.int .u8 (bt a0 x6_1), .bool false] rfl (by (try simp only [List.map_toArray, List.map_cons, List.map_nil]); first | done | rfl | (simp only [List.length_drop, List.length_take]; rfl)) ?_; (with_reducible refine (hearsayref01_marked.calls (bt a0 x6_1) false false _ A6.out).mono ?_); rintro e w' ⟨rfl, ⟨nd, rfl⟩⟩; refine ⟨_, rfl, ?_⟩) | ((with_reducible refine gate_dst (N := 28) rfl ?_); refine Kd.R_lit (Kd.int .u8) _ 5 ?hg (N := 28) ?hd (xs := ([92, (48 + ((Int.tdiv (bt a0 x6_1) 100) % 256)) % 256, 48 + (((Int.tdiv (bt a0 x6_1) 10) % 256) % 10), (48 + (Int.tmod (bt a0 x6_1) 10)) % 256] : List Int)) (inner := [.int .u8 92, .int .u8 ((48 + ((Int.tdiv (bt a0 x6_1) 100) % 256)) % 256), .int .u8 (48 + (((Int.tdiv (bt a0 x6_1) 10) % 256) % 10)), .int .u8 ((48 + (Int.tmod (bt a0 x6_1) 10)) % 256)]) (ok := fun _ => True) (okp := fun _ => True) ?hr ?hp (fun _ hk => hk) trivial (Below.refl _ _) (Nat.le_refl _) (by simp) ?_; (case hd => rfl); (case hg => rfl); (case hr => first | (go_simp; done) | (go_simp; rfl)); (case hp => exact (Reps.one (show Kd.M (Kd.int .u8) _ _ _ 92 [.int .u8 92] from rfl) (Reps.one (show Kd.M (Kd.int .u8) _ _ _ ((48 + ((Int.tdiv (bt a0 x6_1) 100) % 256)) % 256) [.int .u8 ((48 + ((Int.tdiv (bt a0 x6_1) 100) % 256)) % 256)] from rfl) (Reps.one (show Kd.M (Kd.int .u8) _ _ _ (48 + (((Int.tdiv (bt a0 x6_1) 10) % 256) % 10)) [.int .u8 (48 + (((Int.tdiv (bt a0 x6_1) 10) % 256) % 10))] from rfl) (Reps.one (show Kd.M (Kd.int .u8) _ _ _ ((48 + (Int.tmod (bt a0 x6_1) 10)) % 256) [.int .u8 ((48 + (Int.tmod (bt a0 x6_1) 10)) % 256)] from rfl) (Reps.none _ _)))))); intro v189 w22 ho23 hb hg_ hnew_; clear hg_ hnew_; (first | rw [← Ny188.out] at ho23 | (simp only [Int.reduceToNat] at ho23; rw [← Ny188.out] at ho23)); have n0_ := Aside0.mk (Kd.R_elder' (by (with_reducible repeat (first | apply Kd.R_alloc | apply Kd.R_drewN | apply Kd.R_drew)); exact HO_5.out) (Kd.R_base ho23) hb); have n1_ := Aside0.mk (Kd.R_lower (Kd.R_new' ho23 (Kd.R_lt (by (with_reducible repeat (first | apply Kd.R_alloc | apply Kd.R_drewN | apply Kd.R_drew)); exact HO_5.out))) (below_size (by repeat (first | (with_reducible first | exact HB.out | apply below_alloc | apply pw_below_drewN | apply below_drew1) | exact HB.out)))); have n2_ := Aside0.mk (below_step (by repeat (first | (with_reducible first | exact HB.out | apply below_alloc | apply pw_below_drewN | apply below_drew1) | exact HB.out)) hb); clear HO_5; clear HB; have HO_5 := n0_; have HO190 := n1_; have HB := n2_; clear n0_ n1_ n2_; clear hb ho23; obtain ⟨Ao25, co25, eo25⟩ := Kd.R_slice HO190.out; subst eo25) | ((with_reducible refine gate_builtin (b := .append) (xs := #[.tmp 17, .tmp 28]) rfl ?_); at_builtin; refine Kd.R_append_rows (Kd.int .u8) (w0 := w) w.heap.size rfl (.tmp 17) (.tmp 28) 58 5 (.int .u8 0) 1 rfl Try.underlying58 info5 rfl (by decide) (by omega) u5 x5_1 y188 _ _ _ (fun k_ => some k_ ≠ (.slice Ao25 y188.length co25 : Value).ownBlock) (fun _ => False) rfl rfl ?aO ?aR (fun _ _ h => h) (fun _ h => h.elim) ?aF ?aB ?aS ?aL ?_; (case aR => repeat (first | exact (Kd.R_reads' HO190.out).2.2 | (with_reducible refine Kd.C_alloc ?_ _) | (with_reducible refine Kd.C_drewN ?_ _) | (with_reducible refine Kd.C_drew ?_))); (case aB => exact (by repeat (first | (with_reducible first | exact HB.out | apply below_alloc | apply pw_below_drewN | apply below_drew1) | exact HB.out))); (case aF => exact (fun k_ hk => Kd.fresh' (Kd.R_lt (by (with_reducible repeat (first | apply Kd.R_alloc | apply Kd.R_drewN | apply Kd.R_drew)); exact HO190.out)) k_ hk)); (case aO => exact (by (with_reducible repeat (first | apply Kd.R_alloc | apply Kd.R_drewN | apply Kd.R_drew)); exact Kd.R_mono HO_5.out (fun _ hk => hk.2))); (case aS => exact (below_size (by repeat (first | (with_reducible first | exact HB.out | apply below_alloc | apply pw_below_drewN | apply below_drew1) | exact HB.out)))); (case aL => have := LMc21.out; omega); intro v192 w24 ho hb hg hat; rw [← Ny191.out] at ho; have n0_ := Aside0.mk (Kd.R_after (ok := (fun _ => True)) (by (with_reducible repeat (first | apply Kd.R_alloc | apply Kd.R_drewN | apply Kd.R_drew)); exact HO190.out) hg hat); have n1_ := Aside0.mk (hb); have n2_ := Aside0.mk (ho); clear HO190; clear HB; clear HO_5; have HO190 := n0_; have HB := n1_; have HO193 := n2_; clear n0_ n1_ n2_; clear ho hb hg hat))
                      go_roundg k1
                      case measure => have := HK1.out; omega
                      case rel => exact ⟨(y191), (wrap64 (x6_1 + 1)), (by first | rfl | (simp; done) | (simp [*]; done)), H', ⟨by have := HK1.out; omega⟩, ⟨by (with_reducible repeat (first | apply Kd.R_alloc | apply Kd.R_drewN | apply Kd.R_drew)); exact Kd.R_mono HO193.out (fun _ hk => trivial)⟩, ⟨by repeat (first | (with_reducible first | exact HB.out | apply below_alloc | apply pw_below_drewN | apply below_drew1) | exact HB.out)⟩⟩
                    · rw [if_neg c21] at H
                      exact absurd H (by simp)
                · rw [if_neg c17] at H
                  have c17b0 : ((bt a0 x6_1) == 32) = false := beq_eq_false_iff_ne.mpr c17
                  have c17b1 : ((bt a0 x6_1) != 32) = true := bne_iff_ne.mpr c17
                  obtain ⟨y194, hy194⟩ : ∃ y_ : List Int, y_ = (([92, (48 + ((Int.tdiv (bt a0 x6_1) 100) % 256)) % 256, 48 + (((Int.tdiv (bt a0 x6_1) 10) % 256) % 10), (48 + (Int.tmod (bt a0 x6_1) 10)) % 256] : List Int)) := ⟨_, rfl⟩
                  replace H : (if x5_1.length + y194.length < 140737488355328 then (hearsayref01_Escape.l0 k1 a0 a1 (x5_1 ++ y194) (wrap64 (x6_1 + 1))) else (none)) = some r := by first | (rw [hy194]; with_reducible exact H) | (have H2_ := (Option.bind_some _ _).symm.trans H; rw [hy194]; with_reducible exact H2_) | (have H2_ := (Option.bind_some _ _).symm.trans H; with_reducible exact H2_) | with_reducible exact H | (rw [hy194]; exact H) | exact H
                  have Ny194 := Aside0.mk hy194
                  clear hy194
                  by_cases c26 : x5_1.length + y194.length < 140737488355328
                  · rw [if_pos c26] at H
                    have LMc26 := Aside0.mk c26
                    clear c26
                    obtain ⟨y197, hy197⟩ : ∃ y_ : List Int, y_ = (x5_1 ++ y194) := ⟨_, rfl⟩
                    replace H : (hearsayref01_Escape.l0 k1 a0 a1 y197 (wrap64 (x6_1 + 1))) = some r := by first | (rw [hy197]; with_reducible exact H) | (have H2_ := (Option.bind_some _ _).symm.trans H; rw [hy197]; with_reducible exact H2_) | (have H2_ := (Option.bind_some _ _).symm.trans H; with_reducible exact H2_) | with_reducible exact H | (rw [hy197]; exact H) | exact H
                    have Ny197 := Aside0.mk hy197
                    clear hy197
                    have H' := Aside0.mk H
                    clear H
                    have p5 : 0 ≤ (x6_1 : Int) := of_decide_eq_true (by first | (with_reducible assumption) | assumption)
                    have q5 : x6_1 < (a0.size : Int) := of_decide_eq_true (by first | (with_reducible assumption) | assumption)
                    have hx5 := bt_at a0 x6_1
                    replace p5 := eq_true p5
                    replace q5 := eq_true q5
                    go_wp2_with (first | ((with_reducible refine gate_callee (f := 54) rfl ?_); refine goesL_ (some 33) rfl rfl Try.func54 (by kernel_rfl) rfl #[.int .u8 (bt a0 x6_1), .bool a1] rfl (by (try simp only [List.map_toArray, List.map_cons, List.map_nil]); first | done | rfl | (simp only [List.length_drop, List.length_take]; rfl)) ?_; (with_reducible refine (hearsayref01_marked.calls (bt a0 x6_1) a1 false _ A6.out).mono ?_); rintro e w' ⟨rfl, ⟨nd, rfl⟩⟩; refine ⟨_, rfl, ?_⟩) | ((with_reducible refine gate_dst (N := 28) rfl ?_); refine Kd.R_lit (Kd.int .u8) _ 5 ?hg (N := 28) ?hd (xs := ([92, (48 + ((Int.tdiv (bt a0 x6_1) 100) % 256)) % 256, 48 + (((Int.tdiv (bt a0 x6_1) 10) % 256) % 10), (48 + (Int.tmod (bt a0 x6_1) 10)) % 256] : List Int)) (inner := [.int .u8 92, .int .u8 ((48 + ((Int.tdiv (bt a0 x6_1) 100) % 256)) % 256), .int .u8 (48 + (((Int.tdiv (bt a0 x6_1) 10) % 256) % 10)), .int .u8 ((48 + (Int.tmod (bt a0 x6_1) 10)) % 256)]) (ok := fun _ => True) (okp := fun _ => True) ?hr ?hp (fun _ hk => hk) trivial (Below.refl _ _) (Nat.le_refl _) (by simp) ?_; (case hd => rfl); (case hg => rfl); (case hr => first | (go_simp; done) | (go_simp; rfl)); (case hp => exact (Reps.one (show Kd.M (Kd.int .u8) _ _ _ 92 [.int .u8 92] from rfl) (Reps.one (show Kd.M (Kd.int .u8) _ _ _ ((48 + ((Int.tdiv (bt a0 x6_1) 100) % 256)) % 256) [.int .u8 ((48 + ((Int.tdiv (bt a0 x6_1) 100) % 256)) % 256)] from rfl) (Reps.one (show Kd.M (Kd.int .u8) _ _ _ (48 + (((Int.tdiv (bt a0 x6_1) 10) % 256) % 10)) [.int .u8 (48 + (((Int.tdiv (bt a0 x6_1) 10) % 256) % 10))] from rfl) (Reps.one (show Kd.M (Kd.int .u8) _ _ _ ((48 + (Int.tmod (bt a0 x6_1) 10)) % 256) [.int .u8 ((48 + (Int.tmod (bt a0 x6_1) 10)) % 256)] from rfl) (Reps.none _ _)))))); intro v195 w27 ho28 hb hg_ hnew_; clear hg_ hnew_; (first | rw [← Ny194.out] at ho28 | (simp only [Int.reduceToNat] at ho28; rw [← Ny194.out] at ho28)); have n0_ := Aside0.mk (Kd.R_elder' (by (with_reducible repeat (first | apply Kd.R_alloc | apply Kd.R_drewN | apply Kd.R_drew)); exact HO_5.out) (Kd.R_base ho28) hb); have n1_ := Aside0.mk (Kd.R_lower (Kd.R_new' ho28 (Kd.R_lt (by (with_reducible repeat (first | apply Kd.R_alloc | apply Kd.R_drewN | apply Kd.R_drew)); exact HO_5.out))) (below_size (by repeat (first | (with_reducible first | exact HB.out | apply below_alloc | apply pw_below_drewN | apply below_drew1) | exact HB.out)))); have n2_ := Aside0.mk (below_step (by repeat (first | (with_reducible first | exact HB.out | apply below_alloc | apply pw_below_drewN | apply below_drew1) | exact HB.out)) hb); clear HO_5; clear HB; have HO_5 := n0_; have HO196 := n1_; have HB := n2_; clear n0_ n1_ n2_; clear hb ho28; obtain ⟨Ao30, co30, eo30⟩ := Kd.R_slice HO196.out; subst eo30) | ((with_reducible refine gate_builtin (b := .append) (xs := #[.tmp 17, .tmp 28]) rfl ?_); at_builtin; refine Kd.R_append_rows (Kd.int .u8) (w0 := w) w.heap.size rfl (.tmp 17) (.tmp 28) 58 5 (.int .u8 0) 1 rfl Try.underlying58 info5 rfl (by decide) (by omega) u5 x5_1 y194 _ _ _ (fun k_ => some k_ ≠ (.slice Ao30 y194.length co30 : Value).ownBlock) (fun _ => False) rfl rfl ?aO ?aR (fun _ _ h => h) (fun _ h => h.elim) ?aF ?aB ?aS ?aL ?_; (case aR => repeat (first | exact (Kd.R_reads' HO196.out).2.2 | (with_reducible refine Kd.C_alloc ?_ _) | (with_reducible refine Kd.C_drewN ?_ _) | (with_reducible refine Kd.C_drew ?_))); (case aB => exact (by repeat (first | (with_reducible first | exact HB.out | apply below_alloc | apply pw_below_drewN | apply below_drew1) | exact HB.out))); (case aF => exact (fun k_ hk => Kd.fresh' (Kd.R_lt (by (with_reducible repeat (first | apply Kd.R_alloc | apply Kd.R_drewN | apply Kd.R_drew)); exact HO196.out)) k_ hk)); (case aO => exact (by (with_reducible repeat (first | apply Kd.R_alloc | apply Kd.R_drewN | apply Kd.R_drew)); exact Kd.R_mono HO_5.out (fun _ hk => hk.2))); (case aS => exact (below_size (by repeat (first | (with_reducible first | exact HB.out | apply below_alloc | apply pw_below_drewN | apply below_drew1) | exact HB.out)))); (case aL => have := LMc26.out; omega); intro v198 w29 ho hb hg hat; rw [← Ny197.out] at ho; have n0_ := Aside0.mk (Kd.R_after (ok := (fun _ => True)) (by (with_reducible repeat (first | apply Kd.R_alloc | apply Kd.R_drewN | apply Kd.R_drew)); exact HO196.out) hg hat); have n1_ := Aside0.mk (hb); have n2_ := Aside0.mk (ho); clear HO196; clear HB; clear HO_5; have HO196 := n0_; have HB := n1_; have HO199 := n2_; clear n0_ n1_ n2_; clear ho hb hg hat))
                    go_roundg k1
                    case measure => have := HK1.out; omega
                    case rel => exact ⟨(y197), (wrap64 (x6_1 + 1)), (by first | rfl | (simp; done) | (simp [*]; done)), H', ⟨by have := HK1.out; omega⟩, ⟨by (with_reducible repeat (first | apply Kd.R_alloc | apply Kd.R_drewN | apply Kd.R_drew)); exact Kd.R_mono HO199.out (fun _ hk => trivial)⟩, ⟨by repeat (first | (with_reducible first | exact HB.out | apply below_alloc | apply pw_below_drewN | apply below_drew1) | exact HB.out)⟩⟩
                  · rw [if_neg c26] at H
                    exact absurd H (by simp)
            · rw [if_neg c13] at H
              have c13b0 : decide (32 < (bt a0 x6_1)) = false := decide_eq_false c13
              clear c13
              by_cases c31 : (bt a0 x6_1) = 32
              · rw [if_pos c31] at H
                have c31b0 : ((bt a0 x6_1) == 32) = true := beq_iff_eq.mpr c31
                have c31b1 : ((bt a0 x6_1) != 32) = false := bne_eq_false_iff_eq.mpr c31
                clear c31
                by_cases c32 : a1 = true
                · subst c32
                  have H1 : (if x5_1.length < 140737488355328 then (hearsayref01_Escape.l0 k1 a0 true (x5_1 ++ [bt a0 x6_1]) (wrap64 (x6_1 + 1))) else (none)) = some r := by rw [if_pos rfl] at H; exact H
                  clear H
                  have H := H1
                  clear H1
                  by_cases c33 : x5_1.length < 140737488355328
                  · rw [if_pos c33] at H
                    have LMc33 := Aside0.mk c33
                    clear c33
                    obtain ⟨y200, hy200⟩ : ∃ y_ : List Int, y_ = (x5_1 ++ [bt a0 x6_1]) := ⟨_, rfl⟩
                    replace H : (hearsayref01_Escape.l0 k1 a0 true y200 (wrap64 (x6_1 + 1))) = some r := by first | (rw [hy200]; with_reducible exact H) | (have H2_ := (Option.bind_some _ _).symm.trans H; rw [hy200]; with_reducible exact H2_) | (have H2_ := (Option.bind_some _ _).symm.trans H; with_reducible exact H2_) | with_reducible exact H | (rw [hy200]; exact H) | exact H
                    have Ny200 := Aside0.mk hy200
                    clear hy200
                    have H' := Aside0.mk H
                    clear H
                    have p5 : 0 ≤ (x6_1 : Int) := of_decide_eq_true (by first | (with_reducible assumption) | assumption)
                    have q5 : x6_1 < (a0.size : Int) := of_decide_eq_true (by first | (with_reducible assumption) | assumption)
                    have hx5 := bt_at a0 x6_1
                    replace p5 := eq_true p5
                    replace q5 := eq_true q5
                    go_wp2_with (first | ((with_reducible refine gate_callee (f := 54) rfl ?_); refine goesL_ (some 33) rfl rfl Try.func54 (by kernel_rfl) rfl #[.int .u8 (bt a0 x6_1), .bool true] rfl (by (try simp only [List.map_toArray, List.map_cons, List.map_nil]); first | done | rfl | (simp only [List.length_drop, List.length_take]; rfl)) ?_; (with_reducible refine (hearsayref01_marked.calls (bt a0 x6_1) true false _ A6.out).mono ?_); rintro e w' ⟨rfl, ⟨nd, rfl⟩⟩; refine ⟨_, rfl, ?_⟩) | ((with_reducible refine gate_builtin (b := .append) (xs := #[.tmp 52, .tmp 54]) rfl ?_); at_builtin; refine Kd.R_append (Kd.int .u8) (w0 := w) w.heap.size rfl (.tmp 52) (.tmp 54) 58 5 (.int .u8 0) 1 rfl Try.underlying58 info5 rfl (by decide) (by omega) u5 x5_1 (bt a0 x6_1) [.int .u8 (bt a0 x6_1)] (fun _ => True) (fun _ => False) rfl rfl ?aP (fun _ hk => hk.elim) ?aF ?aO ?aB ?aS ?aL ?_; (case aP => exact rfl); (case aB => exact (by repeat (first | (with_reducible first | exact HB.out | apply below_alloc | apply pw_below_drewN | apply below_drew1) | exact HB.out))); (case aF => exact (fun _ _ => trivial)); (case aO => exact (by (with_reducible repeat (first | apply Kd.R_alloc | apply Kd.R_drewN | apply Kd.R_drew)); exact HO_5.out)); (case aS => exact (below_size (by repeat (first | (with_reducible first | exact HB.out | apply below_alloc | apply pw_below_drewN | apply below_drew1) | exact HB.out)))); (case aL => have := LMc33.out; omega); intro v201 w34 ho hb hg hat; rw [← Ny200.out] at ho; have n0_ := Aside0.mk (hb); have n1_ := Aside0.mk (ho); clear HB; clear HO_5; have HB := n0_; have HO202 := n1_; clear n0_ n1_; clear ho hb hg hat))
                    go_roundg k1
                    case measure => have := HK1.out; omega
                    case rel => exact ⟨(y200), (wrap64 (x6_1 + 1)), (by first | rfl | (simp; done) | (simp [*]; done)), H', ⟨by have := HK1.out; omega⟩, ⟨by (with_reducible repeat (first | apply Kd.R_alloc | apply Kd.R_drewN | apply Kd.R_drew)); exact HO202.out⟩, ⟨by repeat (first | (with_reducible first | exact HB.out | apply below_alloc | apply pw_below_drewN | apply below_drew1) | exact HB.out)⟩⟩
                  · rw [if_neg c33] at H
                    exact absurd H (by simp)
                · replace c32 := Bool.eq_false_iff.mpr c32
                  subst c32
                  have H1 : ((some (([92, (48 + ((Int.tdiv (bt a0 x6_1) 100) % 256)) % 256, 48 + (((Int.tdiv (bt a0 x6_1) 10) % 256) % 10), (48 + (Int.tmod (bt a0 x6_1) 10)) % 256] : List Int) : List Int)).bind fun y203 => (if x5_1.length + y203.length < 140737488355328 then (hearsayref01_Escape.l0 k1 a0 false (x5_1 ++ y203) (wrap64 (x6_1 + 1))) else (none))) = some r := by rw [if_neg (show ¬ (false = true) by decide)] at H; exact H
                  clear H
                  have H := H1
                  clear H1
                  obtain ⟨y203, hy203⟩ : ∃ y_ : List Int, y_ = (([92, (48 + ((Int.tdiv (bt a0 x6_1) 100) % 256)) % 256, 48 + (((Int.tdiv (bt a0 x6_1) 10) % 256) % 10), (48 + (Int.tmod (bt a0 x6_1) 10)) % 256] : List Int)) := ⟨_, rfl⟩
                  replace H : (if x5_1.length + y203.length < 140737488355328 then (hearsayref01_Escape.l0 k1 a0 false (x5_1 ++ y203) (wrap64 (x6_1 + 1))) else (none)) = some r := by first | (rw [hy203]; with_reducible exact H) | (have H2_ := (Option.bind_some _ _).symm.trans H; rw [hy203]; with_reducible exact H2_) | (have H2_ := (Option.bind_some _ _).symm.trans H; with_reducible exact H2_) | with_reducible exact H | (rw [hy203]; exact H) | exact H
                  have Ny203 := Aside0.mk hy203
                  clear hy203
                  by_cases c35 : x5_1.length + y203.length < 140737488355328
                  · rw [if_pos c35] at H
                    have LMc35 := Aside0.mk c35
                    clear c35
                    obtain ⟨y206, hy206⟩ : ∃ y_ : List Int, y_ = (x5_1 ++ y203) := ⟨_, rfl⟩
                    replace H : (hearsayref01_Escape.l0 k1 a0 false y206 (wrap64 (x6_1 + 1))) = some r := by first | (rw [hy206]; with_reducible exact H) | (have H2_ := (Option.bind_some _ _).symm.trans H; rw [hy206]; with_reducible exact H2_) | (have H2_ := (Option.bind_some _ _).symm.trans H; with_reducible exact H2_) | with_reducible exact H | (rw [hy206]; exact H) | exact H
                    have Ny206 := Aside0.mk hy206
                    clear hy206
                    have H' := Aside0.mk H
                    clear H
                    have p5 : 0 ≤ (x6_1 : Int) := of_decide_eq_true (by first | (with_reducible assumption) | assumption)
                    have q5 : x6_1 < (a0.size : Int) := of_decide_eq_true (by first | (with_reducible assumption) | assumption)
                    have hx5 := bt_at a0 x6_1
                    replace p5 := eq_true p5
                    replace q5 := eq_true q5
                    go_wp2_with (first | ((with_reducible refine gate_callee (f := 54) rfl ?_); refine goesL_ (some 33) rfl rfl Try.func54 (by kernel_rfl) rfl #[.int .u8 (bt a0 x6_1), .bool false] rfl (by (try simp only [List.map_toArray, List.map_cons, List.map_nil]); first | done | rfl | (simp only [List.length_drop, List.length_take]; rfl)) ?_; (with_reducible refine (hearsayref01_marked.calls (bt a0 x6_1) false false _ A6.out).mono ?_); rintro e w' ⟨rfl, ⟨nd, rfl⟩⟩; refine ⟨_, rfl, ?_⟩) | ((with_reducible refine gate_dst (N := 28) rfl ?_); refine Kd.R_lit (Kd.int .u8) _ 5 ?hg (N := 28) ?hd (xs := ([92, (48 + ((Int.tdiv (bt a0 x6_1) 100) % 256)) % 256, 48 + (((Int.tdiv (bt a0 x6_1) 10) % 256) % 10), (48 + (Int.tmod (bt a0 x6_1) 10)) % 256] : List Int)) (inner := [.int .u8 92, .int .u8 ((48 + ((Int.tdiv (bt a0 x6_1) 100) % 256)) % 256), .int .u8 (48 + (((Int.tdiv (bt a0 x6_1) 10) % 256) % 10)), .int .u8 ((48 + (Int.tmod (bt a0 x6_1) 10)) % 256)]) (ok := fun _ => True) (okp := fun _ => True) ?hr ?hp (fun _ hk => hk) trivial (Below.refl _ _) (Nat.le_refl _) (by simp) ?_; (case hd => rfl); (case hg => rfl); (case hr => first | (go_simp; done) | (go_simp; rfl)); (case hp => exact (Reps.one (show Kd.M (Kd.int .u8) _ _ _ 92 [.int .u8 92] from rfl) (Reps.one (show Kd.M (Kd.int .u8) _ _ _ ((48 + ((Int.tdiv (bt a0 x6_1) 100) % 256)) % 256) [.int .u8 ((48 + ((Int.tdiv (bt a0 x6_1) 100) % 256)) % 256)] from rfl) (Reps.one (show Kd.M (Kd.int .u8) _ _ _ (48 + (((Int.tdiv (bt a0 x6_1) 10) % 256) % 10)) [.int .u8 (48 + (((Int.tdiv (bt a0 x6_1) 10) % 256) % 10))] from rfl) (Reps.one (show Kd.M (Kd.int .u8) _ _ _ ((48 + (Int.tmod (bt a0 x6_1) 10)) % 256) [.int .u8 ((48 + (Int.tmod (bt a0 x6_1) 10)) % 256)] from rfl) (Reps.none _ _)))))); intro v204 w36 ho37 hb hg_ hnew_; clear hg_ hnew_; (first | rw [← Ny203.out] at ho37 | (simp only [Int.reduceToNat] at ho37; rw [← Ny203.out] at ho37)); have n0_ := Aside0.mk (Kd.R_elder' (by (with_reducible repeat (first | apply Kd.R_alloc | apply Kd.R_drewN | apply Kd.R_drew)); exact HO_5.out) (Kd.R_base ho37) hb); have n1_ := Aside0.mk (Kd.R_lower (Kd.R_new' ho37 (Kd.R_lt (by (with_reducible repeat (first | apply Kd.R_alloc | apply Kd.R_drewN | apply Kd.R_drew)); exact HO_5.out))) (below_size (by repeat (first | (with_reducible first | exact HB.out | apply below_alloc | apply pw_below_drewN | apply below_drew1) | exact HB.out)))); have n2_ := Aside0.mk (below_step (by repeat (first | (with_reducible first | exact HB.out | apply below_alloc | apply pw_below_drewN | apply below_drew1) | exact HB.out)) hb); clear HO_5; clear HB; have HO_5 := n0_; have HO205 := n1_; have HB := n2_; clear n0_ n1_ n2_; clear hb ho37; obtain ⟨Ao39, co39, eo39⟩ := Kd.R_slice HO205.out; subst eo39) | ((with_reducible refine gate_builtin (b := .append) (xs := #[.tmp 17, .tmp 28]) rfl ?_); at_builtin; refine Kd.R_append_rows (Kd.int .u8) (w0 := w) w.heap.size rfl (.tmp 17) (.tmp 28) 58 5 (.int .u8 0) 1 rfl Try.underlying58 info5 rfl (by decide) (by omega) u5 x5_1 y203 _ _ _ (fun k_ => some k_ ≠ (.slice Ao39 y203.length co39 : Value).ownBlock) (fun _ => False) rfl rfl ?aO ?aR (fun _ _ h => h) (fun _ h => h.elim) ?aF ?aB ?aS ?aL ?_; (case aR => repeat (first | exact (Kd.R_reads' HO205.out).2.2 | (with_reducible refine Kd.C_alloc ?_ _) | (with_reducible refine Kd.C_drewN ?_ _) | (with_reducible refine Kd.C_drew ?_))); (case aB => exact (by repeat (first | (with_reducible first | exact HB.out | apply below_alloc | apply pw_below_drewN | apply below_drew1) | exact HB.out))); (case aF => exact (fun k_ hk => Kd.fresh' (Kd.R_lt (by (with_reducible repeat (first | apply Kd.R_alloc | apply Kd.R_drewN | apply Kd.R_drew)); exact HO205.out)) k_ hk)); (case aO => exact (by (with_reducible repeat (first | apply Kd.R_alloc | apply Kd.R_drewN | apply Kd.R_drew)); exact Kd.R_mono HO_5.out (fun _ hk => hk.2))); (case aS => exact (below_size (by repeat (first | (with_reducible first | exact HB.out | apply below_alloc | apply pw_below_drewN | apply below_drew1) | exact HB.out)))); (case aL => have := LMc35.out; omega); intro v207 w38 ho hb hg hat; rw [← Ny206.out] at ho; have n0_ := Aside0.mk (Kd.R_after (ok := (fun _ => True)) (by (with_reducible repeat (first | apply Kd.R_alloc | apply Kd.R_drewN | apply Kd.R_drew)); exact HO205.out) hg hat); have n1_ := Aside0.mk (hb); have n2_ := Aside0.mk (ho); clear HO205; clear HB; clear HO_5; have HO205 := n0_; have HB := n1_; have HO208 := n2_; clear n0_ n1_ n2_; clear ho hb hg hat))
                    go_roundg k1
                    case measure => have := HK1.out; omega
                    case rel => exact ⟨(y206), (wrap64 (x6_1 + 1)), (by first | rfl | (simp; done) | (simp [*]; done)), H', ⟨by have := HK1.out; omega⟩, ⟨by (with_reducible repeat (first | apply Kd.R_alloc | apply Kd.R_drewN | apply Kd.R_drew)); exact Kd.R_mono HO208.out (fun _ hk => trivial)⟩, ⟨by repeat (first | (with_reducible first | exact HB.out | apply below_alloc | apply pw_below_drewN | apply below_drew1) | exact HB.out)⟩⟩
                  · rw [if_neg c35] at H
                    exact absurd H (by simp)
              · rw [if_neg c31] at H
                have c31b0 : ((bt a0 x6_1) == 32) = false := beq_eq_false_iff_ne.mpr c31
                have c31b1 : ((bt a0 x6_1) != 32) = true := bne_iff_ne.mpr c31
                obtain ⟨y209, hy209⟩ : ∃ y_ : List Int, y_ = (([92, (48 + ((Int.tdiv (bt a0 x6_1) 100) % 256)) % 256, 48 + (((Int.tdiv (bt a0 x6_1) 10) % 256) % 10), (48 + (Int.tmod (bt a0 x6_1) 10)) % 256] : List Int)) := ⟨_, rfl⟩
                replace H : (if x5_1.length + y209.length < 140737488355328 then (hearsayref01_Escape.l0 k1 a0 a1 (x5_1 ++ y209) (wrap64 (x6_1 + 1))) else (none)) = some r := by first | (rw [hy209]; with_reducible exact H) | (have H2_ := (Option.bind_some _ _).symm.trans H; rw [hy209]; with_reducible exact H2_) | (have H2_ := (Option.bind_some _ _).symm.trans H; with_reducible exact H2_) | with_reducible exact H | (rw [hy209]; exact H) | exact H
                have Ny209 := Aside0.mk hy209
                clear hy209
                by_cases c40 : x5_1.length + y209.length < 140737488355328
                · rw [if_pos c40] at H
                  have LMc40 := Aside0.mk c40
                  clear c40
                  obtain ⟨y212, hy212⟩ : ∃ y_ : List Int, y_ = (x5_1 ++ y209) := ⟨_, rfl⟩
                  replace H : (hearsayref01_Escape.l0 k1 a0 a1 y212 (wrap64 (x6_1 + 1))) = some r := by first | (rw [hy212]; with_reducible exact H) | (have H2_ := (Option.bind_some _ _).symm.trans H; rw [hy212]; with_reducible exact H2_) | (have H2_ := (Option.bind_some _ _).symm.trans H; with_reducible exact H2_) | with_reducible exact H | (rw [hy212]; exact H) | exact H
                  have Ny212 := Aside0.mk hy212
                  clear hy212
                  have H' := Aside0.mk H
                  clear H
                  have p5 : 0 ≤ (x6_1 : Int) := of_decide_eq_true (by first | (with_reducible assumption) | assumption)
                  have q5 : x6_1 < (a0.size : Int) := of_decide_eq_true (by first | (with_reducible assumption) | assumption)
                  have hx5 := bt_at a0 x6_1
                  replace p5 := eq_true p5
                  replace q5 := eq_true q5
                  go_wp2_with (first | ((with_reducible refine gate_callee (f := 54) rfl ?_); refine goesL_ (some 33) rfl rfl Try.func54 (by kernel_rfl) rfl #[.int .u8 (bt a0 x6_1), .bool a1] rfl (by (try simp only [List.map_toArray, List.map_cons, List.map_nil]); first | done | rfl | (simp only [List.length_drop, List.length_take]; rfl)) ?_; (with_reducible refine (hearsayref01_marked.calls (bt a0 x6_1) a1 false _ A6.out).mono ?_); rintro e w' ⟨rfl, ⟨nd, rfl⟩⟩; refine ⟨_, rfl, ?_⟩) | ((with_reducible refine gate_dst (N := 28) rfl ?_); refine Kd.R_lit (Kd.int .u8) _ 5 ?hg (N := 28) ?hd (xs := ([92, (48 + ((Int.tdiv (bt a0 x6_1) 100) % 256)) % 256, 48 + (((Int.tdiv (bt a0 x6_1) 10) % 256) % 10), (48 + (Int.tmod (bt a0 x6_1) 10)) % 256] : List Int)) (inner := [.int .u8 92, .int .u8 ((48 + ((Int.tdiv (bt a0 x6_1) 100) % 256)) % 256), .int .u8 (48 + (((Int.tdiv (bt a0 x6_1) 10) % 256) % 10)), .int .u8 ((48 + (Int.tmod (bt a0 x6_1) 10)) % 256)]) (ok := fun _ => True) (okp := fun _ => True) ?hr ?hp (fun _ hk => hk) trivial (Below.refl _ _) (Nat.le_refl _) (by simp) ?_; (case hd => rfl); (case hg => rfl); (case hr => first | (go_simp; done) | (go_simp; rfl)); (case hp => exact (Reps.one (show Kd.M (Kd.int .u8) _ _ _ 92 [.int .u8 92] from rfl) (Reps.one (show Kd.M (Kd.int .u8) _ _ _ ((48 + ((Int.tdiv (bt a0 x6_1) 100) % 256)) % 256) [.int .u8 ((48 + ((Int.tdiv (bt a0 x6_1) 100) % 256)) % 256)] from rfl) (Reps.one (show Kd.M (Kd.int .u8) _ _ _ (48 + (((Int.tdiv (bt a0 x6_1) 10) % 256) % 10)) [.int .u8 (48 + (((Int.tdiv (bt a0 x6_1) 10) % 256) % 10))] from rfl) (Reps.one (show Kd.M (Kd.int .u8) _ _ _ ((48 + (Int.tmod (bt a0 x6_1) 10)) % 256) [.int .u8 ((48 + (Int.tmod (bt a0 x6_1) 10)) % 256)] from rfl) (Reps.none _ _)))))); intro v210 w41 ho42 hb hg_ hnew_; clear hg_ hnew_; (first | rw [← Ny209.out] at ho42 | (simp only [Int.reduceToNat] at ho42; rw [← Ny209.out] at ho42)); have n0_ := Aside0.mk (Kd.R_elder' (by (with_reducible repeat (first | apply Kd.R_alloc | apply Kd.R_drewN | apply Kd.R_drew)); exact HO_5.out) (Kd.R_base ho42) hb); have n1_ := Aside0.mk (Kd.R_lower (Kd.R_new' ho42 (Kd.R_lt (by (with_reducible repeat (first | apply Kd.R_alloc | apply Kd.R_drewN | apply Kd.R_drew)); exact HO_5.out))) (below_size (by repeat (first | (with_reducible first | exact HB.out | apply below_alloc | apply pw_below_drewN | apply below_drew1) | exact HB.out)))); have n2_ := Aside0.mk (below_step (by repeat (first | (with_reducible first | exact HB.out | apply below_alloc | apply pw_below_drewN | apply below_drew1) | exact HB.out)) hb); clear HO_5; clear HB; have HO_5 := n0_; have HO211 := n1_; have HB := n2_; clear n0_ n1_ n2_; clear hb ho42; obtain ⟨Ao44, co44, eo44⟩ := Kd.R_slice HO211.out; subst eo44) | ((with_reducible refine gate_builtin (b := .append) (xs := #[.tmp 17, .tmp 28]) rfl ?_); at_builtin; refine Kd.R_append_rows (Kd.int .u8) (w0 := w) w.heap.size rfl (.tmp 17) (.tmp 28) 58 5 (.int .u8 0) 1 rfl Try.underlying58 info5 rfl (by decide) (by omega) u5 x5_1 y209 _ _ _ (fun k_ => some k_ ≠ (.slice Ao44 y209.length co44 : Value).ownBlock) (fun _ => False) rfl rfl ?aO ?aR (fun _ _ h => h) (fun _ h => h.elim) ?aF ?aB ?aS ?aL ?_; (case aR => repeat (first | exact (Kd.R_reads' HO211.out).2.2 | (with_reducible refine Kd.C_alloc ?_ _) | (with_reducible refine Kd.C_drewN ?_ _) | (with_reducible refine Kd.C_drew ?_))); (case aB => exact (by repeat (first | (with_reducible first | exact HB.out | apply below_alloc | apply pw_below_drewN | apply below_drew1) | exact HB.out))); (case aF => exact (fun k_ hk => Kd.fresh' (Kd.R_lt (by (with_reducible repeat (first | apply Kd.R_alloc | apply Kd.R_drewN | apply Kd.R_drew)); exact HO211.out)) k_ hk)); (case aO => exact (by (with_reducible repeat (first | apply Kd.R_alloc | apply Kd.R_drewN | apply Kd.R_drew)); exact Kd.R_mono HO_5.out (fun _ hk => hk.2))); (case aS => exact (below_size (by repeat (first | (with_reducible first | exact HB.out | apply below_alloc | apply pw_below_drewN | apply below_drew1) | exact HB.out)))); (case aL => have := LMc40.out; omega); intro v213 w43 ho hb hg hat; rw [← Ny212.out] at ho; have n0_ := Aside0.mk (Kd.R_after (ok := (fun _ => True)) (by (with_reducible repeat (first | apply Kd.R_alloc | apply Kd.R_drewN | apply Kd.R_drew)); exact HO211.out) hg hat); have n1_ := Aside0.mk (hb); have n2_ := Aside0.mk (ho); clear HO211; clear HB; clear HO_5; have HO211 := n0_; have HB := n1_; have HO214 := n2_; clear n0_ n1_ n2_; clear ho hb hg hat))
                  go_roundg k1
                  case measure => have := HK1.out; omega
                  case rel => exact ⟨(y212), (wrap64 (x6_1 + 1)), (by first | rfl | (simp; done) | (simp [*]; done)), H', ⟨by have := HK1.out; omega⟩, ⟨by (with_reducible repeat (first | apply Kd.R_alloc | apply Kd.R_drewN | apply Kd.R_drew)); exact Kd.R_mono HO214.out (fun _ hk => trivial)⟩, ⟨by repeat (first | (with_reducible first | exact HB.out | apply below_alloc | apply pw_below_drewN | apply below_drew1) | exact HB.out)⟩⟩
                · rw [if_neg c40] at H
                  exact absurd H (by simp)
        · rw [if_neg c4] at H
          exact absurd H (by simp)
      · rw [if_neg c3] at H
        have c3b0 : decide (x6_1 < (a0.size : Int)) = false := decide_eq_false c3
        clear c3
        obtain rfl := Option.some.inj H
        have hcv45 := own_string (P := Try.prog) Try.underlying58 Try.underlying5 Try.underlying9 (Kd.own_of_R HO_5.out)
        go_wp2
        go_ret
        exact ⟨by first | rfl | (simp [errW_none, errW_some] <;> rfl) | (simp [*, errW_none, errW_some] <;> rfl), by repeat (first | (with_reducible first | exact HB.out | apply below_alloc | apply pw_below_drewN | apply below_drew1) | exact HB.out)⟩

end Go.Proofs.Ytplnknhlgdoliaa.Print
end
section
-- Written by a program of this session, built on the kit's print (it is not the print's own text).
namespace Go.Proofs.Ytplnknhlgdoliaa.Print
open Go.RowKit Go.Proofs.YtplnknhlgdoliaaW.PrintWords Go.Proofs.YtplnknhlgdoliaaW.PrintLast Go.Proofs.YtplnknhlgdoliaaW.PrintMore
attribute [local go_sem] max2_int min2_int max_two min_two max_three min_three max_four min_four   -- for this text's walks alone
set_option linter.unusedVariables false
set_option linter.unusedSimpArgs false

/-! ### hearsayref01_Text: function 30 -/
def hearsayref01_Text.l0 : Nat → List ByteArray → ByteArray → Int → Option (ByteArray)
  | 0, _, _, _ => none
  | k + 1, x3, x5, x6 => if x6 < (x3.length : Int) then (if 0 ≤ x6 then ((hearsayref01_Escape.f k (rdOf ByteArray.empty x3 x6) false).bind fun t257 => (if x5.size + t257.size ≤ 9223372036854775807 then (if (x5 ++ t257).size + 1 ≤ 9223372036854775807 then (hearsayref01_Text.l0 k x3 ((x5 ++ t257) ++ (⟨#[46]⟩ : ByteArray)) (wrap64 (x6 + 1))) else (none)) else (none))) else (none)) else (some x5)
def hearsayref01_Text.f (k : Nat) (a0 : ByteArray) : Option (ByteArray) := (hearsayref01_Split.f k a0).bind fun bt252 => (if bt252.2 = true then (if (bt252.1.length : Int) = 0 then (some (⟨#[46]⟩ : ByteArray)) else (hearsayref01_Text.l0 k bt252.1 (⟨#[]⟩ : ByteArray) 0)) else (some (⟨#[]⟩ : ByteArray)))
theorem hearsayref01_Text.mono_l : ∀ k, (∀ y0 y1 y2, LeO (hearsayref01_Text.l0 k y0 y1 y2) (hearsayref01_Text.l0 (k + 1) y0 y1 y2))
  | 0 => fun _ _ _ r h => by simp [hearsayref01_Text.l0] at h
  | k + 1 => by
    have ih0 := hearsayref01_Text.mono_l k
    · intro y0 y1 y2
      unfold hearsayref01_Text.l0
      repeat' first
      | (with_reducible exact ih0 _ _ _)
      | (with_reducible exact hearsayref01_Escape.mono _ _ _)
      | (with_reducible exact hearsayref01_Split.mono _ _)
      | (with_reducible exact LeO.refl _)
      | (with_reducible exact LeO.none _)
      | (with_reducible refine LeO.ite ?_ ?_)
      | (with_reducible refine LeO.bind ?_ (fun _ => ?_))
      | exact ih0 _ _ _
      | exact hearsayref01_Escape.mono _ _ _
      | exact hearsayref01_Split.mono _ _
      | exact LeO.none _
      | refine LeO.ite ?_ ?_
      | refine LeO.bind ?_ (fun _ => ?_)
theorem hearsayref01_Text.mono : ∀ a0 k, LeO (hearsayref01_Text.f k a0) (hearsayref01_Text.f (k + 1) a0) := by
  intro a0 k
  have ih0 := hearsayref01_Text.mono_l k
  unfold hearsayref01_Text.f
  repeat' first
      | (with_reducible exact ih0 _ _ _)
      | (with_reducible exact hearsayref01_Escape.mono _ _ _)
      | (with_reducible exact hearsayref01_Split.mono _ _)
      | (with_reducible exact LeO.refl _)
      | (with_reducible exact LeO.none _)
      | (with_reducible refine LeO.ite ?_ ?_)
      | (with_reducible refine LeO.bind ?_ (fun _ => ?_))
      | exact ih0 _ _ _
      | exact hearsayref01_Escape.mono _ _ _
      | exact hearsayref01_Split.mono _ _
      | exact LeO.none _
      | refine LeO.ite ?_ ?_
      | refine LeO.bind ?_ (fun _ => ?_)
set_option maxHeartbeats 8000000 in
set_option maxRecDepth 100000 in
theorem hearsayref01_Text.calls (k : Nat) (a0 : ByteArray) (r : ByteArray) (w : World) (h : hearsayref01_Text.f k a0 = some r) :
    Calls Try.prog 30 #[.string a0] w fun e w' => e = .returned (.string r) ∧ Below w.heap.size w w' := by
  have HB := Aside0.mk (Below.refl w.heap.size w)
  have H : ((hearsayref01_Split.f k a0).bind fun bt252 => (if bt252.2 = true then (if (bt252.1.length : Int) = 0 then (some (⟨#[46]⟩ : ByteArray)) else (hearsayref01_Text.l0 k bt252.1 (⟨#[]⟩ : ByteArray) 0)) else (some (⟨#[]⟩ : ByteArray)))) = some r := h
  clear h
  replace H := Option.bind_eq_some_iff.mp H
  obtain ⟨⟨t252, t253⟩, A20, H⟩ := H
  replace H : (if t253 = true then (if (t252.length : Int) = 0 then (some (⟨#[46]⟩ : ByteArray)) else (hearsayref01_Text.l0 k t252 (⟨#[]⟩ : ByteArray) 0)) else (some (⟨#[]⟩ : ByteArray))) = some r := H
  have A2 := Aside0.mk A20
  clear A20
  by_cases c3 : t253 = true
  · subst c3
    have H1 : (if (t252.length : Int) = 0 then (some (⟨#[46]⟩ : ByteArray)) else (hearsayref01_Text.l0 k t252 (⟨#[]⟩ : ByteArray) 0)) = some r := by rw [if_pos rfl] at H; exact H
    clear H
    have H := H1
    clear H1
    by_cases c4 : (t252.length : Int) = 0
    · rw [if_pos c4] at H
      have c4b0 : ((t252.length : Int) == 0) = true := beq_iff_eq.mpr c4
      have c4b1 : ((t252.length : Int) != 0) = false := bne_eq_false_iff_eq.mpr c4
      clear c4
      obtain rfl := Option.some.inj H
      go_enter Try.func30, Try.ntmps30
      go_wp2_with (first | ((with_reducible refine gate_callee (f := 13) rfl ?_); refine goesL_ (some 9) rfl rfl Try.func13 (by kernel_rfl) rfl #[.string a0] rfl (by (try simp only [List.map_toArray, List.map_cons, List.map_nil]); first | done | rfl | (simp only [List.length_drop, List.length_take]; rfl)) ?_; (with_reducible refine (hearsayref01_Split.calls k a0 t252 true _ A2.out).mono ?_); rintro e w5 ⟨v254, rfl, ho0, hb⟩; refine ⟨_, rfl, ?_⟩; have n0_ := Aside0.mk (Kd.R_lower ho0 (below_size (by repeat (first | (with_reducible first | exact HB.out | apply below_alloc | apply pw_below_drewN | apply below_drew1) | exact HB.out)))); have n1_ := Aside0.mk (below_step (by repeat (first | (with_reducible first | exact HB.out | apply below_alloc | apply pw_below_drewN | apply below_drew1) | exact HB.out)) hb); clear HB; have HO255 := n0_; have HB := n1_; clear n0_ n1_; (try clear hb); (try clear hb2); (try clear hk); (try clear hi); (try clear ho0); obtain ⟨Ao6, co6, eo6⟩ := Kd.R_slice HO255.out; subst eo6))
      go_ret
      exact ⟨by first | rfl | (simp [errW_none, errW_some] <;> rfl) | (simp [*, errW_none, errW_some] <;> rfl), by repeat (first | (with_reducible first | exact HB.out | apply below_alloc | apply pw_below_drewN | apply below_drew1) | exact HB.out)⟩
    · rw [if_neg c4] at H
      have c4b0 : ((t252.length : Int) == 0) = false := beq_eq_false_iff_ne.mpr c4
      have c4b1 : ((t252.length : Int) != 0) = true := bne_iff_ne.mpr c4
      have c4b2 : ¬ (t252 = []) := fun h_ => c4 (by rw [h_]; rfl)
      have H' := Aside0.mk H
      clear H
      go_enter Try.func30, Try.ntmps30
      go_wp2_with (first | ((with_reducible refine gate_callee (f := 13) rfl ?_); refine goesL_ (some 9) rfl rfl Try.func13 (by kernel_rfl) rfl #[.string a0] rfl (by (try simp only [List.map_toArray, List.map_cons, List.map_nil]); first | done | rfl | (simp only [List.length_drop, List.length_take]; rfl)) ?_; (with_reducible refine (hearsayref01_Split.calls k a0 t252 true _ A2.out).mono ?_); rintro e w7 ⟨v254, rfl, ho0, hb⟩; refine ⟨_, rfl, ?_⟩; have n0_ := Aside0.mk (Kd.R_lower ho0 (below_size (by repeat (first | (with_reducible first | exact HB.out | apply below_alloc | apply pw_below_drewN | apply below_drew1) | exact HB.out)))); have n1_ := Aside0.mk (below_step (by repeat (first | (with_reducible first | exact HB.out | apply below_alloc | apply pw_below_drewN | apply below_drew1) | exact HB.out)) hb); clear HB; have HO255 := n0_; have HB := n1_; clear n0_ n1_; (try clear hb); (try clear hb2); (try clear hk); (try clear hi); (try clear ho0); obtain ⟨Ao8, co8, eo8⟩ := Kd.R_slice HO255.out; subst eo8))
      go_loopg [5, 6] k (fun kq v5 v6 w' => ∃ (x5_1 : ByteArray) (x6_1 : Int), v5 = .string x5_1 ∧ v6 = .int .i64 x6_1 ∧ Aside0 (hearsayref01_Text.l0 kq t252 x5_1 x6_1 = some r) ∧ Aside0 (kq ≤ k) ∧ Aside0 (Kd.R Kd.string 9 w' w.heap.size (fun _ => True) (.slice Ao8 t252.length co8) t252) ∧ Aside0 (Below w.heap.size w w'))
      case atStart => exact ⟨((⟨#[]⟩ : ByteArray)), (0), (by first | rfl | (simp; done) | (simp [*]; done)), (by first | rfl | (simp; done) | (simp [*]; done)), H', ⟨Nat.le_refl _⟩, ⟨by (with_reducible repeat (first | apply Kd.R_alloc | apply Kd.R_drewN | apply Kd.R_drew)); exact HO255.out⟩, ⟨by repeat (first | (with_reducible first | exact HB.out | apply below_alloc | apply pw_below_drewN | apply below_drew1) | exact HB.out)⟩⟩
      case round =>
        clear H'
        try clear c1
        try clear p2
        try clear c3
        try clear c4
        try clear c4b0
        try clear c4b1
        try clear c4b2
        obtain ⟨x5_1, x6_1, rfl, rfl, HA, HK1, HO_3, HB⟩ := hrel
        cases gk with
        | zero => exact absurd HA.out (by simp [hearsayref01_Text.l0])
        | succ k1 =>
          have H := HA.out
          clear HA
          simp only [hearsayref01_Text.l0] at H
          by_cases c9 : x6_1 < (t252.length : Int)
          · rw [if_pos c9] at H
            have c9b0 : decide (x6_1 < (t252.length : Int)) = true := decide_eq_true c9
            clear c9
            by_cases c10 : 0 ≤ x6_1
            · rw [if_pos c10] at H
              have c10b0 : decide (0 ≤ x6_1) = true := decide_eq_true c10
              clear c10
              replace H := Option.bind_eq_some_iff.mp H
              obtain ⟨t257, A110, H⟩ := H
              replace H : (if x5_1.size + t257.size ≤ 9223372036854775807 then (if (x5_1 ++ t257).size + 1 ≤ 9223372036854775807 then (hearsayref01_Text.l0 k1 t252 ((x5_1 ++ t257) ++ (⟨#[46]⟩ : ByteArray)) (wrap64 (x6_1 + 1))) else (none)) else (none)) = some r := H
              have A11 := Aside0.mk A110
              clear A110
              by_cases c12 : x5_1.size + t257.size ≤ 9223372036854775807
              · rw [if_pos c12] at H
                have c12b0 := eq_true c12
                have c12b1 : decide (x5_1.size + t257.size ≤ 9223372036854775807) = true := decide_eq_true c12
                try have c12b2 : (9223372036854775807 < x5_1.size + t257.size) = False := eq_false (Nat.not_lt.2 c12)
                by_cases c13 : (x5_1 ++ t257).size + 1 ≤ 9223372036854775807
                · rw [if_pos c13] at H
                  have c13b0 := eq_true c13
                  have c13b1 : decide ((x5_1 ++ t257).size + 1 ≤ 9223372036854775807) = true := decide_eq_true c13
                  try have c13b2 : (9223372036854775807 < (x5_1 ++ t257).size + 1) = False := eq_false (Nat.not_lt.2 c13)
                  try have c13b3 : (9223372036854775807 < x5_1.size + t257.size + 1) = False := eq_false (by have h_ := c13; rw [ByteArray.size_append] at h_; omega)
                  have H' := Aside0.mk H
                  clear H
                  have p256 : 0 ≤ (x6_1 : Int) := of_decide_eq_true (by first | (with_reducible assumption) | assumption)
                  have q256 : x6_1 < (t252.length : Int) := of_decide_eq_true (by first | (with_reducible assumption) | assumption)
                  obtain ⟨ad256, e256, hx256_0⟩ := Kd.at_string (Kd.R_reads' HO_3.out).2.2 x6_1 p256 q256
                  cases e256
                  replace p256 := eq_true p256
                  replace q256 := eq_true q256
                  go_wp2_with (first | ((with_reducible refine gate_callee (f := 26) rfl ?_); refine goesL_ (some 28) rfl rfl Try.func26 (by kernel_rfl) rfl #[.string (rdOf ByteArray.empty t252 x6_1), .bool false] rfl (by (try simp only [List.map_toArray, List.map_cons, List.map_nil]); first | done | rfl | (simp only [List.length_drop, List.length_take]; rfl)) ?_; (with_reducible refine (hearsayref01_Escape.calls k1 (rdOf ByteArray.empty t252 x6_1) false t257 _ A11.out).mono ?_); rintro e w14 ⟨rfl, hb⟩; refine ⟨_, rfl, ?_⟩; have n0_ := Aside0.mk (Kd.R_below (by (with_reducible repeat (first | apply Kd.R_alloc | apply Kd.R_drewN | apply Kd.R_drew)); exact HO_3.out) hb); have n1_ := Aside0.mk (below_step (by repeat (first | (with_reducible first | exact HB.out | apply below_alloc | apply pw_below_drewN | apply below_drew1) | exact HB.out)) hb); clear HO_3; clear HB; have HO_3 := n0_; have HB := n1_; clear n0_ n1_; (try clear hb); (try clear hb2); (try clear hk); (try clear hi)))
                  go_roundg k1
                  case measure => have := HK1.out; omega
                  case rel => exact ⟨((x5_1 ++ t257) ++ (⟨#[46]⟩ : ByteArray)), (wrap64 (x6_1 + 1)), (by first | rfl | (simp; done) | (simp [*]; done)), (by first | rfl | (simp; done) | (simp [*]; done)), H', ⟨by have := HK1.out; omega⟩, ⟨by (with_reducible repeat (first | apply Kd.R_alloc | apply Kd.R_drewN | apply Kd.R_drew)); exact HO_3.out⟩, ⟨by repeat (first | (with_reducible first | exact HB.out | apply below_alloc | apply pw_below_drewN | apply below_drew1) | exact HB.out)⟩⟩
                · rw [if_neg c13] at H
                  exact absurd H (by simp)
              · rw [if_neg c12] at H
                exact absurd H (by simp)
            · rw [if_neg c10] at H
              exact absurd H (by simp)
          · rw [if_neg c9] at H
            have c9b0 : decide (x6_1 < (t252.length : Int)) = false := decide_eq_false c9
            clear c9
            obtain rfl := Option.some.inj H
            go_wp2
            go_ret
            exact ⟨by first | rfl | (simp [errW_none, errW_some] <;> rfl) | (simp [*, errW_none, errW_some] <;> rfl), by repeat (first | (with_reducible first | exact HB.out | apply below_alloc | apply pw_below_drewN | apply below_drew1) | exact HB.out)⟩
  · replace c3 := Bool.eq_false_iff.mpr c3
    subst c3
    have H1 : (some (⟨#[]⟩ : ByteArray)) = some r := by rw [if_neg (show ¬ (false = true) by decide)] at H; exact H
    clear H
    have H := H1
    clear H1
    obtain rfl := Option.some.inj H
    go_enter Try.func30, Try.ntmps30
    go_wp2_with (first | ((with_reducible refine gate_callee (f := 13) rfl ?_); refine goesL_ (some 9) rfl rfl Try.func13 (by kernel_rfl) rfl #[.string a0] rfl (by (try simp only [List.map_toArray, List.map_cons, List.map_nil]); first | done | rfl | (simp only [List.length_drop, List.length_take]; rfl)) ?_; (with_reducible refine (hearsayref01_Split.calls k a0 t252 false _ A2.out).mono ?_); rintro e w15 ⟨v254, rfl, ho0, hb⟩; refine ⟨_, rfl, ?_⟩; have n0_ := Aside0.mk (Kd.R_lower ho0 (below_size (by repeat (first | (with_reducible first | exact HB.out | apply below_alloc | apply pw_below_drewN | apply below_drew1) | exact HB.out)))); have n1_ := Aside0.mk (below_step (by repeat (first | (with_reducible first | exact HB.out | apply below_alloc | apply pw_below_drewN | apply below_drew1) | exact HB.out)) hb); clear HB; have HO255 := n0_; have HB := n1_; clear n0_ n1_; (try clear hb); (try clear hb2); (try clear hk); (try clear hi); (try clear ho0)))
    go_ret
    exact ⟨by first | rfl | (simp [errW_none, errW_some] <;> rfl) | (simp [*, errW_none, errW_some] <;> rfl), by repeat (first | (with_reducible first | exact HB.out | apply below_alloc | apply pw_below_drewN | apply below_drew1) | exact HB.out)⟩

end Go.Proofs.Ytplnknhlgdoliaa.Print
end
section
-- Written by a program of this session, built on the kit's print (it is not the print's own text).
namespace Go.Proofs.Ytplnknhlgdoliaa.Print
open Go.RowKit Go.Proofs.YtplnknhlgdoliaaW.PrintWords Go.Proofs.YtplnknhlgdoliaaW.PrintLast Go.Proofs.YtplnknhlgdoliaaW.PrintMore
attribute [local go_sem] max2_int min2_int max_two min_two max_three min_three max_four min_four   -- for this text's walks alone
set_option linter.unusedVariables false
set_option linter.unusedSimpArgs false

/-! ### hearsaylaw01_NameParses: function 6 -/
def hearsaylaw01_NameParses.f (k : Nat) (a0 : ByteArray) (a1 : ByteArray) : Option (Bool) := (name_Parse.f a0 a1).bind fun bt258 => ((hearsayref01_Parse.f k a0 a1).bind fun bt260 => (if bt258.1.toList = bt260.1.toList then (if bt258.2 = bt260.2 then ((name_Text.f a1).bind fun t262 => ((hearsayref01_Text.f k a1).bind fun t263 => (if t262.toList = t263.toList then ((hearsaylaw01_wakes.f k).bind fun t264 => (some t264)) else (some false)))) else (some false)) else (some false)))
theorem hearsaylaw01_NameParses.mono : ∀ a0 a1 k, LeO (hearsaylaw01_NameParses.f k a0 a1) (hearsaylaw01_NameParses.f (k + 1) a0 a1) := by
  intro a0 a1 k
  unfold hearsaylaw01_NameParses.f
  repeat' first
      | (with_reducible exact hearsaylaw01_wakes.mono _)
      | (with_reducible exact hearsayref01_Parse.mono _ _ _)
      | (with_reducible exact hearsayref01_Text.mono _ _)
      | (with_reducible exact LeO.refl _)
      | (with_reducible exact LeO.none _)
      | (with_reducible refine LeO.ite ?_ ?_)
      | (with_reducible refine LeO.bind ?_ (fun _ => ?_))
      | exact hearsaylaw01_wakes.mono _
      | exact hearsayref01_Parse.mono _ _ _
      | exact hearsayref01_Text.mono _ _
      | exact LeO.none _
      | refine LeO.ite ?_ ?_
      | refine LeO.bind ?_ (fun _ => ?_)
set_option maxHeartbeats 8000000 in
set_option maxRecDepth 100000 in
theorem hearsaylaw01_NameParses.calls (k : Nat) (a0 : ByteArray) (a1 : ByteArray) (r : Bool) (w : World) (h : hearsaylaw01_NameParses.f k a0 a1 = some r) :
    Calls Try.prog 6 #[.string a0, .string a1] w fun e w' => e = .returned (.bool r) ∧ Below w.heap.size w w' := by
  have HB := Aside0.mk (Below.refl w.heap.size w)
  have H : ((name_Parse.f a0 a1).bind fun bt258 => ((hearsayref01_Parse.f k a0 a1).bind fun bt260 => (if bt258.1.toList = bt260.1.toList then (if bt258.2 = bt260.2 then ((name_Text.f a1).bind fun t262 => ((hearsayref01_Text.f k a1).bind fun t263 => (if t262.toList = t263.toList then ((hearsaylaw01_wakes.f k).bind fun t264 => (some t264)) else (some false)))) else (some false)) else (some false)))) = some r := h
  clear h
  replace H := Option.bind_eq_some_iff.mp H
  obtain ⟨⟨t258, t259⟩, A30, H⟩ := H
  replace H : ((hearsayref01_Parse.f k a0 a1).bind fun bt260 => (if t258.toList = bt260.1.toList then (if t259 = bt260.2 then ((name_Text.f a1).bind fun t262 => ((hearsayref01_Text.f k a1).bind fun t263 => (if t262.toList = t263.toList then ((hearsaylaw01_wakes.f k).bind fun t264 => (some t264)) else (some false)))) else (some false)) else (some false))) = some r := H
  have A3 := Aside0.mk A30
  clear A30
  replace H := Option.bind_eq_some_iff.mp H
  obtain ⟨⟨t260, t261⟩, A40, H⟩ := H
  replace H : (if t258.toList = t260.toList then (if t259 = t261 then ((name_Text.f a1).bind fun t262 => ((hearsayref01_Text.f k a1).bind fun t263 => (if t262.toList = t263.toList then ((hearsaylaw01_wakes.f k).bind fun t264 => (some t264)) else (some false)))) else (some false)) else (some false)) = some r := H
  have A4 := Aside0.mk A40
  clear A40
  by_cases c5 : t258.toList = t260.toList
  · rw [if_pos c5] at H
    have c5b0 : (t258.toList == t260.toList) = true := beq_iff_eq.mpr c5
    have c5b1 : (t258.toList != t260.toList) = false := bne_eq_false_iff_eq.mpr c5
    clear c5
    by_cases c6 : t259 = t261
    · rw [if_pos c6] at H
      have c6b0 : (t259 == t261) = true := beq_iff_eq.mpr c6
      have c6b1 : (t259 != t261) = false := bne_eq_false_iff_eq.mpr c6
      clear c6
      replace H := Option.bind_eq_some_iff.mp H
      obtain ⟨t262, A70, H⟩ := H
      replace H : ((hearsayref01_Text.f k a1).bind fun t263 => (if t262.toList = t263.toList then ((hearsaylaw01_wakes.f k).bind fun t264 => (some t264)) else (some false))) = some r := H
      have A7 := Aside0.mk A70
      clear A70
      replace H := Option.bind_eq_some_iff.mp H
      obtain ⟨t263, A80, H⟩ := H
      replace H : (if t262.toList = t263.toList then ((hearsaylaw01_wakes.f k).bind fun t264 => (some t264)) else (some false)) = some r := H
      have A8 := Aside0.mk A80
      clear A80
      by_cases c9 : t262.toList = t263.toList
      · rw [if_pos c9] at H
        have c9b0 : (t262.toList == t263.toList) = true := beq_iff_eq.mpr c9
        have c9b1 : (t262.toList != t263.toList) = false := bne_eq_false_iff_eq.mpr c9
        clear c9
        replace H := Option.bind_eq_some_iff.mp H
        obtain ⟨t264, A100, H⟩ := H
        replace H : (some t264) = some r := H
        have A10 := Aside0.mk A100
        clear A100
        obtain rfl := Option.some.inj H
        go_enter Try.func6, Try.ntmps6
        go_wp2_with (first | ((with_reducible refine gate_callee (f := 27) rfl ?_); refine goesL_ (some 12) rfl rfl Try.func27 (by kernel_rfl) rfl #[.string a0, .string a1] rfl (by (try simp only [List.map_toArray, List.map_cons, List.map_nil]); first | done | rfl | (simp only [List.length_drop, List.length_take]; rfl)) ?_; (with_reducible refine (name_Parse.calls a0 a1 t258 t259 _ A3.out).mono ?_); rintro e w11 ⟨rfl, hb⟩; refine ⟨_, rfl, ?_⟩; have n0_ := Aside0.mk (below_step (by repeat (first | (with_reducible first | exact HB.out | apply below_alloc | apply pw_below_drewN | apply below_drew1) | exact HB.out)) hb); clear HB; have HB := n0_; clear n0_; (try clear hb); (try clear hb2); (try clear hk); (try clear hi)) | ((with_reducible refine gate_callee (f := 28) rfl ?_); refine goesL_ (some 18) rfl rfl Try.func28 (by kernel_rfl) rfl #[.string a0, .string a1] rfl (by (try simp only [List.map_toArray, List.map_cons, List.map_nil]); first | done | rfl | (simp only [List.length_drop, List.length_take]; rfl)) ?_; (with_reducible refine (hearsayref01_Parse.calls k a0 a1 t260 t261 _ A4.out).mono ?_); rintro e w12 ⟨rfl, hb⟩; refine ⟨_, rfl, ?_⟩; have n0_ := Aside0.mk (below_step (by repeat (first | (with_reducible first | exact HB.out | apply below_alloc | apply pw_below_drewN | apply below_drew1) | exact HB.out)) hb); clear HB; have HB := n0_; clear n0_; (try clear hb); (try clear hb2); (try clear hk); (try clear hi)) | (go_at_call 29; (with_reducible refine (name_Text.calls a1 t262 _ A7.out).mono ?_); rintro e w13 ⟨rfl, hb⟩; have n0_ := Aside0.mk (below_step (by repeat (first | (with_reducible first | exact HB.out | apply below_alloc | apply pw_below_drewN | apply below_drew1) | exact HB.out)) hb); clear HB; have HB := n0_; clear n0_; (try clear hb); (try clear hb2); (try clear hk); (try clear hi)) | (go_at_call 30; (with_reducible refine (hearsayref01_Text.calls k a1 t263 _ A8.out).mono ?_); rintro e w14 ⟨rfl, hb⟩; have n0_ := Aside0.mk (below_step (by repeat (first | (with_reducible first | exact HB.out | apply below_alloc | apply pw_below_drewN | apply below_drew1) | exact HB.out)) hb); clear HB; have HB := n0_; clear n0_; (try clear hb); (try clear hb2); (try clear hk); (try clear hi)) | (go_at_call 19; (with_reducible refine (hearsaylaw01_wakes.calls k  t264 _ A10.out).mono ?_); rintro e w15 ⟨rfl, hb⟩; have n0_ := Aside0.mk (below_step (by repeat (first | (with_reducible first | exact HB.out | apply below_alloc | apply pw_below_drewN | apply below_drew1) | exact HB.out)) hb); clear HB; have HB := n0_; clear n0_; (try clear hb); (try clear hb2); (try clear hk); (try clear hi)))
        go_ret
        exact ⟨by first | rfl | (simp [errW_none, errW_some] <;> rfl) | (simp [*, errW_none, errW_some] <;> rfl), by repeat (first | (with_reducible first | exact HB.out | apply below_alloc | apply pw_below_drewN | apply below_drew1) | exact HB.out)⟩
      · rw [if_neg c9] at H
        have c9b0 : (t262.toList == t263.toList) = false := beq_eq_false_iff_ne.mpr c9
        have c9b1 : (t262.toList != t263.toList) = true := bne_iff_ne.mpr c9
        obtain rfl := Option.some.inj H
        go_enter Try.func6, Try.ntmps6
        go_wp2_with (first | ((with_reducible refine gate_callee (f := 27) rfl ?_); refine goesL_ (some 12) rfl rfl Try.func27 (by kernel_rfl) rfl #[.string a0, .string a1] rfl (by (try simp only [List.map_toArray, List.map_cons, List.map_nil]); first | done | rfl | (simp only [List.length_drop, List.length_take]; rfl)) ?_; (with_reducible refine (name_Parse.calls a0 a1 t258 t259 _ A3.out).mono ?_); rintro e w16 ⟨rfl, hb⟩; refine ⟨_, rfl, ?_⟩; have n0_ := Aside0.mk (below_step (by repeat (first | (with_reducible first | exact HB.out | apply below_alloc | apply pw_below_drewN | apply below_drew1) | exact HB.out)) hb); clear HB; have HB := n0_; clear n0_; (try clear hb); (try clear hb2); (try clear hk); (try clear hi)) | ((with_reducible refine gate_callee (f := 28) rfl ?_); refine goesL_ (some 18) rfl rfl Try.func28 (by kernel_rfl) rfl #[.string a0, .string a1] rfl (by (try simp only [List.map_toArray, List.map_cons, List.map_nil]); first | done | rfl | (simp only [List.length_drop, List.length_take]; rfl)) ?_; (with_reducible refine (hearsayref01_Parse.calls k a0 a1 t260 t261 _ A4.out).mono ?_); rintro e w17 ⟨rfl, hb⟩; refine ⟨_, rfl, ?_⟩; have n0_ := Aside0.mk (below_step (by repeat (first | (with_reducible first | exact HB.out | apply below_alloc | apply pw_below_drewN | apply below_drew1) | exact HB.out)) hb); clear HB; have HB := n0_; clear n0_; (try clear hb); (try clear hb2); (try clear hk); (try clear hi)) | (go_at_call 29; (with_reducible refine (name_Text.calls a1 t262 _ A7.out).mono ?_); rintro e w18 ⟨rfl, hb⟩; have n0_ := Aside0.mk (below_step (by repeat (first | (with_reducible first | exact HB.out | apply below_alloc | apply pw_below_drewN | apply below_drew1) | exact HB.out)) hb); clear HB; have HB := n0_; clear n0_; (try clear hb); (try clear hb2); (try clear hk); (try clear hi)) | (go_at_call 30; (with_reducible refine (hearsayref01_Text.calls k a1 t263 _ A8.out).mono ?_); rintro e w19 ⟨rfl, hb⟩; have n0_ := Aside0.mk (below_step (by repeat (first | (with_reducible first | exact HB.out | apply below_alloc | apply pw_below_drewN | apply below_drew1) | exact HB.out)) hb); clear HB; have HB := n0_; clear n0_; (try clear hb); (try clear hb2); (try clear hk); (try clear hi)))
        go_ret
        exact ⟨by first | rfl | (simp [errW_none, errW_some] <;> rfl) | (simp [*, errW_none, errW_some] <;> rfl), by repeat (first | (with_reducible first | exact HB.out | apply below_alloc | apply pw_below_drewN | apply below_drew1) | exact HB.out)⟩
    · rw [if_neg c6] at H
      have c6b0 : (t259 == t261) = false := beq_eq_false_iff_ne.mpr c6
      have c6b1 : (t259 != t261) = true := bne_iff_ne.mpr c6
      obtain rfl := Option.some.inj H
      go_enter Try.func6, Try.ntmps6
      go_wp2_with (first | ((with_reducible refine gate_callee (f := 27) rfl ?_); refine goesL_ (some 12) rfl rfl Try.func27 (by kernel_rfl) rfl #[.string a0, .string a1] rfl (by (try simp only [List.map_toArray, List.map_cons, List.map_nil]); first | done | rfl | (simp only [List.length_drop, List.length_take]; rfl)) ?_; (with_reducible refine (name_Parse.calls a0 a1 t258 t259 _ A3.out).mono ?_); rintro e w20 ⟨rfl, hb⟩; refine ⟨_, rfl, ?_⟩; have n0_ := Aside0.mk (below_step (by repeat (first | (with_reducible first | exact HB.out | apply below_alloc | apply pw_below_drewN | apply below_drew1) | exact HB.out)) hb); clear HB; have HB := n0_; clear n0_; (try clear hb); (try clear hb2); (try clear hk); (try clear hi)) | ((with_reducible refine gate_callee (f := 28) rfl ?_); refine goesL_ (some 18) rfl rfl Try.func28 (by kernel_rfl) rfl #[.string a0, .string a1] rfl (by (try simp only [List.map_toArray, List.map_cons, List.map_nil]); first | done | rfl | (simp only [List.length_drop, List.length_take]; rfl)) ?_; (with_reducible refine (hearsayref01_Parse.calls k a0 a1 t260 t261 _ A4.out).mono ?_); rintro e w21 ⟨rfl, hb⟩; refine ⟨_, rfl, ?_⟩; have n0_ := Aside0.mk (below_step (by repeat (first | (with_reducible first | exact HB.out | apply below_alloc | apply pw_below_drewN | apply below_drew1) | exact HB.out)) hb); clear HB; have HB := n0_; clear n0_; (try clear hb); (try clear hb2); (try clear hk); (try clear hi)))
      go_ret
      exact ⟨by first | rfl | (simp [errW_none, errW_some] <;> rfl) | (simp [*, errW_none, errW_some] <;> rfl), by repeat (first | (with_reducible first | exact HB.out | apply below_alloc | apply pw_below_drewN | apply below_drew1) | exact HB.out)⟩
  · rw [if_neg c5] at H
    have c5b0 : (t258.toList == t260.toList) = false := beq_eq_false_iff_ne.mpr c5
    have c5b1 : (t258.toList != t260.toList) = true := bne_iff_ne.mpr c5
    obtain rfl := Option.some.inj H
    go_enter Try.func6, Try.ntmps6
    go_wp2_with (first | ((with_reducible refine gate_callee (f := 27) rfl ?_); refine goesL_ (some 12) rfl rfl Try.func27 (by kernel_rfl) rfl #[.string a0, .string a1] rfl (by (try simp only [List.map_toArray, List.map_cons, List.map_nil]); first | done | rfl | (simp only [List.length_drop, List.length_take]; rfl)) ?_; (with_reducible refine (name_Parse.calls a0 a1 t258 t259 _ A3.out).mono ?_); rintro e w22 ⟨rfl, hb⟩; refine ⟨_, rfl, ?_⟩; have n0_ := Aside0.mk (below_step (by repeat (first | (with_reducible first | exact HB.out | apply below_alloc | apply pw_below_drewN | apply below_drew1) | exact HB.out)) hb); clear HB; have HB := n0_; clear n0_; (try clear hb); (try clear hb2); (try clear hk); (try clear hi)) | ((with_reducible refine gate_callee (f := 28) rfl ?_); refine goesL_ (some 18) rfl rfl Try.func28 (by kernel_rfl) rfl #[.string a0, .string a1] rfl (by (try simp only [List.map_toArray, List.map_cons, List.map_nil]); first | done | rfl | (simp only [List.length_drop, List.length_take]; rfl)) ?_; (with_reducible refine (hearsayref01_Parse.calls k a0 a1 t260 t261 _ A4.out).mono ?_); rintro e w23 ⟨rfl, hb⟩; refine ⟨_, rfl, ?_⟩; have n0_ := Aside0.mk (below_step (by repeat (first | (with_reducible first | exact HB.out | apply below_alloc | apply pw_below_drewN | apply below_drew1) | exact HB.out)) hb); clear HB; have HB := n0_; clear n0_; (try clear hb); (try clear hb2); (try clear hk); (try clear hi)))
    go_ret
    exact ⟨by first | rfl | (simp [errW_none, errW_some] <;> rfl) | (simp [*, errW_none, errW_some] <;> rfl), by repeat (first | (with_reducible first | exact HB.out | apply below_alloc | apply pw_below_drewN | apply below_drew1) | exact HB.out)⟩

/-- THE ONE PURE STATEMENT of hearsaylaw01_NameParses: yours. -/
def hearsaylaw01_NameParses.Pure : Prop := ∀ (a0 : ByteArray) (a1 : ByteArray), a0.size ≤ 140737488351232 → a1.size ≤ 140737488351232 → ∃ k, hearsaylaw01_NameParses.f k a0 a1 = some true
theorem hearsaylaw01_NameParses.walk (P : hearsaylaw01_NameParses.Pure) (a0 : ByteArray) (a1 : ByteArray) (w : World) (w0 : a0.size ≤ 140737488351232) (w1 : a1.size ≤ 140737488351232) :
    Calls Try.prog 6 #[.string a0, .string a1] w fun e w' => e = .returned (.bool true) ∧ Below w.heap.size w w' := by
  obtain ⟨k, h⟩ := P a0 a1 w0 w1
  refine (hearsaylaw01_NameParses.calls k a0 a1 true w h).mono ?_
  rintro e w' ⟨rfl, hd⟩
  exact ⟨rfl, hd⟩

end Go.Proofs.Ytplnknhlgdoliaa.Print
end
section
-- Written by a program of this session, built on the kit's print (it is not the print's own text).
namespace Go.Proofs.Ytplnknhlgdoliaa.Print
open Go.RowKit Go.Proofs.YtplnknhlgdoliaaW.PrintWords Go.Proofs.YtplnknhlgdoliaaW.PrintLast Go.Proofs.YtplnknhlgdoliaaW.PrintMore
attribute [local go_sem] max2_int min2_int max_two min_two max_three min_three max_four min_four   -- for this text's walks alone
set_option linter.unusedVariables false
set_option linter.unusedSimpArgs false

/-! ### name_low: function 44 -/
def name_low.f (a0 : Int) : Option (Int) := if 65 ≤ a0 then (if a0 ≤ 90 then (some (Go.bits .or .u8 a0 32)) else (some a0)) else (some a0)
set_option maxHeartbeats 8000000 in
set_option maxRecDepth 100000 in
theorem name_low.calls (a0 : Int) (r : Int) (w : World) (h : name_low.f a0 = some r) :
    Calls Try.prog 44 #[.int .u8 a0] w fun e w' => e = .returned (.int .u8 r) ∧ Drawn0 w w' := by
  have H : (if 65 ≤ a0 then (if a0 ≤ 90 then (some (Go.bits .or .u8 a0 32)) else (some a0)) else (some a0)) = some r := h
  clear h
  by_cases c2 : 65 ≤ a0
  · rw [if_pos c2] at H
    have c2b0 : decide (65 ≤ a0) = true := decide_eq_true c2
    clear c2
    by_cases c3 : a0 ≤ 90
    · rw [if_pos c3] at H
      have c3b0 : decide (a0 ≤ 90) = true := decide_eq_true c3
      clear c3
      obtain rfl := Option.some.inj H
      go_enter Try.func44, Try.ntmps44
      go_wp2
      go_ret
      exact ⟨by first | rfl | (simp; done) | (simp [*]; done), by repeat (first | exact Drawn0.refl _ | apply Drawn0.step)⟩
    · rw [if_neg c3] at H
      have c3b0 : decide (a0 ≤ 90) = false := decide_eq_false c3
      clear c3
      obtain rfl := Option.some.inj H
      go_enter Try.func44, Try.ntmps44
      go_wp2
      go_ret
      exact ⟨by first | rfl | (simp; done) | (simp [*]; done), by repeat (first | exact Drawn0.refl _ | apply Drawn0.step)⟩
  · rw [if_neg c2] at H
    have c2b0 : decide (65 ≤ a0) = false := decide_eq_false c2
    clear c2
    obtain rfl := Option.some.inj H
    go_enter Try.func44, Try.ntmps44
    go_wp2
    go_ret
    exact ⟨by first | rfl | (simp; done) | (simp [*]; done), by repeat (first | exact Drawn0.refl _ | apply Drawn0.step)⟩

end Go.Proofs.Ytplnknhlgdoliaa.Print
end
section
/- name.Cmp, walked: the order of names. -/
namespace Go.Proofs.Ytplnknhlgdoliaa.Print
set_option linter.unusedVariables false
set_option linter.unusedSimpArgs false
open Go.RowKit Go.Proofs.YtplnknhlgdoliaaW.PrintWords Go.Proofs.YtplnknhlgdoliaaW.PrintLast Go.Proofs.YtplnknhlgdoliaaW.PrintMore
theorem name_low_f (c : Int) : name_low.f c = some (low1 c) := by
  unfold name_low.f low1
  by_cases h0 : 65 ≤ c
  · by_cases h1 : c ≤ 90
    · rw [if_pos h0, if_pos h1, if_pos ⟨h0, h1⟩, low_or c h0 h1]
    · rw [if_pos h0, if_neg h1, if_neg (by omega)]
  · rw [if_neg h0, if_neg (by omega)]
/-- two rows of bytes in small letters, one byte behind the other; then their lengths -/
def diffB : List Int → List Int → Int
  | x :: xs, y :: ys => if low1 x = low1 y then diffB xs ys else low1 x - low1 y
  | xs, ys => (xs.length : Int) - (ys.length : Int)
/-- the same of two lists of labels, from their ends on; here each list is turned round -/
def diffL : List ByteArray → List ByteArray → Int
  | x :: xs, y :: ys => if diffB (bytesOf x) (bytesOf y) = 0 then diffL xs ys else diffB (bytesOf x) (bytesOf y)
  | xs, ys => (xs.length : Int) - (ys.length : Int)
def clamp (c : Int) : Int := max (-1) (min 1 c)
def cmpP (a b : ByteArray) : Int :=
  match dec a, dec b with
  | none, none => Lib.compareBytes a.data.toList b.data.toList
  | none, some _ => 1
  | some _, none => -1
  | some L, some M => clamp (diffL L.reverse M.reverse)
def name_Cmp.f (a b : ByteArray) : Option Int := some (cmpP a b)
theorem low1_range {c : Int} (h0 : 0 ≤ c) (h1 : c < 256) : 0 ≤ low1 c ∧ low1 c < 256 := by unfold low1; split <;> omega
theorem diffB_at {x y : ByteArray} {k : Nat} (hx : k < x.size) (hy : k < y.size) : diffB ((bytesOf x).drop k) ((bytesOf y).drop k) = if low1 (bt x (k : Int)) = low1 (bt y (k : Int)) then diffB ((bytesOf x).drop (k + 1)) ((bytesOf y).drop (k + 1)) else low1 (bt x (k : Int)) - low1 (bt y (k : Int)) := by
  rw [bo_drop x k hx, bo_drop y k hy, diffB]
theorem diffB_end {x y : ByteArray} {k : Nat} (h : ¬ (k < x.size ∧ k < y.size)) (hk : k ≤ x.size ∧ k ≤ y.size) : diffB ((bytesOf x).drop k) ((bytesOf y).drop k) = (x.size : Int) - (y.size : Int) := by
  have e1 : ((bytesOf x).drop k).length = x.size - k := by rw [List.length_drop, bytesOf_length]
  have e2 : ((bytesOf y).drop k).length = y.size - k := by rw [List.length_drop, bytesOf_length]
  cases h1 : (bytesOf x).drop k with
  | nil => rw [h1] at e1; cases h2 : (bytesOf y).drop k with
    | nil => rw [h2] at e2; simp [diffB] at e1 e2 ⊢; omega
    | cons d r => rw [h2] at e2; simp [diffB] at e1 e2 ⊢; omega
  | cons c q => rw [h1] at e1; cases h2 : (bytesOf y).drop k with
    | nil => rw [h2] at e2; simp [diffB] at e1 e2 ⊢; omega
    | cons d r => rw [h2] at e2; simp at e1 e2; omega
theorem low_quiet (x lx : Int) (w2 : World) (ne n : Nat) (h : name_low.f x = some lx) : Calls Try.prog 44 #[.int .u8 x] (w2.drewN (ne + n)) fun e w'' => e = .returned (.int .u8 lx) ∧ ∃ m, w'' = w2.drewN (ne + m) := by
  refine (name_low.calls x lx _ h).mono (fun e w'' hh => ⟨hh.1, ?_⟩)
  obtain ⟨m, hm⟩ := hh.2.out
  exact ⟨n + m, by rw [hm, World.drewN_drewN, Nat.add_assoc]⟩
theorem take_rev {L : List ByteArray} {a : Nat} {s : ByteArray} (h : L[a]? = some s) : (L.take (a + 1)).reverse = s :: (L.take a).reverse := by rw [take_succ' h, List.reverse_append]; rfl
theorem take_split {L : List ByteArray} {a : Nat} {s : ByteArray} (h : L[a]? = some s) : L = L.take a ++ s :: L.drop (a + 1) := by
  obtain ⟨hl, rfl⟩ := List.getElem?_eq_some_iff.1 h
  rw [List.getElem_cons_drop hl, List.take_append_drop]
/-- what the code asks at label number a -/
theorem cmp_label {n : ByteArray} {L : List ByteArray} (h : dec n = some L) {a : Nat} {s : ByteArray} (hs : L[a]? = some s) :
    ∃ p : Nat, rd (offs 0 L) (a : Int) = (p : Int) ∧ p < n.size ∧ bt n (p : Int) = s.size ∧ p + 1 + s.size ≤ n.size ∧ n.extract (p + 1) (p + 1 + s.size) = s ∧ s.size ≤ 63 ∧ n.size ≤ 255 := by
  have e := take_split hs
  have hd := (dec_some h).2.2
  have hn := (dec_some h).1
  have hbs : badLab s = false := by
    rw [List.any_eq_false] at hd; simpa using hd s (List.mem_of_getElem? hs)
  have ha : (L.take a).length = a := by have := (List.getElem?_eq_some_iff.1 hs).1; simp; omega
  rw [e] at h
  obtain ⟨h1, h2, h3⟩ := label_at h
  have ho := offs_at (L.take a) 0 s (L.drop (a + 1))
  rw [← e, ha, Nat.zero_add] at ho
  refine ⟨(glue (L.take a)).length, by simp [rd, List.getD_eq_getElem?_getD, ho], by omega, h1, by omega, h3, (bad_false hbs).2, hn⟩
def CmpInv (L M : List ByteArray) (a b : Nat) : Prop := a ≤ L.length ∧ b ≤ M.length ∧ a + M.length = b + L.length ∧ diffL (L.take a).reverse (M.take b).reverse = diffL L.reverse M.reverse
theorem cmp0 (L M : List ByteArray) : CmpInv L M L.length M.length := ⟨Nat.le_refl _, Nat.le_refl _, by omega, by rw [List.take_length, List.take_length]⟩
theorem cmp_step {L M : List ByteArray} {a b : Nat} {s u : ByteArray} (h : CmpInv L M (a + 1) (b + 1)) (hs : L[a]? = some s) (hu : M[b]? = some u) (h0 : diffB (bytesOf s) (bytesOf u) = 0) : CmpInv L M a b := by
  obtain ⟨h1, h2, h3, h4⟩ := h
  refine ⟨by omega, by omega, by omega, ?_⟩
  rw [← h4, take_rev hs, take_rev hu, diffL, if_pos h0]
theorem cmp_out {L M : List ByteArray} {a b : Nat} {s u : ByteArray} (h : CmpInv L M (a + 1) (b + 1)) (hs : L[a]? = some s) (hu : M[b]? = some u) (h0 : diffB (bytesOf s) (bytesOf u) ≠ 0) : diffL L.reverse M.reverse = diffB (bytesOf s) (bytesOf u) := by
  rw [← h.2.2.2, take_rev hs, take_rev hu, diffL, if_neg h0]
theorem cmp_end {L M : List ByteArray} {a b : Nat} (h : CmpInv L M a b) (h0 : a = 0 ∨ b = 0) : diffL L.reverse M.reverse = (L.length : Int) - (M.length : Int) := by
  obtain ⟨h1, h2, h3, h4⟩ := h
  have e1 : (L.take a).reverse.length = a := by simp; omega
  have e2 : (M.take b).reverse.length = b := by simp; omega
  rw [← h4]
  rcases h0 with rfl | rfl
  · rw [List.take_zero, List.reverse_nil]
    unfold diffL
    rw [e2]
    simp; omega
  · rw [List.take_zero (l := M), List.reverse_nil]
    cases h5 : (L.take a).reverse with
    | nil => rw [h5] at e1; simp [diffL] at e1 ⊢; omega
    | cons x xs => rw [h5] at e1; simp [diffL] at e1 ⊢; omega
set_option maxHeartbeats 4000000 in
set_option maxRecDepth 100000 in
theorem name_Cmp.calls (a0 a1 : ByteArray) (r : Int) (w : World) (h : name_Cmp.f a0 a1 = some r) :
    Calls Try.prog 41 #[.string a0, .string a1] w fun e w' => e = .returned (.int .i64 r) ∧ Below w.heap.size w w' := by
  unfold name_Cmp.f cmpP at h
  simp only [Option.some.injEq] at h
  obtain ⟨la, hEa, hLa⟩ := starts_f a0
  obtain ⟨lb, hEb, hLb⟩ := starts_f a1
  obtain ⟨ka, hka⟩ := hEa.rounds
  obtain ⟨kb, hkb⟩ := hEb.rounds
  have HB := Aside0.mk (Below.refl w.heap.size w)
  cases hda : dec a0 with
  | none =>
    rw [hda] at h hka
    have HKA : Aside0 (name_starts.f ka a0 = some (la, false)) := ⟨hka⟩
    cases hdb : dec a1 with
    | none =>
      rw [hdb] at h hkb
      have HKB : Aside0 (name_starts.f kb a1 = some (lb, false)) := ⟨hkb⟩
      simp only [] at h
      subst h
      clear hda hdb hka hkb hLa hLb hEa hEb
      go_enter Try.func41, Try.ntmps41
      go_wp2; go_step3
      go_wp2_with (first | ((with_reducible refine gate_callee (f := 43) rfl ?_); refine goesL_ (some 17) rfl rfl Try.func43 (by kernel_rfl) rfl #[.string a0] rfl (by (try simp only [List.map_toArray, List.map_cons, List.map_nil]); first | done | rfl) ?_; (with_reducible refine (name_starts.calls ka a0 la false _ HKA.out).mono ?_); rintro e w1 ⟨v1, rfl, ho1, hb1⟩; refine ⟨_, rfl, ?_⟩; obtain ⟨A_1, c_1, rfl, hle1, hC1⟩ := Kd.R_reads ho1; have HB1 := Aside0.mk (HB.out.trans (below_to hb1 HB.out.size)); have HC1 := Aside0.mk hC1; have HR1 := Aside0.mk ho1; clear ho1 hb1 hC1 hle1) | ((with_reducible refine gate_callee (f := 43) rfl ?_); refine goesL_ (some 22) rfl rfl Try.func43 (by kernel_rfl) rfl #[.string a1] rfl (by (try simp only [List.map_toArray, List.map_cons, List.map_nil]); first | done | rfl) ?_; (with_reducible refine (name_starts.calls kb a1 lb false _ HKB.out).mono ?_); rintro e w2 ⟨v2, rfl, ho2, hb2⟩; refine ⟨_, rfl, ?_⟩; obtain ⟨A_2, c_2, rfl, hle2, hC2⟩ := Kd.R_reads ho2; have HC1 := Aside0.mk (Kd.C_below HC1.out hb2); have HB2 := Aside0.mk (HB1.out.trans (below_to hb2 HB1.out.size)); have HC2 := Aside0.mk hC2; have HR2 := Aside0.mk ho2; clear ho2 hb2 hC2 hle2) | ((with_reducible refine gate_callee (f := 59) rfl ?_); refine goesL_ (some 34) rfl rfl Try.func59 (by kernel_rfl) rfl #[.string a0, .string a1] rfl (by (try simp only [List.map_toArray, List.map_cons, List.map_nil]); first | done | rfl) ?_; (with_reducible refine (Try.strings_Compare a0 a1 _).mono ?_); rintro e w3 ⟨rfl, rfl⟩; refine ⟨_, rfl, ?_⟩))
      try rw [Exit.noGoto_ret]
      go_ret
      exact ⟨rfl, HB2.out⟩
    | some M =>
      rw [hdb] at h hkb
      have HKB : Aside0 (name_starts.f kb a1 = some (lb, true)) := ⟨hkb⟩
      simp only [] at h
      subst h
      clear hda hdb hka hkb hLa hLb hEa hEb
      go_enter Try.func41, Try.ntmps41
      go_wp2; go_step3
      go_wp2_with (first | ((with_reducible refine gate_callee (f := 43) rfl ?_); refine goesL_ (some 17) rfl rfl Try.func43 (by kernel_rfl) rfl #[.string a0] rfl (by (try simp only [List.map_toArray, List.map_cons, List.map_nil]); first | done | rfl) ?_; (with_reducible refine (name_starts.calls ka a0 la false _ HKA.out).mono ?_); rintro e w1 ⟨v1, rfl, ho1, hb1⟩; refine ⟨_, rfl, ?_⟩; obtain ⟨A_1, c_1, rfl, hle1, hC1⟩ := Kd.R_reads ho1; have HB1 := Aside0.mk (HB.out.trans (below_to hb1 HB.out.size)); have HC1 := Aside0.mk hC1; have HR1 := Aside0.mk ho1; clear ho1 hb1 hC1 hle1) | ((with_reducible refine gate_callee (f := 43) rfl ?_); refine goesL_ (some 22) rfl rfl Try.func43 (by kernel_rfl) rfl #[.string a1] rfl (by (try simp only [List.map_toArray, List.map_cons, List.map_nil]); first | done | rfl) ?_; (with_reducible refine (name_starts.calls kb a1 lb true _ HKB.out).mono ?_); rintro e w2 ⟨v2, rfl, ho2, hb2⟩; refine ⟨_, rfl, ?_⟩; obtain ⟨A_2, c_2, rfl, hle2, hC2⟩ := Kd.R_reads ho2; have HC1 := Aside0.mk (Kd.C_below HC1.out hb2); have HB2 := Aside0.mk (HB1.out.trans (below_to hb2 HB1.out.size)); have HC2 := Aside0.mk hC2; have HR2 := Aside0.mk ho2; clear ho2 hb2 hC2 hle2))
      try rw [Exit.noGoto_ret]
      go_ret
      exact ⟨rfl, HB2.out⟩
  | some L =>
    rw [hda] at h hka
    have HKA : Aside0 (name_starts.f ka a0 = some (la, true)) := ⟨hka⟩
    cases hdb : dec a1 with
    | none =>
      rw [hdb] at h hkb
      have HKB : Aside0 (name_starts.f kb a1 = some (lb, false)) := ⟨hkb⟩
      simp only [] at h
      subst h
      clear hda hdb hka hkb hLa hLb hEa hEb
      go_enter Try.func41, Try.ntmps41
      go_wp2; go_step3
      go_wp2_with (first | ((with_reducible refine gate_callee (f := 43) rfl ?_); refine goesL_ (some 17) rfl rfl Try.func43 (by kernel_rfl) rfl #[.string a0] rfl (by (try simp only [List.map_toArray, List.map_cons, List.map_nil]); first | done | rfl) ?_; (with_reducible refine (name_starts.calls ka a0 la true _ HKA.out).mono ?_); rintro e w1 ⟨v1, rfl, ho1, hb1⟩; refine ⟨_, rfl, ?_⟩; obtain ⟨A_1, c_1, rfl, hle1, hC1⟩ := Kd.R_reads ho1; have HB1 := Aside0.mk (HB.out.trans (below_to hb1 HB.out.size)); have HC1 := Aside0.mk hC1; have HR1 := Aside0.mk ho1; clear ho1 hb1 hC1 hle1) | ((with_reducible refine gate_callee (f := 43) rfl ?_); refine goesL_ (some 22) rfl rfl Try.func43 (by kernel_rfl) rfl #[.string a1] rfl (by (try simp only [List.map_toArray, List.map_cons, List.map_nil]); first | done | rfl) ?_; (with_reducible refine (name_starts.calls kb a1 lb false _ HKB.out).mono ?_); rintro e w2 ⟨v2, rfl, ho2, hb2⟩; refine ⟨_, rfl, ?_⟩; obtain ⟨A_2, c_2, rfl, hle2, hC2⟩ := Kd.R_reads ho2; have HC1 := Aside0.mk (Kd.C_below HC1.out hb2); have HB2 := Aside0.mk (HB1.out.trans (below_to hb2 HB1.out.size)); have HC2 := Aside0.mk hC2; have HR2 := Aside0.mk ho2; clear ho2 hb2 hC2 hle2))
      try rw [Exit.noGoto_ret]
      go_ret
      exact ⟨rfl, HB2.out⟩
    | some M =>
      rw [hdb] at h hkb
      have HKB : Aside0 (name_starts.f kb a1 = some (lb, true)) := ⟨hkb⟩
      simp only [] at h
      have hll : la.length = L.length := by rw [hLa L hda, offs_length]
      have hlm : lb.length = M.length := by rw [hLb M hdb, offs_length]
      have hl127 := labels_length hda
      have hm127 := labels_length hdb
      have HLA := Aside0.mk (hLa L hda)
      have HLB := Aside0.mk (hLb M hdb)
      have HDA := Aside0.mk hda
      have HDB := Aside0.mk hdb
      have HH := Aside0.mk h
      have HV0 : Aside0 (CmpInv L M la.length lb.length) := ⟨by rw [hll, hlm]; exact cmp0 L M⟩
      have hla7 : la.length ≤ 127 := by omega
      have hlb7 : lb.length ≤ 127 := by omega
      have HLL := Aside0.mk hll
      have HLM := Aside0.mk hlm
      clear h hda hdb hka hkb hLa hLb hEa hEb hll hlm
      go_enter Try.func41, Try.ntmps41
      go_wp2; go_step3
      go_wp2_with (first | ((with_reducible refine gate_callee (f := 43) rfl ?_); refine goesL_ (some 17) rfl rfl Try.func43 (by kernel_rfl) rfl #[.string a0] rfl (by (try simp only [List.map_toArray, List.map_cons, List.map_nil]); first | done | rfl) ?_; (with_reducible refine (name_starts.calls ka a0 la true _ HKA.out).mono ?_); rintro e w1 ⟨v1, rfl, ho1, hb1⟩; refine ⟨_, rfl, ?_⟩; obtain ⟨A_1, c_1, rfl, hle1, hC1⟩ := Kd.R_reads ho1; have HB1 := Aside0.mk (HB.out.trans (below_to hb1 HB.out.size)); have HC1 := Aside0.mk hC1; have HR1 := Aside0.mk ho1; clear ho1 hb1 hC1 hle1) | ((with_reducible refine gate_callee (f := 43) rfl ?_); refine goesL_ (some 22) rfl rfl Try.func43 (by kernel_rfl) rfl #[.string a1] rfl (by (try simp only [List.map_toArray, List.map_cons, List.map_nil]); first | done | rfl) ?_; (with_reducible refine (name_starts.calls kb a1 lb true _ HKB.out).mono ?_); rintro e w2 ⟨v2, rfl, ho2, hb2⟩; refine ⟨_, rfl, ?_⟩; obtain ⟨A_2, c_2, rfl, hle2, hC2⟩ := Kd.R_reads ho2; have HC1 := Aside0.mk (Kd.C_below HC1.out hb2); have HB2 := Aside0.mk (HB1.out.trans (below_to hb2 HB1.out.size)); have HC2 := Aside0.mk hC2; have HR2 := Aside0.mk ho2; clear ho2 hb2 hC2 hle2))
      go_step3
      go_wp2
      obtain ⟨wx, hwx⟩ : ∃ x, x = w2 := ⟨_, rfl⟩
      go_loopg [9, 10, 11] la.length (fun g s9 s10 s11 wr => ∃ (a b : Nat) (i j : Int), s9 = .int .i64 0 ∧ s10 = .int .i64 i ∧ s11 = .int .i64 j ∧ i = (a : Int) - 1 ∧ j = (b : Int) - 1 ∧ g = a ∧ Aside0 (CmpInv L M a b) ∧ ∃ nd : Nat, wr = w2.drewN nd)
      case atStart => exact ⟨la.length, lb.length, _, _, rfl, rfl, rfl, rfl, rfl, rfl, HV0, ⟨0, rfl⟩⟩
      case round =>
        obtain ⟨a, b, i, j, rfl, rfl, rfl, hi, hj, hga, HV, nd, rfl⟩ := hrel
        have hab : a ≤ 127 ∧ b ≤ 127 := by have := HV.out.1; have := HV.out.2.1; omega
        by_cases hz : a = 0 ∨ b = 0
        · have hh := HH.out
          rw [cmp_end HV.out hz, ← HLL.out, ← HLM.out] at hh
          have HH2 := Aside0.mk hh
          clear hh
          have hi0 : i < 0 ∨ (0 ≤ i ∧ j < 0) := by omega
          have hla : (-9223372036854775808 : Int) ≤ (la.length : Int) - (lb.length : Int) ∧ (la.length : Int) - (lb.length : Int) ≤ 9223372036854775807 := by omega
          rcases hi0 with hi0 | ⟨hi0, hj0⟩
          · have hd : decide (0 ≤ i) = false := decide_eq_false (by omega)
            go_wp2
            try rw [Exit.noGoto_ret]
            go_ret
            exact ⟨by rw [← HH2.out]; rfl, pw_below_drewN HB2.out _⟩
          · have hd : decide (0 ≤ i) = true := decide_eq_true hi0
            have hdj : decide (0 ≤ j) = false := decide_eq_false (by omega)
            go_wp2
            try rw [Exit.noGoto_ret]
            go_ret
            exact ⟨by rw [← HH2.out]; rfl, pw_below_drewN HB2.out _⟩
        · obtain ⟨a, rfl⟩ : ∃ a', a = a' + 1 := ⟨a - 1, by omega⟩
          obtain ⟨b, rfl⟩ : ∃ b', b = b' + 1 := ⟨b - 1, by omega⟩
          subst hga
          have hi' : i = (a : Int) := by omega
          have hj' : j = (b : Int) := by omega
          subst hi'; subst hj'
          have ha1 : a < L.length := by have := HV.out.1; omega
          have hb1 : b < M.length := by have := HV.out.2.1; omega
          obtain ⟨s, hs⟩ : ∃ s, L[a]? = some s := ⟨_, List.getElem?_eq_getElem ha1⟩
          obtain ⟨u, hu⟩ : ∃ u, M[b]? = some u := ⟨_, List.getElem?_eq_getElem hb1⟩
          obtain ⟨p, hp1, hp2, hp3, hp4, hp5, hp6, hp7⟩ := cmp_label HDA.out hs
          obtain ⟨q, hq1, hq2, hq3, hq4, hq5, hq6, hq7⟩ := cmp_label HDB.out hu
          rw [← HLA.out] at hp1
          rw [← HLB.out] at hq1
          obtain ⟨ada, ea, hca⟩ := Kd.at_int HC1.out (a : Int) (by omega) (by have := HLL.out; omega)
          obtain ⟨adb, eb, hcb⟩ := Kd.at_int HC2.out (b : Int) (by omega) (by have := HLM.out; omega)
          rw [hp1] at hca
          rw [hq1] at hcb
          simp only [Int.toNat_natCast] at hca hcb
          cases ea
          cases eb
          have hxp := bt_nat a0 p hp2
          have hxq := bt_nat a1 q hq2
          rw [hp3] at hxp
          rw [hq3] at hxq
          have HS := Aside0.mk hs
          have HU := Aside0.mk hu
          have h0a : (0 : Int) ≤ (a : Int) := by omega
          have h0b : (0 : Int) ≤ (b : Int) := by omega
          have h1a : (a : Int) < (la.length : Int) := by have := HLL.out; omega
          have h1b : (b : Int) < (lb.length : Int) := by have := HLM.out; omega
          have w1p : (0 : Int) ≤ (p : Int) + 1 := by omega
          have w2p : (p : Int) + 1 ≤ (p : Int) + 1 + (s.size : Int) := by omega
          have w3p : (p : Int) + 1 + (s.size : Int) ≤ (a0.size : Int) := by omega
          have w1q : (0 : Int) ≤ (q : Int) + 1 := by omega
          have w2q : (q : Int) + 1 ≤ (q : Int) + 1 + (u.size : Int) := by omega
          have w3q : (q : Int) + 1 + (u.size : Int) ≤ (a1.size : Int) := by omega
          have hep : a0.extract ((p : Int) + 1).toNat ((p : Int) + 1 + (s.size : Int)).toNat = s := by rw [show ((p : Int) + 1).toNat = p + 1 by omega, show ((p : Int) + 1 + (s.size : Int)).toNat = p + 1 + s.size by omega]; exact hp5
          have heq : a1.extract ((q : Int) + 1).toNat ((q : Int) + 1 + (u.size : Int)).toNat = u := by rw [show ((q : Int) + 1).toNat = q + 1 by omega, show ((q : Int) + 1 + (u.size : Int)).toNat = q + 1 + u.size by omega]; exact hq5
          have HE1 := Aside0.mk hp5
          have HE2 := Aside0.mk hq5
          clear hp1 hq1 hs hu hz hi hj hp3 hq3 ha1 hb1
          go_wp2
          go_quiet (fail)
          rw [hp5, hq5]
          clear hep heq hp5 hq5 w1p w2p w3p w1q w2q w3q hca hcb
          have hss : s.size ≤ 63 ∧ u.size ≤ 63 := ⟨hp6, hq6⟩
          go_wp2
          obtain ⟨n0, hn0⟩ : ∃ n0, nd + nq = n0 := ⟨_, rfl⟩
          rw [hn0]
          go_loopg [9, 102] s.size (fun g2 s9 s102 wy => ∃ k : Nat, s9 = .int .i64 0 ∧ s102 = .int .i64 (k : Int) ∧ k ≤ s.size ∧ k ≤ u.size ∧ k + g2 = s.size ∧ Aside0 (diffB ((bytesOf s).drop k) ((bytesOf u).drop k) = diffB (bytesOf s) (bytesOf u)) ∧ ∃ ne : Nat, wy = w2.drewN ne)
          case atStart => exact ⟨0, rfl, rfl, Nat.zero_le _, Nat.zero_le _, by omega, ⟨rfl⟩, ⟨_, rfl⟩⟩
          case round =>
            obtain ⟨k, rfl, rfl, hk1, hk2, hkg, HD, ne, rfl⟩ := hrel
            by_cases hk : k < s.size ∧ k < u.size
            · obtain ⟨hks, hku⟩ := hk
              obtain ⟨g3, rfl⟩ : ∃ g3, gk = g3 + 1 := ⟨gk - 1, by omega⟩
              have hd := HD.out
              rw [diffB_at hks hku] at hd
              have hmin : decide ((k : Int) < min (s.size : Int) (u.size : Int)) = true := decide_eq_true (by omega)
              have hxs := bt_nat s k hks
              have hxu := bt_nat u k hku
              have hrs := bt_range s (k : Int)
              have hru := bt_range u (k : Int)
              obtain ⟨x, hx⟩ : ∃ x, bt s (k : Int) = x := ⟨_, rfl⟩
              obtain ⟨y, hy⟩ : ∃ y, bt u (k : Int) = y := ⟨_, rfl⟩
              rw [hx] at hd hxs hrs
              rw [hy] at hd hxu hru
              have hlx := low1_range (c := x) (by omega) (by omega)
              have hly := low1_range (c := y) (by omega) (by omega)
              have cx := name_low_f x
              have cy := name_low_f y
              obtain ⟨lx, hlx1⟩ : ∃ l, low1 x = l := ⟨_, rfl⟩
              obtain ⟨ly, hly1⟩ : ∃ l, low1 y = l := ⟨_, rfl⟩
              rw [hlx1] at hd hlx cx
              rw [hly1] at hd hly cy
              have CX := Aside0.mk cx
              have CY := Aside0.mk cy
              clear hx hy hlx1 hly1 cx cy
              by_cases he : lx = ly
              · rw [if_pos he] at hd
                have HD2 := Aside0.mk hd
                have hne : (lx - ly != 0) = false := by rw [he]; simp
                have hne' : lx - ly = 0 := by omega
                clear he hd
                go_wp2
                go_quiet (first | (go_at_call 44; with_reducible exact low_quiet x lx w2 _ _ CX.out) | (go_at_call 44; with_reducible exact low_quiet y ly w2 _ _ CY.out))
                go_wp2
                go_roundg g3
                case measure => omega
                case rel => exact ⟨k + 1, by first | rfl | (rw [hne']; done), by go_num, by omega, by omega, by omega, HD2, ⟨_, rfl⟩⟩
              · rw [if_neg he] at hd
                have hne : (lx - ly != 0) = true := bne_iff_ne.2 (by omega)
                have hne2 : (lx - ly == 0) = false := beq_eq_false_iff_ne.2 (by omega)
                have hout := cmp_out HV.out HS.out HU.out (by rw [← hd]; omega)
                rw [← hd] at hout
                have hh := HH.out
                rw [hout] at hh
                have HH2 := Aside0.mk hh
                clear he hd hout hh
                go_wp2
                go_quiet (first | (go_at_call 44; with_reducible exact low_quiet x lx w2 _ _ CX.out) | (go_at_call 44; with_reducible exact low_quiet y ly w2 _ _ CY.out))
                go_wp2
                try rw [Exit.noGoto_ret]
                go_ret
                exact ⟨by rw [← HH2.out]; rfl, by repeat (first | exact HB2.out | apply pw_below_drewN)⟩
            · have hd := HD.out
              rw [diffB_end hk ⟨hk1, hk2⟩] at hd
              have hmin : decide ((k : Int) < min (s.size : Int) (u.size : Int)) = false := decide_eq_false (by omega)
              by_cases he : s.size = u.size
              · have hne : ((s.size : Int) - (u.size : Int) != 0) = false := by rw [he]; simp
                have hne' : (s.size : Int) - (u.size : Int) = 0 := by omega
                have HV2 := Aside0.mk (cmp_step HV.out HS.out HU.out (by rw [← hd]; omega))
                clear he hd
                go_wp2
                go_roundg a
                case measure => omega
                case rel => exact ⟨a, b, _, _, by first | rfl | (rw [hne']; done), by go_num, by go_num, rfl, rfl, rfl, HV2, ⟨_, rfl⟩⟩
              · have hne : ((s.size : Int) - (u.size : Int) != 0) = true := bne_iff_ne.2 (by omega)
                have hne2 : ((s.size : Int) - (u.size : Int) == 0) = false := beq_eq_false_iff_ne.2 (by omega)
                have hout := cmp_out HV.out HS.out HU.out (by rw [← hd]; omega)
                rw [← hd] at hout
                have hh := HH.out
                rw [hout] at hh
                have HH2 := Aside0.mk hh
                clear he hd hout hh
                go_wp2
                try rw [Exit.noGoto_ret]
                go_ret
                exact ⟨by rw [← HH2.out]; rfl, by repeat (first | exact HB2.out | apply pw_below_drewN)⟩
end Go.Proofs.Ytplnknhlgdoliaa.Print
end
