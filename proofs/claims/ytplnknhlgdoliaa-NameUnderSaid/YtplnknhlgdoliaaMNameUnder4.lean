/- A part of the proof of NameUnderSaid: 5 texts in one. -/
import Derived.Test.YtplnknhlgdoliaaMNameUnder3
section
-- Written by a program of this session, built on the kit's print (it is not the print's own text).
namespace Go.Proofs.Ytplnknhlgdoliaa.Print
open Go.RowKit Go.Proofs.YtplnknhlgdoliaaW.PrintWords Go.Proofs.YtplnknhlgdoliaaW.PrintLast Go.Proofs.YtplnknhlgdoliaaW.PrintMore
attribute [local go_sem] max2_int min2_int max_two min_two max_three min_three max_four min_four   -- for this text's walks alone
set_option linter.unusedVariables false
set_option linter.unusedSimpArgs false

/-! ### hearsayref01_Join: function 32 -/
def hearsayref01_Join.f (k : Nat) (a0 : ByteArray) (a1 : ByteArray) : Option (ByteArray × Int) := (hearsayref01_Split.f k a0).bind fun bt280 => ((hearsayref01_Split.f k a1).bind fun bt284 => (if bt280.2 = true then (if bt284.2 = true then (if ([] : List ByteArray).length + bt280.1.length < 8796093022208 then ((some (([] : List ByteArray) ++ bt280.1 : List ByteArray)).bind fun y288 => (if y288.length + bt284.1.length < 8796093022208 then ((hearsayref01_Of.f k (y288 ++ bt284.1)).bind fun bt294 => (some (bt294.1, bt294.2))) else (none))) else (none)) else (some ((⟨#[]⟩ : ByteArray), 11))) else (some ((⟨#[]⟩ : ByteArray), 11))))
theorem hearsayref01_Join.mono : ∀ a0 a1 k, LeO (hearsayref01_Join.f k a0 a1) (hearsayref01_Join.f (k + 1) a0 a1) := by
  intro a0 a1 k
  unfold hearsayref01_Join.f
  repeat' first
      | (with_reducible exact hearsayref01_Of.mono _ _)
      | (with_reducible exact hearsayref01_Split.mono _ _)
      | (with_reducible exact LeO.refl _)
      | (with_reducible exact LeO.none _)
      | (with_reducible refine LeO.ite ?_ ?_)
      | (with_reducible refine LeO.bind ?_ (fun _ => ?_))
      | exact hearsayref01_Of.mono _ _
      | exact hearsayref01_Split.mono _ _
      | exact LeO.none _
      | refine LeO.ite ?_ ?_
      | refine LeO.bind ?_ (fun _ => ?_)
set_option maxHeartbeats 8000000 in
set_option maxRecDepth 100000 in
theorem hearsayref01_Join.calls (k : Nat) (a0 : ByteArray) (a1 : ByteArray) (r1 : ByteArray) (r2 : Int) (w : World) (h : hearsayref01_Join.f k a0 a1 = some (r1, r2)) :
    Calls Try.prog 32 #[.string a0, .string a1] w fun e w' => e = .returned (.tuple #[.string r1, .int .i64 r2]) ∧ Below w.heap.size w w' := by
  have HB := Aside0.mk (Below.refl w.heap.size w)
  have H : ((hearsayref01_Split.f k a0).bind fun bt280 => ((hearsayref01_Split.f k a1).bind fun bt284 => (if bt280.2 = true then (if bt284.2 = true then (if ([] : List ByteArray).length + bt280.1.length < 8796093022208 then ((some (([] : List ByteArray) ++ bt280.1 : List ByteArray)).bind fun y288 => (if y288.length + bt284.1.length < 8796093022208 then ((hearsayref01_Of.f k (y288 ++ bt284.1)).bind fun bt294 => (some (bt294.1, bt294.2))) else (none))) else (none)) else (some ((⟨#[]⟩ : ByteArray), 11))) else (some ((⟨#[]⟩ : ByteArray), 11))))) = some (r1, r2) := h
  clear h
  replace H := Option.bind_eq_some_iff.mp H
  obtain ⟨⟨t280, t281⟩, A30, H⟩ := H
  replace H : ((hearsayref01_Split.f k a1).bind fun bt284 => (if t281 = true then (if bt284.2 = true then (if ([] : List ByteArray).length + t280.length < 8796093022208 then ((some (([] : List ByteArray) ++ t280 : List ByteArray)).bind fun y288 => (if y288.length + bt284.1.length < 8796093022208 then ((hearsayref01_Of.f k (y288 ++ bt284.1)).bind fun bt294 => (some (bt294.1, bt294.2))) else (none))) else (none)) else (some ((⟨#[]⟩ : ByteArray), 11))) else (some ((⟨#[]⟩ : ByteArray), 11)))) = some (r1, r2) := H
  have A3 := Aside0.mk A30
  clear A30
  replace H := Option.bind_eq_some_iff.mp H
  obtain ⟨⟨t284, t285⟩, A40, H⟩ := H
  replace H : (if t281 = true then (if t285 = true then (if ([] : List ByteArray).length + t280.length < 8796093022208 then ((some (([] : List ByteArray) ++ t280 : List ByteArray)).bind fun y288 => (if y288.length + t284.length < 8796093022208 then ((hearsayref01_Of.f k (y288 ++ t284)).bind fun bt294 => (some (bt294.1, bt294.2))) else (none))) else (none)) else (some ((⟨#[]⟩ : ByteArray), 11))) else (some ((⟨#[]⟩ : ByteArray), 11))) = some (r1, r2) := H
  have A4 := Aside0.mk A40
  clear A40
  by_cases c5 : t281 = true
  · subst c5
    have H1 : (if t285 = true then (if ([] : List ByteArray).length + t280.length < 8796093022208 then ((some (([] : List ByteArray) ++ t280 : List ByteArray)).bind fun y288 => (if y288.length + t284.length < 8796093022208 then ((hearsayref01_Of.f k (y288 ++ t284)).bind fun bt294 => (some (bt294.1, bt294.2))) else (none))) else (none)) else (some ((⟨#[]⟩ : ByteArray), 11))) = some (r1, r2) := by rw [if_pos rfl] at H; exact H
    clear H
    have H := H1
    clear H1
    by_cases c6 : t285 = true
    · subst c6
      have H1 : (if ([] : List ByteArray).length + t280.length < 8796093022208 then ((some (([] : List ByteArray) ++ t280 : List ByteArray)).bind fun y288 => (if y288.length + t284.length < 8796093022208 then ((hearsayref01_Of.f k (y288 ++ t284)).bind fun bt294 => (some (bt294.1, bt294.2))) else (none))) else (none)) = some (r1, r2) := by rw [if_pos rfl] at H; exact H
      clear H
      have H := H1
      clear H1
      by_cases c7 : ([] : List ByteArray).length + t280.length < 8796093022208
      · rw [if_pos c7] at H
        have LMc7 := Aside0.mk c7
        clear c7
        obtain ⟨y288, hy288⟩ : ∃ y_ : List ByteArray, y_ = (([] : List ByteArray) ++ t280) := ⟨_, rfl⟩
        replace H : (if y288.length + t284.length < 8796093022208 then ((hearsayref01_Of.f k (y288 ++ t284)).bind fun bt294 => (some (bt294.1, bt294.2))) else (none)) = some (r1, r2) := by first | (rw [hy288]; with_reducible exact H) | (have H2_ := (Option.bind_some _ _).symm.trans H; rw [hy288]; with_reducible exact H2_) | (have H2_ := (Option.bind_some _ _).symm.trans H; with_reducible exact H2_) | with_reducible exact H | (rw [hy288]; exact H) | exact H
        have Ny288 := Aside0.mk hy288
        clear hy288
        by_cases c8 : y288.length + t284.length < 8796093022208
        · rw [if_pos c8] at H
          have LMc8 := Aside0.mk c8
          clear c8
          obtain ⟨y291, hy291⟩ : ∃ y_ : List ByteArray, y_ = (y288 ++ t284) := ⟨_, rfl⟩
          replace H : ((hearsayref01_Of.f k y291).bind fun bt294 => (some (bt294.1, bt294.2))) = some (r1, r2) := by first | (rw [hy291]; with_reducible exact H) | (have H2_ := (Option.bind_some _ _).symm.trans H; rw [hy291]; with_reducible exact H2_) | (have H2_ := (Option.bind_some _ _).symm.trans H; with_reducible exact H2_) | with_reducible exact H | (rw [hy291]; exact H) | exact H
          have Ny291 := Aside0.mk hy291
          clear hy291
          replace H := Option.bind_eq_some_iff.mp H
          obtain ⟨⟨t294, t295⟩, A90, H⟩ := H
          replace H : (some (t294, t295)) = some (r1, r2) := H
          have A9 := Aside0.mk A90
          clear A90
          simp only [Option.some.injEq, Prod.mk.injEq] at H
          obtain ⟨rfl, rfl⟩ := H
          go_enter Try.func32, Try.ntmps32
          go_wp2_with (first | ((with_reducible refine gate_callee (f := 13) rfl ?_); refine goesL_ (some 12) rfl rfl Try.func13 (by kernel_rfl) rfl #[.string a0] rfl (by (try simp only [List.map_toArray, List.map_cons, List.map_nil]); first | done | rfl | (simp only [List.length_drop, List.length_take]; rfl)) ?_; (with_reducible refine (hearsayref01_Split.calls k a0 t280 true _ A3.out).mono ?_); rintro e w10 ⟨v282, rfl, ho0, hb⟩; refine ⟨_, rfl, ?_⟩; have n0_ := Aside0.mk (Kd.R_lower ho0 (below_size (by repeat (first | (with_reducible first | exact HB.out | apply below_alloc | apply pw_below_drewN | apply below_drew1) | exact HB.out)))); have n1_ := Aside0.mk (below_step (by repeat (first | (with_reducible first | exact HB.out | apply below_alloc | apply pw_below_drewN | apply below_drew1) | exact HB.out)) hb); clear HB; have HO283 := n0_; have HB := n1_; clear n0_ n1_; (try clear hb); (try clear hb2); (try clear hk); (try clear hi); (try clear ho0)) | ((with_reducible refine gate_callee (f := 13) rfl ?_); refine goesL_ (some 17) rfl rfl Try.func13 (by kernel_rfl) rfl #[.string a1] rfl (by (try simp only [List.map_toArray, List.map_cons, List.map_nil]); first | done | rfl | (simp only [List.length_drop, List.length_take]; rfl)) ?_; (with_reducible refine (hearsayref01_Split.calls k a1 t284 true _ A4.out).mono ?_); rintro e w11 ⟨v286, rfl, ho0, hb⟩; refine ⟨_, rfl, ?_⟩; have n0_ := Aside0.mk (Kd.R_elder' (by (with_reducible repeat (first | apply Kd.R_alloc | apply Kd.R_drewN | apply Kd.R_drew)); exact HO283.out) (Kd.R_base ho0) hb); have n1_ := Aside0.mk (Kd.R_lower (Kd.R_new' ho0 (Kd.R_lt (by (with_reducible repeat (first | apply Kd.R_alloc | apply Kd.R_drewN | apply Kd.R_drew)); exact HO283.out))) (below_size (by repeat (first | (with_reducible first | exact HB.out | apply below_alloc | apply pw_below_drewN | apply below_drew1) | exact HB.out)))); have n2_ := Aside0.mk (below_step (by repeat (first | (with_reducible first | exact HB.out | apply below_alloc | apply pw_below_drewN | apply below_drew1) | exact HB.out)) hb); clear HO283; clear HB; have HO283 := n0_; have HO287 := n1_; have HB := n2_; clear n0_ n1_ n2_; (try clear hb); (try clear hb2); (try clear hk); (try clear hi); (try clear ho0); obtain ⟨Ao13, co13, eo13⟩ := Kd.R_slice HO283.out; subst eo13) | ((with_reducible refine gate_builtin (b := .append) (xs := #[.const (.slice none 0 0), .tmp 26]) rfl ?_); at_builtin; refine Kd.R_append_rows Kd.string (w0 := w) w.heap.size rfl (.const (.slice none 0 0)) (.tmp 26) 23 9 (.string ⟨#[]⟩) 16 rfl Try.underlying23 info9 rfl (by decide) (by omega) (.slice none 0 0) ([] : List ByteArray) t280 _ _ _ (fun k_ => some k_ ≠ (.slice Ao13 t280.length co13 : Value).ownBlock ∧ some k_ ≠ (v286 : Value).ownBlock) (fun _ => False) rfl rfl ?aO ?aR (fun _ _ h => h) (fun _ h => h.elim) ?aF ?aB ?aS ?aL ?_; (case aR => repeat (first | exact (Kd.R_reads' HO283.out).2.2 | (with_reducible refine Kd.C_alloc ?_ _) | (with_reducible refine Kd.C_drewN ?_ _) | (with_reducible refine Kd.C_drew ?_))); (case aB => exact (by repeat (first | (with_reducible first | exact HB.out | apply below_alloc | apply pw_below_drewN | apply below_drew1) | exact HB.out))); (case aF => exact (fun k_ hk => ⟨Kd.fresh' (Kd.R_lt (by (with_reducible repeat (first | apply Kd.R_alloc | apply Kd.R_drewN | apply Kd.R_drew)); exact HO283.out)) k_ hk, Kd.fresh' (Kd.R_lt (by (with_reducible repeat (first | apply Kd.R_alloc | apply Kd.R_drewN | apply Kd.R_drew)); exact HO287.out)) k_ hk⟩)); (case aO => exact ((Kd.R_nil _ _ _ _ (fun k_ => some k_ ≠ (.slice Ao13 t280.length co13 : Value).ownBlock ∧ some k_ ≠ (v286 : Value).ownBlock)))); (case aS => exact (below_size (by repeat (first | (with_reducible first | exact HB.out | apply below_alloc | apply pw_below_drewN | apply below_drew1) | exact HB.out)))); (case aL => have := LMc7.out; omega); intro v289 w12 ho hb hg hat; rw [← Ny288.out] at ho; have n0_ := Aside0.mk (Kd.R_after (Kd.R_apart_nil (by (with_reducible repeat (first | apply Kd.R_alloc | apply Kd.R_drewN | apply Kd.R_drew)); exact HO283.out)) hg hat); have n1_ := Aside0.mk (Kd.R_after (Kd.R_apart_nil (by (with_reducible repeat (first | apply Kd.R_alloc | apply Kd.R_drewN | apply Kd.R_drew)); exact HO287.out)) hg hat); have n2_ := Aside0.mk (hb); have n3_ := Aside0.mk (ho); clear HO283; clear HO287; clear HB; have HO283 := n0_; have HO287 := n1_; have HB := n2_; have HO290 := n3_; clear n0_ n1_ n2_ n3_; clear ho hb hg hat; obtain ⟨Ao15, co15, eo15⟩ := Kd.R_slice HO287.out; subst eo15) | ((with_reducible refine gate_builtin (b := .append) (xs := #[.tmp 27, .tmp 28]) rfl ?_); at_builtin; refine Kd.R_append_rows Kd.string (w0 := w) w.heap.size rfl (.tmp 27) (.tmp 28) 23 9 (.string ⟨#[]⟩) 16 rfl Try.underlying23 info9 rfl (by decide) (by omega) v289 y288 t284 _ _ _ (fun k_ => some k_ ≠ (.slice Ao13 t280.length co13 : Value).ownBlock ∧ some k_ ≠ (.slice Ao15 t284.length co15 : Value).ownBlock) (fun _ => False) rfl rfl ?aO ?aR (fun _ _ h => h) (fun _ h => h.elim) ?aF ?aB ?aS ?aL ?_; (case aR => repeat (first | exact (Kd.R_reads' HO287.out).2.2 | (with_reducible refine Kd.C_alloc ?_ _) | (with_reducible refine Kd.C_drewN ?_ _) | (with_reducible refine Kd.C_drew ?_))); (case aB => exact (by repeat (first | (with_reducible first | exact HB.out | apply below_alloc | apply pw_below_drewN | apply below_drew1) | exact HB.out))); (case aF => exact (fun k_ hk => ⟨Kd.fresh' (Kd.R_lt (by (with_reducible repeat (first | apply Kd.R_alloc | apply Kd.R_drewN | apply Kd.R_drew)); exact HO283.out)) k_ hk, Kd.fresh' (Kd.R_lt (by (with_reducible repeat (first | apply Kd.R_alloc | apply Kd.R_drewN | apply Kd.R_drew)); exact HO287.out)) k_ hk⟩)); (case aO => exact (by (with_reducible repeat (first | apply Kd.R_alloc | apply Kd.R_drewN | apply Kd.R_drew)); exact HO290.out)); (case aS => exact (below_size (by repeat (first | (with_reducible first | exact HB.out | apply below_alloc | apply pw_below_drewN | apply below_drew1) | exact HB.out)))); (case aL => have := LMc8.out; omega); intro v292 w14 ho hb hg hat; rw [← Ny291.out] at ho; have n0_ := Aside0.mk (Kd.R_after (ok := (fun k_ => some k_ ≠ (.slice Ao15 t284.length co15 : Value).ownBlock)) (by (with_reducible repeat (first | apply Kd.R_alloc | apply Kd.R_drewN | apply Kd.R_drew)); exact Kd.R_mono HO283.out (fun _ hk => ⟨hk.1.2, hk.2⟩)) hg hat); have n1_ := Aside0.mk (Kd.R_after (ok := (fun k_ => some k_ ≠ (.slice Ao13 t280.length co13 : Value).ownBlock)) (by (with_reducible repeat (first | apply Kd.R_alloc | apply Kd.R_drewN | apply Kd.R_drew)); exact Kd.R_mono HO287.out (fun _ hk => ⟨hk.1.2, hk.2⟩)) hg hat); have n2_ := Aside0.mk (hb); have n3_ := Aside0.mk (ho); clear HO283; clear HO287; clear HB; clear HO290; have HO283 := n0_; have HO287 := n1_; have HB := n2_; have HO293 := n3_; clear n0_ n1_ n2_ n3_; clear ho hb hg hat; obtain ⟨Ao16, co16, eo16⟩ := Kd.R_slice HO293.out; subst eo16) | ((with_reducible refine gate_callee (f := 22) rfl ?_); refine goesL_ (some 30) rfl rfl Try.func22 (by kernel_rfl) rfl #[.slice Ao16 y291.length co16] rfl (by (try simp only [List.map_toArray, List.map_cons, List.map_nil]); first | done | rfl | (simp only [List.length_drop, List.length_take]; rfl)) ?_; (with_reducible refine (hearsayref01_Of.calls k _ _ y291 t294 t295 _ ?side1 ?side2 A9.out).mono ?_); (case side1 => repeat (first | exact (Kd.R_reads' HO293.out).2.2 | (with_reducible refine Kd.C_alloc ?_ _) | (with_reducible refine Kd.C_drewN ?_ _) | (with_reducible refine Kd.C_drew ?_))); (case side2 => exact (Kd.R_reads' HO293.out).2.1); rintro e w17 ⟨rfl, hb⟩; refine ⟨_, rfl, ?_⟩; have n0_ := Aside0.mk (Kd.R_below (by (with_reducible repeat (first | apply Kd.R_alloc | apply Kd.R_drewN | apply Kd.R_drew)); exact HO283.out) hb); have n1_ := Aside0.mk (Kd.R_below (by (with_reducible repeat (first | apply Kd.R_alloc | apply Kd.R_drewN | apply Kd.R_drew)); exact HO287.out) hb); have n2_ := Aside0.mk (Kd.R_below (by (with_reducible repeat (first | apply Kd.R_alloc | apply Kd.R_drewN | apply Kd.R_drew)); exact HO293.out) hb); have n3_ := Aside0.mk (below_step (by repeat (first | (with_reducible first | exact HB.out | apply below_alloc | apply pw_below_drewN | apply below_drew1) | exact HB.out)) hb); clear HO283; clear HO287; clear HO293; clear HB; have HO283 := n0_; have HO287 := n1_; have HO293 := n2_; have HB := n3_; clear n0_ n1_ n2_ n3_; (try clear hb); (try clear hb2); (try clear hk); (try clear hi)))
          go_ret2
          exact ⟨by first | rfl | (simp [errW_none, errW_some] <;> rfl) | (simp [*, errW_none, errW_some] <;> rfl), by repeat (first | (with_reducible first | exact HB.out | apply below_alloc | apply pw_below_drewN | apply below_drew1) | exact HB.out)⟩
        · rw [if_neg c8] at H
          exact absurd H (by simp)
      · rw [if_neg c7] at H
        exact absurd H (by simp)
    · replace c6 := Bool.eq_false_iff.mpr c6
      subst c6
      have H1 : (some ((⟨#[]⟩ : ByteArray), 11)) = some (r1, r2) := by rw [if_neg (show ¬ (false = true) by decide)] at H; exact H
      clear H
      have H := H1
      clear H1
      simp only [Option.some.injEq, Prod.mk.injEq] at H
      obtain ⟨rfl, rfl⟩ := H
      go_enter Try.func32, Try.ntmps32
      go_wp2_with (first | ((with_reducible refine gate_callee (f := 13) rfl ?_); refine goesL_ (some 12) rfl rfl Try.func13 (by kernel_rfl) rfl #[.string a0] rfl (by (try simp only [List.map_toArray, List.map_cons, List.map_nil]); first | done | rfl | (simp only [List.length_drop, List.length_take]; rfl)) ?_; (with_reducible refine (hearsayref01_Split.calls k a0 t280 true _ A3.out).mono ?_); rintro e w18 ⟨v282, rfl, ho0, hb⟩; refine ⟨_, rfl, ?_⟩; have n0_ := Aside0.mk (Kd.R_lower ho0 (below_size (by repeat (first | (with_reducible first | exact HB.out | apply below_alloc | apply pw_below_drewN | apply below_drew1) | exact HB.out)))); have n1_ := Aside0.mk (below_step (by repeat (first | (with_reducible first | exact HB.out | apply below_alloc | apply pw_below_drewN | apply below_drew1) | exact HB.out)) hb); clear HB; have HO283 := n0_; have HB := n1_; clear n0_ n1_; (try clear hb); (try clear hb2); (try clear hk); (try clear hi); (try clear ho0)) | ((with_reducible refine gate_callee (f := 13) rfl ?_); refine goesL_ (some 17) rfl rfl Try.func13 (by kernel_rfl) rfl #[.string a1] rfl (by (try simp only [List.map_toArray, List.map_cons, List.map_nil]); first | done | rfl | (simp only [List.length_drop, List.length_take]; rfl)) ?_; (with_reducible refine (hearsayref01_Split.calls k a1 t284 false _ A4.out).mono ?_); rintro e w19 ⟨v286, rfl, ho0, hb⟩; refine ⟨_, rfl, ?_⟩; have n0_ := Aside0.mk (Kd.R_elder' (by (with_reducible repeat (first | apply Kd.R_alloc | apply Kd.R_drewN | apply Kd.R_drew)); exact HO283.out) (Kd.R_base ho0) hb); have n1_ := Aside0.mk (Kd.R_lower (Kd.R_new' ho0 (Kd.R_lt (by (with_reducible repeat (first | apply Kd.R_alloc | apply Kd.R_drewN | apply Kd.R_drew)); exact HO283.out))) (below_size (by repeat (first | (with_reducible first | exact HB.out | apply below_alloc | apply pw_below_drewN | apply below_drew1) | exact HB.out)))); have n2_ := Aside0.mk (below_step (by repeat (first | (with_reducible first | exact HB.out | apply below_alloc | apply pw_below_drewN | apply below_drew1) | exact HB.out)) hb); clear HO283; clear HB; have HO283 := n0_; have HO287 := n1_; have HB := n2_; clear n0_ n1_ n2_; (try clear hb); (try clear hb2); (try clear hk); (try clear hi); (try clear ho0)))
      go_ret2
      exact ⟨by first | rfl | (simp [errW_none, errW_some] <;> rfl) | (simp [*, errW_none, errW_some] <;> rfl), by repeat (first | (with_reducible first | exact HB.out | apply below_alloc | apply pw_below_drewN | apply below_drew1) | exact HB.out)⟩
  · replace c5 := Bool.eq_false_iff.mpr c5
    subst c5
    have H1 : (some ((⟨#[]⟩ : ByteArray), 11)) = some (r1, r2) := by rw [if_neg (show ¬ (false = true) by decide)] at H; exact H
    clear H
    have H := H1
    clear H1
    simp only [Option.some.injEq, Prod.mk.injEq] at H
    obtain ⟨rfl, rfl⟩ := H
    go_enter Try.func32, Try.ntmps32
    go_wp2_with (first | ((with_reducible refine gate_callee (f := 13) rfl ?_); refine goesL_ (some 12) rfl rfl Try.func13 (by kernel_rfl) rfl #[.string a0] rfl (by (try simp only [List.map_toArray, List.map_cons, List.map_nil]); first | done | rfl | (simp only [List.length_drop, List.length_take]; rfl)) ?_; (with_reducible refine (hearsayref01_Split.calls k a0 t280 false _ A3.out).mono ?_); rintro e w20 ⟨v282, rfl, ho0, hb⟩; refine ⟨_, rfl, ?_⟩; have n0_ := Aside0.mk (Kd.R_lower ho0 (below_size (by repeat (first | (with_reducible first | exact HB.out | apply below_alloc | apply pw_below_drewN | apply below_drew1) | exact HB.out)))); have n1_ := Aside0.mk (below_step (by repeat (first | (with_reducible first | exact HB.out | apply below_alloc | apply pw_below_drewN | apply below_drew1) | exact HB.out)) hb); clear HB; have HO283 := n0_; have HB := n1_; clear n0_ n1_; (try clear hb); (try clear hb2); (try clear hk); (try clear hi); (try clear ho0)) | ((with_reducible refine gate_callee (f := 13) rfl ?_); refine goesL_ (some 17) rfl rfl Try.func13 (by kernel_rfl) rfl #[.string a1] rfl (by (try simp only [List.map_toArray, List.map_cons, List.map_nil]); first | done | rfl | (simp only [List.length_drop, List.length_take]; rfl)) ?_; (with_reducible refine (hearsayref01_Split.calls k a1 t284 t285 _ A4.out).mono ?_); rintro e w21 ⟨v286, rfl, ho0, hb⟩; refine ⟨_, rfl, ?_⟩; have n0_ := Aside0.mk (Kd.R_elder' (by (with_reducible repeat (first | apply Kd.R_alloc | apply Kd.R_drewN | apply Kd.R_drew)); exact HO283.out) (Kd.R_base ho0) hb); have n1_ := Aside0.mk (Kd.R_lower (Kd.R_new' ho0 (Kd.R_lt (by (with_reducible repeat (first | apply Kd.R_alloc | apply Kd.R_drewN | apply Kd.R_drew)); exact HO283.out))) (below_size (by repeat (first | (with_reducible first | exact HB.out | apply below_alloc | apply pw_below_drewN | apply below_drew1) | exact HB.out)))); have n2_ := Aside0.mk (below_step (by repeat (first | (with_reducible first | exact HB.out | apply below_alloc | apply pw_below_drewN | apply below_drew1) | exact HB.out)) hb); clear HO283; clear HB; have HO283 := n0_; have HO287 := n1_; have HB := n2_; clear n0_ n1_ n2_; (try clear hb); (try clear hb2); (try clear hk); (try clear hi); (try clear ho0)))
    go_ret2
    exact ⟨by first | rfl | (simp [errW_none, errW_some] <;> rfl) | (simp [*, errW_none, errW_some] <;> rfl), by repeat (first | (with_reducible first | exact HB.out | apply below_alloc | apply pw_below_drewN | apply below_drew1) | exact HB.out)⟩

end Go.Proofs.Ytplnknhlgdoliaa.Print
end
section
/- What the document's Of, Glue, and name's Join, Last, Parent, Under tell. -/
namespace Go.Proofs.Ytplnknhlgdoliaa.Print
set_option linter.unusedVariables false
set_option linter.unusedSimpArgs false
open Go.RowKit Go.Proofs.YtplnknhlgdoliaaW.PrintWords Go.Proofs.YtplnknhlgdoliaaW.PrintLast Go.Proofs.YtplnknhlgdoliaaW.PrintMore
theorem gluew_glue : ∀ (L : List ByteArray), L.any badLab = false → gluew L = glue L
  | [], _ => rfl
  | s :: L, h => by
    rw [List.any_cons, Bool.or_eq_false_iff] at h
    have hs := bad_false h.1
    have ih := gluew_glue L h.2
    simp only [gluew, glue, List.flatMap_cons] at ih ⊢
    rw [ih]
    congr 1
    unfold labw lab
    congr 1
    have : IntKind.u8.wrap (s.size : Int) = (s.size : Int) % 256 := IntKind.wrap_u8 _
    first | (rw [this]; omega) | omega
theorem glue_f {L : List ByteArray} (h : L.any badLab = false) (hl : (glue L).length + 1 ≤ 9223372036854775807) : hearsayref01_Glue.f L = some (nameOf L) := by
  unfold hearsayref01_Glue.f nameOf
  rw [gluew_glue L h, if_pos hl]
theorem rd_at {L : List ByteArray} {t : Nat} (h : t < L.length) : ∃ s, L[t]? = some s ∧ rdOf ByteArray.empty L (t : Int) = s := ⟨L[t], List.getElem?_eq_getElem h, by simp [rdOf, List.getD_eq_getElem?_getD, h]⟩
theorem any_take {L : List ByteArray} {t : Nat} {s : ByteArray} (hs : L[t]? = some s) (h : (L.take t).any badLab = false) (hb : badLab s = false) : (L.take (t + 1)).any badLab = false := by
  rw [take_succ' hs, List.any_append, h]; simp [hb]
theorem glue_take {L : List ByteArray} {t : Nat} {s : ByteArray} (hs : L[t]? = some s) : (glue (L.take (t + 1))).length = (glue (L.take t)).length + 1 + s.size := by
  rw [take_succ' hs, glue_snoc, List.length_append, lab_length]; omega
theorem glue_mono (L : List ByteArray) (t : Nat) : (glue (L.take t)).length ≤ (glue L).length := by
  conv => rhs; rw [← List.take_append_drop t L]
  rw [show glue (L.take t ++ L.drop t) = glue (L.take t) ++ glue (L.drop t) from by unfold glue; exact List.flatMap_append, List.length_append]; omega
theorem of_l1 (L : List ByteArray) (hb : L.any badLab = false) (hn : L.length ≤ 1099511627776) (d : Nat) : ∀ t : Nat, L.length - t ≤ d → t ≤ L.length → (glue (L.take t)).length + 1 ≤ 255 →
    Ev (fun k => hearsayref01_Of.l1 k L (((glue (L.take t)).length + 1 : Nat) : Int) (t : Int)) (if 255 < (glue L).length + 1 then (⟨#[]⟩, 2) else (nameOf L, 0)) := by
  have fin : ∀ t : Nat, t ≤ L.length → ¬ t < L.length → (glue (L.take t)).length + 1 ≤ 255 → Ev (fun k => hearsayref01_Of.l1 k L (((glue (L.take t)).length + 1 : Nat) : Int) (t : Int)) (if 255 < (glue L).length + 1 then (⟨#[]⟩, 2) else (nameOf L, 0)) := by
    intro t h1 h2 h3
    rw [List.take_of_length_le (by omega)] at h3 ⊢
    rw [if_neg (by omega)]
    refine Ev.step (f := fun _ => some (nameOf L, 0)) (fun k => ?_) (Ev.now _)
    simp only [hearsayref01_Of.l1]
    rw [if_neg (by omega), glue_f hb (by omega)]
    rfl
  induction d with
  | zero => intro t hd h1 h3; exact fin t h1 (by omega) h3
  | succ d ih =>
    intro t hd h1 h3
    by_cases ht : t < L.length
    · obtain ⟨s, hs, hr⟩ := rd_at ht
      have hg := glue_take hs
      have hm := glue_mono L (t + 1)
      have hsz : s.size ≤ 63 := by
        rw [List.any_eq_false] at hb
        exact (bad_false (by simpa using hb s (List.mem_of_getElem? hs))).2
      have e1 : wrap64 ((((glue (L.take t)).length + 1 : Nat) : Int) + 1) = (((glue (L.take t)).length + 2 : Nat) : Int) := by rw [w64 (by omega) (by omega)]; omega
      have e2 : wrap64 ((((glue (L.take t)).length + 2 : Nat) : Int) + (s.size : Int)) = (((glue (L.take (t + 1))).length + 1 : Nat) : Int) := by rw [w64 (by omega) (by omega), hg]; omega
      by_cases hl : 255 < (glue (L.take (t + 1))).length + 1
      · rw [if_pos (by omega)]
        refine Ev.step (f := fun _ => some (⟨#[]⟩, 2)) (fun k => ?_) (Ev.now _)
        simp only [hearsayref01_Of.l1]
        rw [if_pos (by omega), if_pos (by omega), hr, e1, e2, if_pos (by omega)]
      · refine Ev.step (fun k => ?_) (ih (t + 1) (by omega) (by omega) (by omega))
        simp only [hearsayref01_Of.l1]
        rw [if_pos (by omega), if_pos (by omega), hr, e1, e2, if_neg (by omega), w64 (by omega) (by omega)]
        rfl
    · exact fin t h1 ht h3
theorem of_l0 (L : List ByteArray) (hn : L.length ≤ 1099511627776) (d : Nat) : ∀ t : Nat, L.length - t ≤ d → t ≤ L.length → (L.take t).any badLab = false →
    Ev (fun k => hearsayref01_Of.l0 k L 1 (t : Int)) ((name_Of.f L).getD (⟨#[]⟩, 0)) := by
  have fin : ∀ t : Nat, t ≤ L.length → ¬ t < L.length → (L.take t).any badLab = false → Ev (fun k => hearsayref01_Of.l0 k L 1 (t : Int)) ((name_Of.f L).getD (⟨#[]⟩, 0)) := by
    intro t h1 h2 h3
    rw [List.take_of_length_le (by omega)] at h3
    have h := of_l1 L h3 hn L.length 0 (by omega) (by omega) (by simp [glue])
    have e : (name_Of.f L).getD (⟨#[]⟩, 0) = if 255 < (glue L).length + 1 then (⟨#[]⟩, 2) else (nameOf L, 0) := by
      unfold name_Of.f nameOf
      rw [if_neg (by rw [h3]; simp)]
      split <;> rfl
    rw [e]
    refine Ev.step (fun k => ?_) h
    simp only [hearsayref01_Of.l0]
    rw [if_neg (by omega)]
    rfl
  induction d with
  | zero => intro t hd h1 h3; exact fin t h1 (by omega) h3
  | succ d ih =>
    intro t hd h1 h3
    by_cases ht : t < L.length
    · obtain ⟨s, hs, hr⟩ := rd_at ht
      by_cases hb : badLab s = true
      · have e : (name_Of.f L).getD (⟨#[]⟩, 0) = (⟨#[]⟩, 10) := by
          unfold name_Of.f; rw [if_pos (of_bad hs hb)]; rfl
        rw [e]
        refine Ev.step (f := fun _ => some (⟨#[]⟩, 10)) (fun k => ?_) (Ev.now _)
        simp only [hearsayref01_Of.l0]
        rw [if_pos (by omega), if_pos (by omega), hr]
        unfold badLab at hb
        simp only [Bool.or_eq_true, decide_eq_true_eq] at hb
        by_cases h0 : s.size = 0
        · rw [if_pos (by omega)]
        · rw [if_neg (by omega), if_pos (by omega)]
      · have hb' : badLab s = false := by simpa using hb
        have hs2 := bad_false hb'
        refine Ev.step (fun k => ?_) (ih (t + 1) (by omega) (by omega) (any_take hs h3 hb'))
        simp only [hearsayref01_Of.l0]
        rw [if_pos (by omega), if_pos (by omega), hr, if_neg (by omega), if_neg (by omega), w64 (by omega) (by omega)]
        rfl
    · exact fin t h1 ht h3
theorem rof_f (L : List ByteArray) (hn : L.length ≤ 1099511627776) : Ev (fun k => hearsayref01_Of.f k L) ((name_Of.f L).getD (⟨#[]⟩, 0)) := of_l0 L hn L.length 0 (by omega) (by omega) (by simp)
/-! ### Join -/
def joinP (a b : ByteArray) : ByteArray × Int :=
  match dec a, dec b with
  | some L, some M => if 255 < (glue (L ++ M)).length + 1 then (⟨#[]⟩, 2) else (nameOf (L ++ M), 0)
  | _, _ => (⟨#[]⟩, 11)
theorem glue_append (L M : List ByteArray) : glue (L ++ M) = glue L ++ glue M := by simp [glue]
theorem join_front {a b : ByteArray} {L M : List ByteArray} (ha : dec a = some L) (hb : dec b = some M) : a.extract 0 (a.size - 1) ++ b = nameOf (L ++ M) := by
  have h1 := dec_some ha
  have h2 := dec_some hb
  have hs := dec_size ha
  refine bytes_inj ?_
  rw [bytes_nameOf (by rw [List.any_append, h1.2.2, h2.2.2]; rfl), glue_append]
  have e : bytesOf (a.extract 0 (a.size - 1) ++ b) = bytesOf (a.extract 0 (a.size - 1)) ++ bytesOf b := by
    unfold bytesOf; rw [← List.map_append]; congr 1
  rw [e, bytes_extract, h1.2.1, h2.2.1, List.drop_zero, hs, show (glue L).length + 1 - 1 - 0 = (glue L).length by omega, List.take_left, List.append_assoc]
theorem join_size {a b : ByteArray} {L M : List ByteArray} (ha : dec a = some L) (hb : dec b = some M) : a.size - 1 + b.size = (glue (L ++ M)).length + 1 ∧ 0 < a.size ∧ a.size ≤ 255 ∧ b.size ≤ 255 := by
  have h1 := dec_size ha
  have h2 := dec_size hb
  have h3 := (dec_some ha).1
  have h4 := (dec_some hb).1
  rw [glue_append, List.length_append]
  omega
theorem join_f (a b : ByteArray) : Ev (fun k => name_Join.f k a b) (joinP a b) := by
  refine Ev.bind (f := fun k (x : Int) => if x = 0 then (name_Check.f k b).bind fun y => name_Join.j0 k a b (y != 0) else name_Join.j0 k a b true) (check_f a) ?_
  have no : Ev (fun k => name_Join.j0 k a b true) (⟨#[]⟩, 11) := by
    refine Ev.step (f := fun _ => some (⟨#[]⟩, 11)) (fun k => ?_) (Ev.now _)
    simp only [name_Join.j0]; rw [if_pos trivial]
  unfold joinP
  cases ha : dec a with
  | none =>
    simp only [Option.isSome_none]
    refine Ev.congr (fun k => ?_) no
    rw [if_neg (by simp)]
  | some L =>
    refine Ev.congr (f := fun k => (name_Check.f k b).bind fun y => name_Join.j0 k a b (y != 0)) (fun k => by simp) ?_
    refine Ev.bind (f := fun k (y : Int) => name_Join.j0 k a b (y != 0)) (check_f b) ?_
    cases hb : dec b with
    | none => exact no
    | some M =>
      simp only [Option.isSome_some, if_true]
      obtain ⟨j1, j2, j3, j4⟩ := join_size ha hb
      have jf := join_front ha hb
      have e0 : wrap64 ((a.size : Int) - 1) = ((a.size - 1 : Nat) : Int) := by rw [w64 (by omega) (by omega)]; omega
      have e1 : wrap64 (((a.size - 1 : Nat) : Int) + (b.size : Int)) = (((glue (L ++ M)).length + 1 : Nat) : Int) := by rw [w64 (by omega) (by omega), ← j1]; omega
      refine Ev.step (f := fun _ => some (if 255 < (glue (L ++ M)).length + 1 then (⟨#[]⟩, 2) else (nameOf (L ++ M), 0))) (fun k => ?_) (Ev.now _)
      have e2 : ((0 : Int) != 0) = false := rfl
      rw [e2]
      simp only [name_Join.j0]
      rw [if_neg (by simp), e0, e1]
      by_cases hl : 255 < (glue (L ++ M)).length + 1
      · rw [if_pos (by omega), if_pos hl]
      · rw [if_neg (by omega), if_neg hl, if_pos (by omega), if_pos (by omega), Int.toNat_natCast, jf, if_pos (by rw [ByteArray.size_extract]; omega)]
theorem rjoin_f (a b : ByteArray) : Ev (fun k => hearsayref01_Join.f k a b) (joinP a b) := by
  obtain ⟨l1, hE1, hL1⟩ := split_f a
  obtain ⟨l2, hE2, hL2⟩ := split_f b
  unfold joinP
  refine Ev.bind (f := fun k (x : List ByteArray × Bool) => (hearsayref01_Split.f k b).bind fun y => if x.2 = true then if y.2 = true then if ([] : List ByteArray).length + x.1.length < 8796093022208 then (some (([] : List ByteArray) ++ x.1 : List ByteArray)).bind fun y288 => (if y288.length + y.1.length < 8796093022208 then ((hearsayref01_Of.f k (y288 ++ y.1)).bind fun bt294 => (some (bt294.1, bt294.2))) else (none)) else none else some (⟨#[]⟩, 11) else some (⟨#[]⟩, 11)) hE1 ?_
  refine Ev.bind (f := fun k (y : List ByteArray × Bool) => if (dec a).isSome = true then if y.2 = true then if ([] : List ByteArray).length + l1.length < 8796093022208 then (some (([] : List ByteArray) ++ l1 : List ByteArray)).bind fun y288 => (if y288.length + y.1.length < 8796093022208 then ((hearsayref01_Of.f k (y288 ++ y.1)).bind fun bt294 => (some (bt294.1, bt294.2))) else (none)) else none else some (⟨#[]⟩, 11) else some (⟨#[]⟩, 11)) hE2 ?_
  cases ha : dec a with
  | none => exact Ev.congr (fun k => by rw [if_neg (by simp)]) (Ev.now _)
  | some L =>
    cases hb : dec b with
    | none => exact Ev.congr (fun k => by simp only [Option.isSome_some, Option.isSome_none]; rw [if_pos trivial, if_neg (by simp)]) (Ev.now _)
    | some M =>
      have e1 := hL1 L ha
      have e2 := hL2 M hb
      subst e1; subst e2
      have q1 := labels_length ha
      have q2 := labels_length hb
      have h := rof_f (l1 ++ l2) (by rw [List.length_append]; omega)
      have e : (name_Of.f (l1 ++ l2)).getD (⟨#[]⟩, 0) = if 255 < (glue (l1 ++ l2)).length + 1 then (⟨#[]⟩, 2) else (nameOf (l1 ++ l2), 0) := by
        unfold name_Of.f nameOf
        rw [if_neg (by rw [List.any_append, (dec_some ha).2.2, (dec_some hb).2.2]; simp)]
        split <;> rfl
      rw [e] at h
      refine Ev.congr (f := fun k => (hearsayref01_Of.f k (l1 ++ l2)).bind fun x => some (x.1, x.2)) (fun k => ?_) (Ev.bind (f := fun _ (x : ByteArray × Int) => some (x.1, x.2)) h (Ev.now _))
      simp only [Option.isSome_some]
      rw [if_pos trivial, if_pos trivial, if_pos (by simp only [List.length_nil]; omega)]
      simp only [Option.bind_some, List.nil_append]
      rw [if_pos (by omega)]
end Go.Proofs.Ytplnknhlgdoliaa.Print
end
section
/- What name's Last, Parent, Under tell, and the document's. -/
namespace Go.Proofs.Ytplnknhlgdoliaa.Print
set_option linter.unusedVariables false
set_option linter.unusedSimpArgs false
open Go.RowKit Go.Proofs.YtplnknhlgdoliaaW.PrintWords Go.Proofs.YtplnknhlgdoliaaW.PrintLast Go.Proofs.YtplnknhlgdoliaaW.PrintMore
theorem suffix_at {n : ByteArray} {L1 L2 : List ByteArray} (h : dec n = some (L1 ++ L2)) : n.extract (glue L1).length n.size = nameOf L2 ∧ (glue L1).length + 1 ≤ n.size := by
  obtain ⟨h1, h2, h3⟩ := dec_some h
  have hs := dec_size h
  rw [List.any_append, Bool.or_eq_false_iff] at h3
  rw [glue_append, List.length_append] at hs
  refine ⟨bytes_inj ?_, by omega⟩
  rw [bytes_nameOf h3.2, bytes_extract, h2, glue_append, List.append_assoc, List.drop_left]
  exact List.take_of_length_le (by simp; omega)
theorem suffix_off {n : ByteArray} {L : List ByteArray} (h : dec n = some L) (j : Nat) (hj : j ≤ L.length) : n.extract (glue (L.take j)).length n.size = nameOf (L.drop j) ∧ (glue (L.take j)).length + 1 ≤ n.size := suffix_at (by rw [List.take_append_drop]; exact h)
theorem offs_rd (L : List ByteArray) (j : Nat) (hj : j < L.length) : rd (offs 0 L) (j : Int) = ((glue (L.take j)).length : Int) := by
  have ho := offs_at (L.take j) 0 L[j] (L.drop (j + 1))
  rw [List.getElem_cons_drop hj, List.take_append_drop, List.length_take, Nat.min_eq_left (by omega), Nat.zero_add] at ho
  simp [rd, List.getD_eq_getElem?_getD, ho]
theorem drop_fine {L : List ByteArray} (h : L.any badLab = false) (j : Nat) : (L.drop j).any badLab = false := by
  rw [List.any_eq_false] at h ⊢
  exact fun x hx => h x (List.mem_of_mem_drop hx)
theorem glue_drop {n : ByteArray} {L : List ByteArray} (h : dec n = some L) (j : Nat) : (glue (L.drop j)).length + 1 ≤ 255 := by
  have h1 := dec_size h
  have h2 := (dec_some h).1
  have e : (glue L).length = (glue (L.take j)).length + (glue (L.drop j)).length := by rw [← List.length_append, ← glue_append, List.take_append_drop]
  omega
def lastP (n : ByteArray) (a : Int) : ByteArray × Bool :=
  match dec n with
  | none => (⟨#[]⟩, false)
  | some L => if a < 0 ∨ (L.length : Int) < a then (⟨#[]⟩, false) else (nameOf (L.drop (L.length - a.toNat)), true)
def parentP (n : ByteArray) : ByteArray × Bool :=
  match dec n with
  | some (s :: L) => (nameOf L, true)
  | _ => (⟨#[]⟩, false)
def underP (n z : ByteArray) : Bool :=
  match dec n, dec z with
  | some L, some M => if L.length < M.length then false else (lowS (nameOf (L.drop (L.length - M.length)))).toList == (lowS z).toList
  | _, _ => false
theorem nameOf_nil : nameOf [] = ⟨#[0]⟩ := by kernel_rfl
theorem last_f (n : ByteArray) (a : Int) (h0 : -9223372036854775808 ≤ a) (h1 : a ≤ 9223372036854775807) : Ev (fun k => name_Last.f k n a) (lastP n a) := by
  obtain ⟨l', hE, hL⟩ := starts_f n
  refine Ev.bind (f := fun k (x : List Int × Bool) => if x.2 = true then if a < 0 then name_Last.j0 k n a x.1 true else name_Last.j0 k n a x.1 (decide (a > (x.1.length : Int))) else name_Last.j0 k n a x.1 true) hE ?_
  have no : ∀ l : List Int, Ev (fun k => name_Last.j0 k n a l true) (⟨#[]⟩, false) := fun l => by
    refine Ev.step (f := fun _ => some (⟨#[]⟩, false)) (fun k => ?_) (Ev.now _)
    simp only [name_Last.j0]; rw [if_pos trivial]
  unfold lastP
  cases h : dec n with
  | none => exact Ev.congr (fun k => by simp) (no l')
  | some L =>
    have e := hL L h
    subst e
    have hl := labels_length h
    have hol := offs_length 0 L
    simp only [Option.isSome_some]
    by_cases ha : a < 0
    · rw [if_pos (Or.inl ha)]
      exact Ev.congr (fun k => by rw [if_pos trivial, if_pos ha]) (no _)
    · by_cases hb : (L.length : Int) < a
      · rw [if_pos (Or.inr hb)]
        exact Ev.congr (fun k => by rw [if_pos trivial, if_neg ha, decide_eq_true (by omega)]) (no _)
      · rw [if_neg (by omega)]
        refine Ev.congr (f := fun k => name_Last.j0 k n a (offs 0 L) false) (fun k => by rw [if_pos trivial, if_neg ha, decide_eq_false (by omega)]) ?_
        refine Ev.step (f := fun _ => some (nameOf (L.drop (L.length - a.toNat)), true)) (fun k => ?_) (Ev.now _)
        simp only [name_Last.j0]
        rw [if_neg (by simp)]
        by_cases hz : a = 0
        · rw [if_pos hz, hz, List.drop_of_length_le (by simp), nameOf_nil]
        · have hw : wrap64 (((offs 0 L).length : Int) - a) = ((L.length - a.toNat : Nat) : Int) := by rw [w64 (by omega) (by omega)]; omega
          have hs := suffix_off h (L.length - a.toNat) (by omega)
          rw [if_neg hz, hw, if_pos (by omega), if_pos (by omega), offs_rd L _ (by omega), if_pos (by omega), if_pos (by omega), Int.toNat_natCast, hs.1]
theorem rlast_f (n : ByteArray) (a : Int) (h0 : -9223372036854775808 ≤ a) (h1 : a ≤ 9223372036854775807) : Ev (fun k => hearsayref01_Last.f k n a) (lastP n a) := by
  obtain ⟨l', hE, hL⟩ := split_f n
  refine Ev.bind (f := fun _ (x : List ByteArray × Bool) => if x.2 = true then if a < 0 then some (⟨#[]⟩, false) else if a > (x.1.length : Int) then some (⟨#[]⟩, false) else if 0 ≤ wrap64 ((x.1.length : Int) - a) then if wrap64 ((x.1.length : Int) - a) ≤ (x.1.length : Int) then (hearsayref01_Glue.f (x.1.drop (wrap64 ((x.1.length : Int) - a)).toNat)).bind fun t => some (t, true) else none else none else some (⟨#[]⟩, false)) hE ?_
  unfold lastP
  cases h : dec n with
  | none => exact Ev.congr (fun k => by simp) (Ev.now _)
  | some L =>
    have e := hL L h
    subst e
    have hl := labels_length h
    simp only [Option.isSome_some]
    refine Ev.congr (fun k => ?_) (Ev.now _)
    rw [if_pos trivial]
    by_cases ha : a < 0
    · rw [if_pos ha, if_pos (Or.inl ha)]
    · by_cases hb : (l'.length : Int) < a
      · rw [if_neg ha, if_pos (by omega), if_pos (Or.inr hb)]
      · have hw : wrap64 ((l'.length : Int) - a) = ((l'.length - a.toNat : Nat) : Int) := by rw [w64 (by omega) (by omega)]; omega
        have hg := glue_drop h (l'.length - a.toNat)
        rw [if_neg ha, if_neg (show ¬ a > (l'.length : Int) by omega), hw, if_pos (by omega), if_pos (by omega), Int.toNat_natCast, glue_f (drop_fine (dec_some h).2.2 _) (by omega), if_neg (show ¬ (a < 0 ∨ (l'.length : Int) < a) by omega)]
        rfl
theorem parent_f (n : ByteArray) : Ev (fun k => name_Parent.f k n) (parentP n) := by
  obtain ⟨l', hE, hL⟩ := starts_f n
  refine Ev.bind (f := fun _ (x : List Int × Bool) => if x.2 = true then if (x.1.length : Int) = 0 then some (⟨#[]⟩, false) else if 0 < (n.size : Int) then if 0 ≤ wrap64 (1 + wrap64 (bt n 0)) then if wrap64 (1 + wrap64 (bt n 0)) ≤ (n.size : Int) then some (n.extract (wrap64 (1 + wrap64 (bt n 0))).toNat n.size, true) else none else none else none else some (⟨#[]⟩, false)) hE ?_
  unfold parentP
  cases h : dec n with
  | none => exact Ev.congr (fun k => by simp) (Ev.now _)
  | some L =>
    have e := hL L h
    subst e
    simp only [Option.isSome_some]
    refine Ev.congr (fun k => ?_) (Ev.now _)
    rw [if_pos trivial]
    cases L with
    | nil => rfl
    | cons s L =>
      obtain ⟨g1, g2, g3⟩ := label_at (L1 := []) h
      have hs := suffix_at (L1 := [s]) h
      have hgl : (glue [s]).length = s.size + 1 := by simp [glue, lab_length]
      have hsz := (dec_some h).1
      have g1' : bt n 0 = (s.size : Int) := g1
      have e1 : wrap64 (1 + wrap64 (bt n 0)) = ((s.size + 1 : Nat) : Int) := by rw [g1', w64 (n := (s.size : Int)) (by omega) (by omega), w64 (by omega) (by omega)]; omega
      rw [if_neg (by simp only [offs, List.length_cons]; omega), if_pos (by omega), e1, if_pos (by omega), if_pos (by omega), Int.toNat_natCast, ← hgl, hs.1]
theorem rparent_f (n : ByteArray) : Ev (fun k => hearsayref01_Parent.f k n) (parentP n) := by
  obtain ⟨l', hE, hL⟩ := split_f n
  have hLab : Ev (fun k => hearsayref01_Labels.f k n) ((dec n).getD []) := by
    refine Ev.bind (f := fun _ (x : List ByteArray × Bool) => if x.2 = true then some x.1 else some []) hE ?_
    cases h : dec n with
    | none => exact Ev.now _
    | some L => rw [hL L h]; exact Ev.now _
  refine Ev.bind (f := fun _ (t : List ByteArray) => if (t.length : Int) = 0 then some (⟨#[]⟩, false) else if 1 ≤ (t.length : Int) then (hearsayref01_Glue.f (t.drop 1)).bind fun u => some (u, true) else none) hLab ?_
  unfold parentP
  cases h : dec n with
  | none => exact Ev.now _
  | some L =>
    refine Ev.congr (fun k => ?_) (Ev.now _)
    rw [Option.getD_some]
    cases L with
    | nil => rfl
    | cons s L =>
      have hg := glue_drop h 1
      rw [if_neg (by simp only [List.length_cons]; omega), if_pos (by simp only [List.length_cons]; omega), glue_f (drop_fine (dec_some h).2.2 1) (by omega)]
      rfl
theorem under_f (n z : ByteArray) : Ev (fun k => name_Under.f k n z) (underP n z) := by
  obtain ⟨l1, hE1, hL1⟩ := starts_f n
  obtain ⟨l2, hE2, hL2⟩ := starts_f z
  refine Ev.bind (f := fun k (x : List Int × Bool) => (name_starts.f k z).bind fun y => if x.2 = true then if y.2 = true then name_Under.j0 k n z x.1 y.1 (decide ((x.1.length : Int) < (y.1.length : Int))) else name_Under.j0 k n z x.1 y.1 true else name_Under.j0 k n z x.1 y.1 true) hE1 ?_
  refine Ev.bind (f := fun k (y : List Int × Bool) => if (dec n).isSome = true then if y.2 = true then name_Under.j0 k n z l1 y.1 (decide ((l1.length : Int) < (y.1.length : Int))) else name_Under.j0 k n z l1 y.1 true else name_Under.j0 k n z l1 y.1 true) hE2 ?_
  have no : Ev (fun k => name_Under.j0 k n z l1 l2 true) false := by
    refine Ev.step (f := fun _ => some false) (fun k => ?_) (Ev.now _)
    simp only [name_Under.j0]; rw [if_pos trivial]
  unfold underP
  cases h : dec n with
  | none => exact Ev.congr (fun k => by simp) no
  | some L =>
    cases h2 : dec z with
    | none => exact Ev.congr (fun k => by simp) no
    | some M =>
      simp only [Option.isSome_some]
      have e1 := hL1 L h
      have e2 := hL2 M h2
      have hl := labels_length h
      have hm := labels_length h2
      have ho1 : l1.length = L.length := by rw [e1, offs_length]
      have ho2 : l2.length = M.length := by rw [e2, offs_length]
      have hz := (dec_some h).1
      have hz2 := (dec_some h2).1
      have fz : name_Fold.f z = some (lowS z) := fold_f (by omega)
      have fs : ∀ j : Nat, name_Fold.f (nameOf (L.drop j)) = some (lowS (nameOf (L.drop j))) := fun j => fold_f (by
        have := glue_drop h j
        unfold nameOf; rw [strOfNums_size]; simp; omega)
      by_cases hlt : L.length < M.length
      · rw [if_pos hlt]
        exact Ev.congr (fun k => by rw [if_pos trivial, if_pos trivial, decide_eq_true (by omega)]) no
      · rw [if_neg hlt]
        refine Ev.congr (f := fun k => name_Under.j0 k n z l1 l2 false) (fun k => by rw [if_pos trivial, if_pos trivial, decide_eq_false (by omega)]) ?_
        refine Ev.step (f := fun _ => some ((lowS (nameOf (L.drop (L.length - M.length)))).toList == (lowS z).toList)) (fun k => ?_) (Ev.now _)
        simp only [name_Under.j0]
        rw [if_neg (by simp)]
        have hs := suffix_off h (L.length - M.length) (by omega)
        by_cases hM : 0 < M.length
        · have hw : wrap64 ((l1.length : Int) - (l2.length : Int)) = ((L.length - M.length : Nat) : Int) := by rw [w64 (by omega) (by omega)]; omega
          rw [if_pos (by omega), hw, if_pos (by omega), if_pos (by omega), e1, offs_rd L _ (by omega), if_pos (by omega), if_pos (by omega), Int.toNat_natCast, hs.1, fs]
          simp only [Option.bind_some]
          rw [fz]
          rfl
        · have hM0 : M.length = 0 := by omega
          have hg : (glue (L.take (L.length - M.length))).length = n.size - 1 := by
            rw [List.take_of_length_le (by omega)]; have := dec_size h; omega
          have hw : wrap64 ((n.size : Int) - 1) = ((n.size - 1 : Nat) : Int) := by rw [w64 (by omega) (by omega)]; omega
          rw [if_neg (by omega), hw, if_pos (by omega), if_pos (by omega), Int.toNat_natCast, ← hg, hs.1, fs]
          simp only [Option.bind_some]
          rw [fz]
          rfl
theorem runder_f (n z : ByteArray) : Ev (fun k => hearsayref01_Under.f k n z) (underP n z) := by
  obtain ⟨l1, hE1, hL1⟩ := split_f n
  obtain ⟨l2, hE2, hL2⟩ := split_f z
  refine Ev.bind (f := fun k (x : List ByteArray × Bool) => (hearsayref01_Split.f k z).bind fun y => if x.2 = true then if y.2 = true then hearsayref01_Under.j0 k z x.1 y.1 (decide ((x.1.length : Int) < (y.1.length : Int))) else hearsayref01_Under.j0 k z x.1 y.1 true else hearsayref01_Under.j0 k z x.1 y.1 true) hE1 ?_
  refine Ev.bind (f := fun k (y : List ByteArray × Bool) => if (dec n).isSome = true then if y.2 = true then hearsayref01_Under.j0 k z l1 y.1 (decide ((l1.length : Int) < (y.1.length : Int))) else hearsayref01_Under.j0 k z l1 y.1 true else hearsayref01_Under.j0 k z l1 y.1 true) hE2 ?_
  have no : Ev (fun k => hearsayref01_Under.j0 k z l1 l2 true) false := by
    refine Ev.step (f := fun _ => some false) (fun k => ?_) (Ev.now _)
    simp only [hearsayref01_Under.j0]; rw [if_pos trivial]
  unfold underP
  cases h : dec n with
  | none => exact Ev.congr (fun k => by simp) no
  | some L =>
    cases h2 : dec z with
    | none => exact Ev.congr (fun k => by simp) no
    | some M =>
      simp only [Option.isSome_some]
      have e1 := hL1 L h
      have e2 := hL2 M h2
      subst e1; subst e2
      have hl := labels_length h
      have hm := labels_length h2
      have hz2 := (dec_some h2).1
      have fz : hearsayref01_Fold.f z = some (lowS z) := by unfold hearsayref01_Fold.f; rw [low_f (by omega)]; rfl
      by_cases hlt : l1.length < l2.length
      · rw [if_pos hlt]
        exact Ev.congr (fun k => by rw [if_pos trivial, if_pos trivial, decide_eq_true (by omega)]) no
      · rw [if_neg hlt]
        refine Ev.congr (f := fun k => hearsayref01_Under.j0 k z l1 l2 false) (fun k => by rw [if_pos trivial, if_pos trivial, decide_eq_false (by omega)]) ?_
        refine Ev.step (f := fun _ => some ((lowS (nameOf (l1.drop (l1.length - l2.length)))).toList == (lowS z).toList)) (fun k => ?_) (Ev.now _)
        simp only [hearsayref01_Under.j0]
        have hw : wrap64 ((l1.length : Int) - (l2.length : Int)) = ((l1.length - l2.length : Nat) : Int) := by rw [w64 (by omega) (by omega)]; omega
        have hg := glue_drop h (l1.length - l2.length)
        have fs : hearsayref01_Fold.f (nameOf (l1.drop (l1.length - l2.length))) = some (lowS (nameOf (l1.drop (l1.length - l2.length)))) := by
          unfold hearsayref01_Fold.f; rw [low_f (by unfold nameOf; rw [strOfNums_size]; simp; omega)]; rfl
        rw [if_neg (by simp), hw, if_pos (by omega), if_pos (by omega), Int.toNat_natCast, glue_f (drop_fine (dec_some h).2.2 _) (by omega)]
        simp only [Option.bind_some]
        unfold hearsayref01_Alike.f
        rw [fs, fz]
        rfl
end Go.Proofs.Ytplnknhlgdoliaa.Print
end
section
/- hearsaylaw01.wakes tells true. -/
namespace Go.Proofs.Ytplnknhlgdoliaa.Print
set_option linter.unusedVariables false
set_option linter.unusedSimpArgs false
open Go.RowKit Go.Proofs.YtplnknhlgdoliaaW.PrintWords Go.Proofs.YtplnknhlgdoliaaW.PrintLast Go.Proofs.YtplnknhlgdoliaaW.PrintMore
theorem wakes_ev : Ev (fun k => hearsaylaw01_wakes.f k) true := by
  have h1 : name_Parse.f ⟨#[65, 98, 46, 99]⟩ ⟨#[0]⟩ = some (⟨#[2, 65, 98, 1, 99, 0]⟩, 0) := by kernel_rfl
  have h2 : name_Fold.f ⟨#[2, 65, 98, 1, 99, 0]⟩ = some ⟨#[2, 97, 98, 1, 99, 0]⟩ := by kernel_rfl
  have h3 : name_Text.f ⟨#[2, 97, 98, 1, 99, 0]⟩ = some ⟨#[97, 98, 46, 99, 46]⟩ := by kernel_rfl
  have h4 := count_f ⟨#[2, 65, 98, 1, 99, 0]⟩
  have h5 := check_f ⟨#[2, 65, 98, 1, 99, 0]⟩
  have e4 : (((dec ⟨#[2, 65, 98, 1, 99, 0]⟩).getD []).length : Int) = 2 := by kernel_rfl
  have e5 : (if (dec ⟨#[2, 65, 98, 1, 99, 0]⟩).isSome then (0 : Int) else 11) = 0 := by kernel_rfl
  have e6 : (⟨#[2, 65, 98, 1, 99, 0]⟩ : ByteArray).toList = [2, 65, 98, 1, 99, 0] := by kernel_rfl
  have e7 : (⟨#[97, 98, 46, 99, 46]⟩ : ByteArray).toList = [97, 98, 46, 99, 46] := by kernel_rfl
  rw [e4] at h4
  rw [e5] at h5
  refine Ev.congr (f := fun k => (name_Count.f k ⟨#[2, 65, 98, 1, 99, 0]⟩).bind fun c => if c = 2 then (name_Check.f k ⟨#[2, 65, 98, 1, 99, 0]⟩).bind fun d => some (d == 0) else some false) (fun k => ?_) ?_
  · unfold hearsaylaw01_wakes.f
    rw [h1]
    simp only [Option.bind_some]
    rw [if_pos trivial, if_pos e6, h2]
    simp only [Option.bind_some]
    rw [h3]
    simp only [Option.bind_some]
    rw [if_pos e7]
  · refine Ev.bind (f := fun k c => if c = 2 then (name_Check.f k ⟨#[2, 65, 98, 1, 99, 0]⟩).bind fun d => some (d == 0) else some false) h4 ?_
    exact Ev.bind (f := fun k (d : Int) => some (d == 0)) h5 (Ev.now _)
end Go.Proofs.Ytplnknhlgdoliaa.Print
end
section
/- What lies at or under a name, above it, and its last labels, are what the document says. No condition beyond the statement's own. -/
namespace Go.Proofs.Ytplnknhlgdoliaa.Pure
open Go.RowKit Go.Proofs.Ytplnknhlgdoliaa.Print Go.Proofs.YtplnknhlgdoliaaW.PrintWords Go.Proofs.YtplnknhlgdoliaaW.PrintLast
theorem NameUnder : hearsaylaw01_NameUnder.Pure := by
  intro n z a hn hz ha
  obtain ⟨h0, h1⟩ : -9223372036854775808 ≤ a ∧ a ≤ 9223372036854775807 := by
    simp [Lit.wf, IntKind.min, IntKind.max, IntKind.signed, IntKind.bits] at ha
    omega
  refine Ev.rounds (g := fun k => hearsaylaw01_NameUnder.f k n z a) ?_
  unfold hearsaylaw01_NameUnder.f
  refine Ev.bind (f := fun k (x1 : ByteArray × Bool) => (hearsayref01_Parent.f k n).bind fun x2 => (name_Last.f k n a).bind fun x3 => (hearsayref01_Last.f k n a).bind fun x4 => (name_Under.f k n z).bind fun x5 => (hearsayref01_Under.f k n z).bind fun x6 => if (x5 == x6) = true then if (x1.2 == x2.2) = true then if x1.1.toList = x2.1.toList then if (x3.2 == x4.2) = true then if x3.1.toList = x4.1.toList then (hearsaylaw01_wakes.f k).bind fun t => some t else some false else some false else some false else some false else some false) (parent_f n) ?_
  refine Ev.bind (f := fun k (x2 : ByteArray × Bool) => (name_Last.f k n a).bind fun x3 => (hearsayref01_Last.f k n a).bind fun x4 => (name_Under.f k n z).bind fun x5 => (hearsayref01_Under.f k n z).bind fun x6 => if (x5 == x6) = true then if ((parentP n).2 == x2.2) = true then if (parentP n).1.toList = x2.1.toList then if (x3.2 == x4.2) = true then if x3.1.toList = x4.1.toList then (hearsaylaw01_wakes.f k).bind fun t => some t else some false else some false else some false else some false else some false) (rparent_f n) ?_
  refine Ev.bind (f := fun k (x3 : ByteArray × Bool) => (hearsayref01_Last.f k n a).bind fun x4 => (name_Under.f k n z).bind fun x5 => (hearsayref01_Under.f k n z).bind fun x6 => if (x5 == x6) = true then if ((parentP n).2 == (parentP n).2) = true then if (parentP n).1.toList = (parentP n).1.toList then if (x3.2 == x4.2) = true then if x3.1.toList = x4.1.toList then (hearsaylaw01_wakes.f k).bind fun t => some t else some false else some false else some false else some false else some false) (last_f n a h0 h1) ?_
  refine Ev.bind (f := fun k (x4 : ByteArray × Bool) => (name_Under.f k n z).bind fun x5 => (hearsayref01_Under.f k n z).bind fun x6 => if (x5 == x6) = true then if ((parentP n).2 == (parentP n).2) = true then if (parentP n).1.toList = (parentP n).1.toList then if ((lastP n a).2 == x4.2) = true then if (lastP n a).1.toList = x4.1.toList then (hearsaylaw01_wakes.f k).bind fun t => some t else some false else some false else some false else some false else some false) (rlast_f n a h0 h1) ?_
  refine Ev.bind (f := fun k (x5 : Bool) => (hearsayref01_Under.f k n z).bind fun x6 => if (x5 == x6) = true then if ((parentP n).2 == (parentP n).2) = true then if (parentP n).1.toList = (parentP n).1.toList then if ((lastP n a).2 == (lastP n a).2) = true then if (lastP n a).1.toList = (lastP n a).1.toList then (hearsaylaw01_wakes.f k).bind fun t => some t else some false else some false else some false else some false else some false) (under_f n z) ?_
  refine Ev.bind (f := fun k (x6 : Bool) => if (underP n z == x6) = true then if ((parentP n).2 == (parentP n).2) = true then if (parentP n).1.toList = (parentP n).1.toList then if ((lastP n a).2 == (lastP n a).2) = true then if (lastP n a).1.toList = (lastP n a).1.toList then (hearsaylaw01_wakes.f k).bind fun t => some t else some false else some false else some false else some false else some false) (runder_f n z) ?_
  refine Ev.congr (f := fun k => (hearsaylaw01_wakes.f k).bind fun x => some x) (fun k => ?_) (Ev.bind (f := fun _ x => some x) wakes_ev (Ev.now _))
  rw [if_pos (by simp), if_pos (by simp), if_pos rfl, if_pos (by simp), if_pos rfl]
end Go.Proofs.Ytplnknhlgdoliaa.Pure
end
