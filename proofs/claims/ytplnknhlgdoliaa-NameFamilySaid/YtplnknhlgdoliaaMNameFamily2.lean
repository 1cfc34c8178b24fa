/- A part of the proof of NameFamilySaid: 12 texts in one. -/
import Derived.Test.YtplnknhlgdoliaaMNameFamily1
section
-- Written by a program of this session, built on the kit's print (it is not the print's own text).
namespace Go.Proofs.Ytplnknhlgdoliaa.Print
open Go.RowKit Go.Proofs.YtplnknhlgdoliaaW.PrintWords Go.Proofs.YtplnknhlgdoliaaW.PrintLast Go.Proofs.YtplnknhlgdoliaaW.PrintMore
attribute [local go_sem] max2_int min2_int max_two min_two max_three min_three max_four min_four   -- for this text's walks alone
set_option linter.unusedVariables false
set_option linter.unusedSimpArgs false

/-! ### hearsayref01_Join: function 32 -/
def hearsayref01_Join.f (k : Nat) (a0 : ByteArray) (a1 : ByteArray) : Option (ByteArray × Int) := (hearsayref01_Split.f k a0).bind fun bt280 => ((hearsayref01_Split.f k a1).bind fun bt284 => (if bt280.2 = true then (if bt284.2 = true then (if ([] : List ByteArray).length + bt280.1.length < 8796093022208 then ((some (([] : List ByteArray) ++ bt280.1 : List ByteArray)).bind fun y288 => (if y288.length + bt284.1.length < 8796093022208 then ((hearsayref01_Of.f k (y288 ++ bt284.1)).bind fun bt294 => (some (bt294.1, bt294.2))) else (none))) else (none)) else (some ((⟨#[]⟩ : ByteArray), 11))) else (some ((⟨#[]⟩ : ByteArray), 11))))
theorem hearsayref01_Join.mono : ∀ a0 a1 k, LeO (hearsayref01_Join.f k a0 a1) (hearsayref01_Join.f (k + 1) a0 a1) := by
  intro a0 a1 k
  unfold hearsayref01_Join.f
  repeat' first
      | (with_reducible exact hearsayref01_Of.mono _ _)
      | (with_reducible exact hearsayref01_Split.mono _ _)
      | (with_reducible exact LeO.refl _)
      | (with_reducible exact LeO.none _)
      | (with_reducible refine LeO.ite ?_ ?_)
      | (with_reducible refine LeO.bind ?_ (fun _ => ?_))
      | exact hearsayref01_Of.mono _ _
      | exact hearsayref01_Split.mono _ _
      | exact LeO.none _
      | refine LeO.ite ?_ ?_
      | refine LeO.bind ?_ (fun _ => ?_)
set_option maxHeartbeats 8000000 in
set_option maxRecDepth 100000 in
theorem hearsayref01_Join.calls (k : Nat) (a0 : ByteArray) (a1 : ByteArray) (r1 : ByteArray) (r2 : Int) (w : World) (h : hearsayref01_Join.f k a0 a1 = some (r1, r2)) :
    Calls Try.prog 32 #[.string a0, .string a1] w fun e w' => e = .returned (.tuple #[.string r1, .int .i64 r2]) ∧ Below w.heap.size w w' := by
  have HB := Aside0.mk (Below.refl w.heap.size w)
  have H : ((hearsayref01_Split.f k a0).bind fun bt280 => ((hearsayref01_Split.f k a1).bind fun bt284 => (if bt280.2 = true then (if bt284.2 = true then (if ([] : List ByteArray).length + bt280.1.length < 8796093022208 then ((some (([] : List ByteArray) ++ bt280.1 : List ByteArray)).bind fun y288 => (if y288.length + bt284.1.length < 8796093022208 then ((hearsayref01_Of.f k (y288 ++ bt284.1)).bind fun bt294 => (some (bt294.1, bt294.2))) else (none))) else (none)) else (some ((⟨#[]⟩ : ByteArray), 11))) else (some ((⟨#[]⟩ : ByteArray), 11))))) = some (r1, r2) := h
  clear h
  replace H := Option.bind_eq_some_iff.mp H
  obtain ⟨⟨t280, t281⟩, A30, H⟩ := H
  replace H : ((hearsayref01_Split.f k a1).bind fun bt284 => (if t281 = true then (if bt284.2 = true then (if ([] : List ByteArray).length + t280.length < 8796093022208 then ((some (([] : List ByteArray) ++ t280 : List ByteArray)).bind fun y288 => (if y288.length + bt284.1.length < 8796093022208 then ((hearsayref01_Of.f k (y288 ++ bt284.1)).bind fun bt294 => (some (bt294.1, bt294.2))) else (none))) else (none)) else (some ((⟨#[]⟩ : ByteArray), 11))) else (some ((⟨#[]⟩ : ByteArray), 11)))) = some (r1, r2) := H
  have A3 := Aside0.mk A30
  clear A30
  replace H := Option.bind_eq_some_iff.mp H
  obtain ⟨⟨t284, t285⟩, A40, H⟩ := H
  replace H : (if t281 = true then (if t285 = true then (if ([] : List ByteArray).length + t280.length < 8796093022208 then ((some (([] : List ByteArray) ++ t280 : List ByteArray)).bind fun y288 => (if y288.length + t284.length < 8796093022208 then ((hearsayref01_Of.f k (y288 ++ t284)).bind fun bt294 => (some (bt294.1, bt294.2))) else (none))) else (none)) else (some ((⟨#[]⟩ : ByteArray), 11))) else (some ((⟨#[]⟩ : ByteArray), 11))) = some (r1, r2) := H
  have A4 := Aside0.mk A40
  clear A40
  by_cases c5 : t281 = true
  · subst c5
    have H1 : (if t285 = true then (if ([] : List ByteArray).length + t280.length < 8796093022208 then ((some (([] : List ByteArray) ++ t280 : List ByteArray)).bind fun y288 => (if y288.length + t284.length < 8796093022208 then ((hearsayref01_Of.f k (y288 ++ t284)).bind fun bt294 => (some (bt294.1, bt294.2))) else (none))) else (none)) else (some ((⟨#[]⟩ : ByteArray), 11))) = some (r1, r2) := by rw [if_pos rfl] at H; exact H
    clear H
    have H := H1
    clear H1
    by_cases c6 : t285 = true
    · subst c6
      have H1 : (if ([] : List ByteArray).length + t280.length < 8796093022208 then ((some (([] : List ByteArray) ++ t280 : List ByteArray)).bind fun y288 => (if y288.length + t284.length < 8796093022208 then ((hearsayref01_Of.f k (y288 ++ t284)).bind fun bt294 => (some (bt294.1, bt294.2))) else (none))) else (none)) = some (r1, r2) := by rw [if_pos rfl] at H; exact H
      clear H
      have H := H1
      clear H1
      by_cases c7 : ([] : List ByteArray).length + t280.length < 8796093022208
      · rw [if_pos c7] at H
        have LMc7 := Aside0.mk c7
        clear c7
        obtain ⟨y288, hy288⟩ : ∃ y_ : List ByteArray, y_ = (([] : List ByteArray) ++ t280) := ⟨_, rfl⟩
        replace H : (if y288.length + t284.length < 8796093022208 then ((hearsayref01_Of.f k (y288 ++ t284)).bind fun bt294 => (some (bt294.1, bt294.2))) else (none)) = some (r1, r2) := by first | (rw [hy288]; with_reducible exact H) | (have H2_ := (Option.bind_some _ _).symm.trans H; rw [hy288]; with_reducible exact H2_) | (have H2_ := (Option.bind_some _ _).symm.trans H; with_reducible exact H2_) | with_reducible exact H | (rw [hy288]; exact H) | exact H
        have Ny288 := Aside0.mk hy288
        clear hy288
        by_cases c8 : y288.length + t284.length < 8796093022208
        · rw [if_pos c8] at H
          have LMc8 := Aside0.mk c8
          clear c8
          obtain ⟨y291, hy291⟩ : ∃ y_ : List ByteArray, y_ = (y288 ++ t284) := ⟨_, rfl⟩
          replace H : ((hearsayref01_Of.f k y291).bind fun bt294 => (some (bt294.1, bt294.2))) = some (r1, r2) := by first | (rw [hy291]; with_reducible exact H) | (have H2_ := (Option.bind_some _ _).symm.trans H; rw [hy291]; with_reducible exact H2_) | (have H2_ := (Option.bind_some _ _).symm.trans H; with_reducible exact H2_) | with_reducible exact H | (rw [hy291]; exact H) | exact H
          have Ny291 := Aside0.mk hy291
          clear hy291
          replace H := Option.bind_eq_some_iff.mp H
          obtain ⟨⟨t294, t295⟩, A90, H⟩ := H
          replace H : (some (t294, t295)) = some (r1, r2) := H
          have A9 := Aside0.mk A90
          clear A90
          simp only [Option.some.injEq, Prod.mk.injEq] at H
          obtain ⟨rfl, rfl⟩ := H
          go_enter Try.func32, Try.ntmps32
          go_wp2_with (first | ((with_reducible refine gate_callee (f := 13) rfl ?_); refine goesL_ (some 12) rfl rfl Try.func13 (by kernel_rfl) rfl #[.string a0] rfl (by (try simp only [List.map_toArray, List.map_cons, List.map_nil]); first | done | rfl | (simp only [List.length_drop, List.length_take]; rfl)) ?_; (with_reducible refine (hearsayref01_Split.calls k a0 t280 true _ A3.out).mono ?_); rintro e w10 ⟨v282, rfl, ho0, hb⟩; refine ⟨_, rfl, ?_⟩; have n0_ := Aside0.mk (Kd.R_lower ho0 (below_size (by repeat (first | (with_reducible first | exact HB.out | apply below_alloc | apply pw_below_drewN | apply below_drew1) | exact HB.out)))); have n1_ := Aside0.mk (below_step (by repeat (first | (with_reducible first | exact HB.out | apply below_alloc | apply pw_below_drewN | apply below_drew1) | exact HB.out)) hb); clear HB; have HO283 := n0_; have HB := n1_; clear n0_ n1_; (try clear hb); (try clear hb2); (try clear hk); (try clear hi); (try clear ho0)) | ((with_reducible refine gate_callee (f := 13) rfl ?_); refine goesL_ (some 17) rfl rfl Try.func13 (by kernel_rfl) rfl #[.string a1] rfl (by (try simp only [List.map_toArray, List.map_cons, List.map_nil]); first | done | rfl | (simp only [List.length_drop, List.length_take]; rfl)) ?_; (with_reducible refine (hearsayref01_Split.calls k a1 t284 true _ A4.out).mono ?_); rintro e w11 ⟨v286, rfl, ho0, hb⟩; refine ⟨_, rfl, ?_⟩; have n0_ := Aside0.mk (Kd.R_elder' (by (with_reducible repeat (first | apply Kd.R_alloc | apply Kd.R_drewN | apply Kd.R_drew)); exact HO283.out) (Kd.R_base ho0) hb); have n1_ := Aside0.mk (Kd.R_lower (Kd.R_new' ho0 (Kd.R_lt (by (with_reducible repeat (first | apply Kd.R_alloc | apply Kd.R_drewN | apply Kd.R_drew)); exact HO283.out))) (below_size (by repeat (first | (with_reducible first | exact HB.out | apply below_alloc | apply pw_below_drewN | apply below_drew1) | exact HB.out)))); have n2_ := Aside0.mk (below_step (by repeat (first | (with_reducible first | exact HB.out | apply below_alloc | apply pw_below_drewN | apply below_drew1) | exact HB.out)) hb); clear HO283; clear HB; have HO283 := n0_; have HO287 := n1_; have HB := n2_; clear n0_ n1_ n2_; (try clear hb); (try clear hb2); (try clear hk); (try clear hi); (try clear ho0); obtain ⟨Ao13, co13, eo13⟩ := Kd.R_slice HO283.out; subst eo13) | ((with_reducible refine gate_builtin (b := .append) (xs := #[.const (.slice none 0 0), .tmp 26]) rfl ?_); at_builtin; refine Kd.R_append_rows Kd.string (w0 := w) w.heap.size rfl (.const (.slice none 0 0)) (.tmp 26) 23 9 (.string ⟨#[]⟩) 16 rfl Try.underlying23 info9 rfl (by decide) (by omega) (.slice none 0 0) ([] : List ByteArray) t280 _ _ _ (fun k_ => some k_ ≠ (.slice Ao13 t280.length co13 : Value).ownBlock ∧ some k_ ≠ (v286 : Value).ownBlock) (fun _ => False) rfl rfl ?aO ?aR (fun _ _ h => h) (fun _ h => h.elim) ?aF ?aB ?aS ?aL ?_; (case aR => repeat (first | exact (Kd.R_reads' HO283.out).2.2 | (with_reducible refine Kd.C_alloc ?_ _) | (with_reducible refine Kd.C_drewN ?_ _) | (with_reducible refine Kd.C_drew ?_))); (case aB => exact (by repeat (first | (with_reducible first | exact HB.out | apply below_alloc | apply pw_below_drewN | apply below_drew1) | exact HB.out))); (case aF => exact (fun k_ hk => ⟨Kd.fresh' (Kd.R_lt (by (with_reducible repeat (first | apply Kd.R_alloc | apply Kd.R_drewN | apply Kd.R_drew)); exact HO283.out)) k_ hk, Kd.fresh' (Kd.R_lt (by (with_reducible repeat (first | apply Kd.R_alloc | apply Kd.R_drewN | apply Kd.R_drew)); exact HO287.out)) k_ hk⟩)); (case aO => exact ((Kd.R_nil _ _ _ _ (fun k_ => some k_ ≠ (.slice Ao13 t280.length co13 : Value).ownBlock ∧ some k_ ≠ (v286 : Value).ownBlock)))); (case aS => exact (below_size (by repeat (first | (with_reducible first | exact HB.out | apply below_alloc | apply pw_below_drewN | apply below_drew1) | exact HB.out)))); (case aL => have := LMc7.out; omega); intro v289 w12 ho hb hg hat; rw [← Ny288.out] at ho; have n0_ := Aside0.mk (Kd.R_after (Kd.R_apart_nil (by (with_reducible repeat (first | apply Kd.R_alloc | apply Kd.R_drewN | apply Kd.R_drew)); exact HO283.out)) hg hat); have n1_ := Aside0.mk (Kd.R_after (Kd.R_apart_nil (by (with_reducible repeat (first | apply Kd.R_alloc | apply Kd.R_drewN | apply Kd.R_drew)); exact HO287.out)) hg hat); have n2_ := Aside0.mk (hb); have n3_ := Aside0.mk (ho); clear HO283; clear HO287; clear HB; have HO283 := n0_; have HO287 := n1_; have HB := n2_; have HO290 := n3_; clear n0_ n1_ n2_ n3_; clear ho hb hg hat; obtain ⟨Ao15, co15, eo15⟩ := Kd.R_slice HO287.out; subst eo15) | ((with_reducible refine gate_builtin (b := .append) (xs := #[.tmp 27, .tmp 28]) rfl ?_); at_builtin; refine Kd.R_append_rows Kd.string (w0 := w) w.heap.size rfl (.tmp 27) (.tmp 28) 23 9 (.string ⟨#[]⟩) 16 rfl Try.underlying23 info9 rfl (by decide) (by omega) v289 y288 t284 _ _ _ (fun k_ => some k_ ≠ (.slice Ao13 t280.length co13 : Value).ownBlock ∧ some k_ ≠ (.slice Ao15 t284.length co15 : Value).ownBlock) (fun _ => False) rfl rfl ?aO ?aR (fun _ _ h => h) (fun _ h => h.elim) ?aF ?aB ?aS ?aL ?_; (case aR => repeat (first | exact (Kd.R_reads' HO287.out).2.2 | (with_reducible refine Kd.C_alloc ?_ _) | (with_reducible refine Kd.C_drewN ?_ _) | (with_reducible refine Kd.C_drew ?_))); (case aB => exact (by repeat (first | (with_reducible first | exact HB.out | apply below_alloc | apply pw_below_drewN | apply below_drew1) | exact HB.out))); (case aF => exact (fun k_ hk => ⟨Kd.fresh' (Kd.R_lt (by (with_reducible repeat (first | apply Kd.R_alloc | apply Kd.R_drewN | apply Kd.R_drew)); exact HO283.out)) k_ hk, Kd.fresh' (Kd.R_lt (by (with_reducible repeat (first | apply Kd.R_alloc | apply Kd.R_drewN | apply Kd.R_drew)); exact HO287.out)) k_ hk⟩)); (case aO => exact (by (with_reducible repeat (first | apply Kd.R_alloc | apply Kd.R_drewN | apply Kd.R_drew)); exact HO290.out)); (case aS => exact (below_size (by repeat (first | (with_reducible first | exact HB.out | apply below_alloc | apply pw_below_drewN | apply below_drew1) | exact HB.out)))); (case aL => have := LMc8.out; omega); intro v292 w14 ho hb hg hat; rw [← Ny291.out] at ho; have n0_ := Aside0.mk (Kd.R_after (ok := (fun k_ => some k_ ≠ (.slice Ao15 t284.length co15 : Value).ownBlock)) (by (with_reducible repeat (first | apply Kd.R_alloc | apply Kd.R_drewN | apply Kd.R_drew)); exact Kd.R_mono HO283.out (fun _ hk => ⟨hk.1.2, hk.2⟩)) hg hat); have n1_ := Aside0.mk (Kd.R_after (ok := (fun k_ => some k_ ≠ (.slice Ao13 t280.length co13 : Value).ownBlock)) (by (with_reducible repeat (first | apply Kd.R_alloc | apply Kd.R_drewN | apply Kd.R_drew)); exact Kd.R_mono HO287.out (fun _ hk => ⟨hk.1.2, hk.2⟩)) hg hat); have n2_ := Aside0.mk (hb); have n3_ := Aside0.mk (ho); clear HO283; clear HO287; clear HB; clear HO290; have HO283 := n0_; have HO287 := n1_; have HB := n2_; have HO293 := n3_; clear n0_ n1_ n2_ n3_; clear ho hb hg hat; obtain ⟨Ao16, co16, eo16⟩ := Kd.R_slice HO293.out; subst eo16) | ((with_reducible refine gate_callee (f := 22) rfl ?_); refine goesL_ (some 30) rfl rfl Try.func22 (by kernel_rfl) rfl #[.slice Ao16 y291.length co16] rfl (by (try simp only [List.map_toArray, List.map_cons, List.map_nil]); first | done | rfl | (simp only [List.length_drop, List.length_take]; rfl)) ?_; (with_reducible refine (hearsayref01_Of.calls k _ _ y291 t294 t295 _ ?side1 ?side2 A9.out).mono ?_); (case side1 => repeat (first | exact (Kd.R_reads' HO293.out).2.2 | (with_reducible refine Kd.C_alloc ?_ _) | (with_reducible refine Kd.C_drewN ?_ _) | (with_reducible refine Kd.C_drew ?_))); (case side2 => exact (Kd.R_reads' HO293.out).2.1); rintro e w17 ⟨rfl, hb⟩; refine ⟨_, rfl, ?_⟩; have n0_ := Aside0.mk (Kd.R_below (by (with_reducible repeat (first | apply Kd.R_alloc | apply Kd.R_drewN | apply Kd.R_drew)); exact HO283.out) hb); have n1_ := Aside0.mk (Kd.R_below (by (with_reducible repeat (first | apply Kd.R_alloc | apply Kd.R_drewN | apply Kd.R_drew)); exact HO287.out) hb); have n2_ := Aside0.mk (Kd.R_below (by (with_reducible repeat (first | apply Kd.R_alloc | apply Kd.R_drewN | apply Kd.R_drew)); exact HO293.out) hb); have n3_ := Aside0.mk (below_step (by repeat (first | (with_reducible first | exact HB.out | apply below_alloc | apply pw_below_drewN | apply below_drew1) | exact HB.out)) hb); clear HO283; clear HO287; clear HO293; clear HB; have HO283 := n0_; have HO287 := n1_; have HO293 := n2_; have HB := n3_; clear n0_ n1_ n2_ n3_; (try clear hb); (try clear hb2); (try clear hk); (try clear hi)))
          go_ret2
          exact ⟨by first | rfl | (simp [errW_none, errW_some] <;> rfl) | (simp [*, errW_none, errW_some] <;> rfl), by repeat (first | (with_reducible first | exact HB.out | apply below_alloc | apply pw_below_drewN | apply below_drew1) | exact HB.out)⟩
        · rw [if_neg c8] at H
          exact absurd H (by simp)
      · rw [if_neg c7] at H
        exact absurd H (by simp)
    · replace c6 := Bool.eq_false_iff.mpr c6
      subst c6
      have H1 : (some ((⟨#[]⟩ : ByteArray), 11)) = some (r1, r2) := by rw [if_neg (show ¬ (false = true) by decide)] at H; exact H
      clear H
      have H := H1
      clear H1
      simp only [Option.some.injEq, Prod.mk.injEq] at H
      obtain ⟨rfl, rfl⟩ := H
      go_enter Try.func32, Try.ntmps32
      go_wp2_with (first | ((with_reducible refine gate_callee (f := 13) rfl ?_); refine goesL_ (some 12) rfl rfl Try.func13 (by kernel_rfl) rfl #[.string a0] rfl (by (try simp only [List.map_toArray, List.map_cons, List.map_nil]); first | done | rfl | (simp only [List.length_drop, List.length_take]; rfl)) ?_; (with_reducible refine (hearsayref01_Split.calls k a0 t280 true _ A3.out).mono ?_); rintro e w18 ⟨v282, rfl, ho0, hb⟩; refine ⟨_, rfl, ?_⟩; have n0_ := Aside0.mk (Kd.R_lower ho0 (below_size (by repeat (first | (with_reducible first | exact HB.out | apply below_alloc | apply pw_below_drewN | apply below_drew1) | exact HB.out)))); have n1_ := Aside0.mk (below_step (by repeat (first | (with_reducible first | exact HB.out | apply below_alloc | apply pw_below_drewN | apply below_drew1) | exact HB.out)) hb); clear HB; have HO283 := n0_; have HB := n1_; clear n0_ n1_; (try clear hb); (try clear hb2); (try clear hk); (try clear hi); (try clear ho0)) | ((with_reducible refine gate_callee (f := 13) rfl ?_); refine goesL_ (some 17) rfl rfl Try.func13 (by kernel_rfl) rfl #[.string a1] rfl (by (try simp only [List.map_toArray, List.map_cons, List.map_nil]); first | done | rfl | (simp only [List.length_drop, List.length_take]; rfl)) ?_; (with_reducible refine (hearsayref01_Split.calls k a1 t284 false _ A4.out).mono ?_); rintro e w19 ⟨v286, rfl, ho0, hb⟩; refine ⟨_, rfl, ?_⟩; have n0_ := Aside0.mk (Kd.R_elder' (by (with_reducible repeat (first | apply Kd.R_alloc | apply Kd.R_drewN | apply Kd.R_drew)); exact HO283.out) (Kd.R_base ho0) hb); have n1_ := Aside0.mk (Kd.R_lower (Kd.R_new' ho0 (Kd.R_lt (by (with_reducible repeat (first | apply Kd.R_alloc | apply Kd.R_drewN | apply Kd.R_drew)); exact HO283.out))) (below_size (by repeat (first | (with_reducible first | exact HB.out | apply below_alloc | apply pw_below_drewN | apply below_drew1) | exact HB.out)))); have n2_ := Aside0.mk (below_step (by repeat (first | (with_reducible first | exact HB.out | apply below_alloc | apply pw_below_drewN | apply below_drew1) | exact HB.out)) hb); clear HO283; clear HB; have HO283 := n0_; have HO287 := n1_; have HB := n2_; clear n0_ n1_ n2_; (try clear hb); (try clear hb2); (try clear hk); (try clear hi); (try clear ho0)))
      go_ret2
      exact ⟨by first | rfl | (simp [errW_none, errW_some] <;> rfl) | (simp [*, errW_none, errW_some] <;> rfl), by repeat (first | (with_reducible first | exact HB.out | apply below_alloc | apply pw_below_drewN | apply below_drew1) | exact HB.out)⟩
  · replace c5 := Bool.eq_false_iff.mpr c5
    subst c5
    have H1 : (some ((⟨#[]⟩ : ByteArray), 11)) = some (r1, r2) := by rw [if_neg (show ¬ (false = true) by decide)] at H; exact H
    clear H
    have H := H1
    clear H1
    simp only [Option.some.injEq, Prod.mk.injEq] at H
    obtain ⟨rfl, rfl⟩ := H
    go_enter Try.func32, Try.ntmps32
    go_wp2_with (first | ((with_reducible refine gate_callee (f := 13) rfl ?_); refine goesL_ (some 12) rfl rfl Try.func13 (by kernel_rfl) rfl #[.string a0] rfl (by (try simp only [List.map_toArray, List.map_cons, List.map_nil]); first | done | rfl | (simp only [List.length_drop, List.length_take]; rfl)) ?_; (with_reducible refine (hearsayref01_Split.calls k a0 t280 false _ A3.out).mono ?_); rintro e w20 ⟨v282, rfl, ho0, hb⟩; refine ⟨_, rfl, ?_⟩; have n0_ := Aside0.mk (Kd.R_lower ho0 (below_size (by repeat (first | (with_reducible first | exact HB.out | apply below_alloc | apply pw_below_drewN | apply below_drew1) | exact HB.out)))); have n1_ := Aside0.mk (below_step (by repeat (first | (with_reducible first | exact HB.out | apply below_alloc | apply pw_below_drewN | apply below_drew1) | exact HB.out)) hb); clear HB; have HO283 := n0_; have HB := n1_; clear n0_ n1_; (try clear hb); (try clear hb2); (try clear hk); (try clear hi); (try clear ho0)) | ((with_reducible refine gate_callee (f := 13) rfl ?_); refine goesL_ (some 17) rfl rfl Try.func13 (by kernel_rfl) rfl #[.string a1] rfl (by (try simp only [List.map_toArray, List.map_cons, List.map_nil]); first | done | rfl | (simp only [List.length_drop, List.length_take]; rfl)) ?_; (with_reducible refine (hearsayref01_Split.calls k a1 t284 t285 _ A4.out).mono ?_); rintro e w21 ⟨v286, rfl, ho0, hb⟩; refine ⟨_, rfl, ?_⟩; have n0_ := Aside0.mk (Kd.R_elder' (by (with_reducible repeat (first | apply Kd.R_alloc | apply Kd.R_drewN | apply Kd.R_drew)); exact HO283.out) (Kd.R_base ho0) hb); have n1_ := Aside0.mk (Kd.R_lower (Kd.R_new' ho0 (Kd.R_lt (by (with_reducible repeat (first | apply Kd.R_alloc | apply Kd.R_drewN | apply Kd.R_drew)); exact HO283.out))) (below_size (by repeat (first | (with_reducible first | exact HB.out | apply below_alloc | apply pw_below_drewN | apply below_drew1) | exact HB.out)))); have n2_ := Aside0.mk (below_step (by repeat (first | (with_reducible first | exact HB.out | apply below_alloc | apply pw_below_drewN | apply below_drew1) | exact HB.out)) hb); clear HO283; clear HB; have HO283 := n0_; have HO287 := n1_; have HB := n2_; clear n0_ n1_ n2_; (try clear hb); (try clear hb2); (try clear hk); (try clear hi); (try clear ho0)))
    go_ret2
    exact ⟨by first | rfl | (simp [errW_none, errW_some] <;> rfl) | (simp [*, errW_none, errW_some] <;> rfl), by repeat (first | (with_reducible first | exact HB.out | apply below_alloc | apply pw_below_drewN | apply below_drew1) | exact HB.out)⟩

end Go.Proofs.Ytplnknhlgdoliaa.Print
end
section
/- What the document's Of, Glue, and name's Join, Last, Parent, Under tell. -/
namespace Go.Proofs.Ytplnknhlgdoliaa.Print
set_option linter.unusedVariables false
set_option linter.unusedSimpArgs false
open Go.RowKit Go.Proofs.YtplnknhlgdoliaaW.PrintWords Go.Proofs.YtplnknhlgdoliaaW.PrintLast Go.Proofs.YtplnknhlgdoliaaW.PrintMore
theorem gluew_glue : ∀ (L : List ByteArray), L.any badLab = false → gluew L = glue L
  | [], _ => rfl
  | s :: L, h => by
    rw [List.any_cons, Bool.or_eq_false_iff] at h
    have hs := bad_false h.1
    have ih := gluew_glue L h.2
    simp only [gluew, glue, List.flatMap_cons] at ih ⊢
    rw [ih]
    congr 1
    unfold labw lab
    congr 1
    have : IntKind.u8.wrap (s.size : Int) = (s.size : Int) % 256 := IntKind.wrap_u8 _
    first | (rw [this]; omega) | omega
theorem glue_f {L : List ByteArray} (h : L.any badLab = false) (hl : (glue L).length + 1 ≤ 9223372036854775807) : hearsayref01_Glue.f L = some (nameOf L) := by
  unfold hearsayref01_Glue.f nameOf
  rw [gluew_glue L h, if_pos hl]
theorem rd_at {L : List ByteArray} {t : Nat} (h : t < L.length) : ∃ s, L[t]? = some s ∧ rdOf ByteArray.empty L (t : Int) = s := ⟨L[t], List.getElem?_eq_getElem h, by simp [rdOf, List.getD_eq_getElem?_getD, h]⟩
theorem any_take {L : List ByteArray} {t : Nat} {s : ByteArray} (hs : L[t]? = some s) (h : (L.take t).any badLab = false) (hb : badLab s = false) : (L.take (t + 1)).any badLab = false := by
  rw [take_succ' hs, List.any_append, h]; simp [hb]
theorem glue_take {L : List ByteArray} {t : Nat} {s : ByteArray} (hs : L[t]? = some s) : (glue (L.take (t + 1))).length = (glue (L.take t)).length + 1 + s.size := by
  rw [take_succ' hs, glue_snoc, List.length_append, lab_length]; omega
theorem glue_mono (L : List ByteArray) (t : Nat) : (glue (L.take t)).length ≤ (glue L).length := by
  conv => rhs; rw [← List.take_append_drop t L]
  rw [show glue (L.take t ++ L.drop t) = glue (L.take t) ++ glue (L.drop t) from by unfold glue; exact List.flatMap_append, List.length_append]; omega
theorem of_l1 (L : List ByteArray) (hb : L.any badLab = false) (hn : L.length ≤ 8796093022208) (d : Nat) : ∀ t : Nat, L.length - t ≤ d → t ≤ L.length → (glue (L.take t)).length + 1 ≤ 255 →
    Ev (fun k => hearsayref01_Of.l1 k L (((glue (L.take t)).length + 1 : Nat) : Int) (t : Int)) (if 255 < (glue L).length + 1 then (⟨#[]⟩, 2) else (nameOf L, 0)) := by
  have fin : ∀ t : Nat, t ≤ L.length → ¬ t < L.length → (glue (L.take t)).length + 1 ≤ 255 → Ev (fun k => hearsayref01_Of.l1 k L (((glue (L.take t)).length + 1 : Nat) : Int) (t : Int)) (if 255 < (glue L).length + 1 then (⟨#[]⟩, 2) else (nameOf L, 0)) := by
    intro t h1 h2 h3
    rw [List.take_of_length_le (by omega)] at h3 ⊢
    rw [if_neg (by omega)]
    refine Ev.step (f := fun _ => some (nameOf L, 0)) (fun k => ?_) (Ev.now _)
    simp only [hearsayref01_Of.l1]
    rw [if_neg (by omega), glue_f hb (by omega)]
    rfl
  induction d with
  | zero => intro t hd h1 h3; exact fin t h1 (by omega) h3
  | succ d ih =>
    intro t hd h1 h3
    by_cases ht : t < L.length
    · obtain ⟨s, hs, hr⟩ := rd_at ht
      have hg := glue_take hs
      have hm := glue_mono L (t + 1)
      have hsz : s.size ≤ 63 := by
        rw [List.any_eq_false] at hb
        exact (bad_false (by simpa using hb s (List.mem_of_getElem? hs))).2
      have e1 : wrap64 ((((glue (L.take t)).length + 1 : Nat) : Int) + 1) = (((glue (L.take t)).length + 2 : Nat) : Int) := by rw [w64 (by omega) (by omega)]; omega
      have e2 : wrap64 ((((glue (L.take t)).length + 2 : Nat) : Int) + (s.size : Int)) = (((glue (L.take (t + 1))).length + 1 : Nat) : Int) := by rw [w64 (by omega) (by omega), hg]; omega
      by_cases hl : 255 < (glue (L.take (t + 1))).length + 1
      · rw [if_pos (by omega)]
        refine Ev.step (f := fun _ => some (⟨#[]⟩, 2)) (fun k => ?_) (Ev.now _)
        simp only [hearsayref01_Of.l1]
        rw [if_pos (by omega), if_pos (by omega), hr, e1, e2, if_pos (by omega)]
      · refine Ev.step (fun k => ?_) (ih (t + 1) (by omega) (by omega) (by omega))
        simp only [hearsayref01_Of.l1]
        rw [if_pos (by omega), if_pos (by omega), hr, e1, e2, if_neg (by omega), w64 (by omega) (by omega)]
        rfl
    · exact fin t h1 ht h3
theorem of_l0 (L : List ByteArray) (hn : L.length ≤ 8796093022208) (d : Nat) : ∀ t : Nat, L.length - t ≤ d → t ≤ L.length → (L.take t).any badLab = false →
    Ev (fun k => hearsayref01_Of.l0 k L 1 (t : Int)) ((name_Of.f L).getD (⟨#[]⟩, 0)) := by
  have fin : ∀ t : Nat, t ≤ L.length → ¬ t < L.length → (L.take t).any badLab = false → Ev (fun k => hearsayref01_Of.l0 k L 1 (t : Int)) ((name_Of.f L).getD (⟨#[]⟩, 0)) := by
    intro t h1 h2 h3
    rw [List.take_of_length_le (by omega)] at h3
    have h := of_l1 L h3 hn L.length 0 (by omega) (by omega) (by simp [glue])
    have e : (name_Of.f L).getD (⟨#[]⟩, 0) = if 255 < (glue L).length + 1 then (⟨#[]⟩, 2) else (nameOf L, 0) := by
      unfold name_Of.f nameOf
      rw [if_neg (by rw [h3]; simp)]
      split <;> rfl
    rw [e]
    refine Ev.step (fun k => ?_) h
    simp only [hearsayref01_Of.l0]
    rw [if_neg (by omega)]
    rfl
  induction d with
  | zero => intro t hd h1 h3; exact fin t h1 (by omega) h3
  | succ d ih =>
    intro t hd h1 h3
    by_cases ht : t < L.length
    · obtain ⟨s, hs, hr⟩ := rd_at ht
      by_cases hb : badLab s = true
      · have e : (name_Of.f L).getD (⟨#[]⟩, 0) = (⟨#[]⟩, 10) := by
          unfold name_Of.f; rw [if_pos (of_bad hs hb)]; rfl
        rw [e]
        refine Ev.step (f := fun _ => some (⟨#[]⟩, 10)) (fun k => ?_) (Ev.now _)
        simp only [hearsayref01_Of.l0]
        rw [if_pos (by omega), if_pos (by omega), hr]
        unfold badLab at hb
        simp only [Bool.or_eq_true, decide_eq_true_eq] at hb
        by_cases h0 : s.size = 0
        · rw [if_pos (by omega)]
        · rw [if_neg (by omega), if_pos (by omega)]
      · have hb' : badLab s = false := by simpa using hb
        have hs2 := bad_false hb'
        refine Ev.step (fun k => ?_) (ih (t + 1) (by omega) (by omega) (any_take hs h3 hb'))
        simp only [hearsayref01_Of.l0]
        rw [if_pos (by omega), if_pos (by omega), hr, if_neg (by omega), if_neg (by omega), w64 (by omega) (by omega)]
        rfl
    · exact fin t h1 ht h3
theorem rof_f (L : List ByteArray) (hn : L.length ≤ 8796093022208) : Ev (fun k => hearsayref01_Of.f k L) ((name_Of.f L).getD (⟨#[]⟩, 0)) := of_l0 L hn L.length 0 (by omega) (by omega) (by simp)
/-! ### Join -/
def joinP (a b : ByteArray) : ByteArray × Int :=
  match dec a, dec b with
  | some L, some M => if 255 < (glue (L ++ M)).length + 1 then (⟨#[]⟩, 2) else (nameOf (L ++ M), 0)
  | _, _ => (⟨#[]⟩, 11)
theorem glue_append (L M : List ByteArray) : glue (L ++ M) = glue L ++ glue M := by simp [glue]
theorem join_front {a b : ByteArray} {L M : List ByteArray} (ha : dec a = some L) (hb : dec b = some M) : a.extract 0 (a.size - 1) ++ b = nameOf (L ++ M) := by
  have h1 := dec_some ha
  have h2 := dec_some hb
  have hs := dec_size ha
  refine bytes_inj ?_
  rw [bytes_nameOf (by rw [List.any_append, h1.2.2, h2.2.2]; rfl), glue_append]
  have e : bytesOf (a.extract 0 (a.size - 1) ++ b) = bytesOf (a.extract 0 (a.size - 1)) ++ bytesOf b := by
    unfold bytesOf; rw [← List.map_append]; congr 1
  rw [e, bytes_extract, h1.2.1, h2.2.1, List.drop_zero, hs, show (glue L).length + 1 - 1 - 0 = (glue L).length by omega, List.take_left, List.append_assoc]
theorem join_size {a b : ByteArray} {L M : List ByteArray} (ha : dec a = some L) (hb : dec b = some M) : a.size - 1 + b.size = (glue (L ++ M)).length + 1 ∧ 0 < a.size ∧ a.size ≤ 255 ∧ b.size ≤ 255 := by
  have h1 := dec_size ha
  have h2 := dec_size hb
  have h3 := (dec_some ha).1
  have h4 := (dec_some hb).1
  rw [glue_append, List.length_append]
  omega
theorem join_f (a b : ByteArray) : Ev (fun k => name_Join.f k a b) (joinP a b) := by
  refine Ev.bind (f := fun k (x : Int) => if x = 0 then (name_Check.f k b).bind fun y => name_Join.j0 k a b (y != 0) else name_Join.j0 k a b true) (check_f a) ?_
  have no : Ev (fun k => name_Join.j0 k a b true) (⟨#[]⟩, 11) := by
    refine Ev.step (f := fun _ => some (⟨#[]⟩, 11)) (fun k => ?_) (Ev.now _)
    simp only [name_Join.j0]; rw [if_pos trivial]
  unfold joinP
  cases ha : dec a with
  | none =>
    simp only [Option.isSome_none]
    refine Ev.congr (fun k => ?_) no
    rw [if_neg (by simp)]
  | some L =>
    refine Ev.congr (f := fun k => (name_Check.f k b).bind fun y => name_Join.j0 k a b (y != 0)) (fun k => by simp) ?_
    refine Ev.bind (f := fun k (y : Int) => name_Join.j0 k a b (y != 0)) (check_f b) ?_
    cases hb : dec b with
    | none => exact no
    | some M =>
      simp only [Option.isSome_some, if_true]
      obtain ⟨j1, j2, j3, j4⟩ := join_size ha hb
      have jf := join_front ha hb
      have e0 : wrap64 ((a.size : Int) - 1) = ((a.size - 1 : Nat) : Int) := by rw [w64 (by omega) (by omega)]; omega
      have e1 : wrap64 (((a.size - 1 : Nat) : Int) + (b.size : Int)) = (((glue (L ++ M)).length + 1 : Nat) : Int) := by rw [w64 (by omega) (by omega), ← j1]; omega
      refine Ev.step (f := fun _ => some (if 255 < (glue (L ++ M)).length + 1 then (⟨#[]⟩, 2) else (nameOf (L ++ M), 0))) (fun k => ?_) (Ev.now _)
      have e2 : ((0 : Int) != 0) = false := rfl
      rw [e2]
      simp only [name_Join.j0]
      rw [if_neg (by simp), e0, e1]
      by_cases hl : 255 < (glue (L ++ M)).length + 1
      · rw [if_pos (by omega), if_pos hl]
      · rw [if_neg (by omega), if_neg hl, if_pos (by omega), if_pos (by omega), Int.toNat_natCast, jf, if_pos (by rw [ByteArray.size_extract]; omega)]
theorem rjoin_f (a b : ByteArray) : Ev (fun k => hearsayref01_Join.f k a b) (joinP a b) := by
  obtain ⟨l1, hE1, hL1⟩ := split_f a
  obtain ⟨l2, hE2, hL2⟩ := split_f b
  unfold joinP
  refine Ev.bind (f := fun k (x : List ByteArray × Bool) => (hearsayref01_Split.f k b).bind fun y => if x.2 = true then if y.2 = true then if ([] : List ByteArray).length + x.1.length < 8796093022208 then (some (([] : List ByteArray) ++ x.1 : List ByteArray)).bind fun y288 => (if y288.length + y.1.length < 8796093022208 then ((hearsayref01_Of.f k (y288 ++ y.1)).bind fun bt294 => (some (bt294.1, bt294.2))) else (none)) else none else some (⟨#[]⟩, 11) else some (⟨#[]⟩, 11)) hE1 ?_
  refine Ev.bind (f := fun k (y : List ByteArray × Bool) => if (dec a).isSome = true then if y.2 = true then if ([] : List ByteArray).length + l1.length < 8796093022208 then (some (([] : List ByteArray) ++ l1 : List ByteArray)).bind fun y288 => (if y288.length + y.1.length < 8796093022208 then ((hearsayref01_Of.f k (y288 ++ y.1)).bind fun bt294 => (some (bt294.1, bt294.2))) else (none)) else none else some (⟨#[]⟩, 11) else some (⟨#[]⟩, 11)) hE2 ?_
  cases ha : dec a with
  | none => exact Ev.congr (fun k => by rw [if_neg (by simp)]) (Ev.now _)
  | some L =>
    cases hb : dec b with
    | none => exact Ev.congr (fun k => by simp only [Option.isSome_some, Option.isSome_none]; rw [if_pos trivial, if_neg (by simp)]) (Ev.now _)
    | some M =>
      have e1 := hL1 L ha
      have e2 := hL2 M hb
      subst e1; subst e2
      have q1 := labels_length ha
      have q2 := labels_length hb
      have h := rof_f (l1 ++ l2) (by rw [List.length_append]; omega)
      have e : (name_Of.f (l1 ++ l2)).getD (⟨#[]⟩, 0) = if 255 < (glue (l1 ++ l2)).length + 1 then (⟨#[]⟩, 2) else (nameOf (l1 ++ l2), 0) := by
        unfold name_Of.f nameOf
        rw [if_neg (by rw [List.any_append, (dec_some ha).2.2, (dec_some hb).2.2]; simp)]
        split <;> rfl
      rw [e] at h
      refine Ev.congr (f := fun k => (hearsayref01_Of.f k (l1 ++ l2)).bind fun x => some (x.1, x.2)) (fun k => ?_) (Ev.bind (f := fun _ (x : ByteArray × Int) => some (x.1, x.2)) h (Ev.now _))
      simp only [Option.isSome_some]
      rw [if_pos trivial, if_pos trivial, if_pos (by simp only [List.length_nil]; omega)]
      simp only [Option.bind_some, List.nil_append]
      rw [if_pos (by omega)]
end Go.Proofs.Ytplnknhlgdoliaa.Print
end
section
-- Written by a program of this session, built on the kit's print (it is not the print's own text).
namespace Go.Proofs.Ytplnknhlgdoliaa.Print
open Go.RowKit Go.Proofs.YtplnknhlgdoliaaW.PrintWords Go.Proofs.YtplnknhlgdoliaaW.PrintLast Go.Proofs.YtplnknhlgdoliaaW.PrintMore
attribute [local go_sem] max2_int min2_int max_two min_two max_three min_three max_four min_four   -- for this text's walks alone
set_option linter.unusedVariables false
set_option linter.unusedSimpArgs false

/-! ### hearsayref01_Last: function 38 -/
def hearsayref01_Last.f (k : Nat) (a0 : ByteArray) (a1 : Int) : Option (ByteArray × Bool) := (hearsayref01_Split.f k a0).bind fun bt330 => (if bt330.2 = true then (if a1 < 0 then (some ((⟨#[]⟩ : ByteArray), false)) else (if a1 > (bt330.1.length : Int) then (some ((⟨#[]⟩ : ByteArray), false)) else (if 0 ≤ (wrap64 ((bt330.1.length : Int) - a1)) then (if (wrap64 ((bt330.1.length : Int) - a1)) ≤ (bt330.1.length : Int) then ((hearsayref01_Glue.f (bt330.1.drop ((wrap64 ((bt330.1.length : Int) - a1)) : Int).toNat)).bind fun t338 => (some (t338, true))) else (none)) else (none)))) else (some ((⟨#[]⟩ : ByteArray), false)))
theorem hearsayref01_Last.mono : ∀ a0 a1 k, LeO (hearsayref01_Last.f k a0 a1) (hearsayref01_Last.f (k + 1) a0 a1) := by
  intro a0 a1 k
  unfold hearsayref01_Last.f
  repeat' first
      | (with_reducible exact hearsayref01_Split.mono _ _)
      | (with_reducible exact LeO.refl _)
      | (with_reducible exact LeO.none _)
      | (with_reducible refine LeO.ite ?_ ?_)
      | (with_reducible refine LeO.bind ?_ (fun _ => ?_))
      | exact hearsayref01_Split.mono _ _
      | exact LeO.none _
      | refine LeO.ite ?_ ?_
      | refine LeO.bind ?_ (fun _ => ?_)
set_option maxHeartbeats 8000000 in
set_option maxRecDepth 100000 in
theorem hearsayref01_Last.calls (k : Nat) (a0 : ByteArray) (a1 : Int) (r1 : ByteArray) (r2 : Bool) (w : World) (h : hearsayref01_Last.f k a0 a1 = some (r1, r2)) :
    Calls Try.prog 38 #[.string a0, .int .i64 a1] w fun e w' => e = .returned (.tuple #[.string r1, .bool r2]) ∧ Below w.heap.size w w' := by
  have HB := Aside0.mk (Below.refl w.heap.size w)
  have H : ((hearsayref01_Split.f k a0).bind fun bt330 => (if bt330.2 = true then (if a1 < 0 then (some ((⟨#[]⟩ : ByteArray), false)) else (if a1 > (bt330.1.length : Int) then (some ((⟨#[]⟩ : ByteArray), false)) else (if 0 ≤ (wrap64 ((bt330.1.length : Int) - a1)) then (if (wrap64 ((bt330.1.length : Int) - a1)) ≤ (bt330.1.length : Int) then ((hearsayref01_Glue.f (bt330.1.drop ((wrap64 ((bt330.1.length : Int) - a1)) : Int).toNat)).bind fun t338 => (some (t338, true))) else (none)) else (none)))) else (some ((⟨#[]⟩ : ByteArray), false)))) = some (r1, r2) := h
  clear h
  replace H := Option.bind_eq_some_iff.mp H
  obtain ⟨⟨t330, t331⟩, A30, H⟩ := H
  replace H : (if t331 = true then (if a1 < 0 then (some ((⟨#[]⟩ : ByteArray), false)) else (if a1 > (t330.length : Int) then (some ((⟨#[]⟩ : ByteArray), false)) else (if 0 ≤ (wrap64 ((t330.length : Int) - a1)) then (if (wrap64 ((t330.length : Int) - a1)) ≤ (t330.length : Int) then ((hearsayref01_Glue.f (t330.drop ((wrap64 ((t330.length : Int) - a1)) : Int).toNat)).bind fun t338 => (some (t338, true))) else (none)) else (none)))) else (some ((⟨#[]⟩ : ByteArray), false))) = some (r1, r2) := H
  have A3 := Aside0.mk A30
  clear A30
  by_cases c4 : t331 = true
  · subst c4
    have H1 : (if a1 < 0 then (some ((⟨#[]⟩ : ByteArray), false)) else (if a1 > (t330.length : Int) then (some ((⟨#[]⟩ : ByteArray), false)) else (if 0 ≤ (wrap64 ((t330.length : Int) - a1)) then (if (wrap64 ((t330.length : Int) - a1)) ≤ (t330.length : Int) then ((hearsayref01_Glue.f (t330.drop ((wrap64 ((t330.length : Int) - a1)) : Int).toNat)).bind fun t338 => (some (t338, true))) else (none)) else (none)))) = some (r1, r2) := by rw [if_pos rfl] at H; exact H
    clear H
    have H := H1
    clear H1
    by_cases c5 : a1 < 0
    · rw [if_pos c5] at H
      have c5b0 : decide (a1 < 0) = true := decide_eq_true c5
      clear c5
      simp only [Option.some.injEq, Prod.mk.injEq] at H
      obtain ⟨rfl, rfl⟩ := H
      go_enter Try.func38, Try.ntmps38
      go_wp2_with (first | ((with_reducible refine gate_callee (f := 13) rfl ?_); refine goesL_ (some 10) rfl rfl Try.func13 (by kernel_rfl) rfl #[.string a0] rfl (by (try simp only [List.map_toArray, List.map_cons, List.map_nil]); first | done | rfl | (simp only [List.length_drop, List.length_take]; rfl)) ?_; (with_reducible refine (hearsayref01_Split.calls k a0 t330 true _ A3.out).mono ?_); rintro e w6 ⟨v332, rfl, ho0, hb⟩; refine ⟨_, rfl, ?_⟩; have n0_ := Aside0.mk (Kd.R_lower ho0 (below_size (by repeat (first | (with_reducible first | exact HB.out | apply below_alloc | apply pw_below_drewN | apply below_drew1) | exact HB.out)))); have n1_ := Aside0.mk (below_step (by repeat (first | (with_reducible first | exact HB.out | apply below_alloc | apply pw_below_drewN | apply below_drew1) | exact HB.out)) hb); clear HB; have HO333 := n0_; have HB := n1_; clear n0_ n1_; (try clear hb); (try clear hb2); (try clear hk); (try clear hi); (try clear ho0)))
      go_ret2
      exact ⟨by first | rfl | (simp [errW_none, errW_some] <;> rfl) | (simp [*, errW_none, errW_some] <;> rfl), by repeat (first | (with_reducible first | exact HB.out | apply below_alloc | apply pw_below_drewN | apply below_drew1) | exact HB.out)⟩
    · rw [if_neg c5] at H
      have c5b0 : decide (a1 < 0) = false := decide_eq_false c5
      clear c5
      by_cases c7 : a1 > (t330.length : Int)
      · rw [if_pos c7] at H
        have c7b0 : decide ((t330.length : Int) < a1) = true := decide_eq_true c7
        clear c7
        simp only [Option.some.injEq, Prod.mk.injEq] at H
        obtain ⟨rfl, rfl⟩ := H
        go_enter Try.func38, Try.ntmps38
        go_wp2_with (first | ((with_reducible refine gate_callee (f := 13) rfl ?_); refine goesL_ (some 10) rfl rfl Try.func13 (by kernel_rfl) rfl #[.string a0] rfl (by (try simp only [List.map_toArray, List.map_cons, List.map_nil]); first | done | rfl | (simp only [List.length_drop, List.length_take]; rfl)) ?_; (with_reducible refine (hearsayref01_Split.calls k a0 t330 true _ A3.out).mono ?_); rintro e w8 ⟨v332, rfl, ho0, hb⟩; refine ⟨_, rfl, ?_⟩; have n0_ := Aside0.mk (Kd.R_lower ho0 (below_size (by repeat (first | (with_reducible first | exact HB.out | apply below_alloc | apply pw_below_drewN | apply below_drew1) | exact HB.out)))); have n1_ := Aside0.mk (below_step (by repeat (first | (with_reducible first | exact HB.out | apply below_alloc | apply pw_below_drewN | apply below_drew1) | exact HB.out)) hb); clear HB; have HO333 := n0_; have HB := n1_; clear n0_ n1_; (try clear hb); (try clear hb2); (try clear hk); (try clear hi); (try clear ho0); obtain ⟨Ao9, co9, eo9⟩ := Kd.R_slice HO333.out; subst eo9))
        go_ret2
        exact ⟨by first | rfl | (simp [errW_none, errW_some] <;> rfl) | (simp [*, errW_none, errW_some] <;> rfl), by repeat (first | (with_reducible first | exact HB.out | apply below_alloc | apply pw_below_drewN | apply below_drew1) | exact HB.out)⟩
      · rw [if_neg c7] at H
        have c7b0 : decide ((t330.length : Int) < a1) = false := decide_eq_false c7
        clear c7
        obtain ⟨ji10, hji10⟩ : ∃ j_ : Int, (wrap64 ((t330.length : Int) - a1)) = j_ := ⟨_, rfl⟩
        replace H : (if 0 ≤ (ji10) then (if (ji10) ≤ (t330.length : Int) then ((hearsayref01_Glue.f (t330.drop ((ji10) : Int).toNat)).bind fun t338 => (some (t338, true))) else (none)) else (none)) = some (r1, r2) := by first | (rw [hji10] at H; exact H) | (simp only [hji10] at H ⊢; exact H)
        (try rw [hji10] at A3)
        have hji10w : (IntKind.i64.wrap ((t330.length : Int) - a1)) = ji10 := (i64_w _).trans hji10
        by_cases c11 : 0 ≤ (ji10)
        · rw [if_pos c11] at H
          have c11b0 := eq_true c11
          have c11b1 : decide (0 ≤ (ji10)) = true := decide_eq_true c11
          clear c11
          by_cases c12 : (ji10) ≤ (t330.length : Int)
          · rw [if_pos c12] at H
            have c12b0 := eq_true c12
            have c12b1 : decide ((ji10) ≤ (t330.length : Int)) = true := decide_eq_true c12
            clear c12
            obtain ⟨y334, hy334⟩ : ∃ y_ : List ByteArray, y_ = (t330.drop ((ji10) : Int).toNat) := ⟨_, rfl⟩
            replace H : ((hearsayref01_Glue.f y334).bind fun t338 => (some (t338, true))) = some (r1, r2) := by first | (rw [hy334]; with_reducible exact H) | (have H2_ := (Option.bind_some _ _).symm.trans H; rw [hy334]; with_reducible exact H2_) | (have H2_ := (Option.bind_some _ _).symm.trans H; with_reducible exact H2_) | with_reducible exact H | (rw [hy334]; exact H) | exact H
            have Ny334 := Aside0.mk hy334
            clear hy334
            replace H := Option.bind_eq_some_iff.mp H
            obtain ⟨t338, A130, H⟩ := H
            replace H : (some (t338, true)) = some (r1, r2) := H
            have A13 := Aside0.mk A130
            clear A130
            simp only [Option.some.injEq, Prod.mk.injEq] at H
            obtain ⟨rfl, rfl⟩ := H
            go_enter Try.func38, Try.ntmps38
            go_wp2_with (first | ((with_reducible refine gate_callee (f := 13) rfl ?_); refine goesL_ (some 10) rfl rfl Try.func13 (by kernel_rfl) rfl #[.string a0] rfl (by (try simp only [List.map_toArray, List.map_cons, List.map_nil]); first | done | rfl | (simp only [List.length_drop, List.length_take]; rfl)) ?_; (with_reducible refine (hearsayref01_Split.calls k a0 t330 true _ A3.out).mono ?_); rintro e w14 ⟨v332, rfl, ho0, hb⟩; refine ⟨_, rfl, ?_⟩; have n0_ := Aside0.mk (Kd.R_lower ho0 (below_size (by repeat (first | (with_reducible first | exact HB.out | apply below_alloc | apply pw_below_drewN | apply below_drew1) | exact HB.out)))); have n1_ := Aside0.mk (below_step (by repeat (first | (with_reducible first | exact HB.out | apply below_alloc | apply pw_below_drewN | apply below_drew1) | exact HB.out)) hb); clear HB; have HO333 := n0_; have HB := n1_; clear n0_ n1_; (try clear hb); (try clear hb2); (try clear hk); (try clear hi); (try clear ho0); obtain ⟨Ao15, co15, eo15⟩ := Kd.R_slice HO333.out; subst eo15; have q16 : ((ji10) : Int) ≤ ((t330.length : Int) : Int) := of_decide_eq_true (by first | (with_reducible assumption) | assumption); obtain ⟨i016, hi016, _, hsz16, _⟩ := info_parts info9; have hroom16 : t330.length ≤ co15 := (Kd.R_reads' HO333.out).2.1; have hC16 : Kd.C Kd.string _ Ao15 t330.length t330 := (Kd.R_reads' HO333.out).2.2; have q016 : (0 : Int) ≤ ((ji10) : Int) := of_decide_eq_true (by first | (with_reducible assumption) | assumption); have hcut16 := cut_from (P := Try.prog) 23 9 .i64 Try.underlying23 hi016 1 hsz16 Ao15 t330.length co15 (ji10) q016 q16; have hr16 := Kd.C_drop (m := ((ji10) : Int).toNat) (c := co15) hC16 (by omega) hroom16; obtain ⟨A16, hA16⟩ : ∃ A1, A1 = (if co15 = ((ji10) : Int).toNat then Ao15 else (Ao15 : Option Addr).map (·.add (((ji10) : Int).toNat * 1))) := ⟨_, rfl⟩; obtain ⟨c16, hc16⟩ : ∃ c1, c1 = co15 - ((ji10) : Int).toNat := ⟨_, rfl⟩; have hy16 : y334.length = t330.length - ((ji10) : Int).toNat := (by rw [Ny334.out, List.length_drop] <;> omega); rw [show (t330).drop ((ji10) : Int).toNat = y334 from Ny334.out.symm] at hr16; replace hr16 : Kd.C Kd.string _ A16 y334.length y334 := (by rw [hA16]; exact hr16); rw [← hy16, ← hA16, ← hc16] at hcut16; have HR337 := Aside0.mk hr16; have HC337 := Aside0.mk (show y334.length ≤ c16 from by rw [hy16, hc16]; exact Nat.sub_le_sub_right hroom16 _); clear hr16 hC16 hroom16 hi016 hsz16 hc16; have KY16 := Aside0.mk hy16; have KA16 := Aside0.mk hA16; clear hy16 hA16; have KL16 := Aside0.mk (show ((ji10) : Int).toNat ≤ t330.length from by omega); replace q16 := eq_true q16) | ((with_reducible refine gate_callee (f := 50) rfl ?_); refine goesL_ (some 31) rfl rfl Try.func50 (by kernel_rfl) rfl #[.slice A16 y334.length c16] rfl (by (try simp only [List.map_toArray, List.map_cons, List.map_nil]); first | done | rfl | (simp only [List.length_drop, List.length_take]; rfl)) ?_; (with_reducible refine (hearsayref01_Glue.calls _ _ y334 t338 _ ?side1 ?side2 A13.out).mono ?_); (case side1 => repeat (first | exact (by repeat (first | (with_reducible exact HR337.out) | (with_reducible refine Kd.C_alloc ?_ _) | (with_reducible refine Kd.C_drewN ?_ _) | (with_reducible refine Kd.C_drew ?_) | exact HR337.out)) | (with_reducible refine Kd.C_alloc ?_ _) | (with_reducible refine Kd.C_drewN ?_ _) | (with_reducible refine Kd.C_drew ?_))); (case side2 => exact HC337.out); rintro e w17 ⟨rfl, hb⟩; refine ⟨_, rfl, ?_⟩; have n0_ := Aside0.mk (Kd.R_below (by (with_reducible repeat (first | apply Kd.R_alloc | apply Kd.R_drewN | apply Kd.R_drew)); exact HO333.out) hb); have n1_ := Aside0.mk (Kd.C_below (by repeat (first | (with_reducible exact HR337.out) | (with_reducible refine Kd.C_alloc ?_ _) | (with_reducible refine Kd.C_drewN ?_ _) | (with_reducible refine Kd.C_drew ?_) | exact HR337.out)) hb); have n2_ := Aside0.mk (below_step (by repeat (first | (with_reducible first | exact HB.out | apply below_alloc | apply pw_below_drewN | apply below_drew1) | exact HB.out)) hb); clear HO333; clear HR337; clear HB; have HO333 := n0_; have HR337 := n1_; have HB := n2_; clear n0_ n1_ n2_; (try clear hb); (try clear hb2); (try clear hk); (try clear hi)))
            go_ret2
            exact ⟨by first | rfl | (simp [errW_none, errW_some] <;> rfl) | (simp only [← hji10]; first | rfl | (simp [errW_none, errW_some] <;> rfl)) | (simp [*, errW_none, errW_some] <;> rfl), by repeat (first | (with_reducible first | exact HB.out | apply below_alloc | apply pw_below_drewN | apply below_drew1) | exact HB.out)⟩
          · rw [if_neg c12] at H
            exact absurd H (by simp)
        · rw [if_neg c11] at H
          exact absurd H (by simp)
  · replace c4 := Bool.eq_false_iff.mpr c4
    subst c4
    have H1 : (some ((⟨#[]⟩ : ByteArray), false)) = some (r1, r2) := by rw [if_neg (show ¬ (false = true) by decide)] at H; exact H
    clear H
    have H := H1
    clear H1
    simp only [Option.some.injEq, Prod.mk.injEq] at H
    obtain ⟨rfl, rfl⟩ := H
    go_enter Try.func38, Try.ntmps38
    go_wp2_with (first | ((with_reducible refine gate_callee (f := 13) rfl ?_); refine goesL_ (some 10) rfl rfl Try.func13 (by kernel_rfl) rfl #[.string a0] rfl (by (try simp only [List.map_toArray, List.map_cons, List.map_nil]); first | done | rfl | (simp only [List.length_drop, List.length_take]; rfl)) ?_; (with_reducible refine (hearsayref01_Split.calls k a0 t330 false _ A3.out).mono ?_); rintro e w18 ⟨v332, rfl, ho0, hb⟩; refine ⟨_, rfl, ?_⟩; have n0_ := Aside0.mk (Kd.R_lower ho0 (below_size (by repeat (first | (with_reducible first | exact HB.out | apply below_alloc | apply pw_below_drewN | apply below_drew1) | exact HB.out)))); have n1_ := Aside0.mk (below_step (by repeat (first | (with_reducible first | exact HB.out | apply below_alloc | apply pw_below_drewN | apply below_drew1) | exact HB.out)) hb); clear HB; have HO333 := n0_; have HB := n1_; clear n0_ n1_; (try clear hb); (try clear hb2); (try clear hk); (try clear hi); (try clear ho0)))
    go_ret2
    exact ⟨by first | rfl | (simp [errW_none, errW_some] <;> rfl) | (simp [*, errW_none, errW_some] <;> rfl), by repeat (first | (with_reducible first | exact HB.out | apply below_alloc | apply pw_below_drewN | apply below_drew1) | exact HB.out)⟩

end Go.Proofs.Ytplnknhlgdoliaa.Print
end
section
-- Written by a program of this session, built on the kit's print (it is not the print's own text).
namespace Go.Proofs.Ytplnknhlgdoliaa.Print
open Go.RowKit Go.Proofs.YtplnknhlgdoliaaW.PrintWords Go.Proofs.YtplnknhlgdoliaaW.PrintLast Go.Proofs.YtplnknhlgdoliaaW.PrintMore
attribute [local go_sem] max2_int min2_int max_two min_two max_three min_three max_four min_four   -- for this text's walks alone
set_option linter.unusedVariables false
set_option linter.unusedSimpArgs false

/-! ### hearsayref01_Labels: function 57 -/
def hearsayref01_Labels.f (k : Nat) (a0 : ByteArray) : Option (List ByteArray) := (hearsayref01_Split.f k a0).bind fun bt313 => (if bt313.2 = true then (some bt313.1) else (some ([] : List ByteArray)))
theorem hearsayref01_Labels.mono : ∀ a0 k, LeO (hearsayref01_Labels.f k a0) (hearsayref01_Labels.f (k + 1) a0) := by
  intro a0 k
  unfold hearsayref01_Labels.f
  repeat' first
      | (with_reducible exact hearsayref01_Split.mono _ _)
      | (with_reducible exact LeO.refl _)
      | (with_reducible exact LeO.none _)
      | (with_reducible refine LeO.ite ?_ ?_)
      | (with_reducible refine LeO.bind ?_ (fun _ => ?_))
      | exact hearsayref01_Split.mono _ _
      | exact LeO.none _
      | refine LeO.ite ?_ ?_
      | refine LeO.bind ?_ (fun _ => ?_)
set_option maxHeartbeats 8000000 in
set_option maxRecDepth 100000 in
theorem hearsayref01_Labels.calls (k : Nat) (a0 : ByteArray) (r : List ByteArray) (w : World) (h : hearsayref01_Labels.f k a0 = some r) :
    Calls Try.prog 57 #[.string a0] w fun e w' => ∃ v0_ : Value, e = .returned (v0_) ∧ Kd.R Kd.string 9 w' w.heap.size (fun _ => True) v0_ r ∧ Below w.heap.size w w' := by
  have HB := Aside0.mk (Below.refl w.heap.size w)
  have H : ((hearsayref01_Split.f k a0).bind fun bt313 => (if bt313.2 = true then (some bt313.1) else (some ([] : List ByteArray)))) = some r := h
  clear h
  replace H := Option.bind_eq_some_iff.mp H
  obtain ⟨⟨t313, t314⟩, A20, H⟩ := H
  replace H : (if t314 = true then (some t313) else (some ([] : List ByteArray))) = some r := H
  have A2 := Aside0.mk A20
  clear A20
  by_cases c3 : t314 = true
  · subst c3
    have H1 : (some t313) = some r := by rw [if_pos rfl] at H; exact H
    clear H
    have H := H1
    clear H1
    obtain rfl := Option.some.inj H
    go_enter Try.func57, Try.ntmps57
    go_wp2_with (first | ((with_reducible refine gate_callee (f := 13) rfl ?_); refine goesL_ (some 7) rfl rfl Try.func13 (by kernel_rfl) rfl #[.string a0] rfl (by (try simp only [List.map_toArray, List.map_cons, List.map_nil]); first | done | rfl | (simp only [List.length_drop, List.length_take]; rfl)) ?_; (with_reducible refine (hearsayref01_Split.calls k a0 t313 true _ A2.out).mono ?_); rintro e w4 ⟨v315, rfl, ho0, hb⟩; refine ⟨_, rfl, ?_⟩; have n0_ := Aside0.mk (Kd.R_lower ho0 (below_size (by repeat (first | (with_reducible first | exact HB.out | apply below_alloc | apply pw_below_drewN | apply below_drew1) | exact HB.out)))); have n1_ := Aside0.mk (below_step (by repeat (first | (with_reducible first | exact HB.out | apply below_alloc | apply pw_below_drewN | apply below_drew1) | exact HB.out)) hb); clear HB; have HO316 := n0_; have HB := n1_; clear n0_ n1_; (try clear hb); (try clear hb2); (try clear hk); (try clear hi); (try clear ho0)))
    go_ret
    exact ⟨_, by first | rfl | (simp [errW_none, errW_some] <;> rfl) | (simp [*, errW_none, errW_some] <;> rfl), by (with_reducible repeat (first | apply Kd.R_alloc | apply Kd.R_drewN | apply Kd.R_drew)); exact HO316.out, by repeat (first | (with_reducible first | exact HB.out | apply below_alloc | apply pw_below_drewN | apply below_drew1) | exact HB.out)⟩
  · replace c3 := Bool.eq_false_iff.mpr c3
    subst c3
    have H1 : (some ([] : List ByteArray)) = some r := by rw [if_neg (show ¬ (false = true) by decide)] at H; exact H
    clear H
    have H := H1
    clear H1
    obtain rfl := Option.some.inj H
    go_enter Try.func57, Try.ntmps57
    go_wp2_with (first | ((with_reducible refine gate_callee (f := 13) rfl ?_); refine goesL_ (some 7) rfl rfl Try.func13 (by kernel_rfl) rfl #[.string a0] rfl (by (try simp only [List.map_toArray, List.map_cons, List.map_nil]); first | done | rfl | (simp only [List.length_drop, List.length_take]; rfl)) ?_; (with_reducible refine (hearsayref01_Split.calls k a0 t313 false _ A2.out).mono ?_); rintro e w5 ⟨v315, rfl, ho0, hb⟩; refine ⟨_, rfl, ?_⟩; have n0_ := Aside0.mk (Kd.R_lower ho0 (below_size (by repeat (first | (with_reducible first | exact HB.out | apply below_alloc | apply pw_below_drewN | apply below_drew1) | exact HB.out)))); have n1_ := Aside0.mk (below_step (by repeat (first | (with_reducible first | exact HB.out | apply below_alloc | apply pw_below_drewN | apply below_drew1) | exact HB.out)) hb); clear HB; have HO316 := n0_; have HB := n1_; clear n0_ n1_; (try clear hb); (try clear hb2); (try clear hk); (try clear hi); (try clear ho0)))
    go_ret
    exact ⟨_, by first | rfl | (simp [errW_none, errW_some] <;> rfl) | (simp [*, errW_none, errW_some] <;> rfl), by first | exact Kd.R_nil _ _ _ _ _ | exact Kd.N_nil _ _ _ _ _ | exact Kd.V_nil _ _ _ _ _ | exact Kd.Q_nil _ _ _ _ _ | exact Kd.S_nil _ _ _ _ _, by repeat (first | (with_reducible first | exact HB.out | apply below_alloc | apply pw_below_drewN | apply below_drew1) | exact HB.out)⟩

end Go.Proofs.Ytplnknhlgdoliaa.Print
end
section
-- Written by a program of this session, built on the kit's print (it is not the print's own text).
namespace Go.Proofs.Ytplnknhlgdoliaa.Print
open Go.RowKit Go.Proofs.YtplnknhlgdoliaaW.PrintWords Go.Proofs.YtplnknhlgdoliaaW.PrintLast Go.Proofs.YtplnknhlgdoliaaW.PrintMore
attribute [local go_sem] max2_int min2_int max_two min_two max_three min_three max_four min_four   -- for this text's walks alone
set_option linter.unusedVariables false
set_option linter.unusedSimpArgs false

/-! ### hearsayref01_Parent: function 36 -/
def hearsayref01_Parent.f (k : Nat) (a0 : ByteArray) : Option (ByteArray × Bool) := (hearsayref01_Labels.f k a0).bind fun t317 => (if (t317.length : Int) = 0 then (some ((⟨#[]⟩ : ByteArray), false)) else (if 1 ≤ (t317.length : Int) then ((hearsayref01_Glue.f (t317.drop 1)).bind fun t324 => (some (t324, true))) else (none)))
theorem hearsayref01_Parent.mono : ∀ a0 k, LeO (hearsayref01_Parent.f k a0) (hearsayref01_Parent.f (k + 1) a0) := by
  intro a0 k
  unfold hearsayref01_Parent.f
  repeat' first
      | (with_reducible exact hearsayref01_Labels.mono _ _)
      | (with_reducible exact LeO.refl _)
      | (with_reducible exact LeO.none _)
      | (with_reducible refine LeO.ite ?_ ?_)
      | (with_reducible refine LeO.bind ?_ (fun _ => ?_))
      | exact hearsayref01_Labels.mono _ _
      | exact LeO.none _
      | refine LeO.ite ?_ ?_
      | refine LeO.bind ?_ (fun _ => ?_)
set_option maxHeartbeats 8000000 in
set_option maxRecDepth 100000 in
theorem hearsayref01_Parent.calls (k : Nat) (a0 : ByteArray) (r1 : ByteArray) (r2 : Bool) (w : World) (h : hearsayref01_Parent.f k a0 = some (r1, r2)) :
    Calls Try.prog 36 #[.string a0] w fun e w' => e = .returned (.tuple #[.string r1, .bool r2]) ∧ Below w.heap.size w w' := by
  have HB := Aside0.mk (Below.refl w.heap.size w)
  have H : ((hearsayref01_Labels.f k a0).bind fun t317 => (if (t317.length : Int) = 0 then (some ((⟨#[]⟩ : ByteArray), false)) else (if 1 ≤ (t317.length : Int) then ((hearsayref01_Glue.f (t317.drop 1)).bind fun t324 => (some (t324, true))) else (none)))) = some (r1, r2) := h
  clear h
  replace H := Option.bind_eq_some_iff.mp H
  obtain ⟨t317, A20, H⟩ := H
  replace H : (if (t317.length : Int) = 0 then (some ((⟨#[]⟩ : ByteArray), false)) else (if 1 ≤ (t317.length : Int) then ((hearsayref01_Glue.f (t317.drop 1)).bind fun t324 => (some (t324, true))) else (none))) = some (r1, r2) := H
  have A2 := Aside0.mk A20
  clear A20
  by_cases c3 : (t317.length : Int) = 0
  · rw [if_pos c3] at H
    have c3b0 : ((t317.length : Int) == 0) = true := beq_iff_eq.mpr c3
    have c3b1 : ((t317.length : Int) != 0) = false := bne_eq_false_iff_eq.mpr c3
    clear c3
    simp only [Option.some.injEq, Prod.mk.injEq] at H
    obtain ⟨rfl, rfl⟩ := H
    go_enter Try.func36, Try.ntmps36
    go_wp2_with (first | ((with_reducible refine gate_callee (f := 57) rfl ?_); refine goesL_ (some 6) rfl rfl Try.func57 (by kernel_rfl) rfl #[.string a0] rfl (by (try simp only [List.map_toArray, List.map_cons, List.map_nil]); first | done | rfl | (simp only [List.length_drop, List.length_take]; rfl)) ?_; (with_reducible refine (hearsayref01_Labels.calls k a0 t317 _ A2.out).mono ?_); rintro e w4 ⟨v318, rfl, ho0, hb⟩; refine ⟨_, rfl, ?_⟩; have n0_ := Aside0.mk (Kd.R_lower ho0 (below_size (by repeat (first | (with_reducible first | exact HB.out | apply below_alloc | apply pw_below_drewN | apply below_drew1) | exact HB.out)))); have n1_ := Aside0.mk (below_step (by repeat (first | (with_reducible first | exact HB.out | apply below_alloc | apply pw_below_drewN | apply below_drew1) | exact HB.out)) hb); clear HB; have HO319 := n0_; have HB := n1_; clear n0_ n1_; (try clear hb); (try clear hb2); (try clear hk); (try clear hi); (try clear ho0); obtain ⟨Ao5, co5, eo5⟩ := Kd.R_slice HO319.out; subst eo5))
    go_ret2
    exact ⟨by first | rfl | (simp [errW_none, errW_some] <;> rfl) | (simp [*, errW_none, errW_some] <;> rfl), by repeat (first | (with_reducible first | exact HB.out | apply below_alloc | apply pw_below_drewN | apply below_drew1) | exact HB.out)⟩
  · rw [if_neg c3] at H
    have c3b0 : ((t317.length : Int) == 0) = false := beq_eq_false_iff_ne.mpr c3
    have c3b1 : ((t317.length : Int) != 0) = true := bne_iff_ne.mpr c3
    have c3b2 : ¬ (t317 = []) := fun h_ => c3 (by rw [h_]; rfl)
    by_cases c6 : 1 ≤ (t317.length : Int)
    · rw [if_pos c6] at H
      have c6b0 := eq_true c6
      have c6b1 : decide (1 ≤ (t317.length : Int)) = true := decide_eq_true c6
      clear c6
      obtain ⟨y320, hy320⟩ : ∃ y_ : List ByteArray, y_ = (t317.drop 1) := ⟨_, rfl⟩
      replace H : ((hearsayref01_Glue.f y320).bind fun t324 => (some (t324, true))) = some (r1, r2) := by first | (rw [hy320]; with_reducible exact H) | (have H2_ := (Option.bind_some _ _).symm.trans H; rw [hy320]; with_reducible exact H2_) | (have H2_ := (Option.bind_some _ _).symm.trans H; with_reducible exact H2_) | with_reducible exact H | (rw [hy320]; exact H) | exact H
      have Ny320 := Aside0.mk hy320
      clear hy320
      replace H := Option.bind_eq_some_iff.mp H
      obtain ⟨t324, A70, H⟩ := H
      replace H : (some (t324, true)) = some (r1, r2) := H
      have A7 := Aside0.mk A70
      clear A70
      simp only [Option.some.injEq, Prod.mk.injEq] at H
      obtain ⟨rfl, rfl⟩ := H
      go_enter Try.func36, Try.ntmps36
      go_wp2_with (first | ((with_reducible refine gate_callee (f := 57) rfl ?_); refine goesL_ (some 6) rfl rfl Try.func57 (by kernel_rfl) rfl #[.string a0] rfl (by (try simp only [List.map_toArray, List.map_cons, List.map_nil]); first | done | rfl | (simp only [List.length_drop, List.length_take]; rfl)) ?_; (with_reducible refine (hearsayref01_Labels.calls k a0 t317 _ A2.out).mono ?_); rintro e w8 ⟨v318, rfl, ho0, hb⟩; refine ⟨_, rfl, ?_⟩; have n0_ := Aside0.mk (Kd.R_lower ho0 (below_size (by repeat (first | (with_reducible first | exact HB.out | apply below_alloc | apply pw_below_drewN | apply below_drew1) | exact HB.out)))); have n1_ := Aside0.mk (below_step (by repeat (first | (with_reducible first | exact HB.out | apply below_alloc | apply pw_below_drewN | apply below_drew1) | exact HB.out)) hb); clear HB; have HO319 := n0_; have HB := n1_; clear n0_ n1_; (try clear hb); (try clear hb2); (try clear hk); (try clear hi); (try clear ho0); obtain ⟨Ao9, co9, eo9⟩ := Kd.R_slice HO319.out; subst eo9; have q10 : (1 : Int) ≤ ((t317.length : Int) : Int) := of_decide_eq_true (by first | (with_reducible assumption) | assumption); obtain ⟨i010, hi010, _, hsz10, _⟩ := info_parts info9; have hroom10 : t317.length ≤ co9 := (Kd.R_reads' HO319.out).2.1; have hC10 : Kd.C Kd.string _ Ao9 t317.length t317 := (Kd.R_reads' HO319.out).2.2; have hcut10 := cut_from (P := Try.prog) 23 9 .i64 Try.underlying23 hi010 1 hsz10 Ao9 t317.length co9 1 (by omega) q10; have hr10 := Kd.C_drop (m := (1 : Int).toNat) (c := co9) hC10 (by omega) hroom10; obtain ⟨A10, hA10⟩ : ∃ A1, A1 = (if co9 = (1 : Int).toNat then Ao9 else (Ao9 : Option Addr).map (·.add ((1 : Int).toNat * 1))) := ⟨_, rfl⟩; obtain ⟨c10, hc10⟩ : ∃ c1, c1 = co9 - (1 : Int).toNat := ⟨_, rfl⟩; have hy10 : y320.length = t317.length - (1 : Int).toNat := (by rw [Ny320.out, List.length_drop] <;> omega); rw [show (t317).drop (1 : Int).toNat = y320 from Ny320.out.symm] at hr10; replace hr10 : Kd.C Kd.string _ A10 y320.length y320 := (by rw [hA10]; exact hr10); rw [← hy10, ← hA10, ← hc10] at hcut10; have HR323 := Aside0.mk hr10; have HC323 := Aside0.mk (show y320.length ≤ c10 from by rw [hy10, hc10]; exact Nat.sub_le_sub_right hroom10 _); clear hr10 hC10 hroom10 hi010 hsz10 hc10; have KY10 := Aside0.mk hy10; have KA10 := Aside0.mk hA10; clear hy10 hA10; have KL10 := Aside0.mk (show 1 ≤ t317.length from by omega); replace q10 := eq_true q10) | ((with_reducible refine gate_callee (f := 50) rfl ?_); refine goesL_ (some 12) rfl rfl Try.func50 (by kernel_rfl) rfl #[.slice A10 y320.length c10] rfl (by (try simp only [List.map_toArray, List.map_cons, List.map_nil]); first | done | rfl | (simp only [List.length_drop, List.length_take]; rfl)) ?_; (with_reducible refine (hearsayref01_Glue.calls _ _ y320 t324 _ ?side1 ?side2 A7.out).mono ?_); (case side1 => repeat (first | exact (by repeat (first | (with_reducible exact HR323.out) | (with_reducible refine Kd.C_alloc ?_ _) | (with_reducible refine Kd.C_drewN ?_ _) | (with_reducible refine Kd.C_drew ?_) | exact HR323.out)) | (with_reducible refine Kd.C_alloc ?_ _) | (with_reducible refine Kd.C_drewN ?_ _) | (with_reducible refine Kd.C_drew ?_))); (case side2 => exact HC323.out); rintro e w11 ⟨rfl, hb⟩; refine ⟨_, rfl, ?_⟩; have n0_ := Aside0.mk (Kd.R_below (by (with_reducible repeat (first | apply Kd.R_alloc | apply Kd.R_drewN | apply Kd.R_drew)); exact HO319.out) hb); have n1_ := Aside0.mk (Kd.C_below (by repeat (first | (with_reducible exact HR323.out) | (with_reducible refine Kd.C_alloc ?_ _) | (with_reducible refine Kd.C_drewN ?_ _) | (with_reducible refine Kd.C_drew ?_) | exact HR323.out)) hb); have n2_ := Aside0.mk (below_step (by repeat (first | (with_reducible first | exact HB.out | apply below_alloc | apply pw_below_drewN | apply below_drew1) | exact HB.out)) hb); clear HO319; clear HR323; clear HB; have HO319 := n0_; have HR323 := n1_; have HB := n2_; clear n0_ n1_ n2_; (try clear hb); (try clear hb2); (try clear hk); (try clear hi)))
      go_ret2
      exact ⟨by first | rfl | (simp [errW_none, errW_some] <;> rfl) | (simp [*, errW_none, errW_some] <;> rfl), by repeat (first | (with_reducible first | exact HB.out | apply below_alloc | apply pw_below_drewN | apply below_drew1) | exact HB.out)⟩
    · rw [if_neg c6] at H
      exact absurd H (by simp)

end Go.Proofs.Ytplnknhlgdoliaa.Print
end
section
-- Written by a program of this session, built on the kit's print (it is not the print's own text).
namespace Go.Proofs.Ytplnknhlgdoliaa.Print
open Go.RowKit Go.Proofs.YtplnknhlgdoliaaW.PrintWords Go.Proofs.YtplnknhlgdoliaaW.PrintLast Go.Proofs.YtplnknhlgdoliaaW.PrintMore
attribute [local go_sem] max2_int min2_int max_two min_two max_three min_three max_four min_four   -- for this text's walks alone
set_option linter.unusedVariables false
set_option linter.unusedSimpArgs false

/-! ### hearsayref01_Fold: function 16 -/
def hearsayref01_Fold.f (a0 : ByteArray) : Option (ByteArray) := (hearsayref01_Low.f a0).bind fun t111 => (some t111)
set_option maxHeartbeats 8000000 in
set_option maxRecDepth 100000 in
theorem hearsayref01_Fold.calls (a0 : ByteArray) (r : ByteArray) (w : World) (h : hearsayref01_Fold.f a0 = some r) :
    Calls Try.prog 16 #[.string a0] w fun e w' => e = .returned (.string r) ∧ Below w.heap.size w w' := by
  have HB := Aside0.mk (Below.refl w.heap.size w)
  have H : ((hearsayref01_Low.f a0).bind fun t111 => (some t111)) = some r := h
  clear h
  replace H := Option.bind_eq_some_iff.mp H
  obtain ⟨t111, A20, H⟩ := H
  replace H : (some t111) = some r := H
  have A2 := Aside0.mk A20
  clear A20
  obtain rfl := Option.some.inj H
  go_enter Try.func16, Try.ntmps16
  go_wp2_with (first | ((with_reducible refine gate_callee (f := 45) rfl ?_); refine goesL_ (some 4) rfl rfl Try.func45 (by kernel_rfl) rfl #[.string a0] rfl (by (try simp only [List.map_toArray, List.map_cons, List.map_nil]); first | done | rfl | (simp only [List.length_drop, List.length_take]; rfl)) ?_; (with_reducible refine (hearsayref01_Low.calls a0 t111 _ A2.out).mono ?_); rintro e w3 ⟨rfl, hb⟩; refine ⟨_, rfl, ?_⟩; have n0_ := Aside0.mk (below_step (by repeat (first | (with_reducible first | exact HB.out | apply below_alloc | apply pw_below_drewN | apply below_drew1) | exact HB.out)) hb); clear HB; have HB := n0_; clear n0_; (try clear hb); (try clear hb2); (try clear hk); (try clear hi)))
  go_ret
  exact ⟨by first | rfl | (simp [errW_none, errW_some] <;> rfl) | (simp [*, errW_none, errW_some] <;> rfl), by repeat (first | (with_reducible first | exact HB.out | apply below_alloc | apply pw_below_drewN | apply below_drew1) | exact HB.out)⟩

end Go.Proofs.Ytplnknhlgdoliaa.Print
end
section
-- Written by a program of this session, built on the kit's print (it is not the print's own text).
namespace Go.Proofs.Ytplnknhlgdoliaa.Print
open Go.RowKit Go.Proofs.YtplnknhlgdoliaaW.PrintWords Go.Proofs.YtplnknhlgdoliaaW.PrintLast Go.Proofs.YtplnknhlgdoliaaW.PrintMore
attribute [local go_sem] max2_int min2_int max_two min_two max_three min_three max_four min_four   -- for this text's walks alone
set_option linter.unusedVariables false
set_option linter.unusedSimpArgs false

/-! ### hearsayref01_Alike: function 58 -/
def hearsayref01_Alike.f (a0 : ByteArray) (a1 : ByteArray) : Option (Bool) := (hearsayref01_Fold.f a0).bind fun t352 => ((hearsayref01_Fold.f a1).bind fun t353 => (some (t352.toList == t353.toList)))
set_option maxHeartbeats 8000000 in
set_option maxRecDepth 100000 in
theorem hearsayref01_Alike.calls (a0 : ByteArray) (a1 : ByteArray) (r : Bool) (w : World) (h : hearsayref01_Alike.f a0 a1 = some r) :
    Calls Try.prog 58 #[.string a0, .string a1] w fun e w' => e = .returned (.bool r) ∧ Below w.heap.size w w' := by
  have HB := Aside0.mk (Below.refl w.heap.size w)
  have H : ((hearsayref01_Fold.f a0).bind fun t352 => ((hearsayref01_Fold.f a1).bind fun t353 => (some (t352.toList == t353.toList)))) = some r := h
  clear h
  replace H := Option.bind_eq_some_iff.mp H
  obtain ⟨t352, A30, H⟩ := H
  replace H : ((hearsayref01_Fold.f a1).bind fun t353 => (some (t352.toList == t353.toList))) = some r := H
  have A3 := Aside0.mk A30
  clear A30
  replace H := Option.bind_eq_some_iff.mp H
  obtain ⟨t353, A40, H⟩ := H
  replace H : (some (t352.toList == t353.toList)) = some r := H
  have A4 := Aside0.mk A40
  clear A40
  obtain rfl := Option.some.inj H
  go_enter Try.func58, Try.ntmps58
  go_wp2_with (first | ((with_reducible refine gate_callee (f := 16) rfl ?_); refine goesL_ (some 6) rfl rfl Try.func16 (by kernel_rfl) rfl #[.string a0] rfl (by (try simp only [List.map_toArray, List.map_cons, List.map_nil]); first | done | rfl | (simp only [List.length_drop, List.length_take]; rfl)) ?_; (with_reducible refine (hearsayref01_Fold.calls a0 t352 _ A3.out).mono ?_); rintro e w5 ⟨rfl, hb⟩; refine ⟨_, rfl, ?_⟩; have n0_ := Aside0.mk (below_step (by repeat (first | (with_reducible first | exact HB.out | apply below_alloc | apply pw_below_drewN | apply below_drew1) | exact HB.out)) hb); clear HB; have HB := n0_; clear n0_; (try clear hb); (try clear hb2); (try clear hk); (try clear hi)) | ((with_reducible refine gate_callee (f := 16) rfl ?_); refine goesL_ (some 8) rfl rfl Try.func16 (by kernel_rfl) rfl #[.string a1] rfl (by (try simp only [List.map_toArray, List.map_cons, List.map_nil]); first | done | rfl | (simp only [List.length_drop, List.length_take]; rfl)) ?_; (with_reducible refine (hearsayref01_Fold.calls a1 t353 _ A4.out).mono ?_); rintro e w6 ⟨rfl, hb⟩; refine ⟨_, rfl, ?_⟩; have n0_ := Aside0.mk (below_step (by repeat (first | (with_reducible first | exact HB.out | apply below_alloc | apply pw_below_drewN | apply below_drew1) | exact HB.out)) hb); clear HB; have HB := n0_; clear n0_; (try clear hb); (try clear hb2); (try clear hk); (try clear hi)))
  go_ret
  exact ⟨by first | rfl | (simp [errW_none, errW_some] <;> rfl) | (simp [*, errW_none, errW_some] <;> rfl), by repeat (first | (with_reducible first | exact HB.out | apply below_alloc | apply pw_below_drewN | apply below_drew1) | exact HB.out)⟩

end Go.Proofs.Ytplnknhlgdoliaa.Print
end
section
-- Written by a program of this session, built on the kit's print (it is not the print's own text).
namespace Go.Proofs.Ytplnknhlgdoliaa.Print
open Go.RowKit Go.Proofs.YtplnknhlgdoliaaW.PrintWords Go.Proofs.YtplnknhlgdoliaaW.PrintLast Go.Proofs.YtplnknhlgdoliaaW.PrintMore
attribute [local go_sem] max2_int min2_int max_two min_two max_three min_three max_four min_four   -- for this text's walks alone
set_option linter.unusedVariables false
set_option linter.unusedSimpArgs false

/-! ### hearsayref01_Under: function 40 -/
def hearsayref01_Under.j0 : Nat → ByteArray → List ByteArray → List ByteArray → Bool → Option (Bool)
  | 0, _, _, _, _ => none
  | k + 1, x1, x5, x7, x31 => if x31 = true then (some false) else (if 0 ≤ (wrap64 ((x5.length : Int) - (x7.length : Int))) then (if (wrap64 ((x5.length : Int) - (x7.length : Int))) ≤ (x5.length : Int) then ((hearsayref01_Glue.f (x5.drop ((wrap64 ((x5.length : Int) - (x7.length : Int))) : Int).toNat)).bind fun t366 => ((hearsayref01_Alike.f t366 x1).bind fun t367 => (some t367))) else (none)) else (none))
def hearsayref01_Under.f (k : Nat) (a0 : ByteArray) (a1 : ByteArray) : Option (Bool) := (hearsayref01_Split.f k a0).bind fun bt354 => ((hearsayref01_Split.f k a1).bind fun bt358 => (if bt354.2 = true then (if bt358.2 = true then (hearsayref01_Under.j0 k a1 bt354.1 bt358.1 (decide ((bt354.1.length : Int) < (bt358.1.length : Int)))) else (hearsayref01_Under.j0 k a1 bt354.1 bt358.1 true)) else (hearsayref01_Under.j0 k a1 bt354.1 bt358.1 true)))
theorem hearsayref01_Under.mono_l : ∀ k, (∀ y0 y1 y2 y3, LeO (hearsayref01_Under.j0 k y0 y1 y2 y3) (hearsayref01_Under.j0 (k + 1) y0 y1 y2 y3))
  | 0 => fun _ _ _ _ r h => by simp [hearsayref01_Under.j0] at h
  | k + 1 => by
    have ih0 := hearsayref01_Under.mono_l k
    · intro y0 y1 y2 y3
      unfold hearsayref01_Under.j0
      repeat' first
      | (with_reducible exact ih0 _ _ _ _)
      | (with_reducible exact hearsayref01_Split.mono _ _)
      | (with_reducible exact LeO.refl _)
      | (with_reducible exact LeO.none _)
      | (with_reducible refine LeO.ite ?_ ?_)
      | (with_reducible refine LeO.bind ?_ (fun _ => ?_))
      | exact ih0 _ _ _ _
      | exact hearsayref01_Split.mono _ _
      | exact LeO.none _
      | refine LeO.ite ?_ ?_
      | refine LeO.bind ?_ (fun _ => ?_)
theorem hearsayref01_Under.mono : ∀ a0 a1 k, LeO (hearsayref01_Under.f k a0 a1) (hearsayref01_Under.f (k + 1) a0 a1) := by
  intro a0 a1 k
  have ih0 := hearsayref01_Under.mono_l k
  unfold hearsayref01_Under.f
  repeat' first
      | (with_reducible exact ih0 _ _ _ _)
      | (with_reducible exact hearsayref01_Split.mono _ _)
      | (with_reducible exact LeO.refl _)
      | (with_reducible exact LeO.none _)
      | (with_reducible refine LeO.ite ?_ ?_)
      | (with_reducible refine LeO.bind ?_ (fun _ => ?_))
      | exact ih0 _ _ _ _
      | exact hearsayref01_Split.mono _ _
      | exact LeO.none _
      | refine LeO.ite ?_ ?_
      | refine LeO.bind ?_ (fun _ => ?_)
set_option maxHeartbeats 8000000 in
set_option maxRecDepth 100000 in
theorem hearsayref01_Under.calls (k : Nat) (a0 : ByteArray) (a1 : ByteArray) (r : Bool) (w : World) (h : hearsayref01_Under.f k a0 a1 = some r) :
    Calls Try.prog 40 #[.string a0, .string a1] w fun e w' => e = .returned (.bool r) ∧ Below w.heap.size w w' := by
  have HB := Aside0.mk (Below.refl w.heap.size w)
  have H : ((hearsayref01_Split.f k a0).bind fun bt354 => ((hearsayref01_Split.f k a1).bind fun bt358 => (if bt354.2 = true then (if bt358.2 = true then (hearsayref01_Under.j0 k a1 bt354.1 bt358.1 (decide ((bt354.1.length : Int) < (bt358.1.length : Int)))) else (hearsayref01_Under.j0 k a1 bt354.1 bt358.1 true)) else (hearsayref01_Under.j0 k a1 bt354.1 bt358.1 true)))) = some r := h
  clear h
  replace H := Option.bind_eq_some_iff.mp H
  obtain ⟨⟨t354, t355⟩, A30, H⟩ := H
  replace H : ((hearsayref01_Split.f k a1).bind fun bt358 => (if t355 = true then (if bt358.2 = true then (hearsayref01_Under.j0 k a1 t354 bt358.1 (decide ((t354.length : Int) < (bt358.1.length : Int)))) else (hearsayref01_Under.j0 k a1 t354 bt358.1 true)) else (hearsayref01_Under.j0 k a1 t354 bt358.1 true))) = some r := H
  have A3 := Aside0.mk A30
  clear A30
  replace H := Option.bind_eq_some_iff.mp H
  obtain ⟨⟨t358, t359⟩, A40, H⟩ := H
  replace H : (if t355 = true then (if t359 = true then (hearsayref01_Under.j0 k a1 t354 t358 (decide ((t354.length : Int) < (t358.length : Int)))) else (hearsayref01_Under.j0 k a1 t354 t358 true)) else (hearsayref01_Under.j0 k a1 t354 t358 true)) = some r := H
  have A4 := Aside0.mk A40
  clear A40
  have HC5 := Aside0.mk H
  clear H
  go_enter Try.func40, Try.ntmps40
  go_upto_region 3 with (first | ((with_reducible refine gate_callee (f := 13) rfl ?_); refine goesL_ (some 11) rfl rfl Try.func13 (by kernel_rfl) rfl #[.string a0] rfl (by (try simp only [List.map_toArray, List.map_cons, List.map_nil]); first | done | rfl | (simp only [List.length_drop, List.length_take]; rfl)) ?_; (with_reducible refine (hearsayref01_Split.calls k a0 t354 t355 _ A3.out).mono ?_); rintro e w6 ⟨v356, rfl, ho0, hb⟩; refine ⟨_, rfl, ?_⟩; have n0_ := Aside0.mk (Kd.R_lower ho0 (below_size (by repeat (first | (with_reducible first | exact HB.out | apply below_alloc | apply pw_below_drewN | apply below_drew1) | exact HB.out)))); have n1_ := Aside0.mk (below_step (by repeat (first | (with_reducible first | exact HB.out | apply below_alloc | apply pw_below_drewN | apply below_drew1) | exact HB.out)) hb); clear HB; have HO357 := n0_; have HB := n1_; clear n0_ n1_; (try clear hb); (try clear hb2); (try clear hk); (try clear hi); (try clear ho0)) | ((with_reducible refine gate_callee (f := 13) rfl ?_); refine goesL_ (some 16) rfl rfl Try.func13 (by kernel_rfl) rfl #[.string a1] rfl (by (try simp only [List.map_toArray, List.map_cons, List.map_nil]); first | done | rfl | (simp only [List.length_drop, List.length_take]; rfl)) ?_; (with_reducible refine (hearsayref01_Split.calls k a1 t358 t359 _ A4.out).mono ?_); rintro e w7 ⟨v360, rfl, ho0, hb⟩; refine ⟨_, rfl, ?_⟩; have n0_ := Aside0.mk (Kd.R_elder' (by (with_reducible repeat (first | apply Kd.R_alloc | apply Kd.R_drewN | apply Kd.R_drew)); exact HO357.out) (Kd.R_base ho0) hb); have n1_ := Aside0.mk (Kd.R_lower (Kd.R_new' ho0 (Kd.R_lt (by (with_reducible repeat (first | apply Kd.R_alloc | apply Kd.R_drewN | apply Kd.R_drew)); exact HO357.out))) (below_size (by repeat (first | (with_reducible first | exact HB.out | apply below_alloc | apply pw_below_drewN | apply below_drew1) | exact HB.out)))); have n2_ := Aside0.mk (below_step (by repeat (first | (with_reducible first | exact HB.out | apply below_alloc | apply pw_below_drewN | apply below_drew1) | exact HB.out)) hb); clear HO357; clear HB; have HO357 := n0_; have HO361 := n1_; have HB := n2_; clear n0_ n1_ n2_; (try clear hb); (try clear hb2); (try clear hk); (try clear hi); (try clear ho0)))
  (try simp only [Act.put, List.setIfInBounds_toArray, List.set_cons_zero, List.set_cons_succ])
  go_cut [31] (fun v31 wc => ∃ (kq : Nat) (x31_4 : Bool), v31 = .bool x31_4 ∧ Aside0 (hearsayref01_Under.j0 kq a1 t354 t358 x31_4 = some r) ∧ Aside0 (kq ≤ k) ∧ Aside0 (Kd.R Kd.string 9 wc w.heap.size (fun k_ => some k_ ≠ (v360 : Value).ownBlock) v356 t354) ∧ Aside0 (Kd.R Kd.string 9 wc w.heap.size (fun k_ => some k_ ≠ (v356 : Value).ownBlock) v360 t358) ∧ Aside0 (Below w.heap.size w wc))
  case first =>
    have H := HC5.out
    clear HC5
    by_cases c8 : t355 = true
    · subst c8
      have H1 : (if t359 = true then (hearsayref01_Under.j0 k a1 t354 t358 (decide ((t354.length : Int) < (t358.length : Int)))) else (hearsayref01_Under.j0 k a1 t354 t358 true)) = some r := by rw [if_pos rfl] at H; exact H
      clear H
      have H := H1
      clear H1
      by_cases c9 : t359 = true
      · subst c9
        have H1 : (hearsayref01_Under.j0 k a1 t354 t358 (decide ((t354.length : Int) < (t358.length : Int)))) = some r := by rw [if_pos rfl] at H; exact H
        clear H
        have H := H1
        clear H1
        have H' := Aside0.mk H
        clear H
        obtain ⟨Ao10, co10, eo10⟩ := Kd.R_slice HO357.out
        subst eo10
        obtain ⟨Ao11, co11, eo11⟩ := Kd.R_slice HO361.out
        subst eo11
        go_wp2
        go_meet
        case rel => exact ⟨_, (decide ((t354.length : Int) < (t358.length : Int))), (by first | rfl | (simp; done) | (simp [*]; done)), H', ⟨by first | omega | exact Nat.le_refl _⟩, ⟨by (with_reducible repeat (first | apply Kd.R_alloc | apply Kd.R_drewN | apply Kd.R_drew)); exact Kd.R_mono HO357.out (fun _ hk => hk.2)⟩, ⟨by (with_reducible repeat (first | apply Kd.R_alloc | apply Kd.R_drewN | apply Kd.R_drew)); exact Kd.R_mono HO361.out (fun _ hk => hk.2)⟩, ⟨by repeat (first | (with_reducible first | exact HB.out | apply below_alloc | apply pw_below_drewN | apply below_drew1) | exact HB.out)⟩⟩
      · replace c9 := Bool.eq_false_iff.mpr c9
        subst c9
        have H1 : (hearsayref01_Under.j0 k a1 t354 t358 true) = some r := by rw [if_neg (show ¬ (false = true) by decide)] at H; exact H
        clear H
        have H := H1
        clear H1
        have H' := Aside0.mk H
        clear H
        go_wp2
        go_meet
        case rel => exact ⟨_, (true), (by first | rfl | (simp; done) | (simp [*]; done)), H', ⟨by first | omega | exact Nat.le_refl _⟩, ⟨by (with_reducible repeat (first | apply Kd.R_alloc | apply Kd.R_drewN | apply Kd.R_drew)); exact Kd.R_mono HO357.out (fun _ hk => hk.2)⟩, ⟨by (with_reducible repeat (first | apply Kd.R_alloc | apply Kd.R_drewN | apply Kd.R_drew)); exact Kd.R_mono HO361.out (fun _ hk => hk.2)⟩, ⟨by repeat (first | (with_reducible first | exact HB.out | apply below_alloc | apply pw_below_drewN | apply below_drew1) | exact HB.out)⟩⟩
    · replace c8 := Bool.eq_false_iff.mpr c8
      subst c8
      have H1 : (hearsayref01_Under.j0 k a1 t354 t358 true) = some r := by rw [if_neg (show ¬ (false = true) by decide)] at H; exact H
      clear H
      have H := H1
      clear H1
      have H' := Aside0.mk H
      clear H
      go_wp2
      go_meet
      case rel => exact ⟨_, (true), (by first | rfl | (simp; done) | (simp [*]; done)), H', ⟨by first | omega | exact Nat.le_refl _⟩, ⟨by (with_reducible repeat (first | apply Kd.R_alloc | apply Kd.R_drewN | apply Kd.R_drew)); exact Kd.R_mono HO357.out (fun _ hk => hk.2)⟩, ⟨by (with_reducible repeat (first | apply Kd.R_alloc | apply Kd.R_drewN | apply Kd.R_drew)); exact Kd.R_mono HO361.out (fun _ hk => hk.2)⟩, ⟨by repeat (first | (with_reducible first | exact HB.out | apply below_alloc | apply pw_below_drewN | apply below_drew1) | exact HB.out)⟩⟩
  case rest =>
    clear HC5
    try clear c1
    try clear p2
    try clear c4
    try clear c8
    try clear c9
    obtain ⟨kq, x31_4, rfl, HA, HJ4, HO_5, HO_7, HB⟩ := hcut
    cases kq with
    | zero => exact absurd HA.out (by simp [hearsayref01_Under.j0])
    | succ kj4 =>
      have H := HA.out
      clear HA
      simp only [hearsayref01_Under.j0] at H
      by_cases c12 : x31_4 = true
      · subst c12
        have H1 : (some false) = some r := by rw [if_pos rfl] at H; exact H
        clear H
        have H := H1
        clear H1
        obtain rfl := Option.some.inj H
        go_wp2
        go_ret
        exact ⟨by first | rfl | (simp [errW_none, errW_some] <;> rfl) | (simp [*, errW_none, errW_some] <;> rfl), by repeat (first | (with_reducible first | exact HB.out | apply below_alloc | apply pw_below_drewN | apply below_drew1) | exact HB.out)⟩
      · replace c12 := Bool.eq_false_iff.mpr c12
        subst c12
        have H1 : (if 0 ≤ (wrap64 ((t354.length : Int) - (t358.length : Int))) then (if (wrap64 ((t354.length : Int) - (t358.length : Int))) ≤ (t354.length : Int) then ((hearsayref01_Glue.f (t354.drop ((wrap64 ((t354.length : Int) - (t358.length : Int))) : Int).toNat)).bind fun t366 => ((hearsayref01_Alike.f t366 a1).bind fun t367 => (some t367))) else (none)) else (none)) = some r := by rw [if_neg (show ¬ (false = true) by decide)] at H; exact H
        clear H
        have H := H1
        clear H1
        obtain ⟨ji13, hji13⟩ : ∃ j_ : Int, (wrap64 ((t354.length : Int) - (t358.length : Int))) = j_ := ⟨_, rfl⟩
        replace H : (if 0 ≤ (ji13) then (if (ji13) ≤ (t354.length : Int) then ((hearsayref01_Glue.f (t354.drop ((ji13) : Int).toNat)).bind fun t366 => ((hearsayref01_Alike.f t366 a1).bind fun t367 => (some t367))) else (none)) else (none)) = some r := by first | (rw [hji13] at H; exact H) | (simp only [hji13] at H ⊢; exact H)
        have hji13w : (IntKind.i64.wrap ((t354.length : Int) - (t358.length : Int))) = ji13 := (i64_w _).trans hji13
        by_cases c14 : 0 ≤ (ji13)
        · rw [if_pos c14] at H
          have c14b0 := eq_true c14
          have c14b1 : decide (0 ≤ (ji13)) = true := decide_eq_true c14
          clear c14
          by_cases c15 : (ji13) ≤ (t354.length : Int)
          · rw [if_pos c15] at H
            have c15b0 := eq_true c15
            have c15b1 : decide ((ji13) ≤ (t354.length : Int)) = true := decide_eq_true c15
            clear c15
            obtain ⟨y362, hy362⟩ : ∃ y_ : List ByteArray, y_ = (t354.drop ((ji13) : Int).toNat) := ⟨_, rfl⟩
            replace H : ((hearsayref01_Glue.f y362).bind fun t366 => ((hearsayref01_Alike.f t366 a1).bind fun t367 => (some t367))) = some r := by first | (rw [hy362]; with_reducible exact H) | (have H2_ := (Option.bind_some _ _).symm.trans H; rw [hy362]; with_reducible exact H2_) | (have H2_ := (Option.bind_some _ _).symm.trans H; with_reducible exact H2_) | with_reducible exact H | (rw [hy362]; exact H) | exact H
            have Ny362 := Aside0.mk hy362
            clear hy362
            replace H := Option.bind_eq_some_iff.mp H
            obtain ⟨t366, A160, H⟩ := H
            replace H : ((hearsayref01_Alike.f t366 a1).bind fun t367 => (some t367)) = some r := H
            have A16 := Aside0.mk A160
            clear A160
            replace H := Option.bind_eq_some_iff.mp H
            obtain ⟨t367, A170, H⟩ := H
            replace H : (some t367) = some r := H
            have A17 := Aside0.mk A170
            clear A170
            obtain rfl := Option.some.inj H
            obtain ⟨Ao18, co18, eo18⟩ := Kd.R_slice HO_5.out
            subst eo18
            obtain ⟨Ao19, co19, eo19⟩ := Kd.R_slice HO_7.out
            subst eo19
            have q20 : ((ji13) : Int) ≤ ((t354.length : Int) : Int) := of_decide_eq_true (by first | (with_reducible assumption) | assumption)
            obtain ⟨i020, hi020, _, hsz20, _⟩ := info_parts info9
            have hroom20 : t354.length ≤ co18 := (Kd.R_reads' HO_5.out).2.1
            have hC20 : Kd.C Kd.string _ Ao18 t354.length t354 := (Kd.R_reads' HO_5.out).2.2
            have q020 : (0 : Int) ≤ ((ji13) : Int) := of_decide_eq_true (by first | (with_reducible assumption) | assumption)
            have hcut20 := cut_from (P := Try.prog) 23 9 .i64 Try.underlying23 hi020 1 hsz20 Ao18 t354.length co18 (ji13) q020 q20
            have hr20 := Kd.C_drop (m := ((ji13) : Int).toNat) (c := co18) hC20 (by omega) hroom20
            obtain ⟨A20, hA20⟩ : ∃ A1, A1 = (if co18 = ((ji13) : Int).toNat then Ao18 else (Ao18 : Option Addr).map (·.add (((ji13) : Int).toNat * 1))) := ⟨_, rfl⟩
            obtain ⟨c20, hc20⟩ : ∃ c1, c1 = co18 - ((ji13) : Int).toNat := ⟨_, rfl⟩
            have hy20 : y362.length = t354.length - ((ji13) : Int).toNat := (by rw [Ny362.out, List.length_drop] <;> omega)
            rw [show (t354).drop ((ji13) : Int).toNat = y362 from Ny362.out.symm] at hr20
            replace hr20 : Kd.C Kd.string _ A20 y362.length y362 := (by rw [hA20]; exact hr20)
            rw [← hy20, ← hA20, ← hc20] at hcut20
            have HR365 := Aside0.mk hr20
            have HC365 := Aside0.mk (show y362.length ≤ c20 from by rw [hy20, hc20]; exact Nat.sub_le_sub_right hroom20 _)
            clear hr20 hC20 hroom20 hi020 hsz20 hc20
            have KY20 := Aside0.mk hy20
            have KA20 := Aside0.mk hA20
            clear hy20 hA20
            have KL20 := Aside0.mk (show ((ji13) : Int).toNat ≤ t354.length from by omega)
            replace q20 := eq_true q20
            go_wp2_with (first | ((with_reducible refine gate_callee (f := 50) rfl ?_); refine goesL_ (some 39) rfl rfl Try.func50 (by kernel_rfl) rfl #[.slice A20 y362.length c20] rfl (by (try simp only [List.map_toArray, List.map_cons, List.map_nil]); first | done | rfl | (simp only [List.length_drop, List.length_take]; rfl)) ?_; (with_reducible refine (hearsayref01_Glue.calls _ _ y362 t366 _ ?side1 ?side2 A16.out).mono ?_); (case side1 => repeat (first | exact (by repeat (first | (with_reducible exact HR365.out) | (with_reducible refine Kd.C_alloc ?_ _) | (with_reducible refine Kd.C_drewN ?_ _) | (with_reducible refine Kd.C_drew ?_) | exact HR365.out)) | (with_reducible refine Kd.C_alloc ?_ _) | (with_reducible refine Kd.C_drewN ?_ _) | (with_reducible refine Kd.C_drew ?_))); (case side2 => exact HC365.out); rintro e w21 ⟨rfl, hb⟩; refine ⟨_, rfl, ?_⟩; have n0_ := Aside0.mk (Kd.R_below (by (with_reducible repeat (first | apply Kd.R_alloc | apply Kd.R_drewN | apply Kd.R_drew)); exact HO_5.out) hb); have n1_ := Aside0.mk (Kd.R_below (by (with_reducible repeat (first | apply Kd.R_alloc | apply Kd.R_drewN | apply Kd.R_drew)); exact HO_7.out) hb); have n2_ := Aside0.mk (Kd.C_below (by repeat (first | (with_reducible exact HR365.out) | (with_reducible refine Kd.C_alloc ?_ _) | (with_reducible refine Kd.C_drewN ?_ _) | (with_reducible refine Kd.C_drew ?_) | exact HR365.out)) hb); have n3_ := Aside0.mk (below_step (by repeat (first | (with_reducible first | exact HB.out | apply below_alloc | apply pw_below_drewN | apply below_drew1) | exact HB.out)) hb); clear HO_5; clear HO_7; clear HR365; clear HB; have HO_5 := n0_; have HO_7 := n1_; have HR365 := n2_; have HB := n3_; clear n0_ n1_ n2_ n3_; (try clear hb); (try clear hb2); (try clear hk); (try clear hi)) | ((with_reducible refine gate_callee (f := 58) rfl ?_); refine goesL_ (some 41) rfl rfl Try.func58 (by kernel_rfl) rfl #[.string t366, .string a1] rfl (by (try simp only [List.map_toArray, List.map_cons, List.map_nil]); first | done | rfl | (simp only [List.length_drop, List.length_take]; rfl)) ?_; (with_reducible refine (hearsayref01_Alike.calls t366 a1 t367 _ A17.out).mono ?_); rintro e w22 ⟨rfl, hb⟩; refine ⟨_, rfl, ?_⟩; have n0_ := Aside0.mk (Kd.R_below (by (with_reducible repeat (first | apply Kd.R_alloc | apply Kd.R_drewN | apply Kd.R_drew)); exact HO_5.out) hb); have n1_ := Aside0.mk (Kd.R_below (by (with_reducible repeat (first | apply Kd.R_alloc | apply Kd.R_drewN | apply Kd.R_drew)); exact HO_7.out) hb); have n2_ := Aside0.mk (Kd.C_below (by repeat (first | (with_reducible exact HR365.out) | (with_reducible refine Kd.C_alloc ?_ _) | (with_reducible refine Kd.C_drewN ?_ _) | (with_reducible refine Kd.C_drew ?_) | exact HR365.out)) hb); have n3_ := Aside0.mk (below_step (by repeat (first | (with_reducible first | exact HB.out | apply below_alloc | apply pw_below_drewN | apply below_drew1) | exact HB.out)) hb); clear HO_5; clear HO_7; clear HR365; clear HB; have HO_5 := n0_; have HO_7 := n1_; have HR365 := n2_; have HB := n3_; clear n0_ n1_ n2_ n3_; (try clear hb); (try clear hb2); (try clear hk); (try clear hi)))
            go_ret
            exact ⟨by first | rfl | (simp [errW_none, errW_some] <;> rfl) | (simp only [← hji13]; first | rfl | (simp [errW_none, errW_some] <;> rfl)) | (simp [*, errW_none, errW_some] <;> rfl), by repeat (first | (with_reducible first | exact HB.out | apply below_alloc | apply pw_below_drewN | apply below_drew1) | exact HB.out)⟩
          · rw [if_neg c15] at H
            exact absurd H (by simp)
        · rw [if_neg c14] at H
          exact absurd H (by simp)

end Go.Proofs.Ytplnknhlgdoliaa.Print
end
section
/- What name's Last, Parent, Under tell, and the document's. -/
namespace Go.Proofs.Ytplnknhlgdoliaa.Print
set_option linter.unusedVariables false
set_option linter.unusedSimpArgs false
open Go.RowKit Go.Proofs.YtplnknhlgdoliaaW.PrintWords Go.Proofs.YtplnknhlgdoliaaW.PrintLast Go.Proofs.YtplnknhlgdoliaaW.PrintMore
theorem suffix_at {n : ByteArray} {L1 L2 : List ByteArray} (h : dec n = some (L1 ++ L2)) : n.extract (glue L1).length n.size = nameOf L2 ∧ (glue L1).length + 1 ≤ n.size := by
  obtain ⟨h1, h2, h3⟩ := dec_some h
  have hs := dec_size h
  rw [List.any_append, Bool.or_eq_false_iff] at h3
  rw [glue_append, List.length_append] at hs
  refine ⟨bytes_inj ?_, by omega⟩
  rw [bytes_nameOf h3.2, bytes_extract, h2, glue_append, List.append_assoc, List.drop_left]
  exact List.take_of_length_le (by simp; omega)
theorem suffix_off {n : ByteArray} {L : List ByteArray} (h : dec n = some L) (j : Nat) (hj : j ≤ L.length) : n.extract (glue (L.take j)).length n.size = nameOf (L.drop j) ∧ (glue (L.take j)).length + 1 ≤ n.size := suffix_at (by rw [List.take_append_drop]; exact h)
theorem offs_rd (L : List ByteArray) (j : Nat) (hj : j < L.length) : rd (offs 0 L) (j : Int) = ((glue (L.take j)).length : Int) := by
  have ho := offs_at (L.take j) 0 L[j] (L.drop (j + 1))
  rw [List.getElem_cons_drop hj, List.take_append_drop, List.length_take, Nat.min_eq_left (by omega), Nat.zero_add] at ho
  simp [rd, List.getD_eq_getElem?_getD, ho]
theorem drop_fine {L : List ByteArray} (h : L.any badLab = false) (j : Nat) : (L.drop j).any badLab = false := by
  rw [List.any_eq_false] at h ⊢
  exact fun x hx => h x (List.mem_of_mem_drop hx)
theorem glue_drop {n : ByteArray} {L : List ByteArray} (h : dec n = some L) (j : Nat) : (glue (L.drop j)).length + 1 ≤ 255 := by
  have h1 := dec_size h
  have h2 := (dec_some h).1
  have e : (glue L).length = (glue (L.take j)).length + (glue (L.drop j)).length := by rw [← List.length_append, ← glue_append, List.take_append_drop]
  omega
def lastP (n : ByteArray) (a : Int) : ByteArray × Bool :=
  match dec n with
  | none => (⟨#[]⟩, false)
  | some L => if a < 0 ∨ (L.length : Int) < a then (⟨#[]⟩, false) else (nameOf (L.drop (L.length - a.toNat)), true)
def parentP (n : ByteArray) : ByteArray × Bool :=
  match dec n with
  | some (s :: L) => (nameOf L, true)
  | _ => (⟨#[]⟩, false)
def underP (n z : ByteArray) : Bool :=
  match dec n, dec z with
  | some L, some M => if L.length < M.length then false else (lowS (nameOf (L.drop (L.length - M.length)))).toList == (lowS z).toList
  | _, _ => false
theorem nameOf_nil : nameOf [] = ⟨#[0]⟩ := by kernel_rfl
theorem last_f (n : ByteArray) (a : Int) (h0 : -9223372036854775808 ≤ a) (h1 : a ≤ 9223372036854775807) : Ev (fun k => name_Last.f k n a) (lastP n a) := by
  obtain ⟨l', hE, hL⟩ := starts_f n
  refine Ev.bind (f := fun k (x : List Int × Bool) => if x.2 = true then if a < 0 then name_Last.j0 k n a x.1 true else name_Last.j0 k n a x.1 (decide (a > (x.1.length : Int))) else name_Last.j0 k n a x.1 true) hE ?_
  have no : ∀ l : List Int, Ev (fun k => name_Last.j0 k n a l true) (⟨#[]⟩, false) := fun l => by
    refine Ev.step (f := fun _ => some (⟨#[]⟩, false)) (fun k => ?_) (Ev.now _)
    simp only [name_Last.j0]; rw [if_pos trivial]
  unfold lastP
  cases h : dec n with
  | none => exact Ev.congr (fun k => by simp) (no l')
  | some L =>
    have e := hL L h
    subst e
    have hl := labels_length h
    have hol := offs_length 0 L
    simp only [Option.isSome_some]
    by_cases ha : a < 0
    · rw [if_pos (Or.inl ha)]
      exact Ev.congr (fun k => by rw [if_pos trivial, if_pos ha]) (no _)
    · by_cases hb : (L.length : Int) < a
      · rw [if_pos (Or.inr hb)]
        exact Ev.congr (fun k => by rw [if_pos trivial, if_neg ha, decide_eq_true (by omega)]) (no _)
      · rw [if_neg (by omega)]
        refine Ev.congr (f := fun k => name_Last.j0 k n a (offs 0 L) false) (fun k => by rw [if_pos trivial, if_neg ha, decide_eq_false (by omega)]) ?_
        refine Ev.step (f := fun _ => some (nameOf (L.drop (L.length - a.toNat)), true)) (fun k => ?_) (Ev.now _)
        simp only [name_Last.j0]
        rw [if_neg (by simp)]
        by_cases hz : a = 0
        · rw [if_pos hz, hz, List.drop_of_length_le (by simp), nameOf_nil]
        · have hw : wrap64 (((offs 0 L).length : Int) - a) = ((L.length - a.toNat : Nat) : Int) := by rw [w64 (by omega) (by omega)]; omega
          have hs := suffix_off h (L.length - a.toNat) (by omega)
          rw [if_neg hz, hw, if_pos (by omega), if_pos (by omega), offs_rd L _ (by omega), if_pos (by omega), if_pos (by omega), Int.toNat_natCast, hs.1]
theorem rlast_f (n : ByteArray) (a : Int) (h0 : -9223372036854775808 ≤ a) (h1 : a ≤ 9223372036854775807) : Ev (fun k => hearsayref01_Last.f k n a) (lastP n a) := by
  obtain ⟨l', hE, hL⟩ := split_f n
  refine Ev.bind (f := fun _ (x : List ByteArray × Bool) => if x.2 = true then if a < 0 then some (⟨#[]⟩, false) else if a > (x.1.length : Int) then some (⟨#[]⟩, false) else if 0 ≤ wrap64 ((x.1.length : Int) - a) then if wrap64 ((x.1.length : Int) - a) ≤ (x.1.length : Int) then (hearsayref01_Glue.f (x.1.drop (wrap64 ((x.1.length : Int) - a)).toNat)).bind fun t => some (t, true) else none else none else some (⟨#[]⟩, false)) hE ?_
  unfold lastP
  cases h : dec n with
  | none => exact Ev.congr (fun k => by simp) (Ev.now _)
  | some L =>
    have e := hL L h
    subst e
    have hl := labels_length h
    simp only [Option.isSome_some]
    refine Ev.congr (fun k => ?_) (Ev.now _)
    rw [if_pos trivial]
    by_cases ha : a < 0
    · rw [if_pos ha, if_pos (Or.inl ha)]
    · by_cases hb : (l'.length : Int) < a
      · rw [if_neg ha, if_pos (by omega), if_pos (Or.inr hb)]
      · have hw : wrap64 ((l'.length : Int) - a) = ((l'.length - a.toNat : Nat) : Int) := by rw [w64 (by omega) (by omega)]; omega
        have hg := glue_drop h (l'.length - a.toNat)
        rw [if_neg ha, if_neg (show ¬ a > (l'.length : Int) by omega), hw, if_pos (by omega), if_pos (by omega), Int.toNat_natCast, glue_f (drop_fine (dec_some h).2.2 _) (by omega), if_neg (show ¬ (a < 0 ∨ (l'.length : Int) < a) by omega)]
        rfl
theorem parent_f (n : ByteArray) : Ev (fun k => name_Parent.f k n) (parentP n) := by
  obtain ⟨l', hE, hL⟩ := starts_f n
  refine Ev.bind (f := fun _ (x : List Int × Bool) => if x.2 = true then if (x.1.length : Int) = 0 then some (⟨#[]⟩, false) else if 0 < (n.size : Int) then if 0 ≤ wrap64 (1 + wrap64 (bt n 0)) then if wrap64 (1 + wrap64 (bt n 0)) ≤ (n.size : Int) then some (n.extract (wrap64 (1 + wrap64 (bt n 0))).toNat n.size, true) else none else none else none else some (⟨#[]⟩, false)) hE ?_
  unfold parentP
  cases h : dec n with
  | none => exact Ev.congr (fun k => by simp) (Ev.now _)
  | some L =>
    have e := hL L h
    subst e
    simp only [Option.isSome_some]
    refine Ev.congr (fun k => ?_) (Ev.now _)
    rw [if_pos trivial]
    cases L with
    | nil => rfl
    | cons s L =>
      obtain ⟨g1, g2, g3⟩ := label_at (L1 := []) h
      have hs := suffix_at (L1 := [s]) h
      have hgl : (glue [s]).length = s.size + 1 := by simp [glue, lab_length]
      have hsz := (dec_some h).1
      have g1' : bt n 0 = (s.size : Int) := g1
      have e1 : wrap64 (1 + wrap64 (bt n 0)) = ((s.size + 1 : Nat) : Int) := by rw [g1', w64 (n := (s.size : Int)) (by omega) (by omega), w64 (by omega) (by omega)]; omega
      rw [if_neg (by simp only [offs, List.length_cons]; omega), if_pos (by omega), e1, if_pos (by omega), if_pos (by omega), Int.toNat_natCast, ← hgl, hs.1]
theorem rparent_f (n : ByteArray) : Ev (fun k => hearsayref01_Parent.f k n) (parentP n) := by
  obtain ⟨l', hE, hL⟩ := split_f n
  have hLab : Ev (fun k => hearsayref01_Labels.f k n) ((dec n).getD []) := by
    refine Ev.bind (f := fun _ (x : List ByteArray × Bool) => if x.2 = true then some x.1 else some []) hE ?_
    cases h : dec n with
    | none => exact Ev.now _
    | some L => rw [hL L h]; exact Ev.now _
  refine Ev.bind (f := fun _ (t : List ByteArray) => if (t.length : Int) = 0 then some (⟨#[]⟩, false) else if 1 ≤ (t.length : Int) then (hearsayref01_Glue.f (t.drop 1)).bind fun u => some (u, true) else none) hLab ?_
  unfold parentP
  cases h : dec n with
  | none => exact Ev.now _
  | some L =>
    refine Ev.congr (fun k => ?_) (Ev.now _)
    rw [Option.getD_some]
    cases L with
    | nil => rfl
    | cons s L =>
      have hg := glue_drop h 1
      rw [if_neg (by simp only [List.length_cons]; omega), if_pos (by simp only [List.length_cons]; omega), glue_f (drop_fine (dec_some h).2.2 1) (by omega)]
      rfl
theorem under_f (n z : ByteArray) : Ev (fun k => name_Under.f k n z) (underP n z) := by
  obtain ⟨l1, hE1, hL1⟩ := starts_f n
  obtain ⟨l2, hE2, hL2⟩ := starts_f z
  refine Ev.bind (f := fun k (x : List Int × Bool) => (name_starts.f k z).bind fun y => if x.2 = true then if y.2 = true then name_Under.j0 k n z x.1 y.1 (decide ((x.1.length : Int) < (y.1.length : Int))) else name_Under.j0 k n z x.1 y.1 true else name_Under.j0 k n z x.1 y.1 true) hE1 ?_
  refine Ev.bind (f := fun k (y : List Int × Bool) => if (dec n).isSome = true then if y.2 = true then name_Under.j0 k n z l1 y.1 (decide ((l1.length : Int) < (y.1.length : Int))) else name_Under.j0 k n z l1 y.1 true else name_Under.j0 k n z l1 y.1 true) hE2 ?_
  have no : Ev (fun k => name_Under.j0 k n z l1 l2 true) false := by
    refine Ev.step (f := fun _ => some false) (fun k => ?_) (Ev.now _)
    simp only [name_Under.j0]; rw [if_pos trivial]
  unfold underP
  cases h : dec n with
  | none => exact Ev.congr (fun k => by simp) no
  | some L =>
    cases h2 : dec z with
    | none => exact Ev.congr (fun k => by simp) no
    | some M =>
      simp only [Option.isSome_some]
      have e1 := hL1 L h
      have e2 := hL2 M h2
      have hl := labels_length h
      have hm := labels_length h2
      have ho1 : l1.length = L.length := by rw [e1, offs_length]
      have ho2 : l2.length = M.length := by rw [e2, offs_length]
      have hz := (dec_some h).1
      have hz2 := (dec_some h2).1
      have fz : name_Fold.f z = some (lowS z) := fold_f (by omega)
      have fs : ∀ j : Nat, name_Fold.f (nameOf (L.drop j)) = some (lowS (nameOf (L.drop j))) := fun j => fold_f (by
        have := glue_drop h j
        unfold nameOf; rw [strOfNums_size]; simp; omega)
      by_cases hlt : L.length < M.length
      · rw [if_pos hlt]
        exact Ev.congr (fun k => by rw [if_pos trivial, if_pos trivial, decide_eq_true (by omega)]) no
      · rw [if_neg hlt]
        refine Ev.congr (f := fun k => name_Under.j0 k n z l1 l2 false) (fun k => by rw [if_pos trivial, if_pos trivial, decide_eq_false (by omega)]) ?_
        refine Ev.step (f := fun _ => some ((lowS (nameOf (L.drop (L.length - M.length)))).toList == (lowS z).toList)) (fun k => ?_) (Ev.now _)
        simp only [name_Under.j0]
        rw [if_neg (by simp)]
        have hs := suffix_off h (L.length - M.length) (by omega)
        by_cases hM : 0 < M.length
        · have hw : wrap64 ((l1.length : Int) - (l2.length : Int)) = ((L.length - M.length : Nat) : Int) := by rw [w64 (by omega) (by omega)]; omega
          rw [if_pos (by omega), hw, if_pos (by omega), if_pos (by omega), e1, offs_rd L _ (by omega), if_pos (by omega), if_pos (by omega), Int.toNat_natCast, hs.1, fs]
          simp only [Option.bind_some]
          rw [fz]
          rfl
        · have hM0 : M.length = 0 := by omega
          have hg : (glue (L.take (L.length - M.length))).length = n.size - 1 := by
            rw [List.take_of_length_le (by omega)]; have := dec_size h; omega
          have hw : wrap64 ((n.size : Int) - 1) = ((n.size - 1 : Nat) : Int) := by rw [w64 (by omega) (by omega)]; omega
          rw [if_neg (by omega), hw, if_pos (by omega), if_pos (by omega), Int.toNat_natCast, ← hg, hs.1, fs]
          simp only [Option.bind_some]
          rw [fz]
          rfl
theorem runder_f (n z : ByteArray) : Ev (fun k => hearsayref01_Under.f k n z) (underP n z) := by
  obtain ⟨l1, hE1, hL1⟩ := split_f n
  obtain ⟨l2, hE2, hL2⟩ := split_f z
  refine Ev.bind (f := fun k (x : List ByteArray × Bool) => (hearsayref01_Split.f k z).bind fun y => if x.2 = true then if y.2 = true then hearsayref01_Under.j0 k z x.1 y.1 (decide ((x.1.length : Int) < (y.1.length : Int))) else hearsayref01_Under.j0 k z x.1 y.1 true else hearsayref01_Under.j0 k z x.1 y.1 true) hE1 ?_
  refine Ev.bind (f := fun k (y : List ByteArray × Bool) => if (dec n).isSome = true then if y.2 = true then hearsayref01_Under.j0 k z l1 y.1 (decide ((l1.length : Int) < (y.1.length : Int))) else hearsayref01_Under.j0 k z l1 y.1 true else hearsayref01_Under.j0 k z l1 y.1 true) hE2 ?_
  have no : Ev (fun k => hearsayref01_Under.j0 k z l1 l2 true) false := by
    refine Ev.step (f := fun _ => some false) (fun k => ?_) (Ev.now _)
    simp only [hearsayref01_Under.j0]; rw [if_pos trivial]
  unfold underP
  cases h : dec n with
  | none => exact Ev.congr (fun k => by simp) no
  | some L =>
    cases h2 : dec z with
    | none => exact Ev.congr (fun k => by simp) no
    | some M =>
      simp only [Option.isSome_some]
      have e1 := hL1 L h
      have e2 := hL2 M h2
      subst e1; subst e2
      have hl := labels_length h
      have hm := labels_length h2
      have hz2 := (dec_some h2).1
      have fz : hearsayref01_Fold.f z = some (lowS z) := by unfold hearsayref01_Fold.f; rw [low_f (by omega)]; rfl
      by_cases hlt : l1.length < l2.length
      · rw [if_pos hlt]
        exact Ev.congr (fun k => by rw [if_pos trivial, if_pos trivial, decide_eq_true (by omega)]) no
      · rw [if_neg hlt]
        refine Ev.congr (f := fun k => hearsayref01_Under.j0 k z l1 l2 false) (fun k => by rw [if_pos trivial, if_pos trivial, decide_eq_false (by omega)]) ?_
        refine Ev.step (f := fun _ => some ((lowS (nameOf (l1.drop (l1.length - l2.length)))).toList == (lowS z).toList)) (fun k => ?_) (Ev.now _)
        simp only [hearsayref01_Under.j0]
        have hw : wrap64 ((l1.length : Int) - (l2.length : Int)) = ((l1.length - l2.length : Nat) : Int) := by rw [w64 (by omega) (by omega)]; omega
        have hg := glue_drop h (l1.length - l2.length)
        have fs : hearsayref01_Fold.f (nameOf (l1.drop (l1.length - l2.length))) = some (lowS (nameOf (l1.drop (l1.length - l2.length)))) := by
          unfold hearsayref01_Fold.f; rw [low_f (by unfold nameOf; rw [strOfNums_size]; simp; omega)]; rfl
        rw [if_neg (by simp), hw, if_pos (by omega), if_pos (by omega), Int.toNat_natCast, glue_f (drop_fine (dec_some h).2.2 _) (by omega)]
        simp only [Option.bind_some]
        unfold hearsayref01_Alike.f
        rw [fs, fz]
        rfl
end Go.Proofs.Ytplnknhlgdoliaa.Print
end
section
/- name.Cmp is an order; of names it is 0 just if they are alike. -/
namespace Go.Proofs.Ytplnknhlgdoliaa.Print
set_option linter.unusedVariables false
set_option linter.unusedSimpArgs false
open Go.RowKit Go.Proofs.YtplnknhlgdoliaaW.PrintWords Go.Proofs.YtplnknhlgdoliaaW.PrintLast Go.Proofs.YtplnknhlgdoliaaW.PrintMore
structure IsOrd {α : Type} (c : α → α → Int) : Prop where
  range : ∀ x y, -1 ≤ c x y ∧ c x y ≤ 1
  anti : ∀ x y, c x y = - c y x
  trans : ∀ x y z, c x y ≤ 0 → c y z ≤ 0 → c x z ≤ 0
theorem IsOrd.self {α : Type} {c : α → α → Int} (h : IsOrd c) (x : α) : c x x = 0 := by have := h.anti x x; omega
theorem IsOrd.lt1 {α : Type} {c : α → α → Int} (h : IsOrd c) {x y z : α} (h1 : c x y < 0) (h2 : c y z ≤ 0) : c x z < 0 := by
  have h3 := h.trans x y z (by omega) h2
  by_cases h4 : c x z = 0
  · have h5 := h.anti x z
    have h6 := h.trans y z x h2 (by omega)
    have h7 := h.anti x y
    omega
  · omega
theorem IsOrd.lt2 {α : Type} {c : α → α → Int} (h : IsOrd c) {x y z : α} (h1 : c x y ≤ 0) (h2 : c y z < 0) : c x z < 0 := by
  have h3 := h.trans x y z h1 (by omega)
  by_cases h4 : c x z = 0
  · have h5 := h.anti x z
    have h6 := h.trans z x y (by omega) h1
    have h7 := h.anti y z
    omega
  · omega
def lex {α : Type} (c : α → α → Int) : List α → List α → Int
  | [], [] => 0
  | [], _ :: _ => -1
  | _ :: _, [] => 1
  | x :: xs, y :: ys => if c x y = 0 then lex c xs ys else c x y
theorem lex_range {α : Type} {c : α → α → Int} (h : IsOrd c) : ∀ xs ys, -1 ≤ lex c xs ys ∧ lex c xs ys ≤ 1
  | [], [] => by simp [lex]
  | [], _ :: _ => by simp [lex]
  | _ :: _, [] => by simp [lex]
  | x :: xs, y :: ys => by
    simp only [lex]
    split
    · exact lex_range h xs ys
    · exact h.range x y
theorem lex_anti {α : Type} {c : α → α → Int} (h : IsOrd c) : ∀ xs ys, lex c xs ys = - lex c ys xs
  | [], [] => by simp [lex]
  | [], _ :: _ => by simp [lex]
  | _ :: _, [] => by simp [lex]
  | x :: xs, y :: ys => by
    simp only [lex]
    have ha := h.anti x y
    by_cases h0 : c x y = 0
    · rw [if_pos h0, if_pos (by omega)]; exact lex_anti h xs ys
    · rw [if_neg h0, if_neg (by omega)]; exact ha
theorem lex_trans {α : Type} {c : α → α → Int} (h : IsOrd c) : ∀ xs ys zs, lex c xs ys ≤ 0 → lex c ys zs ≤ 0 → lex c xs zs ≤ 0
  | [], _, [], _, _ => by simp [lex]
  | [], _, _ :: _, _, _ => by simp [lex]
  | x :: xs, [], _, h1, _ => by simp [lex] at h1
  | x :: xs, y :: ys, [], _, h2 => by simp [lex] at h2
  | x :: xs, y :: ys, z :: zs, h1, h2 => by
    simp only [lex] at h1 h2 ⊢
    by_cases e1 : c x y = 0
    · rw [if_pos e1] at h1
      by_cases e2 : c y z = 0
      · rw [if_pos e2] at h2
        have h3 := h.trans x y z (by omega) (by omega)
        have h4 := h.trans z y x (by have := h.anti y z; omega) (by have := h.anti x y; omega)
        have h5 := h.anti x z
        rw [if_pos (by omega)]
        exact lex_trans h xs ys zs h1 h2
      · rw [if_neg e2] at h2
        have h3 := h.lt2 (x := x) (y := y) (z := z) (by omega) (by omega)
        rw [if_neg (by omega)]; omega
    · rw [if_neg e1] at h1
      have h2' : c y z ≤ 0 := by
        by_cases e2 : c y z = 0
        · omega
        · rw [if_neg e2] at h2; exact h2
      have h3 := h.lt1 (x := x) (y := y) (z := z) (by omega) h2'
      rw [if_neg (by omega)]; omega
theorem lex_ord {α : Type} {c : α → α → Int} (h : IsOrd c) : IsOrd (lex c) := ⟨lex_range h, lex_anti h, lex_trans h⟩
theorem lex_zero {α : Type} {c : α → α → Int} (h0 : ∀ x y, c x y = 0 ↔ x = y) : ∀ xs ys, lex c xs ys = 0 ↔ xs = ys
  | [], [] => by simp [lex]
  | [], _ :: _ => by simp [lex]
  | _ :: _, [] => by simp [lex]
  | x :: xs, y :: ys => by
    simp only [lex, List.cons.injEq]
    by_cases e : c x y = 0
    · rw [if_pos e, lex_zero h0 xs ys]
      exact ⟨fun h => ⟨(h0 x y).1 e, h⟩, fun h => h.2⟩
    · rw [if_neg e]
      exact ⟨fun h => absurd h e, fun h => absurd ((h0 x y).2 h.1) e⟩
theorem lex_prefix {α : Type} {c : α → α → Int} (h : ∀ x, c x x = 0) : ∀ xs ys : List α, 0 ≤ lex c (xs ++ ys) xs
  | [], [] => by simp [lex]
  | [], _ :: _ => by simp [lex]
  | x :: xs, ys => by
    simp only [List.cons_append, lex]
    rw [if_pos (h x)]
    exact lex_prefix h xs ys
def cI (x y : Int) : Int := clamp (x - y)
theorem cI_ord : IsOrd cI := ⟨fun x y => by unfold cI clamp; omega, fun x y => by unfold cI clamp; omega, fun x y z h1 h2 => by unfold cI clamp at *; omega⟩
theorem cI_zero (x y : Int) : cI x y = 0 ↔ x = y := by unfold cI; rw [clamp_eq_zero]; omega
theorem clamp_cons {n m : Nat} : (n = 0 ∧ m = 0 → clamp ((n : Int) - (m : Int)) = 0) ∧ (n = 0 ∧ 0 < m → clamp ((n : Int) - (m : Int)) = -1) ∧ (0 < n ∧ m = 0 → clamp ((n : Int) - (m : Int)) = 1) := by
  refine ⟨fun h => ?_, fun h => ?_, fun h => ?_⟩ <;> · unfold clamp; omega
theorem diffP_lex : ∀ xs ys : List Int, clamp (diffP xs ys) = lex cI xs ys
  | [], [] => rfl
  | [], y :: ys => by simp only [diffP, lex]; exact clamp_cons.2.1 ⟨rfl, by simp⟩
  | x :: xs, [] => by simp only [diffP, lex]; exact clamp_cons.2.2 ⟨by simp, rfl⟩
  | x :: xs, y :: ys => by
    simp only [diffP, lex]
    by_cases h : x = y
    · rw [if_pos h, if_pos ((cI_zero x y).2 h)]; exact diffP_lex xs ys
    · rw [if_neg h, if_neg (fun e => h ((cI_zero x y).1 e))]; rfl
def keyB (s : ByteArray) : List Int := (bytesOf s).map low1
theorem diffL_lex : ∀ xs ys : List ByteArray, clamp (diffL xs ys) = lex (lex cI) (xs.map keyB) (ys.map keyB)
  | [], [] => rfl
  | [], y :: ys => by simp only [diffL, lex, List.map_nil, List.map_cons]; exact clamp_cons.2.1 ⟨rfl, by simp⟩
  | x :: xs, [] => by simp only [diffL, lex, List.map_nil, List.map_cons]; exact clamp_cons.2.2 ⟨by simp, rfl⟩
  | x :: xs, y :: ys => by
    simp only [diffL, lex, List.map_cons]
    have e : lex cI (keyB x) (keyB y) = clamp (diffB (bytesOf x) (bytesOf y)) := by rw [diffB_map, diffP_lex]; rfl
    rw [e]
    by_cases h : diffB (bytesOf x) (bytesOf y) = 0
    · rw [if_pos h, if_pos (clamp_eq_zero.2 h)]; exact diffL_lex xs ys
    · rw [if_neg h, if_neg (fun h2 => h (clamp_eq_zero.1 h2))]
/-- what Cmp sees of a name: its labels from the last on, in small letters; of what is none: its bytes -/
inductive Key
  | isName (l : List (List Int))
  | none (b : List Int)
def cK : Key → Key → Int
  | .isName l, .isName m => lex (lex cI) l m
  | .isName _, .none _ => -1
  | .none _, .isName _ => 1
  | .none b, .none c => lex cI b c
theorem cK_ord : IsOrd cK := by
  have o1 := lex_ord cI_ord
  have o2 := lex_ord o1
  refine ⟨fun x y => ?_, fun x y => ?_, fun x y z h1 h2 => ?_⟩
  · cases x <;> cases y <;> simp only [cK]
    · exact o2.range _ _
    · omega
    · omega
    · exact o1.range _ _
  · cases x <;> cases y <;> simp only [cK]
    · exact o2.anti _ _
    · omega
    · exact o1.anti _ _
  · cases x <;> cases y <;> cases z <;> simp only [cK] at h1 h2 ⊢
    · exact o2.trans _ _ _ h1 h2
    · omega
    · omega
    · omega
    · omega
    · omega
    · omega
    · exact o1.trans _ _ _ h1 h2
def keyN (n : ByteArray) : Key := match dec n with | some L => .isName (L.reverse.map keyB) | none => .none (bytesOf n)
theorem cmp_key (a b : ByteArray) : cmpP a b = cK (keyN a) (keyN b) := by
  unfold cmpP keyN
  cases dec a <;> cases dec b <;> simp only [cK]
  · rw [compare_diff, diffP_lex]; rfl
  · exact diffL_lex _ _
theorem low_small {c : Int} (h : c < 65) : low1 c = c := by unfold low1; rw [if_neg (by omega)]
theorem glue_low : ∀ (L : List ByteArray), L.any badLab = false → (glue L).map low1 = glue (L.map lowS)
  | [], _ => rfl
  | s :: L, h => by
    rw [List.any_cons, Bool.or_eq_false_iff] at h
    have hs := bad_false h.1
    have ih := glue_low L h.2
    simp only [glue, List.flatMap_cons, List.map_append, List.map_cons] at ih ⊢
    rw [ih]
    unfold lab
    rw [List.map_cons, low_small (by omega), bytes_lowS, lowS_size]
theorem bad_low (L : List ByteArray) (h : L.any badLab = false) : (L.map lowS).any badLab = false := by
  rw [List.any_eq_false] at h ⊢
  intro x hx
  obtain ⟨s, hs, rfl⟩ := List.mem_map.1 hx
  have := h s hs
  unfold badLab at this ⊢
  rw [lowS_size]; exact this
theorem dec_low {n : ByteArray} {L : List ByteArray} (h : dec n = some L) : dec (lowS n) = some (L.map lowS) := by
  obtain ⟨h1, h2, h3⟩ := dec_some h
  unfold dec
  rw [lowS_size, if_neg (by omega), bytes_lowS, h2, List.map_append, glue_low L h3]
  exact cut_glue _ (bad_low L h3)
theorem keyB_low {s u : ByteArray} : keyB s = keyB u ↔ lowS s = lowS u := by
  unfold keyB
  rw [← bytes_lowS, ← bytes_lowS]
  exact ⟨fun h => bytes_inj h, fun h => by rw [h]⟩
theorem keys_low {L M : List ByteArray} : L.map keyB = M.map keyB ↔ L.map lowS = M.map lowS := by
  have e : ∀ K : List ByteArray, K.map keyB = (K.map lowS).map bytesOf := fun K => by
    rw [List.map_map]; exact List.map_congr_left fun s _ => (bytes_lowS s).symm
  rw [e, e]
  refine ⟨fun h => ?_, fun h => by rw [h]⟩
  exact (List.map_inj_right (fun a b h => bytes_inj h)).1 h
theorem alike_iff {a b : ByteArray} {L M : List ByteArray} (ha : dec a = some L) (hb : dec b = some M) : lowS a = lowS b ↔ L.map keyB = M.map keyB := by
  rw [keys_low]
  refine ⟨fun h => ?_, fun h => dec_inj (dec_low ha) (by rw [h]; exact dec_low hb)⟩
  have h1 := dec_low ha
  rw [h, dec_low hb] at h1
  exact (Option.some.inj h1).symm
theorem toList_eq {a b : ByteArray} : a.toList = b.toList ↔ a = b := by
  constructor
  · intro h
    rw [Lib.toList_data, Lib.toList_data] at h
    exact ByteArray.ext (Array.ext' h)
  · intro h; rw [h]
theorem cmp_alike {a b : ByteArray} (ha : (dec a).isSome) (hb : (dec b).isSome) : cmpP a b = 0 ↔ lowS a = lowS b := by
  obtain ⟨L, hL⟩ := Option.isSome_iff_exists.1 ha
  obtain ⟨M, hM⟩ := Option.isSome_iff_exists.1 hb
  rw [cmp_key, alike_iff hL hM]
  unfold keyN
  rw [hL, hM]
  simp only [cK]
  rw [lex_zero (lex_zero cI_zero), List.map_reverse, List.map_reverse]
  exact List.reverse_inj
theorem cmp_under {a b : ByteArray} (h : underP a b = true) : 0 ≤ cmpP a b := by
  unfold underP at h
  cases ha : dec a with
  | none => rw [ha] at h; cases h
  | some L =>
    cases hb : dec b with
    | none => rw [ha, hb] at h; cases h
    | some M =>
      rw [ha, hb] at h
      simp only [] at h
      by_cases hl : L.length < M.length
      · rw [if_pos hl] at h; cases h
      · rw [if_neg hl] at h
        have hd : dec (nameOf (L.drop (L.length - M.length))) = some (L.drop (L.length - M.length)) := dec_nameOf (drop_fine (dec_some ha).2.2 _) (glue_drop ha _)
        have he := (alike_iff hd hb).1 (toList_eq.1 (by simpa using h))
        rw [cmp_key]
        unfold keyN
        rw [ha, hb]
        simp only [cK]
        have e : L.reverse.map keyB = M.reverse.map keyB ++ (L.take (L.length - M.length)).reverse.map keyB := by
          rw [List.map_reverse (l := M), ← he, ← List.map_reverse, ← List.map_append, ← List.reverse_append, List.take_append_drop]
        rw [e]
        exact lex_prefix (fun x => (lex_ord cI_ord).self x) _ _
end Go.Proofs.Ytplnknhlgdoliaa.Print
end
section
/- hearsaylaw01.wakes tells true. -/
namespace Go.Proofs.Ytplnknhlgdoliaa.Print
set_option linter.unusedVariables false
set_option linter.unusedSimpArgs false
open Go.RowKit Go.Proofs.YtplnknhlgdoliaaW.PrintWords Go.Proofs.YtplnknhlgdoliaaW.PrintLast Go.Proofs.YtplnknhlgdoliaaW.PrintMore
theorem wakes_ev : Ev (fun k => hearsaylaw01_wakes.f k) true := by
  have h1 : name_Parse.f ⟨#[65, 98, 46, 99]⟩ ⟨#[0]⟩ = some (⟨#[2, 65, 98, 1, 99, 0]⟩, 0) := by kernel_rfl
  have h2 : name_Fold.f ⟨#[2, 65, 98, 1, 99, 0]⟩ = some ⟨#[2, 97, 98, 1, 99, 0]⟩ := by kernel_rfl
  have h3 : name_Text.f ⟨#[2, 97, 98, 1, 99, 0]⟩ = some ⟨#[97, 98, 46, 99, 46]⟩ := by kernel_rfl
  have h4 := count_f ⟨#[2, 65, 98, 1, 99, 0]⟩
  have h5 := check_f ⟨#[2, 65, 98, 1, 99, 0]⟩
  have e4 : (((dec ⟨#[2, 65, 98, 1, 99, 0]⟩).getD []).length : Int) = 2 := by kernel_rfl
  have e5 : (if (dec ⟨#[2, 65, 98, 1, 99, 0]⟩).isSome then (0 : Int) else 11) = 0 := by kernel_rfl
  have e6 : (⟨#[2, 65, 98, 1, 99, 0]⟩ : ByteArray).toList = [2, 65, 98, 1, 99, 0] := by kernel_rfl
  have e7 : (⟨#[97, 98, 46, 99, 46]⟩ : ByteArray).toList = [97, 98, 46, 99, 46] := by kernel_rfl
  rw [e4] at h4
  rw [e5] at h5
  refine Ev.congr (f := fun k => (name_Count.f k ⟨#[2, 65, 98, 1, 99, 0]⟩).bind fun c => if c = 2 then (name_Check.f k ⟨#[2, 65, 98, 1, 99, 0]⟩).bind fun d => some (d == 0) else some false) (fun k => ?_) ?_
  · unfold hearsaylaw01_wakes.f
    rw [h1]
    simp only [Option.bind_some]
    rw [if_pos trivial, if_pos e6, h2]
    simp only [Option.bind_some]
    rw [h3]
    simp only [Option.bind_some]
    rw [if_pos e7]
  · refine Ev.bind (f := fun k c => if c = 2 then (name_Check.f k ⟨#[2, 65, 98, 1, 99, 0]⟩).bind fun d => some (d == 0) else some false) h4 ?_
    exact Ev.bind (f := fun k (d : Int) => some (d == 0)) h5 (Ev.now _)
end Go.Proofs.Ytplnknhlgdoliaa.Print
end
section
/- A name is under another one just if one of its Lasts is alike that; one joined to another is under it; a parent is one label less. No condition beyond the statement's own. -/
namespace Go.Proofs.Ytplnknhlgdoliaa.Pure
open Go.RowKit Go.Proofs.Ytplnknhlgdoliaa.Print Go.Proofs.YtplnknhlgdoliaaW.PrintWords Go.Proofs.YtplnknhlgdoliaaW.PrintLast
set_option linter.unusedVariables false
set_option linter.unusedSimpArgs false
theorem wakes_fam : Ev (fun k => (hearsaylaw01_wakes.f k).bind fun x => some x) true := Ev.bind (f := fun _ x => some x) wakes_ev (Ev.now _)
/-- one of the last labels' names, fewer than K of them, is alike b -/
def someLast (L : List ByteArray) (b : ByteArray) (K : Nat) : Bool := (List.range K).any fun k => (lowS (nameOf (L.drop (L.length - k)))).toList == (lowS b).toList
theorem someLast_succ (L : List ByteArray) (b : ByteArray) (K : Nat) : someLast L b (K + 1) = (someLast L b K || ((lowS (nameOf (L.drop (L.length - K)))).toList == (lowS b).toList)) := by
  unfold someLast; rw [List.range_succ, List.any_append]; simp
theorem dec_last {a : ByteArray} {L : List ByteArray} (ha : dec a = some L) (j : Nat) : dec (nameOf (L.drop j)) = some (L.drop j) := dec_nameOf (drop_fine (dec_some ha).2.2 _) (glue_drop ha _)
theorem under_last {a : ByteArray} {L : List ByteArray} (ha : dec a = some L) (j : Nat) (hj : j ≤ L.length) : underP a (nameOf (L.drop j)) = true := by
  unfold underP
  rw [ha, dec_last ha j]
  simp only []
  rw [if_neg (by rw [List.length_drop]; omega), List.length_drop, show L.length - (L.length - j) = j by omega]
  simp
theorem some_under {a b : ByteArray} {L M : List ByteArray} (ha : dec a = some L) (hb : dec b = some M) : someLast L b (L.length + 1) = underP a b := by
  have hlen : ∀ k, k ≤ L.length → lowS (nameOf (L.drop (L.length - k))) = lowS b → k = M.length := fun k hk h => by
    have := congrArg List.length ((alike_iff (dec_last ha _) hb).1 h)
    rw [List.length_map, List.length_map, List.length_drop] at this
    omega
  unfold underP
  rw [ha, hb]
  simp only []
  cases hs : someLast L b (L.length + 1) with
  | true =>
    unfold someLast at hs
    obtain ⟨k, hk, he⟩ := List.any_eq_true.1 hs
    have hk' : k < L.length + 1 := List.mem_range.1 hk
    have he' := toList_eq.1 (by simpa using he)
    have := hlen k (by omega) he'
    subst this
    rw [if_neg (by omega), he']; simp
  | false =>
    unfold someLast at hs
    rw [List.any_eq_false] at hs
    by_cases hl : L.length < M.length
    · rw [if_pos hl]
    · rw [if_neg hl]
      have := hs M.length (List.mem_range.2 (by omega))
      exact (Bool.eq_false_iff.2 this).symm
theorem fam_j3 {a : ByteArray} {L : List ByteArray} (ha : dec a = some L) : Ev (fun k => hearsaylaw01_NameFamily.j3 k a false) true := by
  have hp := parent_f a
  have hc := count_f a
  have hl := labels_length ha
  have hu : ∀ s L', L = s :: L' → Ev (fun k => name_Under.f k a (nameOf L')) true ∧ Ev (fun k => name_Count.f k (nameOf L')) (L'.length : Int) := by
    intro s L' e
    subst e
    have h1 := under_last ha 1 (by simp)
    have h2 := count_f (nameOf L')
    rw [show dec (nameOf L') = some L' from dec_last ha 1] at h2
    have h3 := under_f a (nameOf L')
    rw [show underP a (nameOf L') = true from h1] at h3
    exact ⟨h3, h2⟩
  rw [ha, Option.getD_some] at hc
  unfold parentP at hp
  rw [ha] at hp
  refine Ev.step (f := fun k => (name_Parent.f k a).bind fun x => (name_Count.f k a).bind fun t => if (x.2 == decide (t > 0)) = true then if x.2 = true then (name_Count.f k x.1).bind fun u => (name_Count.f k a).bind fun v => if u = wrap64 (v - 1) then (name_Under.f k a x.1).bind fun z => if z = true then (hearsaylaw01_wakes.f k).bind fun y => some y else some false else some false else (hearsaylaw01_wakes.f k).bind fun y => some y else some false) (fun k => ?_) ?_
  · simp only [hearsaylaw01_NameFamily.j3]; rw [if_neg (by simp)]
  · refine Ev.bind (f := fun k (x : ByteArray × Bool) => (name_Count.f k a).bind fun t => if (x.2 == decide (t > 0)) = true then if x.2 = true then (name_Count.f k x.1).bind fun u => (name_Count.f k a).bind fun v => if u = wrap64 (v - 1) then (name_Under.f k a x.1).bind fun z => if z = true then (hearsaylaw01_wakes.f k).bind fun y => some y else some false else some false else (hearsaylaw01_wakes.f k).bind fun y => some y else some false) hp ?_
    cases L with
    | nil =>
      refine Ev.bind (f := fun k (t : Int) => if (false == decide (t > 0)) = true then if false = true then (name_Count.f k ⟨#[]⟩).bind fun u => (name_Count.f k a).bind fun v => if u = wrap64 (v - 1) then (name_Under.f k a ⟨#[]⟩).bind fun z => if z = true then (hearsaylaw01_wakes.f k).bind fun y => some y else some false else some false else (hearsaylaw01_wakes.f k).bind fun y => some y else some false) hc ?_
      exact Ev.congr (fun k => by rw [if_pos (by simp), if_neg (by simp)]) wakes_fam
    | cons s L' =>
      obtain ⟨h3, h2⟩ := hu s L' rfl
      refine Ev.bind (f := fun k (t : Int) => if (true == decide (t > 0)) = true then if true = true then (name_Count.f k (nameOf L')).bind fun u => (name_Count.f k a).bind fun v => if u = wrap64 (v - 1) then (name_Under.f k a (nameOf L')).bind fun z => if z = true then (hearsaylaw01_wakes.f k).bind fun y => some y else some false else some false else (hearsaylaw01_wakes.f k).bind fun y => some y else some false) hc ?_
      refine Ev.congr (f := fun k => (name_Count.f k (nameOf L')).bind fun u => (name_Count.f k a).bind fun v => if u = wrap64 (v - 1) then (name_Under.f k a (nameOf L')).bind fun z => if z = true then (hearsaylaw01_wakes.f k).bind fun y => some y else some false else some false) (fun k => by rw [if_pos (by simp), if_pos rfl]) ?_
      refine Ev.bind (f := fun k (u : Int) => (name_Count.f k a).bind fun v => if u = wrap64 (v - 1) then (name_Under.f k a (nameOf L')).bind fun z => if z = true then (hearsaylaw01_wakes.f k).bind fun y => some y else some false else some false) h2 ?_
      refine Ev.bind (f := fun k (v : Int) => if (L'.length : Int) = wrap64 (v - 1) then (name_Under.f k a (nameOf L')).bind fun z => if z = true then (hearsaylaw01_wakes.f k).bind fun y => some y else some false else some false) hc ?_
      refine Ev.congr (f := fun k => (name_Under.f k a (nameOf L')).bind fun z => if z = true then (hearsaylaw01_wakes.f k).bind fun y => some y else some false) (fun k => by rw [if_pos (by rw [List.length_cons] at hl ⊢; rw [w64 (by omega) (by omega)]; omega)]) ?_
      refine Ev.bind (f := fun k z => if z = true then (hearsaylaw01_wakes.f k).bind fun y => some y else some false) h3 ?_
      exact Ev.congr (fun k => if_pos rfl) wakes_fam
theorem fam_end {a b : ByteArray} {L M : List ByteArray} (ha : dec a = some L) (hb : dec b = some M) : Ev (fun k => (name_Join.f k a b).bind fun x => if x.2 = 0 then (name_Under.f k x.1 b).bind fun t => if t = true then (name_Count.f k x.1).bind fun u => (name_Count.f k a).bind fun v => (name_Count.f k b).bind fun w => hearsaylaw01_NameFamily.j3 k a (u != wrap64 (v + w)) else hearsaylaw01_NameFamily.j3 k a true else hearsaylaw01_NameFamily.j3 k a false) true := by
  have hj := join_f a b
  have hca := count_f a
  have hcb := count_f b
  have hl := labels_length ha
  have hm := labels_length hb
  unfold joinP at hj
  rw [ha, hb] at hj
  rw [ha, Option.getD_some] at hca
  rw [hb, Option.getD_some] at hcb
  simp only [] at hj
  by_cases hlong : 255 < (glue (L ++ M)).length + 1
  · rw [if_pos hlong] at hj
    refine Ev.bind (f := fun k (x : ByteArray × Int) => if x.2 = 0 then (name_Under.f k x.1 b).bind fun t => if t = true then (name_Count.f k x.1).bind fun u => (name_Count.f k a).bind fun v => (name_Count.f k b).bind fun w => hearsaylaw01_NameFamily.j3 k a (u != wrap64 (v + w)) else hearsaylaw01_NameFamily.j3 k a true else hearsaylaw01_NameFamily.j3 k a false) hj ?_
    exact Ev.congr (fun k => by rw [if_neg (by decide)]) (fam_j3 ha)
  · rw [if_neg hlong] at hj
    have hbad : (L ++ M).any badLab = false := by rw [List.any_append, (dec_some ha).2.2, (dec_some hb).2.2]; rfl
    have hd : dec (nameOf (L ++ M)) = some (L ++ M) := dec_nameOf hbad (by omega)
    have hu := under_f (nameOf (L ++ M)) b
    have hub : underP (nameOf (L ++ M)) b = true := by
      unfold underP
      rw [hd, hb]
      simp only []
      rw [if_neg (by rw [List.length_append]; omega), List.length_append, show L.length + M.length - M.length = L.length by omega, List.drop_left, nameOf_dec hb]
      simp
    rw [hub] at hu
    have hc := count_f (nameOf (L ++ M))
    rw [hd, Option.getD_some] at hc
    refine Ev.bind (f := fun k (x : ByteArray × Int) => if x.2 = 0 then (name_Under.f k x.1 b).bind fun t => if t = true then (name_Count.f k x.1).bind fun u => (name_Count.f k a).bind fun v => (name_Count.f k b).bind fun w => hearsaylaw01_NameFamily.j3 k a (u != wrap64 (v + w)) else hearsaylaw01_NameFamily.j3 k a true else hearsaylaw01_NameFamily.j3 k a false) hj ?_
    refine Ev.congr (f := fun k => (name_Under.f k (nameOf (L ++ M)) b).bind fun t => if t = true then (name_Count.f k (nameOf (L ++ M))).bind fun u => (name_Count.f k a).bind fun v => (name_Count.f k b).bind fun w => hearsaylaw01_NameFamily.j3 k a (u != wrap64 (v + w)) else hearsaylaw01_NameFamily.j3 k a true) (fun k => if_pos rfl) ?_
    refine Ev.bind (f := fun k t => if t = true then (name_Count.f k (nameOf (L ++ M))).bind fun u => (name_Count.f k a).bind fun v => (name_Count.f k b).bind fun w => hearsaylaw01_NameFamily.j3 k a (u != wrap64 (v + w)) else hearsaylaw01_NameFamily.j3 k a true) hu ?_
    refine Ev.congr (f := fun k => (name_Count.f k (nameOf (L ++ M))).bind fun u => (name_Count.f k a).bind fun v => (name_Count.f k b).bind fun w => hearsaylaw01_NameFamily.j3 k a (u != wrap64 (v + w))) (fun k => if_pos rfl) ?_
    refine Ev.bind (f := fun k u => (name_Count.f k a).bind fun v => (name_Count.f k b).bind fun w => hearsaylaw01_NameFamily.j3 k a (u != wrap64 (v + w))) hc ?_
    refine Ev.bind (f := fun k v => (name_Count.f k b).bind fun w => hearsaylaw01_NameFamily.j3 k a (((L ++ M).length : Int) != wrap64 (v + w))) hca ?_
    refine Ev.bind (f := fun k w => hearsaylaw01_NameFamily.j3 k a (((L ++ M).length : Int) != wrap64 ((L.length : Int) + w))) hcb ?_
    have e : ((((L ++ M).length : Nat) : Int) != wrap64 ((L.length : Int) + (M.length : Int))) = false := by
      rw [w64 (by omega) (by omega), List.length_append]; simp
    rw [e]
    exact fam_j3 ha
theorem fam_l0 {a b : ByteArray} {L M : List ByteArray} (ha : dec a = some L) (hb : dec b = some M) (d : Nat) : ∀ K : Nat, L.length + 1 - K ≤ d → K ≤ L.length + 1 → Ev (fun k => hearsaylaw01_NameFamily.l0 k a b (someLast L b K) (K : Int)) true := by
  have hca := count_f a
  have hl := labels_length ha
  have hzb := (dec_some hb).1
  rw [ha, Option.getD_some] at hca
  have fin : ∀ K : Nat, ¬ K ≤ L.length → K ≤ L.length + 1 → Ev (fun k => hearsaylaw01_NameFamily.l0 k a b (someLast L b K) (K : Int)) true := by
    intro K h1 h2
    have e : K = L.length + 1 := by omega
    subst e
    rw [some_under ha hb]
    have hu := under_f a b
    refine Ev.step (f := fun k => (name_Count.f k a).bind fun t => if ((L.length + 1 : Nat) : Int) ≤ t then (name_Last.f k a ((L.length + 1 : Nat) : Int)).bind fun x => if x.2 = true then (name_Count.f k x.1).bind fun u => if u = ((L.length + 1 : Nat) : Int) then (name_Under.f k a x.1).bind fun v => hearsaylaw01_NameFamily.j2 k a b (underP a b) ((L.length + 1 : Nat) : Int) x.1 (!v) else hearsaylaw01_NameFamily.j2 k a b (underP a b) ((L.length + 1 : Nat) : Int) x.1 true else hearsaylaw01_NameFamily.j2 k a b (underP a b) ((L.length + 1 : Nat) : Int) x.1 true else (name_Under.f k a b).bind fun u => if (underP a b != u) = true then some false else (name_Join.f k a b).bind fun x => if x.2 = 0 then (name_Under.f k x.1 b).bind fun t => if t = true then (name_Count.f k x.1).bind fun u => (name_Count.f k a).bind fun v => (name_Count.f k b).bind fun w => hearsaylaw01_NameFamily.j3 k a (u != wrap64 (v + w)) else hearsaylaw01_NameFamily.j3 k a true else hearsaylaw01_NameFamily.j3 k a false) (fun k => by simp only [hearsaylaw01_NameFamily.l0]) ?_
    refine Ev.bind (f := fun k (t : Int) => if ((L.length + 1 : Nat) : Int) ≤ t then (name_Last.f k a ((L.length + 1 : Nat) : Int)).bind fun x => if x.2 = true then (name_Count.f k x.1).bind fun u => if u = ((L.length + 1 : Nat) : Int) then (name_Under.f k a x.1).bind fun v => hearsaylaw01_NameFamily.j2 k a b (underP a b) ((L.length + 1 : Nat) : Int) x.1 (!v) else hearsaylaw01_NameFamily.j2 k a b (underP a b) ((L.length + 1 : Nat) : Int) x.1 true else hearsaylaw01_NameFamily.j2 k a b (underP a b) ((L.length + 1 : Nat) : Int) x.1 true else (name_Under.f k a b).bind fun u => if (underP a b != u) = true then some false else (name_Join.f k a b).bind fun x => if x.2 = 0 then (name_Under.f k x.1 b).bind fun t => if t = true then (name_Count.f k x.1).bind fun u => (name_Count.f k a).bind fun v => (name_Count.f k b).bind fun w => hearsaylaw01_NameFamily.j3 k a (u != wrap64 (v + w)) else hearsaylaw01_NameFamily.j3 k a true else hearsaylaw01_NameFamily.j3 k a false) hca ?_
    refine Ev.congr (f := fun k => (name_Under.f k a b).bind fun u => if (underP a b != u) = true then some false else (name_Join.f k a b).bind fun x => if x.2 = 0 then (name_Under.f k x.1 b).bind fun t => if t = true then (name_Count.f k x.1).bind fun u => (name_Count.f k a).bind fun v => (name_Count.f k b).bind fun w => hearsaylaw01_NameFamily.j3 k a (u != wrap64 (v + w)) else hearsaylaw01_NameFamily.j3 k a true else hearsaylaw01_NameFamily.j3 k a false) (fun k => by rw [if_neg (by omega)]) ?_
    refine Ev.bind (f := fun k u => if (underP a b != u) = true then some false else (name_Join.f k a b).bind fun x => if x.2 = 0 then (name_Under.f k x.1 b).bind fun t => if t = true then (name_Count.f k x.1).bind fun u => (name_Count.f k a).bind fun v => (name_Count.f k b).bind fun w => hearsaylaw01_NameFamily.j3 k a (u != wrap64 (v + w)) else hearsaylaw01_NameFamily.j3 k a true else hearsaylaw01_NameFamily.j3 k a false) hu ?_
    exact Ev.congr (fun k => by rw [if_neg (by simp)]) (fam_end ha hb)
  induction d with
  | zero => intro K hd h1; exact fin K (by omega) h1
  | succ d ih =>
    intro K hd h1
    by_cases hK : K ≤ L.length
    · have hla := last_f a (K : Int) (by omega) (by omega)
      have hlp : lastP a (K : Int) = (nameOf (L.drop (L.length - K)), true) := by
        unfold lastP; rw [ha]; simp only []; rw [if_neg (by omega), Int.toNat_natCast]
      rw [hlp] at hla
      have hcl := count_f (nameOf (L.drop (L.length - K)))
      rw [dec_last ha, Option.getD_some, List.length_drop, show L.length - (L.length - K) = K by omega] at hcl
      have hul := under_f a (nameOf (L.drop (L.length - K)))
      rw [under_last ha _ (by omega)] at hul
      have fb : name_Fold.f b = some (lowS b) := fold_f (by omega)
      have fl : name_Fold.f (nameOf (L.drop (L.length - K))) = some (lowS (nameOf (L.drop (L.length - K)))) := fold_f (by
        have := glue_drop ha (L.length - K)
        unfold nameOf; rw [strOfNums_size]; simp; omega)
      have ih' := ih (K + 1) (by omega) (by omega)
      rw [someLast_succ] at ih'
      generalize someLast L b K = q at ih' ⊢
      have hA : Ev (fun k => (name_Last.f k a (K : Int)).bind fun x => if x.2 = true then (name_Count.f k x.1).bind fun u => if u = (K : Int) then (name_Under.f k a x.1).bind fun v => hearsaylaw01_NameFamily.j2 k a b q (K : Int) x.1 (!v) else hearsaylaw01_NameFamily.j2 k a b q (K : Int) x.1 true else hearsaylaw01_NameFamily.j2 k a b q (K : Int) x.1 true) true := by
        refine Ev.bind (f := fun k (x : ByteArray × Bool) => if x.2 = true then (name_Count.f k x.1).bind fun u => if u = (K : Int) then (name_Under.f k a x.1).bind fun v => hearsaylaw01_NameFamily.j2 k a b q (K : Int) x.1 (!v) else hearsaylaw01_NameFamily.j2 k a b q (K : Int) x.1 true else hearsaylaw01_NameFamily.j2 k a b q (K : Int) x.1 true) hla ?_
        generalize nameOf (L.drop (L.length - K)) = m at hcl hul fl ih' ⊢
        refine Ev.congr (f := fun k => (name_Count.f k m).bind fun u => if u = (K : Int) then (name_Under.f k a m).bind fun v => hearsaylaw01_NameFamily.j2 k a b q (K : Int) m (!v) else hearsaylaw01_NameFamily.j2 k a b q (K : Int) m true) (fun k => if_pos rfl) ?_
        refine Ev.bind (f := fun k u => if u = (K : Int) then (name_Under.f k a m).bind fun v => hearsaylaw01_NameFamily.j2 k a b q (K : Int) m (!v) else hearsaylaw01_NameFamily.j2 k a b q (K : Int) m true) hcl ?_
        refine Ev.congr (f := fun k => (name_Under.f k a m).bind fun v => hearsaylaw01_NameFamily.j2 k a b q (K : Int) m (!v)) (fun k => if_pos rfl) ?_
        refine Ev.bind (f := fun k v => hearsaylaw01_NameFamily.j2 k a b q (K : Int) m (!v)) hul ?_
        have e1 : wrap64 ((K : Int) + 1) = ((K + 1 : Nat) : Int) := by rw [w64 (by omega) (by omega)]; omega
        refine Ev.step (fun k => ?_) ih'
        simp only [hearsaylaw01_NameFamily.j2, Bool.not_true]
        rw [if_neg (by simp), e1]
        cases q with
        | true => rw [if_pos rfl, Bool.true_or]
        | false => rw [if_neg (by simp), fl, Option.bind_some, fb, Option.bind_some, Bool.false_or]
      obtain ⟨K1, h1'⟩ := hca
      obtain ⟨K2, h2'⟩ := hA
      refine ⟨max K1 K2 + 1, fun k hk => ?_⟩
      obtain ⟨k, rfl⟩ : ∃ k', k = k' + 1 := ⟨k - 1, by omega⟩
      have h3 := h2' k (by omega)
      simp only [hearsaylaw01_NameFamily.l0]
      have h4 : name_Count.f k a = some (L.length : Int) := h1' k (by omega)
      rw [h4, Option.bind_some, if_pos (by omega)]
      exact h3
    · exact fin K hK h1
theorem NameFamily : hearsaylaw01_NameFamily.Pure := by
  intro a b hza hzb
  refine Ev.rounds (g := fun k => hearsaylaw01_NameFamily.f k a b) ?_
  refine Ev.bind (f := fun k (t : Int) => if t = 0 then (name_Check.f k b).bind fun u => hearsaylaw01_NameFamily.j0 k a b (u != 0) else hearsaylaw01_NameFamily.j0 k a b true) (check_f a) ?_
  have no : underP a b = false → Ev (fun k => hearsaylaw01_NameFamily.j0 k a b true) true := fun hu => by
    have h := under_f a b
    rw [hu] at h
    refine Ev.step (f := fun k => (name_Under.f k a b).bind fun t => if t = true then some false else (hearsaylaw01_wakes.f k).bind fun x => some x) (fun k => ?_) ?_
    · simp only [hearsaylaw01_NameFamily.j0]; rw [if_pos trivial]
    · refine Ev.bind (f := fun k t => if t = true then some false else (hearsaylaw01_wakes.f k).bind fun x => some x) h ?_
      exact Ev.congr (fun k => by rw [if_neg (by simp)]) wakes_fam
  cases ha : dec a with
  | none => exact Ev.congr (fun k => by rw [if_neg (by simp)]) (no (by unfold underP; rw [ha]))
  | some L =>
    refine Ev.congr (f := fun k => (name_Check.f k b).bind fun u => hearsaylaw01_NameFamily.j0 k a b (u != 0)) (fun k => by rw [if_pos (by simp)]) ?_
    refine Ev.bind (f := fun k (u : Int) => hearsaylaw01_NameFamily.j0 k a b (u != 0)) (check_f b) ?_
    cases hb : dec b with
    | none => exact Ev.congr (fun k => rfl) (no (by unfold underP; rw [ha, hb]))
    | some M =>
      have h := fam_l0 ha hb (L.length + 1) 0 (by omega) (by omega)
      refine Ev.step (fun k => ?_) h
      simp only [hearsaylaw01_NameFamily.j0, Option.isSome_some, if_true, bne_self_eq_false]
      rw [if_neg (by simp)]
      rfl
end Go.Proofs.Ytplnknhlgdoliaa.Pure
end
