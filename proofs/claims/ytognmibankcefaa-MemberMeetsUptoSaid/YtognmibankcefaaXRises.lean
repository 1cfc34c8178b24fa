/- MemberRises, walked. -/
import Derived.Test.YtognmibankcefaaXWakes
import Derived.Test.YtognmibankcefaaXSame
import Derived.Test.YtognmibankcefaaXCopy
import Derived.Test.YtognmibankcefaaXLawsM
namespace Go.Proofs.Ytognmibankcefaa.Print
open Go.RowKit Go.Maps Go.ChangeMaps Go.Proofs.YtognmibankcefaaW.PrintWords Go.Proofs.YtognmibankcefaaW.PrintLast Go.Proofs.YtognmibankcefaaW.PrintMore
set_option linter.unusedVariables false
set_option linter.unusedSimpArgs false
theorem VF.kept {w w' : World} {b g' b' : Nat} {l : List Mem} (h : VF w w' b) (hV : Vw w g' b' l) (h1 : b ≠ g') (h2 : b ≠ b') : Vw w' g' b' l :=
  Vw.kept hV (row := some b) h (fun e => h1 (Option.some.inj e).symm) (fun e => h2 (Option.some.inj e).symm)
theorem wf_at {l : List Mem} (h : ∀ x ∈ l, 0 ≤ x.f0 ∧ x.f0 ≤ 4294967295) (i : Int) : 0 ≤ (rd_T25 l i).f0 ∧ (rd_T25 l i).f0 ≤ 4294967295 := by
  unfold rd_T25
  rw [List.getD_eq_getElem?_getD]
  cases hx : l[i.toNat]? with
  | none => decide
  | some x => exact h x (List.mem_of_getElem? hx)
set_option maxHeartbeats 8000000 in
set_option maxRecDepth 100000 in
theorem rises_law (w : World) (A : Option Addr) (c : Nat) (l : List Mem) (hC : Kd.C k25 w A l.length l) (hc : l.length ≤ c) (hwf : ∀ x ∈ l, 0 ≤ x.f0 ∧ x.f0 ≤ 4294967295) :
    Calls Try.prog 8 #[.slice A l.length c] w fun e w' => e = .returned (.bool true) ∧ Below w.heap.size w w' := by
  have hu25 := Try.underlying25
  have HC := Aside0.mk hC
  have HWF := Aside0.mk hwf
  clear hC hwf
  by_cases hbig : (l.length : Int) > 100
  · go_enter Try.func8, Try.ntmps8
    go_wp2_with (first | (go_at_call 13; (with_reducible refine (wakes_true _).mono ?_); rintro e w1 ⟨rfl, h1_⟩; have HB1 := Aside0.mk h1_; clear h1_))
    go_ret
    exact ⟨rfl, HB1.out⟩
  · have hl100 : l.length ≤ 100 := by omega
    go_enter Try.func8, Try.ntmps8
    go_upto_region 4 with (first | (go_at_call 21; (with_reducible refine (new_calls _).mono ?_); rintro e w1 ⟨g, b, rfl, h1_, h2_, h3_, h4_⟩; have HV1 := Aside0.mk h1_; have HG := Aside0.mk (And.intro h2_ h3_); have HB1 := Aside0.mk h4_; clear h1_ h2_ h3_ h4_))
    go_wp2
    go_loopw [4] (fun i wr => ∃ (k : Nat) (L : List Mem), k ≤ l.length ∧ i = .int .i64 k ∧ Aside0 (Vw wr g b L ∧ L.length ≤ 32) ∧ Aside0 (Below w.heap.size w wr)) (fun i _ => l.length - (intOf i).toNat)
    case atStart => exact ⟨0, [], Nat.zero_le _, rfl, ⟨HV1.out, by simp⟩, HB1⟩
    case round =>
      clear HV1 HB1
      obtain ⟨k, L, hk, rfl, HV, HB⟩ := hrel
      by_cases hlt : (k : Int) < (l.length : Int)
      · have hk0 : 0 ≤ (k : Int) := by omega
        have HLT := Aside0.mk (show k < l.length by omega)
        have hL32 : L.length ≤ 32 := HV.out.2
        have HX := Aside0.mk (wf_at HWF.out (k : Int))
        go_upto_region 8 with (first | (go_at_call 24; (with_reducible refine (copy_calls _ g b L HV.out.1).mono ?_); rintro e w2 ⟨g2, b2, rfl, h1_, h2_, h3_, h4_⟩; have HV2 := Aside0.mk h1_; have HN2 := Aside0.mk (And.intro (show b ≠ g2 by have := HV.out.1.ltb; omega) (show b ≠ b2 by have := HV.out.1.ltb; omega)); have HVo := Aside0.mk (HV.out.1.below h4_); have HB2 := Aside0.mk (below_step HB.out h4_); clear h1_ h2_ h3_ h4_))
        obtain ⟨ad, eA, x0_, x1_, x2_, x3_⟩ := at_T25 (Kd.C_below HC.out HB2.out) (k : Int) hk0 hlt
        cases eA
        simp only [Int.toNat_natCast] at x0_ x1_ x2_ x3_
        obtain ⟨x, hx⟩ : ∃ x, x = rd_T25 l (k : Int) := ⟨_, rfl⟩
        rw [← hx] at HX x0_ x1_ x2_ x3_
        clear hx
        obtain ⟨L', a, er, r, HT, hcase⟩ := told' L x HV.out.1.ord HV.out.2
        have HT' := Aside0.mk HT
        clear HT
        rcases hcase with ⟨rfl, rfl, rfl⟩ | ⟨rfl, rfl, rfl⟩ | ⟨rfl, rfl, rfl⟩ | ⟨rfl, rfl, rfl⟩
        all_goals (
          go_upto_region 9 with (first | (go_at_call 17; (with_reducible refine (HT'.out.calls HV.out.2 HX.out.1 HX.out.2 _ g b HVo.out).mono ?_); rintro e w3 ⟨rfl, h1_, h2_⟩; have HV3 := Aside0.mk h1_; have HC3 := Aside0.mk (VF.kept h2_ HV2.out HN2.out.1 HN2.out.2); have HB3 := Aside0.mk (HB2.out.trans (VF.below h2_ HG.out.2 HB2.out.size)); clear h1_ h2_ x0_ x1_ x2_ x3_))
          go_upto_region 11 with (first | (go_at_call 18; (with_reducible refine (same_calls _ g b g2 b2 L' L HV3.out HC3.out).mono ?_); rintro e w4 ⟨rr, rfl, h1_, h2_⟩; obtain rfl := Bool.eq_iff_iff.2 (h1_.trans HT'.out.same.symm); have HV4 := Aside0.mk (HV3.out.below h2_); have HC4 := Aside0.mk (HC3.out.below h2_); have HB4 := Aside0.mk (below_step HB3.out h2_); clear h1_ h2_))
          go_upto_region 12 with (first | (go_at_call 16; (with_reducible refine (list_calls _ g2 b2 L HC4.out (by have := HV.out.2; omega)).mono ?_); rintro e w5 ⟨v, rfl, h1_, h2_⟩; obtain ⟨p, cap, rfl, hcap, hcm, hp⟩ := rowP h1_ rfl; have HP := Aside0.mk hp; have HV5 := Aside0.mk (HV4.out.below h2_); have HB5 := Aside0.mk (below_step HB4.out h2_); clear h1_ h2_ hp))
          go_wp2
          go_loopw [9] (fun j wq => ∃ m : Nat, m ≤ L.length ∧ j = .int .i64 m ∧ Aside0 (Below w5.heap.size w5 wq)) (fun j _ => L.length - (intOf j).toNat)
          case atStart => exact ⟨0, Nat.zero_le _, rfl, ⟨Below.refl _ _⟩⟩
          case round =>
            obtain ⟨m, hm, rfl, HBq⟩ := hrel
            by_cases hlt2 : (m : Int) < (L.length : Int)
            · obtain ⟨gr, rfl, hrow, _⟩ := HP.out (by omega)
              have hm0 : 0 ≤ (m : Int) := by omega
              have HLT2 := Aside0.mk (show m < L.length by omega)
              obtain ⟨y, hy⟩ : ∃ y, L[m]? = some y := ⟨L[m]'(by omega), List.getElem?_eq_getElem (by omega)⟩
              have hym := List.mem_of_getElem? hy
              obtain ⟨z, hz, hcz⟩ := HT'.out.up y hym
              have hyw := HV.out.1.wf y hym
              have HGC : Aside0 (∀ W : World, Vw W g b L' → Calls Try.prog 20 #[.pointer (some ⟨g, 0, none⟩), .int .u32 y.f0] W fun e w' => e = .returned (.tuple #[.agg #[.int .u32 z.f0, .int .u32 z.f1, .int .u8 z.f2, .string z.f3], .int .i64 0]) ∧ Below W.heap.size W w') := ⟨fun W hV => by have k := get_calls W g b L' y.f0 hyw.1 hyw.2 hV; rw [hz] at k; exact k⟩
              have HROW := Aside0.mk hrow
              have HY := Aside0.mk hy
              have c0 : wr.cell? ⟨gr, m * 4, none⟩ = some (.int .u32 y.f0) := (hrow.below HBq.out).at hy 0 (by omega) _ rfl
              have HCM := Aside0.mk (cmp_f z y)
              obtain ⟨q, hq⟩ : ∃ q, q = cmpM z y := ⟨_, rfl⟩
              rw [← hq] at HCM hcz
              have hq0 : ¬ q < 0 := by omega
              clear hq hcz hz hym hyw hy hrow
              go_upto_region 16 with (first | (go_at_call 20; (with_reducible refine (HGC.out _ (HV5.out.below HBq.out)).mono ?_); rintro e w6 ⟨rfl, h1_⟩; have HB6 := Aside0.mk (below_step HBq.out h1_); clear h1_ c0))
              have hba := below_alloc (Below.refl w6.heap.size w6) (.cells #[.int .u32 z.f0, .int .u32 z.f1, .int .u8 z.f2, .string z.f3] 25)
              have HZ := Aside0.mk (blk_new w6 (.cells #[.int .u32 z.f0, .int .u32 z.f1, .int .u8 z.f2, .string z.f3] 25))
              have HB7 := Aside0.mk (below_step HB6.out hba)
              clear hba
              generalize w6.alloc (.cells #[.int .u32 z.f0, .int .u32 z.f1, .int .u8 z.f2, .string z.f3] 25) = w7 at HZ HB7 ⊢
              generalize w6.heap.size = bz at HZ ⊢
              have z0_ : w7.cell? ⟨bz, 0, none⟩ = some (.int .u32 z.f0) := (blk_cell HZ.out 0).trans rfl
              have z1_ : w7.cell? ⟨bz, 1, none⟩ = some (.int .u32 z.f1) := (blk_cell HZ.out 1).trans rfl
              have z2_ : w7.cell? ⟨bz, 2, none⟩ = some (.int .u8 z.f2) := (blk_cell HZ.out 2).trans rfl
              have z3_ : w7.cell? ⟨bz, 3, none⟩ = some (.string z.f3) := (blk_cell HZ.out 3).trans rfl
              have c0 : w7.cell? ⟨gr, m * 4, none⟩ = some (.int .u32 y.f0) := (HROW.out.below HB7.out).at HY.out 0 (by omega) _ rfl
              have c1 : w7.cell? ⟨gr, m * 4 + 1, none⟩ = some (.int .u32 y.f1) := (HROW.out.below HB7.out).at HY.out 1 (by omega) _ rfl
              have c2 : w7.cell? ⟨gr, m * 4 + 2, none⟩ = some (.int .u8 y.f2) := (HROW.out.below HB7.out).at HY.out 2 (by omega) _ rfl
              have c3 : w7.cell? ⟨gr, m * 4 + 3, none⟩ = some (.string y.f3) := (HROW.out.below HB7.out).at HY.out 3 (by omega) _ rfl
              have HBd := Aside0.mk (below_drew1 HB7.out)
              have hs16 : w7.drew.cell? ⟨bz, 0, none⟩ = some (.int .u32 z.f0) ∧ w7.drew.cell? ⟨bz, 1, none⟩ = some (.int .u32 z.f1) ∧ w7.drew.cell? ⟨bz, 2, none⟩ = some (.int .u8 z.f2) ∧ w7.drew.cell? ⟨bz, 3, none⟩ = some (.string z.f3) ∧ w7.drew.cell? ⟨gr, m * 4, none⟩ = some (.int .u32 y.f0) ∧ w7.drew.cell? ⟨gr, m * 4 + 1, none⟩ = some (.int .u32 y.f1) ∧ w7.drew.cell? ⟨gr, m * 4 + 2, none⟩ = some (.int .u8 y.f2) ∧ w7.drew.cell? ⟨gr, m * 4 + 3, none⟩ = some (.string y.f3) := ⟨z0_, z1_, z2_, z3_, c0, c1, c2, c3⟩
              clear z0_ z1_ z2_ z3_ c0 c1 c2 c3
              refine start_ (n := 11) (S := (fun w' => w'.cell? ⟨bz, 0, none⟩ = some (.int .u32 z.f0) ∧ w'.cell? ⟨bz, 1, none⟩ = some (.int .u32 z.f1) ∧ w'.cell? ⟨bz, 2, none⟩ = some (.int .u8 z.f2) ∧ w'.cell? ⟨bz, 3, none⟩ = some (.string z.f3) ∧ w'.cell? ⟨gr, m * 4, none⟩ = some (.int .u32 y.f0) ∧ w'.cell? ⟨gr, m * 4 + 1, none⟩ = some (.int .u32 y.f1) ∧ w'.cell? ⟨gr, m * 4 + 2, none⟩ = some (.int .u8 y.f2) ∧ w'.cell? ⟨gr, m * 4 + 3, none⟩ = some (.string y.f3))) (ds := [8]) #[false, false, false, false, false, false, false, false, false, false, false] (by kernel_rfl) rfl rfl hs16 (fun hHeld => ?_)
              generalize w7.drew = wd at HBd hs16 hHeld ⊢
              refine pure_ (i := 0) (N := some 65) (v := ?_) (a' := ?_) #[true, false, false, false, false, false, false, false, false, false, false] rfl rfl (by kernel_rfl) (fun _ _ _ h => h) (Or.inl ⟨by rfl, ?_⟩) ?_ ?_
              rotate_left
              · intro w'
                go_simp
                with_reducible rfl
              rotate_left
              · simp only [Act.put, List.setIfInBounds_toArray, List.set_cons_zero, List.set_cons_succ, i64_w, i32_w]
                rfl
              refine pure_ (i := 1) (N := some 66) (v := ?_) (a' := ?_) #[true, true, false, false, false, false, false, false, false, false, false] rfl rfl (by kernel_rfl) (fun _ _ _ h => h) (Or.inl ⟨by rfl, ?_⟩) ?_ ?_
              rotate_left
              · intro w'
                go_simp
                with_reducible rfl
              rotate_left
              · simp only [Act.put, List.setIfInBounds_toArray, List.set_cons_zero, List.set_cons_succ, i64_w, i32_w]
                rfl
              refine pure_ (i := 2) (N := some 67) (v := ?_) (a' := ?_) #[true, true, true, false, false, false, false, false, false, false, false] rfl rfl (by kernel_rfl) (fun _ _ _ h => h) (Or.inl ⟨by rfl, ?_⟩) ?_ ?_
              rotate_left
              · intro w'
                go_simp
                with_reducible rfl
              rotate_left
              · simp only [Act.put, List.setIfInBounds_toArray, List.set_cons_zero, List.set_cons_succ, i64_w, i32_w]
                rfl
              refine take_ (i := 3) (N := some 68) (v := ?_) (a' := ?_) #[true, true, true, true, false, false, false, false, false, false, false] rfl rfl (by kernel_rfl) (fun _ _ _ h => h) (Or.inl ⟨by rfl, ?_⟩) hHeld ?_ ?_
              rotate_left
              · rintro w' ⟨h0_, h1_, h2_, h3_, h4_, h5_, h6_, h7_⟩
                go_simp
                with_reducible rfl
              rotate_left
              · simp only [Act.put, List.setIfInBounds_toArray, List.set_cons_zero, List.set_cons_succ, i64_w, i32_w]
                rfl
              refine pure_ (i := 4) (N := some 69) (v := ?_) (a' := ?_) #[true, true, true, true, true, false, false, false, false, false, false] rfl rfl (by kernel_rfl) (fun _ _ _ h => h) (Or.inl ⟨by rfl, ?_⟩) ?_ ?_
              rotate_left
              · intro w'
                go_simp
                with_reducible rfl
              rotate_left
              · simp only [Act.put, List.setIfInBounds_toArray, List.set_cons_zero, List.set_cons_succ, i64_w, i32_w]
                rfl
              refine pure_ (i := 5) (N := some 70) (v := ?_) (a' := ?_) #[true, true, true, true, true, true, false, false, false, false, false] rfl rfl (by kernel_rfl) (fun _ _ _ h => h) (Or.inl ⟨by rfl, ?_⟩) ?_ ?_
              rotate_left
              · intro w'
                go_simp
                with_reducible rfl
              rotate_left
              · simp only [Act.put, List.setIfInBounds_toArray, List.set_cons_zero, List.set_cons_succ, i64_w, i32_w]
                rfl
              refine pure_ (i := 6) (N := some 71) (v := ?_) (a' := ?_) #[true, true, true, true, true, true, true, false, false, false, false] rfl rfl (by kernel_rfl) (fun _ _ _ h => h) (Or.inl ⟨by rfl, ?_⟩) ?_ ?_
              rotate_left
              · intro w'
                go_simp
                with_reducible rfl
              rotate_left
              · simp only [Act.put, List.setIfInBounds_toArray, List.set_cons_zero, List.set_cons_succ, i64_w, i32_w]
                rfl
              refine take_ (i := 7) (N := some 72) (v := ?_) (a' := ?_) #[true, true, true, true, true, true, true, true, false, false, false] rfl rfl (by kernel_rfl) (fun _ _ _ h => h) (Or.inl ⟨by rfl, ?_⟩) hHeld ?_ ?_
              rotate_left
              · rintro w' ⟨h0_, h1_, h2_, h3_, h4_, h5_, h6_, h7_⟩
                go_simp
                with_reducible rfl
              rotate_left
              · simp only [Act.put, List.setIfInBounds_toArray, List.set_cons_zero, List.set_cons_succ, i64_w, i32_w]
                rfl
              refine last_ (i := 8) (N := some 73) #[true, true, true, true, true, true, true, true, true, false, false] rfl rfl (by kernel_rfl) (by decide) (fun K hK => ?_)
              refine goes_ Try.func11 (by kernel_rfl) rfl #[.agg #[.int .u32 z.f0, .int .u32 z.f1, .int .u8 z.f2, .string z.f3], .agg #[.int .u32 y.f0, .int .u32 y.f1, .int .u8 y.f2, .string y.f3]] (by rfl) rfl rfl (by (try simp only [List.map_toArray, List.map_cons, List.map_nil]); first | done | rfl) ?_
              (with_reducible refine (member_Cmp.calls z.f0 z.f1 z.f2 z.f3 y.f0 y.f1 y.f2 y.f3 q _ HCM.out).mono ?_)
              rintro e_ w8 ⟨rfl, hb8⟩
              have HB8 := Aside0.mk (below_step HBd.out hb8)
              clear hb8
              refine ⟨_, rfl, ?_⟩
              refine hK.out _ _ ?_
              clear hK K
              refine norm_ (a' := ?_) ?_ ?_
              rotate_left
              · show Act.put _ (some 73) _ = _
                simp only [Act.put, List.setIfInBounds_toArray, List.set_cons_zero, List.set_cons_succ, i64_w, i32_w]
                rfl
              refine pure_ (i := 9) (N := some 74) (v := ?_) (a' := ?_) #[true, true, true, true, true, true, true, true, true, true, false] rfl rfl (by kernel_rfl) (fun _ _ _ h => h) (Or.inl ⟨by rfl, ?_⟩) ?_ ?_
              rotate_left
              · intro w'
                go_simp
                with_reducible rfl
              rotate_left
              · simp only [Act.put, List.setIfInBounds_toArray, List.set_cons_zero, List.set_cons_succ, i64_w, i32_w]
                rfl
              refine pure_ (i := 10) (N := some 75) (v := ?_) (a' := ?_) #[true, true, true, true, true, true, true, true, true, true, true] rfl rfl (by kernel_rfl) (fun _ _ _ h => h) (Or.inl ⟨by rfl, ?_⟩) ?_ ?_
              rotate_left
              · intro w'
                go_simp
                with_reducible rfl
              rotate_left
              · simp only [Act.put, List.setIfInBounds_toArray, List.set_cons_zero, List.set_cons_succ, i64_w, i32_w]
                rfl
              refine done_ (by kernel_rfl) ?_
              try go_wp2
              go_roundw
              case rel => exact ⟨m + 1, by have := HLT2.out; omega, by go_num, HB8⟩
              case measure => have := HLT2.out; simp [intOf, wrap64]; omega
            · go_wp2
              go_roundw
              case rel => exact ⟨k + 1, L', by have := HLT.out; omega, by go_num, ⟨HV5.out.below HBq.out, HT'.out.len⟩, ⟨below_step HB5.out HBq.out⟩⟩
              case measure => have := HLT.out; simp [intOf, wrap64]; omega)
      · go_wp2_with (first | (go_at_call 13; (with_reducible refine (wakes_true _).mono ?_); rintro e w2 ⟨rfl, h1_⟩; have HB2 := Aside0.mk (below_step HB.out h1_); clear h1_))
        go_ret
        exact ⟨rfl, HB2.out⟩
end Go.Proofs.Ytognmibankcefaa.Print
