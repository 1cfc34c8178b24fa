/- MemberPlays, walked. -/
import Derived.Test.YtognmibankcefaaXJoinP
namespace Go.Proofs.Ytognmibankcefaa.Print
open Go.RowKit Go.Maps Go.ChangeMaps Go.Proofs.YtognmibankcefaaW.PrintWords Go.Proofs.YtognmibankcefaaW.PrintLast Go.Proofs.YtognmibankcefaaW.PrintMore
set_option linter.unusedVariables false
set_option linter.unusedSimpArgs false
attribute [local go_sem high] eqA25
theorem neq_same (y : Mem) (w : World) : (binOp .neq 25 (.agg #[.int .u32 y.f0, .int .u32 y.f1, .int .u8 y.f2, .string y.f3]) (.agg #[.int .u32 y.f0, .int .u32 y.f1, .int .u8 y.f2, .string y.f3])).run Try.prog w = .ok (.bool false) w := by
  go_simp
theorem pb_le {w : World} {n : Nat} {p p' : Option Addr} (h : PB w p p') (hp : ∀ a, p = some a → n ≤ a.block) (hn : n ≤ w.heap.size) : ∀ a, p' = some a → n ≤ a.block := fun a ha => by
  rcases h a ha with ⟨a', e, e2⟩ | h
  · have := hp a' e; omega
  · omega
theorem VF.keptA {w w' : World} {b g' b' : Nat} {l : List Mem} (h : VF w w' b) (hV : Vw w g' b' l) (h1 : b ≠ g') (h2 : b ≠ b') : Vw w' g' b' l := Vw.kept hV (row := some b) h (fun e => h1 (Option.some.inj e).symm) (fun e => h2 (Option.some.inj e).symm)
theorem liveL_le (L : List Mem) : (liveL L).length ≤ L.length := List.length_filter_le _ _
set_option maxHeartbeats 40000000 in
set_option maxRecDepth 100000 in
theorem plays_law (w : World) (A : Option Addr) (c : Nat) (l : List S50) (hC : Kd.C k50 w A l.length l) (hc : l.length ≤ c) (hwf : ∀ x ∈ l, Opens.wfA x.f1) :
    Calls Try.prog 6 #[.slice A l.length c] w fun e w' => e = .returned (.bool true) ∧ Below w.heap.size w w' := by
  have hu25 := Try.underlying25
  have hu50 := Try.underlying50
  have HC := Aside0.mk hC
  have HWF := Aside0.mk hwf
  clear hC hwf
  by_cases hbig : (l.length : Int) > 200
  · go_enter Try.func6, Try.ntmps6
    go_wp2_with (first | (go_at_call 13; (with_reducible refine (wakes_true _).mono ?_); rintro e w1 ⟨rfl, h1_⟩; have HB1 := Aside0.mk h1_; clear h1_))
    go_ret
    exact ⟨rfl, HB1.out⟩
  · have hl200 : l.length ≤ 200 := by omega
    go_enter Try.func6, Try.ntmps6
    go_upto_region 4 with (first | (go_at_call 21; (with_reducible refine (new_calls _).mono ?_); rintro e w1 ⟨g, b, rfl, h1_, h2_, h3_, h4_⟩; have HV1 := Aside0.mk h1_; have HG1 := Aside0.mk (And.intro h2_ h3_); have HB1 := Aside0.mk h4_; clear h1_ h2_ h3_ h4_))
    go_upto_region 5 with (fail)
    have hba := below_alloc (Below.refl w1.heap.size w1) (.cells #[.slice none 0 0] 48)
    have HR2 : Aside0 (Rv (w1.alloc (.cells #[.slice none 0 0] 48)) w1.heap.size none 0 []) := ⟨⟨blk_new w1 _, ⟨Nat.le_refl _, by unfold maxLen; omega⟩, fun _ => ⟨rfl, rfl⟩, fun h => absurd h (by simp)⟩⟩
    have HV2 := Aside0.mk (HV1.out.below hba)
    have HB2 := Aside0.mk (below_step HB1.out hba)
    have HH := Aside0.mk (show w.heap.size ≤ w1.heap.size from HB1.out.size)
    clear hba HV1 HB1
    generalize w1.alloc (.cells #[.slice none 0 0] 48) = w2 at HR2 HV2 HB2 ⊢
    generalize w1.heap.size = h at HR2 HH ⊢
    go_wp2
    go_loopw [3, 5] (fun v i wr => ∃ (k g b : Nat) (p : Option Addr) (c2 : Nat) (L : List Mem), k ≤ l.length ∧ v = .pointer (some ⟨g, 0, none⟩) ∧ i = .int .i64 k ∧ Aside0 (Vw wr g b L ∧ L.length ≤ 32 ∧ ∀ y ∈ L, 0 ≤ y.f2) ∧ Aside0 (Rv wr h p c2 L) ∧ Aside0 (Below w.heap.size w wr) ∧ Aside0 (w.heap.size ≤ g ∧ w.heap.size ≤ b ∧ ∀ a, p = some a → w.heap.size ≤ a.block)) (fun _ i _ => l.length - (intOf i).toNat)
    case atStart => exact ⟨0, g, b, none, 0, [], Nat.zero_le _, rfl, rfl, ⟨HV2.out, by simp, by simp⟩, HR2, HB2, ⟨HG1.out.1, HG1.out.2, fun a ha => by cases ha⟩⟩
    case round =>
      clear HV2 HR2 HB2 HG1
      obtain ⟨k, g, b, p, c2, L, hk, rfl, rfl, HV, HR, HB, HG⟩ := hrel
      by_cases hlt : (k : Int) < (l.length : Int)
      · have HLT := Aside0.mk (show k < l.length by omega)
        obtain ⟨ad, eA, x0_, x1_, x2_, x3_, x4_⟩ := at_A (Kd.C_below HC.out HB.out) k HLT.out
        cases eA
        have HAT := Aside0.mk (fun W (hW : Below w.heap.size w W) => show W.cell? ⟨(ad.add (k * 5)).block, (ad.add (k * 5)).off + 1, none⟩ = some (.int .u32 (rd_A l (k : Int)).f1.f0) ∧ W.cell? ⟨(ad.add (k * 5)).block, (ad.add (k * 5)).off + 2, none⟩ = some (.int .u32 (rd_A l (k : Int)).f1.f1) ∧ W.cell? ⟨(ad.add (k * 5)).block, (ad.add (k * 5)).off + 3, none⟩ = some (.int .u8 (rd_A l (k : Int)).f1.f2) ∧ W.cell? ⟨(ad.add (k * 5)).block, (ad.add (k * 5)).off + 4, none⟩ = some (.string (rd_A l (k : Int)).f1.f3) from by
          obtain ⟨ad', e', _, h'⟩ := at_A (Kd.C_below HC.out hW) k HLT.out
          cases e'
          exact h')
        have HX := Aside0.mk (show (0 ≤ (rd_A l (k : Int)).f1.f0 ∧ (rd_A l (k : Int)).f1.f0 ≤ 4294967295) ∧ 0 ≤ (rd_A l (k : Int)).f1.f2 ∧ (rd_A l (k : Int)).f1.f3.size ≤ 9223372036854775807 from wf_A HWF.out k HLT.out)
        obtain ⟨x, hx⟩ : ∃ x, x = (rd_A l (k : Int)).f1 := ⟨_, rfl⟩
        obtain ⟨d, hd⟩ : ∃ d, d = (rd_A l (k : Int)).f0 := ⟨_, rfl⟩
        rw [← hd] at x0_
        rw [← hx] at HX
        simp only [← hx] at HAT
        clear x1_ x2_ x3_ x4_ hx hd
        obtain ⟨L', a, er, r, hT, hra, hf'⟩ := told3 L x HV.out.1.ord HV.out.2.1 HV.out.2.2 HX.out.2.1
        have HT := Aside0.mk hT
        have HF' := Aside0.mk hf'
        have HAP := Aside0.mk (vw_rv HV.out.1 HR.out)
        have RC : Aside0 (∀ W p c, Rv W h p c L → Calls Try.prog 22 #[.pointer (some ⟨h, 0, none⟩), .agg #[.int .u32 x.f0, .int .u32 x.f1, .int .u8 x.f2, .string x.f3]] W fun e w' => ∃ p' c', e = .returned (.tuple #[.bool a, .int .i64 er]) ∧ Rv w' h p' c' L' ∧ RF W w' h p ∧ PB W p p') := ⟨fun W p c hV => by
          have k1 := refmerge_calls W h c p L x hV HV.out.1.ord (by have := HV.out.2.1; omega) HX.out.2.2
          rw [hT.eq] at k1
          exact k1⟩
        clear hT hf'
        by_cases hd0 : d = 0
        · subst hd0
          go_upto_region 10 with (fail)
          clear x0_
          obtain ⟨x10_, x11_, x12_, x13_⟩ := HAT.out _ HB.out
          go_upto_region 11 with (first | (go_at_call 17; (with_reducible refine (HT.out.calls HV.out.2.1 HX.out.1.1 HX.out.1.2 _ g b HV.out.1).mono ?_); rintro e w3 ⟨rfl, h1_, h2_⟩; have HV3 := Aside0.mk h1_; have HR3 := Aside0.mk (HR.out.grown h2_ (fun e => HAP.out.2.1 (Option.some.inj e).symm) (fun a ha e => (HAP.out.2.2 a ha).2 (Option.some.inj e).symm)); have HB3 := Aside0.mk (HB.out.trans (VF.below h2_ HG.out.2.1 HB.out.size)); clear h1_ h2_ x10_ x11_ x12_ x13_))
          obtain ⟨x20_, x21_, x22_, x23_⟩ := HAT.out _ HB3.out
          go_upto_region 12 with (first | (go_at_call 22; (with_reducible refine (RC.out _ p c2 HR3.out).mono ?_); rintro e w4 ⟨p4, c4, rfl, h1_, h2_, h3_⟩; have HRt := Aside0.mk h1_; have HVt := Aside0.mk (And.intro (HV3.out.rf h2_ (blk_lt HR3.out.box) HAP.out.1 HAP.out.2.1 HAP.out.2.2) (And.intro HT.out.len HF'.out)); have HBt := Aside0.mk (HB3.out.trans (RF.below_of h2_ HB3.out.size HH.out HG.out.2.2)); have HGt : Aside0 (w.heap.size ≤ g ∧ w.heap.size ≤ b ∧ ∀ a, p4 = some a → w.heap.size ≤ a.block) := ⟨HG.out.1, HG.out.2.1, pb_le h3_ HG.out.2.2 HB3.out.size⟩; clear h1_ h2_ h3_ x20_ x21_ x22_ x23_))
          clear HV HR HB HV3 HR3 HB3
          go_upto_region 27 with (first
            | (go_at_call 16; (with_reducible refine (list_calls _ g b L' HVt.out.1 (by have := HVt.out.2.1; omega)).mono ?_); rintro e w5 ⟨v5, rfl, h1_, h2_⟩; obtain ⟨p5, cap5, rfl, hcap_, hcm_, hp_⟩ := rowP h1_ rfl; have HO5 : Aside0 (Ro w5 w4.heap.size p5 cap5 L'.length L') := ⟨⟨rfl, ⟨hcap_, hcm_⟩, hp_⟩⟩; have HB5 : Aside0 (Below w4.heap.size w4 w5) := ⟨h2_⟩; clear h1_ h2_ hcap_ hcm_ hp_)
            | (go_at_call 25; (with_reducible refine (live_calls _ g b L' (HVt.out.1.below HB5.out) (by have := HVt.out.2.1; omega)).mono ?_); rintro e w6 ⟨v6, rfl, h1_, h2_⟩; obtain ⟨p6, cap6, rfl, hcap_, hcm_, hp_⟩ := rowP h1_ rfl; have HO6 : Aside0 (Ro w6 w5.heap.size p6 cap6 (liveL L').length (liveL L')) := ⟨⟨rfl, ⟨hcap_, hcm_⟩, hp_⟩⟩; have HO5' := Aside0.mk (HO5.out.below h2_); have HP5 := Aside0.mk HO5.out.lt; have HB6 := Aside0.mk (below_step HB5.out h2_); have HS5 := Aside0.mk HB5.out.size; clear h1_ h2_ hcap_ hcm_ hp_))
          have HBd := Aside0.mk (below_drew1 HB6.out)
          have HOd5 := Aside0.mk (HO5'.out.below (below_drew1 (Below.refl _ _)))
          have HOd6 := Aside0.mk (HO6.out.below (below_drew1 (Below.refl _ _)))
          obtain ⟨ke, hke⟩ := equal_same L' (by have := HVt.out.2.1; omega)
          obtain ⟨kl, hkl⟩ := equal_same (liveL L') (by have := HVt.out.2.1; have := liveL_le L'; omega)
          have HEQ := Aside0.mk hke
          have HEL := Aside0.mk hkl
          clear hke hkl HO5 HO5' HO6 HB5 HB6
          refine start_ (n := 31) (S := (fun w' => w'.cell? ⟨h, 0, none⟩ = some (.slice p4 L'.length c4))) (ds := [28]) #[false, false, false, false, false, false, false, false, false, false, false, false, false, false, false, false, false, false, false, false, false, false, false, false, false, false, false, false, false, false, false] (by kernel_rfl) rfl rfl (Rv.cell (HRt.out.below HBd.out)) (fun hHeld => ?_)
          generalize w6.drew = wd at HBd HOd5 HOd6 hHeld ⊢
          refine pure_ (i := 0) (N := some 137) (v := ?_) (a' := ?_) #[true, false, false, false, false, false, false, false, false, false, false, false, false, false, false, false, false, false, false, false, false, false, false, false, false, false, false, false, false, false, false] rfl rfl (by kernel_rfl) (fun _ _ _ h => h) (Or.inl ⟨by rfl, ?_⟩) ?_ ?_
          rotate_left
          · intro w'
            go_simp
            with_reducible rfl
          rotate_left
          · simp only [Act.put, List.setIfInBounds_toArray, List.set_cons_zero, List.set_cons_succ, i64_w, i32_w]
            rfl
          refine pure_ (i := 1) (N := some 138) (v := ?_) (a' := ?_) #[true, true, false, false, false, false, false, false, false, false, false, false, false, false, false, false, false, false, false, false, false, false, false, false, false, false, false, false, false, false, false] rfl rfl (by kernel_rfl) (fun _ _ _ h => h) (Or.inl ⟨by rfl, ?_⟩) ?_ ?_
          rotate_left
          · intro w'
            go_simp
            with_reducible rfl
          rotate_left
          · simp only [Act.put, List.setIfInBounds_toArray, List.set_cons_zero, List.set_cons_succ, i64_w, i32_w]
            rfl
          refine pure_ (i := 2) (N := some 139) (v := ?_) (a' := ?_) #[true, true, true, false, false, false, false, false, false, false, false, false, false, false, false, false, false, false, false, false, false, false, false, false, false, false, false, false, false, false, false] rfl rfl (by kernel_rfl) (fun _ _ _ h => h) (Or.inl ⟨by rfl, ?_⟩) ?_ ?_
          rotate_left
          · intro w'
            go_simp
            with_reducible rfl
          rotate_left
          · simp only [Act.put, List.setIfInBounds_toArray, List.set_cons_zero, List.set_cons_succ, i64_w, i32_w]
            rfl
          refine pure_ (i := 3) (N := some 140) (v := ?_) (a' := ?_) #[true, true, true, true, false, false, false, false, false, false, false, false, false, false, false, false, false, false, false, false, false, false, false, false, false, false, false, false, false, false, false] rfl rfl (by kernel_rfl) (fun _ _ _ h => h) (Or.inl ⟨by rfl, ?_⟩) ?_ ?_
          rotate_left
          · intro w'
            go_simp
            with_reducible rfl
          rotate_left
          · simp only [Act.put, List.setIfInBounds_toArray, List.set_cons_zero, List.set_cons_succ, i64_w, i32_w]
            rfl
          refine take_ (i := 4) (N := some 141) (v := ?_) (a' := ?_) #[true, true, true, true, true, false, false, false, false, false, false, false, false, false, false, false, false, false, false, false, false, false, false, false, false, false, false, false, false, false, false] rfl rfl (by kernel_rfl) (fun _ _ _ h => h) (Or.inl ⟨by rfl, ?_⟩) hHeld ?_ ?_
          rotate_left
          · rintro w' h0_
            go_simp
            with_reducible rfl
          rotate_left
          · simp only [Act.put, List.setIfInBounds_toArray, List.set_cons_zero, List.set_cons_succ, i64_w, i32_w]
            rfl
          refine one_ (i := 5) (N := some 142) #[true, true, true, true, true, true, false, false, false, false, false, false, false, false, false, false, false, false, false, false, false, false, false, false, false, false, false, false, false, false, false] rfl rfl (by kernel_rfl) (by decide) (fun K hK => ?_)
          refine goes_ Try.func19 (by kernel_rfl) rfl #[.slice p5 L'.length cap5, .slice p4 L'.length c4] (by rfl) rfl rfl (by (try simp only [List.map_toArray, List.map_cons, List.map_nil]); first | done | rfl) ?_
          (with_reducible refine (hearsayref17_Equal.calls ke p5 cap5 L' p4 c4 L' true _ HOd5.out.C HOd5.out.capl.1 (HRt.out.below HBd.out).C HRt.out.cap.1 HEQ.out).mono ?_)
          rintro e_ w7 ⟨rfl, h1_⟩
          have HD7 := Aside0.mk (Drawn0.below h1_)
          clear h1_
          refine ⟨_, rfl, ?_⟩
          refine hK.out _ _ (Rv.cell (HRt.out.below (below_step HBd.out HD7.out))) (fun hHeld => ?_)
          clear hK K
          refine norm_ (a' := ?_) ?_ ?_
          rotate_left
          · show Act.put _ (some 142) _ = _
            simp only [Act.put, List.setIfInBounds_toArray, List.set_cons_zero, List.set_cons_succ, i64_w, i32_w]
            rfl
          refine pure_ (i := 6) (N := some 143) (v := ?_) (a' := ?_) #[true, true, true, true, true, true, true, false, false, false, false, false, false, false, false, false, false, false, false, false, false, false, false, false, false, false, false, false, false, false, false] rfl rfl (by kernel_rfl) (fun _ _ _ h => h) (Or.inl ⟨by rfl, ?_⟩) ?_ ?_
          rotate_left
          · intro w'
            go_simp
            with_reducible rfl
          rotate_left
          · simp only [Act.put, List.setIfInBounds_toArray, List.set_cons_zero, List.set_cons_succ, i64_w, i32_w]
            rfl
          refine pure_ (i := 7) (N := some 144) (v := ?_) (a' := ?_) #[true, true, true, true, true, true, true, true, false, false, false, false, false, false, false, false, false, false, false, false, false, false, false, false, false, false, false, false, false, false, false] rfl rfl (by kernel_rfl) (fun _ _ _ h => h) (Or.inl ⟨by rfl, ?_⟩) ?_ ?_
          rotate_left
          · intro w'
            go_simp
            with_reducible rfl
          rotate_left
          · simp only [Act.put, List.setIfInBounds_toArray, List.set_cons_zero, List.set_cons_succ, i64_w, i32_w]
            rfl
          refine pure_ (i := 8) (N := some 145) (v := ?_) (a' := ?_) #[true, true, true, true, true, true, true, true, true, false, false, false, false, false, false, false, false, false, false, false, false, false, false, false, false, false, false, false, false, false, false] rfl rfl (by kernel_rfl) (fun _ _ _ h => h) (Or.inl ⟨by rfl, ?_⟩) ?_ ?_
          rotate_left
          · intro w'
            go_simp
            with_reducible rfl
          rotate_left
          · simp only [Act.put, List.setIfInBounds_toArray, List.set_cons_zero, List.set_cons_succ, i64_w, i32_w]
            rfl
          refine pure_ (i := 9) (N := some 146) (v := ?_) (a' := ?_) #[true, true, true, true, true, true, true, true, true, true, false, false, false, false, false, false, false, false, false, false, false, false, false, false, false, false, false, false, false, false, false] rfl rfl (by kernel_rfl) (fun _ _ _ h => h) (Or.inl ⟨by rfl, ?_⟩) ?_ ?_
          rotate_left
          · intro w'
            go_simp
            with_reducible rfl
          rotate_left
          · simp only [Act.put, List.setIfInBounds_toArray, List.set_cons_zero, List.set_cons_succ, i64_w, i32_w]
            rfl
          refine one_ (i := 10) (N := some 147) #[true, true, true, true, true, true, true, true, true, true, true, false, false, false, false, false, false, false, false, false, false, false, false, false, false, false, false, false, false, false, false] rfl rfl (by kernel_rfl) (by decide) (fun K hK => ?_)
          refine goes_ Try.func26 (by kernel_rfl) rfl #[.pointer (some ⟨h, 0, none⟩)] (by rfl) rfl rfl (by (try simp only [List.map_toArray, List.map_cons, List.map_nil]); first | done | rfl) ?_
          (with_reducible refine (reflive_calls _ h c4 p4 L' (HRt.out.below (below_step HBd.out HD7.out)) (by have := HVt.out.2.1; omega) HVt.out.2.2).mono ?_)
          rintro e_ w8 ⟨A8, c8, rfl, h8_, hC8_, h1_⟩
          have HC8 := Aside0.mk hC8_
          have HL8 := Aside0.mk h8_
          have HD8 := Aside0.mk (below_step HD7.out h1_)
          clear h1_ hC8_ h8_
          refine ⟨_, rfl, ?_⟩
          refine hK.out _ _ (Rv.cell (HRt.out.below (below_step HBd.out HD8.out))) (fun hHeld => ?_)
          clear hK K
          refine norm_ (a' := ?_) ?_ ?_
          rotate_left
          · show Act.put _ (some 147) _ = _
            simp only [Act.put, List.setIfInBounds_toArray, List.set_cons_zero, List.set_cons_succ, i64_w, i32_w]
            rfl
          refine one_ (i := 11) (N := some 148) #[true, true, true, true, true, true, true, true, true, true, true, true, false, false, false, false, false, false, false, false, false, false, false, false, false, false, false, false, false, false, false] rfl rfl (by kernel_rfl) (by decide) (fun K hK => ?_)
          refine goes_ Try.func19 (by kernel_rfl) rfl #[.slice p6 (liveL L').length cap6, .slice A8 (liveL L').length c8] (by rfl) rfl rfl (by (try simp only [List.map_toArray, List.map_cons, List.map_nil]); first | done | rfl) ?_
          (with_reducible refine (hearsayref17_Equal.calls kl p6 cap6 (liveL L') A8 c8 (liveL L') true _ (HOd6.out.below HD8.out).C HOd6.out.capl.1 HC8.out HL8.out HEL.out).mono ?_)
          rintro e_ w9 ⟨rfl, h1_⟩
          have HD9 := Aside0.mk (below_step HD8.out (Drawn0.below h1_))
          clear h1_
          refine ⟨_, rfl, ?_⟩
          refine hK.out _ _ (Rv.cell (HRt.out.below (below_step HBd.out HD9.out))) (fun hHeld => ?_)
          clear hK K
          refine norm_ (a' := ?_) ?_ ?_
          rotate_left
          · show Act.put _ (some 148) _ = _
            simp only [Act.put, List.setIfInBounds_toArray, List.set_cons_zero, List.set_cons_succ, i64_w, i32_w]
            rfl
          refine pure_ (i := 12) (N := some 149) (v := ?_) (a' := ?_) #[true, true, true, true, true, true, true, true, true, true, true, true, true, false, false, false, false, false, false, false, false, false, false, false, false, false, false, false, false, false, false] rfl rfl (by kernel_rfl) (fun _ _ _ h => h) (Or.inl ⟨by rfl, ?_⟩) ?_ ?_
          rotate_left
          · intro w'
            go_simp
            with_reducible rfl
          rotate_left
          · simp only [Act.put, List.setIfInBounds_toArray, List.set_cons_zero, List.set_cons_succ, i64_w, i32_w]
            rfl
          refine pure_ (i := 13) (N := some 150) (v := ?_) (a' := ?_) #[true, true, true, true, true, true, true, true, true, true, true, true, true, true, false, false, false, false, false, false, false, false, false, false, false, false, false, false, false, false, false] rfl rfl (by kernel_rfl) (fun _ _ _ h => h) (Or.inl ⟨by rfl, ?_⟩) ?_ ?_
          rotate_left
          · intro w'
            go_simp
            with_reducible rfl
          rotate_left
          · simp only [Act.put, List.setIfInBounds_toArray, List.set_cons_zero, List.set_cons_succ, i64_w, i32_w]
            rfl
          refine pure_ (i := 14) (N := some 151) (v := ?_) (a' := ?_) #[true, true, true, true, true, true, true, true, true, true, true, true, true, true, true, false, false, false, false, false, false, false, false, false, false, false, false, false, false, false, false] rfl rfl (by kernel_rfl) (fun _ _ _ h => h) (Or.inl ⟨by rfl, ?_⟩) ?_ ?_
          rotate_left
          · intro w'
            go_simp
            with_reducible rfl
          rotate_left
          · simp only [Act.put, List.setIfInBounds_toArray, List.set_cons_zero, List.set_cons_succ, i64_w, i32_w]
            rfl
          refine pure_ (i := 15) (N := some 152) (v := ?_) (a' := ?_) #[true, true, true, true, true, true, true, true, true, true, true, true, true, true, true, true, false, false, false, false, false, false, false, false, false, false, false, false, false, false, false] rfl rfl (by kernel_rfl) (fun _ _ _ h => h) (Or.inl ⟨by rfl, ?_⟩) ?_ ?_
          rotate_left
          · intro w'
            go_simp
            with_reducible rfl
          rotate_left
          · simp only [Act.put, List.setIfInBounds_toArray, List.set_cons_zero, List.set_cons_succ, i64_w, i32_w]
            rfl
          refine pure_ (i := 17) (N := some 154) (v := ?_) (a' := ?_) #[true, true, true, true, true, true, true, true, true, true, true, true, true, true, true, true, false, true, false, false, false, false, false, false, false, false, false, false, false, false, false] rfl rfl (by kernel_rfl) (fun _ _ _ h => h) (Or.inl ⟨by rfl, ?_⟩) ?_ ?_
          rotate_left
          · intro w'
            go_simp
            with_reducible rfl
          rotate_left
          · simp only [Act.put, List.setIfInBounds_toArray, List.set_cons_zero, List.set_cons_succ, i64_w, i32_w]
            rfl
          refine pure_ (i := 18) (N := some 155) (v := ?_) (a' := ?_) #[true, true, true, true, true, true, true, true, true, true, true, true, true, true, true, true, false, true, true, false, false, false, false, false, false, false, false, false, false, false, false] rfl rfl (by kernel_rfl) (fun _ _ _ h => h) (Or.inl ⟨by rfl, ?_⟩) ?_ ?_
          rotate_left
          · intro w'
            go_simp
            with_reducible rfl
          rotate_left
          · simp only [Act.put, List.setIfInBounds_toArray, List.set_cons_zero, List.set_cons_succ, i64_w, i32_w]
            rfl
          refine pure_ (i := 19) (N := some 156) (v := ?_) (a' := ?_) #[true, true, true, true, true, true, true, true, true, true, true, true, true, true, true, true, false, true, true, true, false, false, false, false, false, false, false, false, false, false, false] rfl rfl (by kernel_rfl) (fun _ _ _ h => h) (Or.inl ⟨by rfl, ?_⟩) ?_ ?_
          rotate_left
          · intro w'
            go_simp
            with_reducible rfl
          rotate_left
          · simp only [Act.put, List.setIfInBounds_toArray, List.set_cons_zero, List.set_cons_succ, i64_w, i32_w]
            rfl
          refine take_ (i := 20) (N := some 157) (v := ?_) (a' := ?_) #[true, true, true, true, true, true, true, true, true, true, true, true, true, true, true, true, false, true, true, true, true, false, false, false, false, false, false, false, false, false, false] rfl rfl (by kernel_rfl) (fun _ _ _ h => h) (Or.inl ⟨by rfl, ?_⟩) hHeld ?_ ?_
          rotate_left
          · rintro w' h0_
            go_simp
            with_reducible rfl
          rotate_left
          · simp only [Act.put, List.setIfInBounds_toArray, List.set_cons_zero, List.set_cons_succ, i64_w, i32_w]
            rfl
          refine pure_ (i := 21) (N := some 158) (v := ?_) (a' := ?_) #[true, true, true, true, true, true, true, true, true, true, true, true, true, true, true, true, false, true, true, true, true, true, false, false, false, false, false, false, false, false, false] rfl rfl (by kernel_rfl) (fun _ _ _ h => h) (Or.inl ⟨by rfl, ?_⟩) ?_ ?_
          rotate_left
          · intro w'
            go_simp
            with_reducible rfl
          rotate_left
          · simp only [Act.put, List.setIfInBounds_toArray, List.set_cons_zero, List.set_cons_succ, i64_w, i32_w]
            rfl
          refine one_ (i := 16) (N := some 153) #[true, true, true, true, true, true, true, true, true, true, true, true, true, true, true, true, true, true, true, true, true, true, false, false, false, false, false, false, false, false, false] rfl rfl (by kernel_rfl) (by decide) (fun K hK => ?_)
          refine goes_ Try.func27 (by kernel_rfl) rfl #[.pointer (some ⟨g, 0, none⟩)] (by rfl) rfl rfl (by (try simp only [List.map_toArray, List.map_cons, List.map_nil]); first | done | rfl) ?_
          (with_reducible refine (len_calls _ g b L' (HVt.out.1.below (below_step HBd.out HD9.out))).mono ?_)
          rintro e_ w10 ⟨rfl, rfl⟩
          refine ⟨_, rfl, ?_⟩
          refine hK.out _ _ (Rv.cell (HRt.out.below (below_step HBd.out HD9.out))) (fun hHeld => ?_)
          clear hK K
          refine norm_ (a' := ?_) ?_ ?_
          rotate_left
          · show Act.put _ (some 153) _ = _
            simp only [Act.put, List.setIfInBounds_toArray, List.set_cons_zero, List.set_cons_succ, i64_w, i32_w]
            rfl
          refine pure_ (i := 22) (N := some 159) (v := ?_) (a' := ?_) #[true, true, true, true, true, true, true, true, true, true, true, true, true, true, true, true, true, true, true, true, true, true, true, false, false, false, false, false, false, false, false] rfl rfl (by kernel_rfl) (fun _ _ _ h => h) (Or.inl ⟨by rfl, ?_⟩) ?_ ?_
          rotate_left
          · intro w'
            go_simp
            with_reducible rfl
          rotate_left
          · simp only [Act.put, List.setIfInBounds_toArray, List.set_cons_zero, List.set_cons_succ, i64_w, i32_w]
            rfl
          refine pure_ (i := 23) (N := some 160) (v := ?_) (a' := ?_) #[true, true, true, true, true, true, true, true, true, true, true, true, true, true, true, true, true, true, true, true, true, true, true, true, false, false, false, false, false, false, false] rfl rfl (by kernel_rfl) (fun _ _ _ h => h) (Or.inl ⟨by rfl, ?_⟩) ?_ ?_
          rotate_left
          · intro w'
            go_simp
            with_reducible rfl
          rotate_left
          · simp only [Act.put, List.setIfInBounds_toArray, List.set_cons_zero, List.set_cons_succ, i64_w, i32_w]
            rfl
          refine pure_ (i := 24) (N := some 161) (v := ?_) (a' := ?_) #[true, true, true, true, true, true, true, true, true, true, true, true, true, true, true, true, true, true, true, true, true, true, true, true, true, false, false, false, false, false, false] rfl rfl (by kernel_rfl) (fun _ _ _ h => h) (Or.inl ⟨by rfl, ?_⟩) ?_ ?_
          rotate_left
          · intro w'
            go_simp
            with_reducible rfl
          rotate_left
          · simp only [Act.put, List.setIfInBounds_toArray, List.set_cons_zero, List.set_cons_succ, i64_w, i32_w]
            rfl
          refine pure_ (i := 25) (N := some 162) (v := ?_) (a' := ?_) #[true, true, true, true, true, true, true, true, true, true, true, true, true, true, true, true, true, true, true, true, true, true, true, true, true, true, false, false, false, false, false] rfl rfl (by kernel_rfl) (fun _ _ _ h => h) (Or.inl ⟨by rfl, ?_⟩) ?_ ?_
          rotate_left
          · intro w'
            go_simp
            with_reducible rfl
          rotate_left
          · simp only [Act.put, List.setIfInBounds_toArray, List.set_cons_zero, List.set_cons_succ, i64_w, i32_w]
            rfl
          refine pure_ (i := 26) (N := some 163) (v := ?_) (a' := ?_) #[true, true, true, true, true, true, true, true, true, true, true, true, true, true, true, true, true, true, true, true, true, true, true, true, true, true, true, false, false, false, false] rfl rfl (by kernel_rfl) (fun _ _ _ h => h) (Or.inl ⟨by rfl, ?_⟩) ?_ ?_
          rotate_left
          · intro w'
            go_simp
            with_reducible rfl
          rotate_left
          · simp only [Act.put, List.setIfInBounds_toArray, List.set_cons_zero, List.set_cons_succ, i64_w, i32_w]
            rfl
          refine one_ (i := 27) (N := some 164) #[true, true, true, true, true, true, true, true, true, true, true, true, true, true, true, true, true, true, true, true, true, true, true, true, true, true, true, true, false, false, false] rfl rfl (by kernel_rfl) (by decide) (fun K hK => ?_)
          refine goes_ Try.func24 (by kernel_rfl) rfl #[.pointer (some ⟨g, 0, none⟩)] (by rfl) rfl rfl (by (try simp only [List.map_toArray, List.map_cons, List.map_nil]); first | done | rfl) ?_
          (with_reducible refine (copy_calls _ g b L' (HVt.out.1.below (below_step HBd.out HD9.out))).mono ?_)
          rintro e_ w10 ⟨g9, b9, rfl, h1_, _, _, h2_⟩
          have HV10 := Aside0.mk h1_
          have HD10 := Aside0.mk (below_step HD9.out h2_)
          clear h1_ h2_
          refine ⟨_, rfl, ?_⟩
          refine hK.out _ _ (Rv.cell (HRt.out.below (below_step HBd.out HD10.out))) (fun hHeld => ?_)
          clear hK K
          refine norm_ (a' := ?_) ?_ ?_
          rotate_left
          · show Act.put _ (some 164) _ = _
            simp only [Act.put, List.setIfInBounds_toArray, List.set_cons_zero, List.set_cons_succ, i64_w, i32_w]
            rfl
          refine last_ (i := 28) (N := some 165) #[true, true, true, true, true, true, true, true, true, true, true, true, true, true, true, true, true, true, true, true, true, true, true, true, true, true, true, true, true, false, false] rfl rfl (by kernel_rfl) (by decide) (fun K hK => ?_)
          refine goes_ Try.func18 (by kernel_rfl) rfl #[.pointer (some ⟨g, 0, none⟩), .pointer (some ⟨g9, 0, none⟩)] (by rfl) rfl rfl (by (try simp only [List.map_toArray, List.map_cons, List.map_nil]); first | done | rfl) ?_
          (with_reducible refine (same_calls _ g b g9 b9 L' L' (HVt.out.1.below (below_step HBd.out HD10.out)) HV10.out).mono ?_)
          rintro e_ w11 ⟨rr, rfl, h1_, h2_⟩
          obtain rfl := h1_.2 rfl
          have HD11 := Aside0.mk (below_step HD10.out h2_)
          clear h1_ h2_
          refine ⟨_, rfl, ?_⟩
          refine hK.out _ _ ?_
          clear hK K
          refine norm_ (a' := ?_) ?_ ?_
          rotate_left
          · show Act.put _ (some 165) _ = _
            simp only [Act.put, List.setIfInBounds_toArray, List.set_cons_zero, List.set_cons_succ, i64_w, i32_w]
            rfl
          refine pure_ (i := 29) (N := some 166) (v := ?_) (a' := ?_) #[true, true, true, true, true, true, true, true, true, true, true, true, true, true, true, true, true, true, true, true, true, true, true, true, true, true, true, true, true, true, false] rfl rfl (by kernel_rfl) (fun _ _ _ h => h) (Or.inl ⟨by rfl, ?_⟩) ?_ ?_
          rotate_left
          · intro w'
            go_simp
            with_reducible rfl
          rotate_left
          · simp only [Act.put, List.setIfInBounds_toArray, List.set_cons_zero, List.set_cons_succ, i64_w, i32_w]
            rfl
          refine pure_ (i := 30) (N := some 167) (v := ?_) (a' := ?_) #[true, true, true, true, true, true, true, true, true, true, true, true, true, true, true, true, true, true, true, true, true, true, true, true, true, true, true, true, true, true, true] rfl rfl (by kernel_rfl) (fun _ _ _ h => h) (Or.inl ⟨by rfl, ?_⟩) ?_ ?_
          rotate_left
          · intro w'
            go_simp
            with_reducible rfl
          rotate_left
          · simp only [Act.put, List.setIfInBounds_toArray, List.set_cons_zero, List.set_cons_succ, i64_w, i32_w]
            rfl
          refine done_ (by kernel_rfl) ?_
          have HOe5 := Aside0.mk (HOd5.out.below HD11.out)
          have HOe6 := Aside0.mk (HOd6.out.below HD11.out)
          have HB11 := Aside0.mk (below_step HBd.out HD11.out)
          clear HOd5 HOd6 HD7 HD8 HD9 HD10 HD11 HC8 HL8 HV10 HEQ HEL HBd
          go_upto_region 30 with (first | (go_at_call 28; (with_reducible refine (spoil_calls _ w4.heap.size cap5 L'.length p5 L' HOe5.out (by have := HVt.out.2.1; omega)).mono ?_); rintro e w12 ⟨rfl, h1_, h2_⟩; have HB12 := Aside0.mk (HB11.out.trans (h1_ _ (Nat.le_refl _) HB11.out.size)); have HOf6 := Aside0.mk (h2_ _ _ _ _ _ HOe6.out (Or.inr HP5.out)); clear h1_ h2_))
          go_wp2_with (first | (go_at_call 28; (with_reducible refine (spoil_calls _ w5.heap.size cap6 (liveL L').length p6 (liveL L') HOf6.out (by have := HVt.out.2.1; have := liveL_le L'; omega)).mono ?_); rintro e w13 ⟨rfl, h1_, h2_⟩; have HB13 := Aside0.mk (HB12.out.trans (h1_ _ HS5.out HB12.out.size)); clear h1_ h2_))
          go_roundw
          case rel => exact ⟨k + 1, g, b, p4, c4, L', by have := HLT.out; omega, rfl, by go_num, ⟨HVt.out.1.below HB13.out, HVt.out.2⟩, ⟨HRt.out.below HB13.out⟩, ⟨below_step HBt.out HB13.out⟩, HGt⟩
          case measure => have := HLT.out; simp [intOf, wrap64]; omega
        · have e0 : (d == 0) = false := by simpa using hd0
          by_cases hd1 : d = 1
          · subst hd1
            go_upto_region 15 with (fail)
            clear x0_
            obtain ⟨x10_, x11_, x12_, x13_⟩ := HAT.out _ HB.out
            obtain ⟨y, hy⟩ : ∃ y, y = (getL L x.f0).getD z25 := ⟨_, rfl⟩
            obtain ⟨er2, her2⟩ : ∃ n : Int, n = (if (getL L x.f0).isSome then 0 else 4) := ⟨_, rfl⟩
            have GC : Aside0 (∀ W, Vw W g b L → Calls Try.prog 20 #[.pointer (some ⟨g, 0, none⟩), .int .u32 x.f0] W fun e w' => e = .returned (.tuple #[.agg #[.int .u32 y.f0, .int .u32 y.f1, .int .u8 y.f2, .string y.f3], .int .i64 er2]) ∧ Below W.heap.size W w') := ⟨fun W hV => by
              have k1 := get_calls W g b L x.f0 HX.out.1.1 HX.out.1.2 hV
              rw [← hy, ← her2] at k1
              exact k1⟩
            have RGC : Aside0 (∀ W, Rv W h p c2 L → Calls Try.prog 23 #[.pointer (some ⟨h, 0, none⟩), .int .u32 x.f0] W fun e w' => e = .returned (.tuple #[.agg #[.int .u32 y.f0, .int .u32 y.f1, .int .u8 y.f2, .string y.f3], .int .i64 er2]) ∧ Below W.heap.size W w') := ⟨fun W hV => by
              have k1 := refget_calls W h c2 p L x.f0 hV HV.out.1.ord (by have := HV.out.2.1; omega)
              rw [← hy, ← her2] at k1
              exact k1⟩
            clear hy her2
            have hneq := neq_same y
            go_upto_region 16 with (first | (go_at_call 20; (with_reducible refine (GC.out _ HV.out.1).mono ?_); rintro e w3 ⟨rfl, h1_⟩; have HB3 : Aside0 (Below wr.heap.size wr w3) := ⟨h1_⟩; clear h1_ x10_ x11_ x12_ x13_))
            have hba := below_alloc (Below.refl w3.heap.size w3) (.cells #[.int .u32 y.f0, .int .u32 y.f1, .int .u8 y.f2, .string y.f3] 25)
            have HZ := Aside0.mk (blk_new w3 (.cells #[.int .u32 y.f0, .int .u32 y.f1, .int .u8 y.f2, .string y.f3] 25))
            have HB4 := Aside0.mk (below_step HB3.out hba)
            clear hba
            generalize w3.alloc (.cells #[.int .u32 y.f0, .int .u32 y.f1, .int .u8 y.f2, .string y.f3] 25) = w4 at HZ HB4 ⊢
            generalize w3.heap.size = bz at HZ ⊢
            obtain ⟨x20_, x21_, x22_, x23_⟩ := HAT.out _ (below_step HB.out HB4.out)
            go_upto_region 17 with (first | (go_at_call 23; (with_reducible refine (RGC.out _ (HR.out.below HB4.out)).mono ?_); rintro e w5 ⟨rfl, h1_⟩; have HB5 : Aside0 (Below wr.heap.size wr w5) := ⟨below_step HB4.out h1_⟩; have HZ5 := Aside0.mk (blk_below HZ.out h1_); clear h1_ x20_ x21_ x22_ x23_))
            have hba := below_alloc (Below.refl w5.heap.size w5) (.cells #[.int .u32 y.f0, .int .u32 y.f1, .int .u8 y.f2, .string y.f3] 25)
            have HY := Aside0.mk (blk_new w5 (.cells #[.int .u32 y.f0, .int .u32 y.f1, .int .u8 y.f2, .string y.f3] 25))
            have HZ6 := Aside0.mk (blk_below HZ5.out hba)
            have HB6 := Aside0.mk (below_step HB5.out hba)
            clear hba
            generalize w5.alloc (.cells #[.int .u32 y.f0, .int .u32 y.f1, .int .u8 y.f2, .string y.f3] 25) = w6 at HY HZ6 HB6 ⊢
            generalize w5.heap.size = by_ at HY ⊢
            have z0_ : w6.cell? ⟨bz, 0, none⟩ = some (.int .u32 y.f0) := (blk_cell HZ6.out 0).trans rfl
            have z1_ : w6.cell? ⟨bz, 1, none⟩ = some (.int .u32 y.f1) := (blk_cell HZ6.out 1).trans rfl
            have z2_ : w6.cell? ⟨bz, 2, none⟩ = some (.int .u8 y.f2) := (blk_cell HZ6.out 2).trans rfl
            have z3_ : w6.cell? ⟨bz, 3, none⟩ = some (.string y.f3) := (blk_cell HZ6.out 3).trans rfl
            have y0_ : w6.cell? ⟨by_, 0, none⟩ = some (.int .u32 y.f0) := (blk_cell HY.out 0).trans rfl
            have y1_ : w6.cell? ⟨by_, 1, none⟩ = some (.int .u32 y.f1) := (blk_cell HY.out 1).trans rfl
            have y2_ : w6.cell? ⟨by_, 2, none⟩ = some (.int .u8 y.f2) := (blk_cell HY.out 2).trans rfl
            have y3_ : w6.cell? ⟨by_, 3, none⟩ = some (.string y.f3) := (blk_cell HY.out 3).trans rfl
            have HVt := Aside0.mk (And.intro (HV.out.1.below HB6.out) HV.out.2)
            have HRt := Aside0.mk (HR.out.below HB6.out)
            have HBt := Aside0.mk (below_step HB.out HB6.out)
            have HGt := HG
            clear HV HR HB HB3 HB4 HB5 HB6 HZ HZ5 HZ6 HY GC RGC
            generalize w6 = wt at HVt HRt HBt z0_ z1_ z2_ z3_ y0_ y1_ y2_ y3_ ⊢
            go_upto_region 26 with (fail)
            clear hneq z0_ z1_ z2_ z3_ y0_ y1_ y2_ y3_
            go_upto_region 27 with (first
              | (go_at_call 16; (with_reducible refine (list_calls _ g b L HVt.out.1 (by have := HVt.out.2.1; omega)).mono ?_); rintro e w5 ⟨v5, rfl, h1_, h2_⟩; obtain ⟨p5, cap5, rfl, hcap_, hcm_, hp_⟩ := rowP h1_ rfl; have HO5 : Aside0 (Ro w5 wt.heap.size p5 cap5 L.length L) := ⟨⟨rfl, ⟨hcap_, hcm_⟩, hp_⟩⟩; have HB5 : Aside0 (Below wt.heap.size wt w5) := ⟨h2_⟩; clear h1_ h2_ hcap_ hcm_ hp_)
              | (go_at_call 25; (with_reducible refine (live_calls _ g b L (HVt.out.1.below HB5.out) (by have := HVt.out.2.1; omega)).mono ?_); rintro e w6 ⟨v6, rfl, h1_, h2_⟩; obtain ⟨p6, cap6, rfl, hcap_, hcm_, hp_⟩ := rowP h1_ rfl; have HO6 : Aside0 (Ro w6 w5.heap.size p6 cap6 (liveL L).length (liveL L)) := ⟨⟨rfl, ⟨hcap_, hcm_⟩, hp_⟩⟩; have HO5' := Aside0.mk (HO5.out.below h2_); have HP5 := Aside0.mk HO5.out.lt; have HB6 := Aside0.mk (below_step HB5.out h2_); have HS5 := Aside0.mk HB5.out.size; clear h1_ h2_ hcap_ hcm_ hp_))
            have HBd := Aside0.mk (below_drew1 HB6.out)
            have HOd5 := Aside0.mk (HO5'.out.below (below_drew1 (Below.refl _ _)))
            have HOd6 := Aside0.mk (HO6.out.below (below_drew1 (Below.refl _ _)))
            obtain ⟨ke, hke⟩ := equal_same L (by have := HVt.out.2.1; omega)
            obtain ⟨kl, hkl⟩ := equal_same (liveL L) (by have := HVt.out.2.1; have := liveL_le L; omega)
            have HEQ := Aside0.mk hke
            have HEL := Aside0.mk hkl
            clear hke hkl HO5 HO5' HO6 HB5 HB6
            refine start_ (n := 31) (S := (fun w' => w'.cell? ⟨h, 0, none⟩ = some (.slice p L.length c2))) (ds := [28]) #[false, false, false, false, false, false, false, false, false, false, false, false, false, false, false, false, false, false, false, false, false, false, false, false, false, false, false, false, false, false, false] (by kernel_rfl) rfl rfl (Rv.cell (HRt.out.below HBd.out)) (fun hHeld => ?_)
            generalize w6.drew = wd at HBd HOd5 HOd6 hHeld ⊢
            refine pure_ (i := 0) (N := some 137) (v := ?_) (a' := ?_) #[true, false, false, false, false, false, false, false, false, false, false, false, false, false, false, false, false, false, false, false, false, false, false, false, false, false, false, false, false, false, false] rfl rfl (by kernel_rfl) (fun _ _ _ h => h) (Or.inl ⟨by rfl, ?_⟩) ?_ ?_
            rotate_left
            · intro w'
              go_simp
              with_reducible rfl
            rotate_left
            · simp only [Act.put, List.setIfInBounds_toArray, List.set_cons_zero, List.set_cons_succ, i64_w, i32_w]
              rfl
            refine pure_ (i := 1) (N := some 138) (v := ?_) (a' := ?_) #[true, true, false, false, false, false, false, false, false, false, false, false, false, false, false, false, false, false, false, false, false, false, false, false, false, false, false, false, false, false, false] rfl rfl (by kernel_rfl) (fun _ _ _ h => h) (Or.inl ⟨by rfl, ?_⟩) ?_ ?_
            rotate_left
            · intro w'
              go_simp
              with_reducible rfl
            rotate_left
            · simp only [Act.put, List.setIfInBounds_toArray, List.set_cons_zero, List.set_cons_succ, i64_w, i32_w]
              rfl
            refine pure_ (i := 2) (N := some 139) (v := ?_) (a' := ?_) #[true, true, true, false, false, false, false, false, false, false, false, false, false, false, false, false, false, false, false, false, false, false, false, false, false, false, false, false, false, false, false] rfl rfl (by kernel_rfl) (fun _ _ _ h => h) (Or.inl ⟨by rfl, ?_⟩) ?_ ?_
            rotate_left
            · intro w'
              go_simp
              with_reducible rfl
            rotate_left
            · simp only [Act.put, List.setIfInBounds_toArray, List.set_cons_zero, List.set_cons_succ, i64_w, i32_w]
              rfl
            refine pure_ (i := 3) (N := some 140) (v := ?_) (a' := ?_) #[true, true, true, true, false, false, false, false, false, false, false, false, false, false, false, false, false, false, false, false, false, false, false, false, false, false, false, false, false, false, false] rfl rfl (by kernel_rfl) (fun _ _ _ h => h) (Or.inl ⟨by rfl, ?_⟩) ?_ ?_
            rotate_left
            · intro w'
              go_simp
              with_reducible rfl
            rotate_left
            · simp only [Act.put, List.setIfInBounds_toArray, List.set_cons_zero, List.set_cons_succ, i64_w, i32_w]
              rfl
            refine take_ (i := 4) (N := some 141) (v := ?_) (a' := ?_) #[true, true, true, true, true, false, false, false, false, false, false, false, false, false, false, false, false, false, false, false, false, false, false, false, false, false, false, false, false, false, false] rfl rfl (by kernel_rfl) (fun _ _ _ h => h) (Or.inl ⟨by rfl, ?_⟩) hHeld ?_ ?_
            rotate_left
            · rintro w' h0_
              go_simp
              with_reducible rfl
            rotate_left
            · simp only [Act.put, List.setIfInBounds_toArray, List.set_cons_zero, List.set_cons_succ, i64_w, i32_w]
              rfl
            refine one_ (i := 5) (N := some 142) #[true, true, true, true, true, true, false, false, false, false, false, false, false, false, false, false, false, false, false, false, false, false, false, false, false, false, false, false, false, false, false] rfl rfl (by kernel_rfl) (by decide) (fun K hK => ?_)
            refine goes_ Try.func19 (by kernel_rfl) rfl #[.slice p5 L.length cap5, .slice p L.length c2] (by rfl) rfl rfl (by (try simp only [List.map_toArray, List.map_cons, List.map_nil]); first | done | rfl) ?_
            (with_reducible refine (hearsayref17_Equal.calls ke p5 cap5 L p c2 L true _ HOd5.out.C HOd5.out.capl.1 (HRt.out.below HBd.out).C HRt.out.cap.1 HEQ.out).mono ?_)
            rintro e_ w7 ⟨rfl, h1_⟩
            have HD7 := Aside0.mk (Drawn0.below h1_)
            clear h1_
            refine ⟨_, rfl, ?_⟩
            refine hK.out _ _ (Rv.cell (HRt.out.below (below_step HBd.out HD7.out))) (fun hHeld => ?_)
            clear hK K
            refine norm_ (a' := ?_) ?_ ?_
            rotate_left
            · show Act.put _ (some 142) _ = _
              simp only [Act.put, List.setIfInBounds_toArray, List.set_cons_zero, List.set_cons_succ, i64_w, i32_w]
              rfl
            refine pure_ (i := 6) (N := some 143) (v := ?_) (a' := ?_) #[true, true, true, true, true, true, true, false, false, false, false, false, false, false, false, false, false, false, false, false, false, false, false, false, false, false, false, false, false, false, false] rfl rfl (by kernel_rfl) (fun _ _ _ h => h) (Or.inl ⟨by rfl, ?_⟩) ?_ ?_
            rotate_left
            · intro w'
              go_simp
              with_reducible rfl
            rotate_left
            · simp only [Act.put, List.setIfInBounds_toArray, List.set_cons_zero, List.set_cons_succ, i64_w, i32_w]
              rfl
            refine pure_ (i := 7) (N := some 144) (v := ?_) (a' := ?_) #[true, true, true, true, true, true, true, true, false, false, false, false, false, false, false, false, false, false, false, false, false, false, false, false, false, false, false, false, false, false, false] rfl rfl (by kernel_rfl) (fun _ _ _ h => h) (Or.inl ⟨by rfl, ?_⟩) ?_ ?_
            rotate_left
            · intro w'
              go_simp
              with_reducible rfl
            rotate_left
            · simp only [Act.put, List.setIfInBounds_toArray, List.set_cons_zero, List.set_cons_succ, i64_w, i32_w]
              rfl
            refine pure_ (i := 8) (N := some 145) (v := ?_) (a' := ?_) #[true, true, true, true, true, true, true, true, true, false, false, false, false, false, false, false, false, false, false, false, false, false, false, false, false, false, false, false, false, false, false] rfl rfl (by kernel_rfl) (fun _ _ _ h => h) (Or.inl ⟨by rfl, ?_⟩) ?_ ?_
            rotate_left
            · intro w'
              go_simp
              with_reducible rfl
            rotate_left
            · simp only [Act.put, List.setIfInBounds_toArray, List.set_cons_zero, List.set_cons_succ, i64_w, i32_w]
              rfl
            refine pure_ (i := 9) (N := some 146) (v := ?_) (a' := ?_) #[true, true, true, true, true, true, true, true, true, true, false, false, false, false, false, false, false, false, false, false, false, false, false, false, false, false, false, false, false, false, false] rfl rfl (by kernel_rfl) (fun _ _ _ h => h) (Or.inl ⟨by rfl, ?_⟩) ?_ ?_
            rotate_left
            · intro w'
              go_simp
              with_reducible rfl
            rotate_left
            · simp only [Act.put, List.setIfInBounds_toArray, List.set_cons_zero, List.set_cons_succ, i64_w, i32_w]
              rfl
            refine one_ (i := 10) (N := some 147) #[true, true, true, true, true, true, true, true, true, true, true, false, false, false, false, false, false, false, false, false, false, false, false, false, false, false, false, false, false, false, false] rfl rfl (by kernel_rfl) (by decide) (fun K hK => ?_)
            refine goes_ Try.func26 (by kernel_rfl) rfl #[.pointer (some ⟨h, 0, none⟩)] (by rfl) rfl rfl (by (try simp only [List.map_toArray, List.map_cons, List.map_nil]); first | done | rfl) ?_
            (with_reducible refine (reflive_calls _ h c2 p L (HRt.out.below (below_step HBd.out HD7.out)) (by have := HVt.out.2.1; omega) HVt.out.2.2).mono ?_)
            rintro e_ w8 ⟨A8, c8, rfl, h8_, hC8_, h1_⟩
            have HC8 := Aside0.mk hC8_
            have HL8 := Aside0.mk h8_
            have HD8 := Aside0.mk (below_step HD7.out h1_)
            clear h1_ hC8_ h8_
            refine ⟨_, rfl, ?_⟩
            refine hK.out _ _ (Rv.cell (HRt.out.below (below_step HBd.out HD8.out))) (fun hHeld => ?_)
            clear hK K
            refine norm_ (a' := ?_) ?_ ?_
            rotate_left
            · show Act.put _ (some 147) _ = _
              simp only [Act.put, List.setIfInBounds_toArray, List.set_cons_zero, List.set_cons_succ, i64_w, i32_w]
              rfl
            refine one_ (i := 11) (N := some 148) #[true, true, true, true, true, true, true, true, true, true, true, true, false, false, false, false, false, false, false, false, false, false, false, false, false, false, false, false, false, false, false] rfl rfl (by kernel_rfl) (by decide) (fun K hK => ?_)
            refine goes_ Try.func19 (by kernel_rfl) rfl #[.slice p6 (liveL L).length cap6, .slice A8 (liveL L).length c8] (by rfl) rfl rfl (by (try simp only [List.map_toArray, List.map_cons, List.map_nil]); first | done | rfl) ?_
            (with_reducible refine (hearsayref17_Equal.calls kl p6 cap6 (liveL L) A8 c8 (liveL L) true _ (HOd6.out.below HD8.out).C HOd6.out.capl.1 HC8.out HL8.out HEL.out).mono ?_)
            rintro e_ w9 ⟨rfl, h1_⟩
            have HD9 := Aside0.mk (below_step HD8.out (Drawn0.below h1_))
            clear h1_
            refine ⟨_, rfl, ?_⟩
            refine hK.out _ _ (Rv.cell (HRt.out.below (below_step HBd.out HD9.out))) (fun hHeld => ?_)
            clear hK K
            refine norm_ (a' := ?_) ?_ ?_
            rotate_left
            · show Act.put _ (some 148) _ = _
              simp only [Act.put, List.setIfInBounds_toArray, List.set_cons_zero, List.set_cons_succ, i64_w, i32_w]
              rfl
            refine pure_ (i := 12) (N := some 149) (v := ?_) (a' := ?_) #[true, true, true, true, true, true, true, true, true, true, true, true, true, false, false, false, false, false, false, false, false, false, false, false, false, false, false, false, false, false, false] rfl rfl (by kernel_rfl) (fun _ _ _ h => h) (Or.inl ⟨by rfl, ?_⟩) ?_ ?_
            rotate_left
            · intro w'
              go_simp
              with_reducible rfl
            rotate_left
            · simp only [Act.put, List.setIfInBounds_toArray, List.set_cons_zero, List.set_cons_succ, i64_w, i32_w]
              rfl
            refine pure_ (i := 13) (N := some 150) (v := ?_) (a' := ?_) #[true, true, true, true, true, true, true, true, true, true, true, true, true, true, false, false, false, false, false, false, false, false, false, false, false, false, false, false, false, false, false] rfl rfl (by kernel_rfl) (fun _ _ _ h => h) (Or.inl ⟨by rfl, ?_⟩) ?_ ?_
            rotate_left
            · intro w'
              go_simp
              with_reducible rfl
            rotate_left
            · simp only [Act.put, List.setIfInBounds_toArray, List.set_cons_zero, List.set_cons_succ, i64_w, i32_w]
              rfl
            refine pure_ (i := 14) (N := some 151) (v := ?_) (a' := ?_) #[true, true, true, true, true, true, true, true, true, true, true, true, true, true, true, false, false, false, false, false, false, false, false, false, false, false, false, false, false, false, false] rfl rfl (by kernel_rfl) (fun _ _ _ h => h) (Or.inl ⟨by rfl, ?_⟩) ?_ ?_
            rotate_left
            · intro w'
              go_simp
              with_reducible rfl
            rotate_left
            · simp only [Act.put, List.setIfInBounds_toArray, List.set_cons_zero, List.set_cons_succ, i64_w, i32_w]
              rfl
            refine pure_ (i := 15) (N := some 152) (v := ?_) (a' := ?_) #[true, true, true, true, true, true, true, true, true, true, true, true, true, true, true, true, false, false, false, false, false, false, false, false, false, false, false, false, false, false, false] rfl rfl (by kernel_rfl) (fun _ _ _ h => h) (Or.inl ⟨by rfl, ?_⟩) ?_ ?_
            rotate_left
            · intro w'
              go_simp
              with_reducible rfl
            rotate_left
            · simp only [Act.put, List.setIfInBounds_toArray, List.set_cons_zero, List.set_cons_succ, i64_w, i32_w]
              rfl
            refine pure_ (i := 17) (N := some 154) (v := ?_) (a' := ?_) #[true, true, true, true, true, true, true, true, true, true, true, true, true, true, true, true, false, true, false, false, false, false, false, false, false, false, false, false, false, false, false] rfl rfl (by kernel_rfl) (fun _ _ _ h => h) (Or.inl ⟨by rfl, ?_⟩) ?_ ?_
            rotate_left
            · intro w'
              go_simp
              with_reducible rfl
            rotate_left
            · simp only [Act.put, List.setIfInBounds_toArray, List.set_cons_zero, List.set_cons_succ, i64_w, i32_w]
              rfl
            refine pure_ (i := 18) (N := some 155) (v := ?_) (a' := ?_) #[true, true, true, true, true, true, true, true, true, true, true, true, true, true, true, true, false, true, true, false, false, false, false, false, false, false, false, false, false, false, false] rfl rfl (by kernel_rfl) (fun _ _ _ h => h) (Or.inl ⟨by rfl, ?_⟩) ?_ ?_
            rotate_left
            · intro w'
              go_simp
              with_reducible rfl
            rotate_left
            · simp only [Act.put, List.setIfInBounds_toArray, List.set_cons_zero, List.set_cons_succ, i64_w, i32_w]
              rfl
            refine pure_ (i := 19) (N := some 156) (v := ?_) (a' := ?_) #[true, true, true, true, true, true, true, true, true, true, true, true, true, true, true, true, false, true, true, true, false, false, false, false, false, false, false, false, false, false, false] rfl rfl (by kernel_rfl) (fun _ _ _ h => h) (Or.inl ⟨by rfl, ?_⟩) ?_ ?_
            rotate_left
            · intro w'
              go_simp
              with_reducible rfl
            rotate_left
            · simp only [Act.put, List.setIfInBounds_toArray, List.set_cons_zero, List.set_cons_succ, i64_w, i32_w]
              rfl
            refine take_ (i := 20) (N := some 157) (v := ?_) (a' := ?_) #[true, true, true, true, true, true, true, true, true, true, true, true, true, true, true, true, false, true, true, true, true, false, false, false, false, false, false, false, false, false, false] rfl rfl (by kernel_rfl) (fun _ _ _ h => h) (Or.inl ⟨by rfl, ?_⟩) hHeld ?_ ?_
            rotate_left
            · rintro w' h0_
              go_simp
              with_reducible rfl
            rotate_left
            · simp only [Act.put, List.setIfInBounds_toArray, List.set_cons_zero, List.set_cons_succ, i64_w, i32_w]
              rfl
            refine pure_ (i := 21) (N := some 158) (v := ?_) (a' := ?_) #[true, true, true, true, true, true, true, true, true, true, true, true, true, true, true, true, false, true, true, true, true, true, false, false, false, false, false, false, false, false, false] rfl rfl (by kernel_rfl) (fun _ _ _ h => h) (Or.inl ⟨by rfl, ?_⟩) ?_ ?_
            rotate_left
            · intro w'
              go_simp
              with_reducible rfl
            rotate_left
            · simp only [Act.put, List.setIfInBounds_toArray, List.set_cons_zero, List.set_cons_succ, i64_w, i32_w]
              rfl
            refine one_ (i := 16) (N := some 153) #[true, true, true, true, true, true, true, true, true, true, true, true, true, true, true, true, true, true, true, true, true, true, false, false, false, false, false, false, false, false, false] rfl rfl (by kernel_rfl) (by decide) (fun K hK => ?_)
            refine goes_ Try.func27 (by kernel_rfl) rfl #[.pointer (some ⟨g, 0, none⟩)] (by rfl) rfl rfl (by (try simp only [List.map_toArray, List.map_cons, List.map_nil]); first | done | rfl) ?_
            (with_reducible refine (len_calls _ g b L (HVt.out.1.below (below_step HBd.out HD9.out))).mono ?_)
            rintro e_ w10 ⟨rfl, rfl⟩
            refine ⟨_, rfl, ?_⟩
            refine hK.out _ _ (Rv.cell (HRt.out.below (below_step HBd.out HD9.out))) (fun hHeld => ?_)
            clear hK K
            refine norm_ (a' := ?_) ?_ ?_
            rotate_left
            · show Act.put _ (some 153) _ = _
              simp only [Act.put, List.setIfInBounds_toArray, List.set_cons_zero, List.set_cons_succ, i64_w, i32_w]
              rfl
            refine pure_ (i := 22) (N := some 159) (v := ?_) (a' := ?_) #[true, true, true, true, true, true, true, true, true, true, true, true, true, true, true, true, true, true, true, true, true, true, true, false, false, false, false, false, false, false, false] rfl rfl (by kernel_rfl) (fun _ _ _ h => h) (Or.inl ⟨by rfl, ?_⟩) ?_ ?_
            rotate_left
            · intro w'
              go_simp
              with_reducible rfl
            rotate_left
            · simp only [Act.put, List.setIfInBounds_toArray, List.set_cons_zero, List.set_cons_succ, i64_w, i32_w]
              rfl
            refine pure_ (i := 23) (N := some 160) (v := ?_) (a' := ?_) #[true, true, true, true, true, true, true, true, true, true, true, true, true, true, true, true, true, true, true, true, true, true, true, true, false, false, false, false, false, false, false] rfl rfl (by kernel_rfl) (fun _ _ _ h => h) (Or.inl ⟨by rfl, ?_⟩) ?_ ?_
            rotate_left
            · intro w'
              go_simp
              with_reducible rfl
            rotate_left
            · simp only [Act.put, List.setIfInBounds_toArray, List.set_cons_zero, List.set_cons_succ, i64_w, i32_w]
              rfl
            refine pure_ (i := 24) (N := some 161) (v := ?_) (a' := ?_) #[true, true, true, true, true, true, true, true, true, true, true, true, true, true, true, true, true, true, true, true, true, true, true, true, true, false, false, false, false, false, false] rfl rfl (by kernel_rfl) (fun _ _ _ h => h) (Or.inl ⟨by rfl, ?_⟩) ?_ ?_
            rotate_left
            · intro w'
              go_simp
              with_reducible rfl
            rotate_left
            · simp only [Act.put, List.setIfInBounds_toArray, List.set_cons_zero, List.set_cons_succ, i64_w, i32_w]
              rfl
            refine pure_ (i := 25) (N := some 162) (v := ?_) (a' := ?_) #[true, true, true, true, true, true, true, true, true, true, true, true, true, true, true, true, true, true, true, true, true, true, true, true, true, true, false, false, false, false, false] rfl rfl (by kernel_rfl) (fun _ _ _ h => h) (Or.inl ⟨by rfl, ?_⟩) ?_ ?_
            rotate_left
            · intro w'
              go_simp
              with_reducible rfl
            rotate_left
            · simp only [Act.put, List.setIfInBounds_toArray, List.set_cons_zero, List.set_cons_succ, i64_w, i32_w]
              rfl
            refine pure_ (i := 26) (N := some 163) (v := ?_) (a' := ?_) #[true, true, true, true, true, true, true, true, true, true, true, true, true, true, true, true, true, true, true, true, true, true, true, true, true, true, true, false, false, false, false] rfl rfl (by kernel_rfl) (fun _ _ _ h => h) (Or.inl ⟨by rfl, ?_⟩) ?_ ?_
            rotate_left
            · intro w'
              go_simp
              with_reducible rfl
            rotate_left
            · simp only [Act.put, List.setIfInBounds_toArray, List.set_cons_zero, List.set_cons_succ, i64_w, i32_w]
              rfl
            refine one_ (i := 27) (N := some 164) #[true, true, true, true, true, true, true, true, true, true, true, true, true, true, true, true, true, true, true, true, true, true, true, true, true, true, true, true, false, false, false] rfl rfl (by kernel_rfl) (by decide) (fun K hK => ?_)
            refine goes_ Try.func24 (by kernel_rfl) rfl #[.pointer (some ⟨g, 0, none⟩)] (by rfl) rfl rfl (by (try simp only [List.map_toArray, List.map_cons, List.map_nil]); first | done | rfl) ?_
            (with_reducible refine (copy_calls _ g b L (HVt.out.1.below (below_step HBd.out HD9.out))).mono ?_)
            rintro e_ w10 ⟨g9, b9, rfl, h1_, _, _, h2_⟩
            have HV10 := Aside0.mk h1_
            have HD10 := Aside0.mk (below_step HD9.out h2_)
            clear h1_ h2_
            refine ⟨_, rfl, ?_⟩
            refine hK.out _ _ (Rv.cell (HRt.out.below (below_step HBd.out HD10.out))) (fun hHeld => ?_)
            clear hK K
            refine norm_ (a' := ?_) ?_ ?_
            rotate_left
            · show Act.put _ (some 164) _ = _
              simp only [Act.put, List.setIfInBounds_toArray, List.set_cons_zero, List.set_cons_succ, i64_w, i32_w]
              rfl
            refine last_ (i := 28) (N := some 165) #[true, true, true, true, true, true, true, true, true, true, true, true, true, true, true, true, true, true, true, true, true, true, true, true, true, true, true, true, true, false, false] rfl rfl (by kernel_rfl) (by decide) (fun K hK => ?_)
            refine goes_ Try.func18 (by kernel_rfl) rfl #[.pointer (some ⟨g, 0, none⟩), .pointer (some ⟨g9, 0, none⟩)] (by rfl) rfl rfl (by (try simp only [List.map_toArray, List.map_cons, List.map_nil]); first | done | rfl) ?_
            (with_reducible refine (same_calls _ g b g9 b9 L L (HVt.out.1.below (below_step HBd.out HD10.out)) HV10.out).mono ?_)
            rintro e_ w11 ⟨rr, rfl, h1_, h2_⟩
            obtain rfl := h1_.2 rfl
            have HD11 := Aside0.mk (below_step HD10.out h2_)
            clear h1_ h2_
            refine ⟨_, rfl, ?_⟩
            refine hK.out _ _ ?_
            clear hK K
            refine norm_ (a' := ?_) ?_ ?_
            rotate_left
            · show Act.put _ (some 165) _ = _
              simp only [Act.put, List.setIfInBounds_toArray, List.set_cons_zero, List.set_cons_succ, i64_w, i32_w]
              rfl
            refine pure_ (i := 29) (N := some 166) (v := ?_) (a' := ?_) #[true, true, true, true, true, true, true, true, true, true, true, true, true, true, true, true, true, true, true, true, true, true, true, true, true, true, true, true, true, true, false] rfl rfl (by kernel_rfl) (fun _ _ _ h => h) (Or.inl ⟨by rfl, ?_⟩) ?_ ?_
            rotate_left
            · intro w'
              go_simp
              with_reducible rfl
            rotate_left
            · simp only [Act.put, List.setIfInBounds_toArray, List.set_cons_zero, List.set_cons_succ, i64_w, i32_w]
              rfl
            refine pure_ (i := 30) (N := some 167) (v := ?_) (a' := ?_) #[true, true, true, true, true, true, true, true, true, true, true, true, true, true, true, true, true, true, true, true, true, true, true, true, true, true, true, true, true, true, true] rfl rfl (by kernel_rfl) (fun _ _ _ h => h) (Or.inl ⟨by rfl, ?_⟩) ?_ ?_
            rotate_left
            · intro w'
              go_simp
              with_reducible rfl
            rotate_left
            · simp only [Act.put, List.setIfInBounds_toArray, List.set_cons_zero, List.set_cons_succ, i64_w, i32_w]
              rfl
            refine done_ (by kernel_rfl) ?_
            have HOe5 := Aside0.mk (HOd5.out.below HD11.out)
            have HOe6 := Aside0.mk (HOd6.out.below HD11.out)
            have HB11 := Aside0.mk (below_step HBd.out HD11.out)
            clear HOd5 HOd6 HD7 HD8 HD9 HD10 HD11 HC8 HL8 HV10 HEQ HEL HBd
            go_upto_region 30 with (first | (go_at_call 28; (with_reducible refine (spoil_calls _ wt.heap.size cap5 L.length p5 L HOe5.out (by have := HVt.out.2.1; omega)).mono ?_); rintro e w12 ⟨rfl, h1_, h2_⟩; have HB12 := Aside0.mk (HB11.out.trans (h1_ _ (Nat.le_refl _) HB11.out.size)); have HOf6 := Aside0.mk (h2_ _ _ _ _ _ HOe6.out (Or.inr HP5.out)); clear h1_ h2_))
            go_wp2_with (first | (go_at_call 28; (with_reducible refine (spoil_calls _ w5.heap.size cap6 (liveL L).length p6 (liveL L) HOf6.out (by have := HVt.out.2.1; have := liveL_le L; omega)).mono ?_); rintro e w13 ⟨rfl, h1_, h2_⟩; have HB13 := Aside0.mk (HB12.out.trans (h1_ _ HS5.out HB12.out.size)); clear h1_ h2_))
            go_roundw
            case rel => exact ⟨k + 1, g, b, p, c2, L, by have := HLT.out; omega, rfl, by go_num, ⟨HVt.out.1.below HB13.out, HVt.out.2⟩, ⟨HRt.out.below HB13.out⟩, ⟨below_step HBt.out HB13.out⟩, HGt⟩
            case measure => have := HLT.out; simp [intOf, wrap64]; omega
          · have e1 : (d == 1) = false := by simpa using hd1
            by_cases hd2 : d = 2
            · subst hd2
              go_upto_region 20 with (fail)
              clear x0_
              go_upto_region 26 with (first | (go_at_call 24; (with_reducible refine (copy_calls _ g b L HV.out.1).mono ?_); rintro e w4 ⟨g4, b4, rfl, h1_, h2_, h3_, h4_⟩; have HVt := Aside0.mk (And.intro h1_ HV.out.2); have HRt := Aside0.mk (HR.out.below h4_); have HBt := Aside0.mk (below_step HB.out h4_); have HGt : Aside0 (w.heap.size ≤ g4 ∧ w.heap.size ≤ b4 ∧ ∀ a, p = some a → w.heap.size ≤ a.block) := ⟨Nat.le_trans HB.out.size h2_, Nat.le_trans HB.out.size h3_, HG.out.2.2⟩; clear h1_ h2_ h3_ h4_))
              clear HV HR HB HG
              go_upto_region 27 with (first
                | (go_at_call 16; (with_reducible refine (list_calls _ g4 b4 L HVt.out.1 (by have := HVt.out.2.1; omega)).mono ?_); rintro e w5 ⟨v5, rfl, h1_, h2_⟩; obtain ⟨p5, cap5, rfl, hcap_, hcm_, hp_⟩ := rowP h1_ rfl; have HO5 : Aside0 (Ro w5 w4.heap.size p5 cap5 L.length L) := ⟨⟨rfl, ⟨hcap_, hcm_⟩, hp_⟩⟩; have HB5 : Aside0 (Below w4.heap.size w4 w5) := ⟨h2_⟩; clear h1_ h2_ hcap_ hcm_ hp_)
                | (go_at_call 25; (with_reducible refine (live_calls _ g4 b4 L (HVt.out.1.below HB5.out) (by have := HVt.out.2.1; omega)).mono ?_); rintro e w6 ⟨v6, rfl, h1_, h2_⟩; obtain ⟨p6, cap6, rfl, hcap_, hcm_, hp_⟩ := rowP h1_ rfl; have HO6 : Aside0 (Ro w6 w5.heap.size p6 cap6 (liveL L).length (liveL L)) := ⟨⟨rfl, ⟨hcap_, hcm_⟩, hp_⟩⟩; have HO5' := Aside0.mk (HO5.out.below h2_); have HP5 := Aside0.mk HO5.out.lt; have HB6 := Aside0.mk (below_step HB5.out h2_); have HS5 := Aside0.mk HB5.out.size; clear h1_ h2_ hcap_ hcm_ hp_))
              have HBd := Aside0.mk (below_drew1 HB6.out)
              have HOd5 := Aside0.mk (HO5'.out.below (below_drew1 (Below.refl _ _)))
              have HOd6 := Aside0.mk (HO6.out.below (below_drew1 (Below.refl _ _)))
              obtain ⟨ke, hke⟩ := equal_same L (by have := HVt.out.2.1; omega)
              obtain ⟨kl, hkl⟩ := equal_same (liveL L) (by have := HVt.out.2.1; have := liveL_le L; omega)
              have HEQ := Aside0.mk hke
              have HEL := Aside0.mk hkl
              clear hke hkl HO5 HO5' HO6 HB5 HB6
              refine start_ (n := 31) (S := (fun w' => w'.cell? ⟨h, 0, none⟩ = some (.slice p L.length c2))) (ds := [28]) #[false, false, false, false, false, false, false, false, false, false, false, false, false, false, false, false, false, false, false, false, false, false, false, false, false, false, false, false, false, false, false] (by kernel_rfl) rfl rfl (Rv.cell (HRt.out.below HBd.out)) (fun hHeld => ?_)
              generalize w6.drew = wd at HBd HOd5 HOd6 hHeld ⊢
              refine pure_ (i := 0) (N := some 137) (v := ?_) (a' := ?_) #[true, false, false, false, false, false, false, false, false, false, false, false, false, false, false, false, false, false, false, false, false, false, false, false, false, false, false, false, false, false, false] rfl rfl (by kernel_rfl) (fun _ _ _ h => h) (Or.inl ⟨by rfl, ?_⟩) ?_ ?_
              rotate_left
              · intro w'
                go_simp
                with_reducible rfl
              rotate_left
              · simp only [Act.put, List.setIfInBounds_toArray, List.set_cons_zero, List.set_cons_succ, i64_w, i32_w]
                rfl
              refine pure_ (i := 1) (N := some 138) (v := ?_) (a' := ?_) #[true, true, false, false, false, false, false, false, false, false, false, false, false, false, false, false, false, false, false, false, false, false, false, false, false, false, false, false, false, false, false] rfl rfl (by kernel_rfl) (fun _ _ _ h => h) (Or.inl ⟨by rfl, ?_⟩) ?_ ?_
              rotate_left
              · intro w'
                go_simp
                with_reducible rfl
              rotate_left
              · simp only [Act.put, List.setIfInBounds_toArray, List.set_cons_zero, List.set_cons_succ, i64_w, i32_w]
                rfl
              refine pure_ (i := 2) (N := some 139) (v := ?_) (a' := ?_) #[true, true, true, false, false, false, false, false, false, false, false, false, false, false, false, false, false, false, false, false, false, false, false, false, false, false, false, false, false, false, false] rfl rfl (by kernel_rfl) (fun _ _ _ h => h) (Or.inl ⟨by rfl, ?_⟩) ?_ ?_
              rotate_left
              · intro w'
                go_simp
                with_reducible rfl
              rotate_left
              · simp only [Act.put, List.setIfInBounds_toArray, List.set_cons_zero, List.set_cons_succ, i64_w, i32_w]
                rfl
              refine pure_ (i := 3) (N := some 140) (v := ?_) (a' := ?_) #[true, true, true, true, false, false, false, false, false, false, false, false, false, false, false, false, false, false, false, false, false, false, false, false, false, false, false, false, false, false, false] rfl rfl (by kernel_rfl) (fun _ _ _ h => h) (Or.inl ⟨by rfl, ?_⟩) ?_ ?_
              rotate_left
              · intro w'
                go_simp
                with_reducible rfl
              rotate_left
              · simp only [Act.put, List.setIfInBounds_toArray, List.set_cons_zero, List.set_cons_succ, i64_w, i32_w]
                rfl
              refine take_ (i := 4) (N := some 141) (v := ?_) (a' := ?_) #[true, true, true, true, true, false, false, false, false, false, false, false, false, false, false, false, false, false, false, false, false, false, false, false, false, false, false, false, false, false, false] rfl rfl (by kernel_rfl) (fun _ _ _ h => h) (Or.inl ⟨by rfl, ?_⟩) hHeld ?_ ?_
              rotate_left
              · rintro w' h0_
                go_simp
                with_reducible rfl
              rotate_left
              · simp only [Act.put, List.setIfInBounds_toArray, List.set_cons_zero, List.set_cons_succ, i64_w, i32_w]
                rfl
              refine one_ (i := 5) (N := some 142) #[true, true, true, true, true, true, false, false, false, false, false, false, false, false, false, false, false, false, false, false, false, false, false, false, false, false, false, false, false, false, false] rfl rfl (by kernel_rfl) (by decide) (fun K hK => ?_)
              refine goes_ Try.func19 (by kernel_rfl) rfl #[.slice p5 L.length cap5, .slice p L.length c2] (by rfl) rfl rfl (by (try simp only [List.map_toArray, List.map_cons, List.map_nil]); first | done | rfl) ?_
              (with_reducible refine (hearsayref17_Equal.calls ke p5 cap5 L p c2 L true _ HOd5.out.C HOd5.out.capl.1 (HRt.out.below HBd.out).C HRt.out.cap.1 HEQ.out).mono ?_)
              rintro e_ w7 ⟨rfl, h1_⟩
              have HD7 := Aside0.mk (Drawn0.below h1_)
              clear h1_
              refine ⟨_, rfl, ?_⟩
              refine hK.out _ _ (Rv.cell (HRt.out.below (below_step HBd.out HD7.out))) (fun hHeld => ?_)
              clear hK K
              refine norm_ (a' := ?_) ?_ ?_
              rotate_left
              · show Act.put _ (some 142) _ = _
                simp only [Act.put, List.setIfInBounds_toArray, List.set_cons_zero, List.set_cons_succ, i64_w, i32_w]
                rfl
              refine pure_ (i := 6) (N := some 143) (v := ?_) (a' := ?_) #[true, true, true, true, true, true, true, false, false, false, false, false, false, false, false, false, false, false, false, false, false, false, false, false, false, false, false, false, false, false, false] rfl rfl (by kernel_rfl) (fun _ _ _ h => h) (Or.inl ⟨by rfl, ?_⟩) ?_ ?_
              rotate_left
              · intro w'
                go_simp
                with_reducible rfl
              rotate_left
              · simp only [Act.put, List.setIfInBounds_toArray, List.set_cons_zero, List.set_cons_succ, i64_w, i32_w]
                rfl
              refine pure_ (i := 7) (N := some 144) (v := ?_) (a' := ?_) #[true, true, true, true, true, true, true, true, false, false, false, false, false, false, false, false, false, false, false, false, false, false, false, false, false, false, false, false, false, false, false] rfl rfl (by kernel_rfl) (fun _ _ _ h => h) (Or.inl ⟨by rfl, ?_⟩) ?_ ?_
              rotate_left
              · intro w'
                go_simp
                with_reducible rfl
              rotate_left
              · simp only [Act.put, List.setIfInBounds_toArray, List.set_cons_zero, List.set_cons_succ, i64_w, i32_w]
                rfl
              refine pure_ (i := 8) (N := some 145) (v := ?_) (a' := ?_) #[true, true, true, true, true, true, true, true, true, false, false, false, false, false, false, false, false, false, false, false, false, false, false, false, false, false, false, false, false, false, false] rfl rfl (by kernel_rfl) (fun _ _ _ h => h) (Or.inl ⟨by rfl, ?_⟩) ?_ ?_
              rotate_left
              · intro w'
                go_simp
                with_reducible rfl
              rotate_left
              · simp only [Act.put, List.setIfInBounds_toArray, List.set_cons_zero, List.set_cons_succ, i64_w, i32_w]
                rfl
              refine pure_ (i := 9) (N := some 146) (v := ?_) (a' := ?_) #[true, true, true, true, true, true, true, true, true, true, false, false, false, false, false, false, false, false, false, false, false, false, false, false, false, false, false, false, false, false, false] rfl rfl (by kernel_rfl) (fun _ _ _ h => h) (Or.inl ⟨by rfl, ?_⟩) ?_ ?_
              rotate_left
              · intro w'
                go_simp
                with_reducible rfl
              rotate_left
              · simp only [Act.put, List.setIfInBounds_toArray, List.set_cons_zero, List.set_cons_succ, i64_w, i32_w]
                rfl
              refine one_ (i := 10) (N := some 147) #[true, true, true, true, true, true, true, true, true, true, true, false, false, false, false, false, false, false, false, false, false, false, false, false, false, false, false, false, false, false, false] rfl rfl (by kernel_rfl) (by decide) (fun K hK => ?_)
              refine goes_ Try.func26 (by kernel_rfl) rfl #[.pointer (some ⟨h, 0, none⟩)] (by rfl) rfl rfl (by (try simp only [List.map_toArray, List.map_cons, List.map_nil]); first | done | rfl) ?_
              (with_reducible refine (reflive_calls _ h c2 p L (HRt.out.below (below_step HBd.out HD7.out)) (by have := HVt.out.2.1; omega) HVt.out.2.2).mono ?_)
              rintro e_ w8 ⟨A8, c8, rfl, h8_, hC8_, h1_⟩
              have HC8 := Aside0.mk hC8_
              have HL8 := Aside0.mk h8_
              have HD8 := Aside0.mk (below_step HD7.out h1_)
              clear h1_ hC8_ h8_
              refine ⟨_, rfl, ?_⟩
              refine hK.out _ _ (Rv.cell (HRt.out.below (below_step HBd.out HD8.out))) (fun hHeld => ?_)
              clear hK K
              refine norm_ (a' := ?_) ?_ ?_
              rotate_left
              · show Act.put _ (some 147) _ = _
                simp only [Act.put, List.setIfInBounds_toArray, List.set_cons_zero, List.set_cons_succ, i64_w, i32_w]
                rfl
              refine one_ (i := 11) (N := some 148) #[true, true, true, true, true, true, true, true, true, true, true, true, false, false, false, false, false, false, false, false, false, false, false, false, false, false, false, false, false, false, false] rfl rfl (by kernel_rfl) (by decide) (fun K hK => ?_)
              refine goes_ Try.func19 (by kernel_rfl) rfl #[.slice p6 (liveL L).length cap6, .slice A8 (liveL L).length c8] (by rfl) rfl rfl (by (try simp only [List.map_toArray, List.map_cons, List.map_nil]); first | done | rfl) ?_
              (with_reducible refine (hearsayref17_Equal.calls kl p6 cap6 (liveL L) A8 c8 (liveL L) true _ (HOd6.out.below HD8.out).C HOd6.out.capl.1 HC8.out HL8.out HEL.out).mono ?_)
              rintro e_ w9 ⟨rfl, h1_⟩
              have HD9 := Aside0.mk (below_step HD8.out (Drawn0.below h1_))
              clear h1_
              refine ⟨_, rfl, ?_⟩
              refine hK.out _ _ (Rv.cell (HRt.out.below (below_step HBd.out HD9.out))) (fun hHeld => ?_)
              clear hK K
              refine norm_ (a' := ?_) ?_ ?_
              rotate_left
              · show Act.put _ (some 148) _ = _
                simp only [Act.put, List.setIfInBounds_toArray, List.set_cons_zero, List.set_cons_succ, i64_w, i32_w]
                rfl
              refine pure_ (i := 12) (N := some 149) (v := ?_) (a' := ?_) #[true, true, true, true, true, true, true, true, true, true, true, true, true, false, false, false, false, false, false, false, false, false, false, false, false, false, false, false, false, false, false] rfl rfl (by kernel_rfl) (fun _ _ _ h => h) (Or.inl ⟨by rfl, ?_⟩) ?_ ?_
              rotate_left
              · intro w'
                go_simp
                with_reducible rfl
              rotate_left
              · simp only [Act.put, List.setIfInBounds_toArray, List.set_cons_zero, List.set_cons_succ, i64_w, i32_w]
                rfl
              refine pure_ (i := 13) (N := some 150) (v := ?_) (a' := ?_) #[true, true, true, true, true, true, true, true, true, true, true, true, true, true, false, false, false, false, false, false, false, false, false, false, false, false, false, false, false, false, false] rfl rfl (by kernel_rfl) (fun _ _ _ h => h) (Or.inl ⟨by rfl, ?_⟩) ?_ ?_
              rotate_left
              · intro w'
                go_simp
                with_reducible rfl
              rotate_left
              · simp only [Act.put, List.setIfInBounds_toArray, List.set_cons_zero, List.set_cons_succ, i64_w, i32_w]
                rfl
              refine pure_ (i := 14) (N := some 151) (v := ?_) (a' := ?_) #[true, true, true, true, true, true, true, true, true, true, true, true, true, true, true, false, false, false, false, false, false, false, false, false, false, false, false, false, false, false, false] rfl rfl (by kernel_rfl) (fun _ _ _ h => h) (Or.inl ⟨by rfl, ?_⟩) ?_ ?_
              rotate_left
              · intro w'
                go_simp
                with_reducible rfl
              rotate_left
              · simp only [Act.put, List.setIfInBounds_toArray, List.set_cons_zero, List.set_cons_succ, i64_w, i32_w]
                rfl
              refine pure_ (i := 15) (N := some 152) (v := ?_) (a' := ?_) #[true, true, true, true, true, true, true, true, true, true, true, true, true, true, true, true, false, false, false, false, false, false, false, false, false, false, false, false, false, false, false] rfl rfl (by kernel_rfl) (fun _ _ _ h => h) (Or.inl ⟨by rfl, ?_⟩) ?_ ?_
              rotate_left
              · intro w'
                go_simp
                with_reducible rfl
              rotate_left
              · simp only [Act.put, List.setIfInBounds_toArray, List.set_cons_zero, List.set_cons_succ, i64_w, i32_w]
                rfl
              refine pure_ (i := 17) (N := some 154) (v := ?_) (a' := ?_) #[true, true, true, true, true, true, true, true, true, true, true, true, true, true, true, true, false, true, false, false, false, false, false, false, false, false, false, false, false, false, false] rfl rfl (by kernel_rfl) (fun _ _ _ h => h) (Or.inl ⟨by rfl, ?_⟩) ?_ ?_
              rotate_left
              · intro w'
                go_simp
                with_reducible rfl
              rotate_left
              · simp only [Act.put, List.setIfInBounds_toArray, List.set_cons_zero, List.set_cons_succ, i64_w, i32_w]
                rfl
              refine pure_ (i := 18) (N := some 155) (v := ?_) (a' := ?_) #[true, true, true, true, true, true, true, true, true, true, true, true, true, true, true, true, false, true, true, false, false, false, false, false, false, false, false, false, false, false, false] rfl rfl (by kernel_rfl) (fun _ _ _ h => h) (Or.inl ⟨by rfl, ?_⟩) ?_ ?_
              rotate_left
              · intro w'
                go_simp
                with_reducible rfl
              rotate_left
              · simp only [Act.put, List.setIfInBounds_toArray, List.set_cons_zero, List.set_cons_succ, i64_w, i32_w]
                rfl
              refine pure_ (i := 19) (N := some 156) (v := ?_) (a' := ?_) #[true, true, true, true, true, true, true, true, true, true, true, true, true, true, true, true, false, true, true, true, false, false, false, false, false, false, false, false, false, false, false] rfl rfl (by kernel_rfl) (fun _ _ _ h => h) (Or.inl ⟨by rfl, ?_⟩) ?_ ?_
              rotate_left
              · intro w'
                go_simp
                with_reducible rfl
              rotate_left
              · simp only [Act.put, List.setIfInBounds_toArray, List.set_cons_zero, List.set_cons_succ, i64_w, i32_w]
                rfl
              refine take_ (i := 20) (N := some 157) (v := ?_) (a' := ?_) #[true, true, true, true, true, true, true, true, true, true, true, true, true, true, true, true, false, true, true, true, true, false, false, false, false, false, false, false, false, false, false] rfl rfl (by kernel_rfl) (fun _ _ _ h => h) (Or.inl ⟨by rfl, ?_⟩) hHeld ?_ ?_
              rotate_left
              · rintro w' h0_
                go_simp
                with_reducible rfl
              rotate_left
              · simp only [Act.put, List.setIfInBounds_toArray, List.set_cons_zero, List.set_cons_succ, i64_w, i32_w]
                rfl
              refine pure_ (i := 21) (N := some 158) (v := ?_) (a' := ?_) #[true, true, true, true, true, true, true, true, true, true, true, true, true, true, true, true, false, true, true, true, true, true, false, false, false, false, false, false, false, false, false] rfl rfl (by kernel_rfl) (fun _ _ _ h => h) (Or.inl ⟨by rfl, ?_⟩) ?_ ?_
              rotate_left
              · intro w'
                go_simp
                with_reducible rfl
              rotate_left
              · simp only [Act.put, List.setIfInBounds_toArray, List.set_cons_zero, List.set_cons_succ, i64_w, i32_w]
                rfl
              refine one_ (i := 16) (N := some 153) #[true, true, true, true, true, true, true, true, true, true, true, true, true, true, true, true, true, true, true, true, true, true, false, false, false, false, false, false, false, false, false] rfl rfl (by kernel_rfl) (by decide) (fun K hK => ?_)
              refine goes_ Try.func27 (by kernel_rfl) rfl #[.pointer (some ⟨g4, 0, none⟩)] (by rfl) rfl rfl (by (try simp only [List.map_toArray, List.map_cons, List.map_nil]); first | done | rfl) ?_
              (with_reducible refine (len_calls _ g4 b4 L (HVt.out.1.below (below_step HBd.out HD9.out))).mono ?_)
              rintro e_ w10 ⟨rfl, rfl⟩
              refine ⟨_, rfl, ?_⟩
              refine hK.out _ _ (Rv.cell (HRt.out.below (below_step HBd.out HD9.out))) (fun hHeld => ?_)
              clear hK K
              refine norm_ (a' := ?_) ?_ ?_
              rotate_left
              · show Act.put _ (some 153) _ = _
                simp only [Act.put, List.setIfInBounds_toArray, List.set_cons_zero, List.set_cons_succ, i64_w, i32_w]
                rfl
              refine pure_ (i := 22) (N := some 159) (v := ?_) (a' := ?_) #[true, true, true, true, true, true, true, true, true, true, true, true, true, true, true, true, true, true, true, true, true, true, true, false, false, false, false, false, false, false, false] rfl rfl (by kernel_rfl) (fun _ _ _ h => h) (Or.inl ⟨by rfl, ?_⟩) ?_ ?_
              rotate_left
              · intro w'
                go_simp
                with_reducible rfl
              rotate_left
              · simp only [Act.put, List.setIfInBounds_toArray, List.set_cons_zero, List.set_cons_succ, i64_w, i32_w]
                rfl
              refine pure_ (i := 23) (N := some 160) (v := ?_) (a' := ?_) #[true, true, true, true, true, true, true, true, true, true, true, true, true, true, true, true, true, true, true, true, true, true, true, true, false, false, false, false, false, false, false] rfl rfl (by kernel_rfl) (fun _ _ _ h => h) (Or.inl ⟨by rfl, ?_⟩) ?_ ?_
              rotate_left
              · intro w'
                go_simp
                with_reducible rfl
              rotate_left
              · simp only [Act.put, List.setIfInBounds_toArray, List.set_cons_zero, List.set_cons_succ, i64_w, i32_w]
                rfl
              refine pure_ (i := 24) (N := some 161) (v := ?_) (a' := ?_) #[true, true, true, true, true, true, true, true, true, true, true, true, true, true, true, true, true, true, true, true, true, true, true, true, true, false, false, false, false, false, false] rfl rfl (by kernel_rfl) (fun _ _ _ h => h) (Or.inl ⟨by rfl, ?_⟩) ?_ ?_
              rotate_left
              · intro w'
                go_simp
                with_reducible rfl
              rotate_left
              · simp only [Act.put, List.setIfInBounds_toArray, List.set_cons_zero, List.set_cons_succ, i64_w, i32_w]
                rfl
              refine pure_ (i := 25) (N := some 162) (v := ?_) (a' := ?_) #[true, true, true, true, true, true, true, true, true, true, true, true, true, true, true, true, true, true, true, true, true, true, true, true, true, true, false, false, false, false, false] rfl rfl (by kernel_rfl) (fun _ _ _ h => h) (Or.inl ⟨by rfl, ?_⟩) ?_ ?_
              rotate_left
              · intro w'
                go_simp
                with_reducible rfl
              rotate_left
              · simp only [Act.put, List.setIfInBounds_toArray, List.set_cons_zero, List.set_cons_succ, i64_w, i32_w]
                rfl
              refine pure_ (i := 26) (N := some 163) (v := ?_) (a' := ?_) #[true, true, true, true, true, true, true, true, true, true, true, true, true, true, true, true, true, true, true, true, true, true, true, true, true, true, true, false, false, false, false] rfl rfl (by kernel_rfl) (fun _ _ _ h => h) (Or.inl ⟨by rfl, ?_⟩) ?_ ?_
              rotate_left
              · intro w'
                go_simp
                with_reducible rfl
              rotate_left
              · simp only [Act.put, List.setIfInBounds_toArray, List.set_cons_zero, List.set_cons_succ, i64_w, i32_w]
                rfl
              refine one_ (i := 27) (N := some 164) #[true, true, true, true, true, true, true, true, true, true, true, true, true, true, true, true, true, true, true, true, true, true, true, true, true, true, true, true, false, false, false] rfl rfl (by kernel_rfl) (by decide) (fun K hK => ?_)
              refine goes_ Try.func24 (by kernel_rfl) rfl #[.pointer (some ⟨g4, 0, none⟩)] (by rfl) rfl rfl (by (try simp only [List.map_toArray, List.map_cons, List.map_nil]); first | done | rfl) ?_
              (with_reducible refine (copy_calls _ g4 b4 L (HVt.out.1.below (below_step HBd.out HD9.out))).mono ?_)
              rintro e_ w10 ⟨g9, b9, rfl, h1_, _, _, h2_⟩
              have HV10 := Aside0.mk h1_
              have HD10 := Aside0.mk (below_step HD9.out h2_)
              clear h1_ h2_
              refine ⟨_, rfl, ?_⟩
              refine hK.out _ _ (Rv.cell (HRt.out.below (below_step HBd.out HD10.out))) (fun hHeld => ?_)
              clear hK K
              refine norm_ (a' := ?_) ?_ ?_
              rotate_left
              · show Act.put _ (some 164) _ = _
                simp only [Act.put, List.setIfInBounds_toArray, List.set_cons_zero, List.set_cons_succ, i64_w, i32_w]
                rfl
              refine last_ (i := 28) (N := some 165) #[true, true, true, true, true, true, true, true, true, true, true, true, true, true, true, true, true, true, true, true, true, true, true, true, true, true, true, true, true, false, false] rfl rfl (by kernel_rfl) (by decide) (fun K hK => ?_)
              refine goes_ Try.func18 (by kernel_rfl) rfl #[.pointer (some ⟨g4, 0, none⟩), .pointer (some ⟨g9, 0, none⟩)] (by rfl) rfl rfl (by (try simp only [List.map_toArray, List.map_cons, List.map_nil]); first | done | rfl) ?_
              (with_reducible refine (same_calls _ g4 b4 g9 b9 L L (HVt.out.1.below (below_step HBd.out HD10.out)) HV10.out).mono ?_)
              rintro e_ w11 ⟨rr, rfl, h1_, h2_⟩
              obtain rfl := h1_.2 rfl
              have HD11 := Aside0.mk (below_step HD10.out h2_)
              clear h1_ h2_
              refine ⟨_, rfl, ?_⟩
              refine hK.out _ _ ?_
              clear hK K
              refine norm_ (a' := ?_) ?_ ?_
              rotate_left
              · show Act.put _ (some 165) _ = _
                simp only [Act.put, List.setIfInBounds_toArray, List.set_cons_zero, List.set_cons_succ, i64_w, i32_w]
                rfl
              refine pure_ (i := 29) (N := some 166) (v := ?_) (a' := ?_) #[true, true, true, true, true, true, true, true, true, true, true, true, true, true, true, true, true, true, true, true, true, true, true, true, true, true, true, true, true, true, false] rfl rfl (by kernel_rfl) (fun _ _ _ h => h) (Or.inl ⟨by rfl, ?_⟩) ?_ ?_
              rotate_left
              · intro w'
                go_simp
                with_reducible rfl
              rotate_left
              · simp only [Act.put, List.setIfInBounds_toArray, List.set_cons_zero, List.set_cons_succ, i64_w, i32_w]
                rfl
              refine pure_ (i := 30) (N := some 167) (v := ?_) (a' := ?_) #[true, true, true, true, true, true, true, true, true, true, true, true, true, true, true, true, true, true, true, true, true, true, true, true, true, true, true, true, true, true, true] rfl rfl (by kernel_rfl) (fun _ _ _ h => h) (Or.inl ⟨by rfl, ?_⟩) ?_ ?_
              rotate_left
              · intro w'
                go_simp
                with_reducible rfl
              rotate_left
              · simp only [Act.put, List.setIfInBounds_toArray, List.set_cons_zero, List.set_cons_succ, i64_w, i32_w]
                rfl
              refine done_ (by kernel_rfl) ?_
              have HOe5 := Aside0.mk (HOd5.out.below HD11.out)
              have HOe6 := Aside0.mk (HOd6.out.below HD11.out)
              have HB11 := Aside0.mk (below_step HBd.out HD11.out)
              clear HOd5 HOd6 HD7 HD8 HD9 HD10 HD11 HC8 HL8 HV10 HEQ HEL HBd
              go_upto_region 30 with (first | (go_at_call 28; (with_reducible refine (spoil_calls _ w4.heap.size cap5 L.length p5 L HOe5.out (by have := HVt.out.2.1; omega)).mono ?_); rintro e w12 ⟨rfl, h1_, h2_⟩; have HB12 := Aside0.mk (HB11.out.trans (h1_ _ (Nat.le_refl _) HB11.out.size)); have HOf6 := Aside0.mk (h2_ _ _ _ _ _ HOe6.out (Or.inr HP5.out)); clear h1_ h2_))
              go_wp2_with (first | (go_at_call 28; (with_reducible refine (spoil_calls _ w5.heap.size cap6 (liveL L).length p6 (liveL L) HOf6.out (by have := HVt.out.2.1; have := liveL_le L; omega)).mono ?_); rintro e w13 ⟨rfl, h1_, h2_⟩; have HB13 := Aside0.mk (HB12.out.trans (h1_ _ HS5.out HB12.out.size)); clear h1_ h2_))
              go_roundw
              case rel => exact ⟨k + 1, g4, b4, p, c2, L, by have := HLT.out; omega, rfl, by go_num, ⟨HVt.out.1.below HB13.out, HVt.out.2⟩, ⟨HRt.out.below HB13.out⟩, ⟨below_step HBt.out HB13.out⟩, HGt⟩
              case measure => have := HLT.out; simp [intOf, wrap64]; omega
            · have e2 : (d == 2) = false := by simpa using hd2
              by_cases hd3 : d = 3
              · subst hd3
                go_upto_region 22 with (fail)
                clear x0_
                go_upto_region 23 with (first | (go_at_call 24; (with_reducible refine (copy_calls _ g b L HV.out.1).mono ?_); rintro e w3 ⟨g3, b3, rfl, h1_, h2_, h3_, h4_⟩; have HC3 := Aside0.mk h1_; have HV3 := Aside0.mk (HV.out.1.below h4_); have HR3 := Aside0.mk (HR.out.below h4_); have HB3 := Aside0.mk (below_step HB.out h4_); have HN3 := Aside0.mk (show b3 ≠ g ∧ b3 ≠ b ∧ b3 ≠ h ∧ (∀ a, p = some a → b3 ≠ a.block) ∧ wr.heap.size ≤ b3 from ⟨by have := HV.out.1.ltg; omega, by have := HV.out.1.ltb; omega, by have := blk_lt HR.out.box; omega, fun a ha => by have := HR.out.lt a ha; omega, h3_⟩); clear h1_ h2_ h3_ h4_))
                obtain ⟨x20_, x21_, x22_, x23_⟩ := HAT.out _ HB3.out
                go_upto_region 24 with (first | (go_at_call 17; (with_reducible refine (HT.out.calls HV.out.2.1 HX.out.1.1 HX.out.1.2 _ g3 b3 HC3.out).mono ?_); rintro e w4 ⟨rfl, h1_, h2_⟩; have HC4 := Aside0.mk h1_; have HV4 := Aside0.mk (VF.keptA h2_ HV3.out HN3.out.1 HN3.out.2.1); have HR4 := Aside0.mk (HR3.out.grown h2_ (fun e => HN3.out.2.2.1 (Option.some.inj e).symm) (fun a ha e => HN3.out.2.2.2.1 a ha (Option.some.inj e).symm)); have HB4 := Aside0.mk (HB3.out.trans (VF.below h2_ (Nat.le_trans HB.out.size HN3.out.2.2.2.2) HB3.out.size)); clear h1_ h2_ x20_ x21_ x22_ x23_))
                clear HV3 HR3 HB3 HC3
                go_upto_region 26 with (first
                  | (go_at_call 18; (with_reducible refine (same_calls _ g3 b3 g b L' L HC4.out HV4.out).mono ?_); rintro e u5 ⟨rr, rfl, h1_, h2_⟩; obtain rfl := Bool.eq_iff_iff.2 (h1_.trans HT.out.same.symm); have HC5 := Aside0.mk (HC4.out.below h2_); have HV5 := Aside0.mk (HV4.out.below h2_); have HR5 := Aside0.mk (HR4.out.below h2_); have HB5 := Aside0.mk (below_step HB4.out h2_); clear h1_ h2_)
                  | (go_at_call 18; (with_reducible refine (same_calls _ g b g3 b3 L L' HV5.out HC5.out).mono ?_); rintro e u6 ⟨rr, rfl, h1_, h2_⟩; obtain rfl := Bool.eq_iff_iff.2 (h1_.trans (Iff.trans eq_comm HT.out.same.symm)); have HV6 := Aside0.mk (HV5.out.below h2_); have HR6 := Aside0.mk (HR5.out.below h2_); have HB6 := Aside0.mk (below_step HB5.out h2_); clear h1_ h2_)
                  | (go_at_call 18; (with_reducible refine (same_right_calls _ ⟨g, 0, none⟩).mono ?_); rintro e u7 ⟨rfl, rfl⟩; skip))
                have HVt := Aside0.mk (And.intro HV6.out HV.out.2)
                have HRt := HR6
                have HBt := HB6
                have HGt := HG
                clear HV HR HB HC4 HV4 HR4 HB4 HC5 HV5 HR5 HB5 HV6 HR6 HB6
                go_upto_region 27 with (first
                  | (go_at_call 16; (with_reducible refine (list_calls _ g b L HVt.out.1 (by have := HVt.out.2.1; omega)).mono ?_); rintro e w5 ⟨v5, rfl, h1_, h2_⟩; obtain ⟨p5, cap5, rfl, hcap_, hcm_, hp_⟩ := rowP h1_ rfl; have HO5 : Aside0 (Ro w5 u7.heap.size p5 cap5 L.length L) := ⟨⟨rfl, ⟨hcap_, hcm_⟩, hp_⟩⟩; have HB5 : Aside0 (Below u7.heap.size u7 w5) := ⟨h2_⟩; clear h1_ h2_ hcap_ hcm_ hp_)
                  | (go_at_call 25; (with_reducible refine (live_calls _ g b L (HVt.out.1.below HB5.out) (by have := HVt.out.2.1; omega)).mono ?_); rintro e w6 ⟨v6, rfl, h1_, h2_⟩; obtain ⟨p6, cap6, rfl, hcap_, hcm_, hp_⟩ := rowP h1_ rfl; have HO6 : Aside0 (Ro w6 w5.heap.size p6 cap6 (liveL L).length (liveL L)) := ⟨⟨rfl, ⟨hcap_, hcm_⟩, hp_⟩⟩; have HO5' := Aside0.mk (HO5.out.below h2_); have HP5 := Aside0.mk HO5.out.lt; have HB6 := Aside0.mk (below_step HB5.out h2_); have HS5 := Aside0.mk HB5.out.size; clear h1_ h2_ hcap_ hcm_ hp_))
                have HBd := Aside0.mk (below_drew1 HB6.out)
                have HOd5 := Aside0.mk (HO5'.out.below (below_drew1 (Below.refl _ _)))
                have HOd6 := Aside0.mk (HO6.out.below (below_drew1 (Below.refl _ _)))
                obtain ⟨ke, hke⟩ := equal_same L (by have := HVt.out.2.1; omega)
                obtain ⟨kl, hkl⟩ := equal_same (liveL L) (by have := HVt.out.2.1; have := liveL_le L; omega)
                have HEQ := Aside0.mk hke
                have HEL := Aside0.mk hkl
                clear hke hkl HO5 HO5' HO6 HB5 HB6
                refine start_ (n := 31) (S := (fun w' => w'.cell? ⟨h, 0, none⟩ = some (.slice p L.length c2))) (ds := [28]) #[false, false, false, false, false, false, false, false, false, false, false, false, false, false, false, false, false, false, false, false, false, false, false, false, false, false, false, false, false, false, false] (by kernel_rfl) rfl rfl (Rv.cell (HRt.out.below HBd.out)) (fun hHeld => ?_)
                generalize w6.drew = wd at HBd HOd5 HOd6 hHeld ⊢
                refine pure_ (i := 0) (N := some 137) (v := ?_) (a' := ?_) #[true, false, false, false, false, false, false, false, false, false, false, false, false, false, false, false, false, false, false, false, false, false, false, false, false, false, false, false, false, false, false] rfl rfl (by kernel_rfl) (fun _ _ _ h => h) (Or.inl ⟨by rfl, ?_⟩) ?_ ?_
                rotate_left
                · intro w'
                  go_simp
                  with_reducible rfl
                rotate_left
                · simp only [Act.put, List.setIfInBounds_toArray, List.set_cons_zero, List.set_cons_succ, i64_w, i32_w]
                  rfl
                refine pure_ (i := 1) (N := some 138) (v := ?_) (a' := ?_) #[true, true, false, false, false, false, false, false, false, false, false, false, false, false, false, false, false, false, false, false, false, false, false, false, false, false, false, false, false, false, false] rfl rfl (by kernel_rfl) (fun _ _ _ h => h) (Or.inl ⟨by rfl, ?_⟩) ?_ ?_
                rotate_left
                · intro w'
                  go_simp
                  with_reducible rfl
                rotate_left
                · simp only [Act.put, List.setIfInBounds_toArray, List.set_cons_zero, List.set_cons_succ, i64_w, i32_w]
                  rfl
                refine pure_ (i := 2) (N := some 139) (v := ?_) (a' := ?_) #[true, true, true, false, false, false, false, false, false, false, false, false, false, false, false, false, false, false, false, false, false, false, false, false, false, false, false, false, false, false, false] rfl rfl (by kernel_rfl) (fun _ _ _ h => h) (Or.inl ⟨by rfl, ?_⟩) ?_ ?_
                rotate_left
                · intro w'
                  go_simp
                  with_reducible rfl
                rotate_left
                · simp only [Act.put, List.setIfInBounds_toArray, List.set_cons_zero, List.set_cons_succ, i64_w, i32_w]
                  rfl
                refine pure_ (i := 3) (N := some 140) (v := ?_) (a' := ?_) #[true, true, true, true, false, false, false, false, false, false, false, false, false, false, false, false, false, false, false, false, false, false, false, false, false, false, false, false, false, false, false] rfl rfl (by kernel_rfl) (fun _ _ _ h => h) (Or.inl ⟨by rfl, ?_⟩) ?_ ?_
                rotate_left
                · intro w'
                  go_simp
                  with_reducible rfl
                rotate_left
                · simp only [Act.put, List.setIfInBounds_toArray, List.set_cons_zero, List.set_cons_succ, i64_w, i32_w]
                  rfl
                refine take_ (i := 4) (N := some 141) (v := ?_) (a' := ?_) #[true, true, true, true, true, false, false, false, false, false, false, false, false, false, false, false, false, false, false, false, false, false, false, false, false, false, false, false, false, false, false] rfl rfl (by kernel_rfl) (fun _ _ _ h => h) (Or.inl ⟨by rfl, ?_⟩) hHeld ?_ ?_
                rotate_left
                · rintro w' h0_
                  go_simp
                  with_reducible rfl
                rotate_left
                · simp only [Act.put, List.setIfInBounds_toArray, List.set_cons_zero, List.set_cons_succ, i64_w, i32_w]
                  rfl
                refine one_ (i := 5) (N := some 142) #[true, true, true, true, true, true, false, false, false, false, false, false, false, false, false, false, false, false, false, false, false, false, false, false, false, false, false, false, false, false, false] rfl rfl (by kernel_rfl) (by decide) (fun K hK => ?_)
                refine goes_ Try.func19 (by kernel_rfl) rfl #[.slice p5 L.length cap5, .slice p L.length c2] (by rfl) rfl rfl (by (try simp only [List.map_toArray, List.map_cons, List.map_nil]); first | done | rfl) ?_
                (with_reducible refine (hearsayref17_Equal.calls ke p5 cap5 L p c2 L true _ HOd5.out.C HOd5.out.capl.1 (HRt.out.below HBd.out).C HRt.out.cap.1 HEQ.out).mono ?_)
                rintro e_ w7 ⟨rfl, h1_⟩
                have HD7 := Aside0.mk (Drawn0.below h1_)
                clear h1_
                refine ⟨_, rfl, ?_⟩
                refine hK.out _ _ (Rv.cell (HRt.out.below (below_step HBd.out HD7.out))) (fun hHeld => ?_)
                clear hK K
                refine norm_ (a' := ?_) ?_ ?_
                rotate_left
                · show Act.put _ (some 142) _ = _
                  simp only [Act.put, List.setIfInBounds_toArray, List.set_cons_zero, List.set_cons_succ, i64_w, i32_w]
                  rfl
                refine pure_ (i := 6) (N := some 143) (v := ?_) (a' := ?_) #[true, true, true, true, true, true, true, false, false, false, false, false, false, false, false, false, false, false, false, false, false, false, false, false, false, false, false, false, false, false, false] rfl rfl (by kernel_rfl) (fun _ _ _ h => h) (Or.inl ⟨by rfl, ?_⟩) ?_ ?_
                rotate_left
                · intro w'
                  go_simp
                  with_reducible rfl
                rotate_left
                · simp only [Act.put, List.setIfInBounds_toArray, List.set_cons_zero, List.set_cons_succ, i64_w, i32_w]
                  rfl
                refine pure_ (i := 7) (N := some 144) (v := ?_) (a' := ?_) #[true, true, true, true, true, true, true, true, false, false, false, false, false, false, false, false, false, false, false, false, false, false, false, false, false, false, false, false, false, false, false] rfl rfl (by kernel_rfl) (fun _ _ _ h => h) (Or.inl ⟨by rfl, ?_⟩) ?_ ?_
                rotate_left
                · intro w'
                  go_simp
                  with_reducible rfl
                rotate_left
                · simp only [Act.put, List.setIfInBounds_toArray, List.set_cons_zero, List.set_cons_succ, i64_w, i32_w]
                  rfl
                refine pure_ (i := 8) (N := some 145) (v := ?_) (a' := ?_) #[true, true, true, true, true, true, true, true, true, false, false, false, false, false, false, false, false, false, false, false, false, false, false, false, false, false, false, false, false, false, false] rfl rfl (by kernel_rfl) (fun _ _ _ h => h) (Or.inl ⟨by rfl, ?_⟩) ?_ ?_
                rotate_left
                · intro w'
                  go_simp
                  with_reducible rfl
                rotate_left
                · simp only [Act.put, List.setIfInBounds_toArray, List.set_cons_zero, List.set_cons_succ, i64_w, i32_w]
                  rfl
                refine pure_ (i := 9) (N := some 146) (v := ?_) (a' := ?_) #[true, true, true, true, true, true, true, true, true, true, false, false, false, false, false, false, false, false, false, false, false, false, false, false, false, false, false, false, false, false, false] rfl rfl (by kernel_rfl) (fun _ _ _ h => h) (Or.inl ⟨by rfl, ?_⟩) ?_ ?_
                rotate_left
                · intro w'
                  go_simp
                  with_reducible rfl
                rotate_left
                · simp only [Act.put, List.setIfInBounds_toArray, List.set_cons_zero, List.set_cons_succ, i64_w, i32_w]
                  rfl
                refine one_ (i := 10) (N := some 147) #[true, true, true, true, true, true, true, true, true, true, true, false, false, false, false, false, false, false, false, false, false, false, false, false, false, false, false, false, false, false, false] rfl rfl (by kernel_rfl) (by decide) (fun K hK => ?_)
                refine goes_ Try.func26 (by kernel_rfl) rfl #[.pointer (some ⟨h, 0, none⟩)] (by rfl) rfl rfl (by (try simp only [List.map_toArray, List.map_cons, List.map_nil]); first | done | rfl) ?_
                (with_reducible refine (reflive_calls _ h c2 p L (HRt.out.below (below_step HBd.out HD7.out)) (by have := HVt.out.2.1; omega) HVt.out.2.2).mono ?_)
                rintro e_ w8 ⟨A8, c8, rfl, h8_, hC8_, h1_⟩
                have HC8 := Aside0.mk hC8_
                have HL8 := Aside0.mk h8_
                have HD8 := Aside0.mk (below_step HD7.out h1_)
                clear h1_ hC8_ h8_
                refine ⟨_, rfl, ?_⟩
                refine hK.out _ _ (Rv.cell (HRt.out.below (below_step HBd.out HD8.out))) (fun hHeld => ?_)
                clear hK K
                refine norm_ (a' := ?_) ?_ ?_
                rotate_left
                · show Act.put _ (some 147) _ = _
                  simp only [Act.put, List.setIfInBounds_toArray, List.set_cons_zero, List.set_cons_succ, i64_w, i32_w]
                  rfl
                refine one_ (i := 11) (N := some 148) #[true, true, true, true, true, true, true, true, true, true, true, true, false, false, false, false, false, false, false, false, false, false, false, false, false, false, false, false, false, false, false] rfl rfl (by kernel_rfl) (by decide) (fun K hK => ?_)
                refine goes_ Try.func19 (by kernel_rfl) rfl #[.slice p6 (liveL L).length cap6, .slice A8 (liveL L).length c8] (by rfl) rfl rfl (by (try simp only [List.map_toArray, List.map_cons, List.map_nil]); first | done | rfl) ?_
                (with_reducible refine (hearsayref17_Equal.calls kl p6 cap6 (liveL L) A8 c8 (liveL L) true _ (HOd6.out.below HD8.out).C HOd6.out.capl.1 HC8.out HL8.out HEL.out).mono ?_)
                rintro e_ w9 ⟨rfl, h1_⟩
                have HD9 := Aside0.mk (below_step HD8.out (Drawn0.below h1_))
                clear h1_
                refine ⟨_, rfl, ?_⟩
                refine hK.out _ _ (Rv.cell (HRt.out.below (below_step HBd.out HD9.out))) (fun hHeld => ?_)
                clear hK K
                refine norm_ (a' := ?_) ?_ ?_
                rotate_left
                · show Act.put _ (some 148) _ = _
                  simp only [Act.put, List.setIfInBounds_toArray, List.set_cons_zero, List.set_cons_succ, i64_w, i32_w]
                  rfl
                refine pure_ (i := 12) (N := some 149) (v := ?_) (a' := ?_) #[true, true, true, true, true, true, true, true, true, true, true, true, true, false, false, false, false, false, false, false, false, false, false, false, false, false, false, false, false, false, false] rfl rfl (by kernel_rfl) (fun _ _ _ h => h) (Or.inl ⟨by rfl, ?_⟩) ?_ ?_
                rotate_left
                · intro w'
                  go_simp
                  with_reducible rfl
                rotate_left
                · simp only [Act.put, List.setIfInBounds_toArray, List.set_cons_zero, List.set_cons_succ, i64_w, i32_w]
                  rfl
                refine pure_ (i := 13) (N := some 150) (v := ?_) (a' := ?_) #[true, true, true, true, true, true, true, true, true, true, true, true, true, true, false, false, false, false, false, false, false, false, false, false, false, false, false, false, false, false, false] rfl rfl (by kernel_rfl) (fun _ _ _ h => h) (Or.inl ⟨by rfl, ?_⟩) ?_ ?_
                rotate_left
                · intro w'
                  go_simp
                  with_reducible rfl
                rotate_left
                · simp only [Act.put, List.setIfInBounds_toArray, List.set_cons_zero, List.set_cons_succ, i64_w, i32_w]
                  rfl
                refine pure_ (i := 14) (N := some 151) (v := ?_) (a' := ?_) #[true, true, true, true, true, true, true, true, true, true, true, true, true, true, true, false, false, false, false, false, false, false, false, false, false, false, false, false, false, false, false] rfl rfl (by kernel_rfl) (fun _ _ _ h => h) (Or.inl ⟨by rfl, ?_⟩) ?_ ?_
                rotate_left
                · intro w'
                  go_simp
                  with_reducible rfl
                rotate_left
                · simp only [Act.put, List.setIfInBounds_toArray, List.set_cons_zero, List.set_cons_succ, i64_w, i32_w]
                  rfl
                refine pure_ (i := 15) (N := some 152) (v := ?_) (a' := ?_) #[true, true, true, true, true, true, true, true, true, true, true, true, true, true, true, true, false, false, false, false, false, false, false, false, false, false, false, false, false, false, false] rfl rfl (by kernel_rfl) (fun _ _ _ h => h) (Or.inl ⟨by rfl, ?_⟩) ?_ ?_
                rotate_left
                · intro w'
                  go_simp
                  with_reducible rfl
                rotate_left
                · simp only [Act.put, List.setIfInBounds_toArray, List.set_cons_zero, List.set_cons_succ, i64_w, i32_w]
                  rfl
                refine pure_ (i := 17) (N := some 154) (v := ?_) (a' := ?_) #[true, true, true, true, true, true, true, true, true, true, true, true, true, true, true, true, false, true, false, false, false, false, false, false, false, false, false, false, false, false, false] rfl rfl (by kernel_rfl) (fun _ _ _ h => h) (Or.inl ⟨by rfl, ?_⟩) ?_ ?_
                rotate_left
                · intro w'
                  go_simp
                  with_reducible rfl
                rotate_left
                · simp only [Act.put, List.setIfInBounds_toArray, List.set_cons_zero, List.set_cons_succ, i64_w, i32_w]
                  rfl
                refine pure_ (i := 18) (N := some 155) (v := ?_) (a' := ?_) #[true, true, true, true, true, true, true, true, true, true, true, true, true, true, true, true, false, true, true, false, false, false, false, false, false, false, false, false, false, false, false] rfl rfl (by kernel_rfl) (fun _ _ _ h => h) (Or.inl ⟨by rfl, ?_⟩) ?_ ?_
                rotate_left
                · intro w'
                  go_simp
                  with_reducible rfl
                rotate_left
                · simp only [Act.put, List.setIfInBounds_toArray, List.set_cons_zero, List.set_cons_succ, i64_w, i32_w]
                  rfl
                refine pure_ (i := 19) (N := some 156) (v := ?_) (a' := ?_) #[true, true, true, true, true, true, true, true, true, true, true, true, true, true, true, true, false, true, true, true, false, false, false, false, false, false, false, false, false, false, false] rfl rfl (by kernel_rfl) (fun _ _ _ h => h) (Or.inl ⟨by rfl, ?_⟩) ?_ ?_
                rotate_left
                · intro w'
                  go_simp
                  with_reducible rfl
                rotate_left
                · simp only [Act.put, List.setIfInBounds_toArray, List.set_cons_zero, List.set_cons_succ, i64_w, i32_w]
                  rfl
                refine take_ (i := 20) (N := some 157) (v := ?_) (a' := ?_) #[true, true, true, true, true, true, true, true, true, true, true, true, true, true, true, true, false, true, true, true, true, false, false, false, false, false, false, false, false, false, false] rfl rfl (by kernel_rfl) (fun _ _ _ h => h) (Or.inl ⟨by rfl, ?_⟩) hHeld ?_ ?_
                rotate_left
                · rintro w' h0_
                  go_simp
                  with_reducible rfl
                rotate_left
                · simp only [Act.put, List.setIfInBounds_toArray, List.set_cons_zero, List.set_cons_succ, i64_w, i32_w]
                  rfl
                refine pure_ (i := 21) (N := some 158) (v := ?_) (a' := ?_) #[true, true, true, true, true, true, true, true, true, true, true, true, true, true, true, true, false, true, true, true, true, true, false, false, false, false, false, false, false, false, false] rfl rfl (by kernel_rfl) (fun _ _ _ h => h) (Or.inl ⟨by rfl, ?_⟩) ?_ ?_
                rotate_left
                · intro w'
                  go_simp
                  with_reducible rfl
                rotate_left
                · simp only [Act.put, List.setIfInBounds_toArray, List.set_cons_zero, List.set_cons_succ, i64_w, i32_w]
                  rfl
                refine one_ (i := 16) (N := some 153) #[true, true, true, true, true, true, true, true, true, true, true, true, true, true, true, true, true, true, true, true, true, true, false, false, false, false, false, false, false, false, false] rfl rfl (by kernel_rfl) (by decide) (fun K hK => ?_)
                refine goes_ Try.func27 (by kernel_rfl) rfl #[.pointer (some ⟨g, 0, none⟩)] (by rfl) rfl rfl (by (try simp only [List.map_toArray, List.map_cons, List.map_nil]); first | done | rfl) ?_
                (with_reducible refine (len_calls _ g b L (HVt.out.1.below (below_step HBd.out HD9.out))).mono ?_)
                rintro e_ w10 ⟨rfl, rfl⟩
                refine ⟨_, rfl, ?_⟩
                refine hK.out _ _ (Rv.cell (HRt.out.below (below_step HBd.out HD9.out))) (fun hHeld => ?_)
                clear hK K
                refine norm_ (a' := ?_) ?_ ?_
                rotate_left
                · show Act.put _ (some 153) _ = _
                  simp only [Act.put, List.setIfInBounds_toArray, List.set_cons_zero, List.set_cons_succ, i64_w, i32_w]
                  rfl
                refine pure_ (i := 22) (N := some 159) (v := ?_) (a' := ?_) #[true, true, true, true, true, true, true, true, true, true, true, true, true, true, true, true, true, true, true, true, true, true, true, false, false, false, false, false, false, false, false] rfl rfl (by kernel_rfl) (fun _ _ _ h => h) (Or.inl ⟨by rfl, ?_⟩) ?_ ?_
                rotate_left
                · intro w'
                  go_simp
                  with_reducible rfl
                rotate_left
                · simp only [Act.put, List.setIfInBounds_toArray, List.set_cons_zero, List.set_cons_succ, i64_w, i32_w]
                  rfl
                refine pure_ (i := 23) (N := some 160) (v := ?_) (a' := ?_) #[true, true, true, true, true, true, true, true, true, true, true, true, true, true, true, true, true, true, true, true, true, true, true, true, false, false, false, false, false, false, false] rfl rfl (by kernel_rfl) (fun _ _ _ h => h) (Or.inl ⟨by rfl, ?_⟩) ?_ ?_
                rotate_left
                · intro w'
                  go_simp
                  with_reducible rfl
                rotate_left
                · simp only [Act.put, List.setIfInBounds_toArray, List.set_cons_zero, List.set_cons_succ, i64_w, i32_w]
                  rfl
                refine pure_ (i := 24) (N := some 161) (v := ?_) (a' := ?_) #[true, true, true, true, true, true, true, true, true, true, true, true, true, true, true, true, true, true, true, true, true, true, true, true, true, false, false, false, false, false, false] rfl rfl (by kernel_rfl) (fun _ _ _ h => h) (Or.inl ⟨by rfl, ?_⟩) ?_ ?_
                rotate_left
                · intro w'
                  go_simp
                  with_reducible rfl
                rotate_left
                · simp only [Act.put, List.setIfInBounds_toArray, List.set_cons_zero, List.set_cons_succ, i64_w, i32_w]
                  rfl
                refine pure_ (i := 25) (N := some 162) (v := ?_) (a' := ?_) #[true, true, true, true, true, true, true, true, true, true, true, true, true, true, true, true, true, true, true, true, true, true, true, true, true, true, false, false, false, false, false] rfl rfl (by kernel_rfl) (fun _ _ _ h => h) (Or.inl ⟨by rfl, ?_⟩) ?_ ?_
                rotate_left
                · intro w'
                  go_simp
                  with_reducible rfl
                rotate_left
                · simp only [Act.put, List.setIfInBounds_toArray, List.set_cons_zero, List.set_cons_succ, i64_w, i32_w]
                  rfl
                refine pure_ (i := 26) (N := some 163) (v := ?_) (a' := ?_) #[true, true, true, true, true, true, true, true, true, true, true, true, true, true, true, true, true, true, true, true, true, true, true, true, true, true, true, false, false, false, false] rfl rfl (by kernel_rfl) (fun _ _ _ h => h) (Or.inl ⟨by rfl, ?_⟩) ?_ ?_
                rotate_left
                · intro w'
                  go_simp
                  with_reducible rfl
                rotate_left
                · simp only [Act.put, List.setIfInBounds_toArray, List.set_cons_zero, List.set_cons_succ, i64_w, i32_w]
                  rfl
                refine one_ (i := 27) (N := some 164) #[true, true, true, true, true, true, true, true, true, true, true, true, true, true, true, true, true, true, true, true, true, true, true, true, true, true, true, true, false, false, false] rfl rfl (by kernel_rfl) (by decide) (fun K hK => ?_)
                refine goes_ Try.func24 (by kernel_rfl) rfl #[.pointer (some ⟨g, 0, none⟩)] (by rfl) rfl rfl (by (try simp only [List.map_toArray, List.map_cons, List.map_nil]); first | done | rfl) ?_
                (with_reducible refine (copy_calls _ g b L (HVt.out.1.below (below_step HBd.out HD9.out))).mono ?_)
                rintro e_ w10 ⟨g9, b9, rfl, h1_, _, _, h2_⟩
                have HV10 := Aside0.mk h1_
                have HD10 := Aside0.mk (below_step HD9.out h2_)
                clear h1_ h2_
                refine ⟨_, rfl, ?_⟩
                refine hK.out _ _ (Rv.cell (HRt.out.below (below_step HBd.out HD10.out))) (fun hHeld => ?_)
                clear hK K
                refine norm_ (a' := ?_) ?_ ?_
                rotate_left
                · show Act.put _ (some 164) _ = _
                  simp only [Act.put, List.setIfInBounds_toArray, List.set_cons_zero, List.set_cons_succ, i64_w, i32_w]
                  rfl
                refine last_ (i := 28) (N := some 165) #[true, true, true, true, true, true, true, true, true, true, true, true, true, true, true, true, true, true, true, true, true, true, true, true, true, true, true, true, true, false, false] rfl rfl (by kernel_rfl) (by decide) (fun K hK => ?_)
                refine goes_ Try.func18 (by kernel_rfl) rfl #[.pointer (some ⟨g, 0, none⟩), .pointer (some ⟨g9, 0, none⟩)] (by rfl) rfl rfl (by (try simp only [List.map_toArray, List.map_cons, List.map_nil]); first | done | rfl) ?_
                (with_reducible refine (same_calls _ g b g9 b9 L L (HVt.out.1.below (below_step HBd.out HD10.out)) HV10.out).mono ?_)
                rintro e_ w11 ⟨rr, rfl, h1_, h2_⟩
                obtain rfl := h1_.2 rfl
                have HD11 := Aside0.mk (below_step HD10.out h2_)
                clear h1_ h2_
                refine ⟨_, rfl, ?_⟩
                refine hK.out _ _ ?_
                clear hK K
                refine norm_ (a' := ?_) ?_ ?_
                rotate_left
                · show Act.put _ (some 165) _ = _
                  simp only [Act.put, List.setIfInBounds_toArray, List.set_cons_zero, List.set_cons_succ, i64_w, i32_w]
                  rfl
                refine pure_ (i := 29) (N := some 166) (v := ?_) (a' := ?_) #[true, true, true, true, true, true, true, true, true, true, true, true, true, true, true, true, true, true, true, true, true, true, true, true, true, true, true, true, true, true, false] rfl rfl (by kernel_rfl) (fun _ _ _ h => h) (Or.inl ⟨by rfl, ?_⟩) ?_ ?_
                rotate_left
                · intro w'
                  go_simp
                  with_reducible rfl
                rotate_left
                · simp only [Act.put, List.setIfInBounds_toArray, List.set_cons_zero, List.set_cons_succ, i64_w, i32_w]
                  rfl
                refine pure_ (i := 30) (N := some 167) (v := ?_) (a' := ?_) #[true, true, true, true, true, true, true, true, true, true, true, true, true, true, true, true, true, true, true, true, true, true, true, true, true, true, true, true, true, true, true] rfl rfl (by kernel_rfl) (fun _ _ _ h => h) (Or.inl ⟨by rfl, ?_⟩) ?_ ?_
                rotate_left
                · intro w'
                  go_simp
                  with_reducible rfl
                rotate_left
                · simp only [Act.put, List.setIfInBounds_toArray, List.set_cons_zero, List.set_cons_succ, i64_w, i32_w]
                  rfl
                refine done_ (by kernel_rfl) ?_
                have HOe5 := Aside0.mk (HOd5.out.below HD11.out)
                have HOe6 := Aside0.mk (HOd6.out.below HD11.out)
                have HB11 := Aside0.mk (below_step HBd.out HD11.out)
                clear HOd5 HOd6 HD7 HD8 HD9 HD10 HD11 HC8 HL8 HV10 HEQ HEL HBd
                go_upto_region 30 with (first | (go_at_call 28; (with_reducible refine (spoil_calls _ u7.heap.size cap5 L.length p5 L HOe5.out (by have := HVt.out.2.1; omega)).mono ?_); rintro e w12 ⟨rfl, h1_, h2_⟩; have HB12 := Aside0.mk (HB11.out.trans (h1_ _ (Nat.le_refl _) HB11.out.size)); have HOf6 := Aside0.mk (h2_ _ _ _ _ _ HOe6.out (Or.inr HP5.out)); clear h1_ h2_))
                go_wp2_with (first | (go_at_call 28; (with_reducible refine (spoil_calls _ w5.heap.size cap6 (liveL L).length p6 (liveL L) HOf6.out (by have := HVt.out.2.1; have := liveL_le L; omega)).mono ?_); rintro e w13 ⟨rfl, h1_, h2_⟩; have HB13 := Aside0.mk (HB12.out.trans (h1_ _ HS5.out HB12.out.size)); clear h1_ h2_))
                go_roundw
                case rel => exact ⟨k + 1, g, b, p, c2, L, by have := HLT.out; omega, rfl, by go_num, ⟨HVt.out.1.below HB13.out, HVt.out.2⟩, ⟨HRt.out.below HB13.out⟩, ⟨below_step HBt.out HB13.out⟩, HGt⟩
                case measure => have := HLT.out; simp [intOf, wrap64]; omega
              · have e3 : (d == 3) = false := by simpa using hd3
                go_upto_region 26 with (fail)
                clear x0_
                have HVt := HV
                have HRt := HR
                have HBt := HB
                have HGt := HG
                clear HV HR HB
                go_upto_region 27 with (first
                  | (go_at_call 16; (with_reducible refine (list_calls _ g b L HVt.out.1 (by have := HVt.out.2.1; omega)).mono ?_); rintro e w5 ⟨v5, rfl, h1_, h2_⟩; obtain ⟨p5, cap5, rfl, hcap_, hcm_, hp_⟩ := rowP h1_ rfl; have HO5 : Aside0 (Ro w5 wr.heap.size p5 cap5 L.length L) := ⟨⟨rfl, ⟨hcap_, hcm_⟩, hp_⟩⟩; have HB5 : Aside0 (Below wr.heap.size wr w5) := ⟨h2_⟩; clear h1_ h2_ hcap_ hcm_ hp_)
                  | (go_at_call 25; (with_reducible refine (live_calls _ g b L (HVt.out.1.below HB5.out) (by have := HVt.out.2.1; omega)).mono ?_); rintro e w6 ⟨v6, rfl, h1_, h2_⟩; obtain ⟨p6, cap6, rfl, hcap_, hcm_, hp_⟩ := rowP h1_ rfl; have HO6 : Aside0 (Ro w6 w5.heap.size p6 cap6 (liveL L).length (liveL L)) := ⟨⟨rfl, ⟨hcap_, hcm_⟩, hp_⟩⟩; have HO5' := Aside0.mk (HO5.out.below h2_); have HP5 := Aside0.mk HO5.out.lt; have HB6 := Aside0.mk (below_step HB5.out h2_); have HS5 := Aside0.mk HB5.out.size; clear h1_ h2_ hcap_ hcm_ hp_))
                have HBd := Aside0.mk (below_drew1 HB6.out)
                have HOd5 := Aside0.mk (HO5'.out.below (below_drew1 (Below.refl _ _)))
                have HOd6 := Aside0.mk (HO6.out.below (below_drew1 (Below.refl _ _)))
                obtain ⟨ke, hke⟩ := equal_same L (by have := HVt.out.2.1; omega)
                obtain ⟨kl, hkl⟩ := equal_same (liveL L) (by have := HVt.out.2.1; have := liveL_le L; omega)
                have HEQ := Aside0.mk hke
                have HEL := Aside0.mk hkl
                clear hke hkl HO5 HO5' HO6 HB5 HB6
                refine start_ (n := 31) (S := (fun w' => w'.cell? ⟨h, 0, none⟩ = some (.slice p L.length c2))) (ds := [28]) #[false, false, false, false, false, false, false, false, false, false, false, false, false, false, false, false, false, false, false, false, false, false, false, false, false, false, false, false, false, false, false] (by kernel_rfl) rfl rfl (Rv.cell (HRt.out.below HBd.out)) (fun hHeld => ?_)
                generalize w6.drew = wd at HBd HOd5 HOd6 hHeld ⊢
                refine pure_ (i := 0) (N := some 137) (v := ?_) (a' := ?_) #[true, false, false, false, false, false, false, false, false, false, false, false, false, false, false, false, false, false, false, false, false, false, false, false, false, false, false, false, false, false, false] rfl rfl (by kernel_rfl) (fun _ _ _ h => h) (Or.inl ⟨by rfl, ?_⟩) ?_ ?_
                rotate_left
                · intro w'
                  go_simp
                  with_reducible rfl
                rotate_left
                · simp only [Act.put, List.setIfInBounds_toArray, List.set_cons_zero, List.set_cons_succ, i64_w, i32_w]
                  rfl
                refine pure_ (i := 1) (N := some 138) (v := ?_) (a' := ?_) #[true, true, false, false, false, false, false, false, false, false, false, false, false, false, false, false, false, false, false, false, false, false, false, false, false, false, false, false, false, false, false] rfl rfl (by kernel_rfl) (fun _ _ _ h => h) (Or.inl ⟨by rfl, ?_⟩) ?_ ?_
                rotate_left
                · intro w'
                  go_simp
                  with_reducible rfl
                rotate_left
                · simp only [Act.put, List.setIfInBounds_toArray, List.set_cons_zero, List.set_cons_succ, i64_w, i32_w]
                  rfl
                refine pure_ (i := 2) (N := some 139) (v := ?_) (a' := ?_) #[true, true, true, false, false, false, false, false, false, false, false, false, false, false, false, false, false, false, false, false, false, false, false, false, false, false, false, false, false, false, false] rfl rfl (by kernel_rfl) (fun _ _ _ h => h) (Or.inl ⟨by rfl, ?_⟩) ?_ ?_
                rotate_left
                · intro w'
                  go_simp
                  with_reducible rfl
                rotate_left
                · simp only [Act.put, List.setIfInBounds_toArray, List.set_cons_zero, List.set_cons_succ, i64_w, i32_w]
                  rfl
                refine pure_ (i := 3) (N := some 140) (v := ?_) (a' := ?_) #[true, true, true, true, false, false, false, false, false, false, false, false, false, false, false, false, false, false, false, false, false, false, false, false, false, false, false, false, false, false, false] rfl rfl (by kernel_rfl) (fun _ _ _ h => h) (Or.inl ⟨by rfl, ?_⟩) ?_ ?_
                rotate_left
                · intro w'
                  go_simp
                  with_reducible rfl
                rotate_left
                · simp only [Act.put, List.setIfInBounds_toArray, List.set_cons_zero, List.set_cons_succ, i64_w, i32_w]
                  rfl
                refine take_ (i := 4) (N := some 141) (v := ?_) (a' := ?_) #[true, true, true, true, true, false, false, false, false, false, false, false, false, false, false, false, false, false, false, false, false, false, false, false, false, false, false, false, false, false, false] rfl rfl (by kernel_rfl) (fun _ _ _ h => h) (Or.inl ⟨by rfl, ?_⟩) hHeld ?_ ?_
                rotate_left
                · rintro w' h0_
                  go_simp
                  with_reducible rfl
                rotate_left
                · simp only [Act.put, List.setIfInBounds_toArray, List.set_cons_zero, List.set_cons_succ, i64_w, i32_w]
                  rfl
                refine one_ (i := 5) (N := some 142) #[true, true, true, true, true, true, false, false, false, false, false, false, false, false, false, false, false, false, false, false, false, false, false, false, false, false, false, false, false, false, false] rfl rfl (by kernel_rfl) (by decide) (fun K hK => ?_)
                refine goes_ Try.func19 (by kernel_rfl) rfl #[.slice p5 L.length cap5, .slice p L.length c2] (by rfl) rfl rfl (by (try simp only [List.map_toArray, List.map_cons, List.map_nil]); first | done | rfl) ?_
                (with_reducible refine (hearsayref17_Equal.calls ke p5 cap5 L p c2 L true _ HOd5.out.C HOd5.out.capl.1 (HRt.out.below HBd.out).C HRt.out.cap.1 HEQ.out).mono ?_)
                rintro e_ w7 ⟨rfl, h1_⟩
                have HD7 := Aside0.mk (Drawn0.below h1_)
                clear h1_
                refine ⟨_, rfl, ?_⟩
                refine hK.out _ _ (Rv.cell (HRt.out.below (below_step HBd.out HD7.out))) (fun hHeld => ?_)
                clear hK K
                refine norm_ (a' := ?_) ?_ ?_
                rotate_left
                · show Act.put _ (some 142) _ = _
                  simp only [Act.put, List.setIfInBounds_toArray, List.set_cons_zero, List.set_cons_succ, i64_w, i32_w]
                  rfl
                refine pure_ (i := 6) (N := some 143) (v := ?_) (a' := ?_) #[true, true, true, true, true, true, true, false, false, false, false, false, false, false, false, false, false, false, false, false, false, false, false, false, false, false, false, false, false, false, false] rfl rfl (by kernel_rfl) (fun _ _ _ h => h) (Or.inl ⟨by rfl, ?_⟩) ?_ ?_
                rotate_left
                · intro w'
                  go_simp
                  with_reducible rfl
                rotate_left
                · simp only [Act.put, List.setIfInBounds_toArray, List.set_cons_zero, List.set_cons_succ, i64_w, i32_w]
                  rfl
                refine pure_ (i := 7) (N := some 144) (v := ?_) (a' := ?_) #[true, true, true, true, true, true, true, true, false, false, false, false, false, false, false, false, false, false, false, false, false, false, false, false, false, false, false, false, false, false, false] rfl rfl (by kernel_rfl) (fun _ _ _ h => h) (Or.inl ⟨by rfl, ?_⟩) ?_ ?_
                rotate_left
                · intro w'
                  go_simp
                  with_reducible rfl
                rotate_left
                · simp only [Act.put, List.setIfInBounds_toArray, List.set_cons_zero, List.set_cons_succ, i64_w, i32_w]
                  rfl
                refine pure_ (i := 8) (N := some 145) (v := ?_) (a' := ?_) #[true, true, true, true, true, true, true, true, true, false, false, false, false, false, false, false, false, false, false, false, false, false, false, false, false, false, false, false, false, false, false] rfl rfl (by kernel_rfl) (fun _ _ _ h => h) (Or.inl ⟨by rfl, ?_⟩) ?_ ?_
                rotate_left
                · intro w'
                  go_simp
                  with_reducible rfl
                rotate_left
                · simp only [Act.put, List.setIfInBounds_toArray, List.set_cons_zero, List.set_cons_succ, i64_w, i32_w]
                  rfl
                refine pure_ (i := 9) (N := some 146) (v := ?_) (a' := ?_) #[true, true, true, true, true, true, true, true, true, true, false, false, false, false, false, false, false, false, false, false, false, false, false, false, false, false, false, false, false, false, false] rfl rfl (by kernel_rfl) (fun _ _ _ h => h) (Or.inl ⟨by rfl, ?_⟩) ?_ ?_
                rotate_left
                · intro w'
                  go_simp
                  with_reducible rfl
                rotate_left
                · simp only [Act.put, List.setIfInBounds_toArray, List.set_cons_zero, List.set_cons_succ, i64_w, i32_w]
                  rfl
                refine one_ (i := 10) (N := some 147) #[true, true, true, true, true, true, true, true, true, true, true, false, false, false, false, false, false, false, false, false, false, false, false, false, false, false, false, false, false, false, false] rfl rfl (by kernel_rfl) (by decide) (fun K hK => ?_)
                refine goes_ Try.func26 (by kernel_rfl) rfl #[.pointer (some ⟨h, 0, none⟩)] (by rfl) rfl rfl (by (try simp only [List.map_toArray, List.map_cons, List.map_nil]); first | done | rfl) ?_
                (with_reducible refine (reflive_calls _ h c2 p L (HRt.out.below (below_step HBd.out HD7.out)) (by have := HVt.out.2.1; omega) HVt.out.2.2).mono ?_)
                rintro e_ w8 ⟨A8, c8, rfl, h8_, hC8_, h1_⟩
                have HC8 := Aside0.mk hC8_
                have HL8 := Aside0.mk h8_
                have HD8 := Aside0.mk (below_step HD7.out h1_)
                clear h1_ hC8_ h8_
                refine ⟨_, rfl, ?_⟩
                refine hK.out _ _ (Rv.cell (HRt.out.below (below_step HBd.out HD8.out))) (fun hHeld => ?_)
                clear hK K
                refine norm_ (a' := ?_) ?_ ?_
                rotate_left
                · show Act.put _ (some 147) _ = _
                  simp only [Act.put, List.setIfInBounds_toArray, List.set_cons_zero, List.set_cons_succ, i64_w, i32_w]
                  rfl
                refine one_ (i := 11) (N := some 148) #[true, true, true, true, true, true, true, true, true, true, true, true, false, false, false, false, false, false, false, false, false, false, false, false, false, false, false, false, false, false, false] rfl rfl (by kernel_rfl) (by decide) (fun K hK => ?_)
                refine goes_ Try.func19 (by kernel_rfl) rfl #[.slice p6 (liveL L).length cap6, .slice A8 (liveL L).length c8] (by rfl) rfl rfl (by (try simp only [List.map_toArray, List.map_cons, List.map_nil]); first | done | rfl) ?_
                (with_reducible refine (hearsayref17_Equal.calls kl p6 cap6 (liveL L) A8 c8 (liveL L) true _ (HOd6.out.below HD8.out).C HOd6.out.capl.1 HC8.out HL8.out HEL.out).mono ?_)
                rintro e_ w9 ⟨rfl, h1_⟩
                have HD9 := Aside0.mk (below_step HD8.out (Drawn0.below h1_))
                clear h1_
                refine ⟨_, rfl, ?_⟩
                refine hK.out _ _ (Rv.cell (HRt.out.below (below_step HBd.out HD9.out))) (fun hHeld => ?_)
                clear hK K
                refine norm_ (a' := ?_) ?_ ?_
                rotate_left
                · show Act.put _ (some 148) _ = _
                  simp only [Act.put, List.setIfInBounds_toArray, List.set_cons_zero, List.set_cons_succ, i64_w, i32_w]
                  rfl
                refine pure_ (i := 12) (N := some 149) (v := ?_) (a' := ?_) #[true, true, true, true, true, true, true, true, true, true, true, true, true, false, false, false, false, false, false, false, false, false, false, false, false, false, false, false, false, false, false] rfl rfl (by kernel_rfl) (fun _ _ _ h => h) (Or.inl ⟨by rfl, ?_⟩) ?_ ?_
                rotate_left
                · intro w'
                  go_simp
                  with_reducible rfl
                rotate_left
                · simp only [Act.put, List.setIfInBounds_toArray, List.set_cons_zero, List.set_cons_succ, i64_w, i32_w]
                  rfl
                refine pure_ (i := 13) (N := some 150) (v := ?_) (a' := ?_) #[true, true, true, true, true, true, true, true, true, true, true, true, true, true, false, false, false, false, false, false, false, false, false, false, false, false, false, false, false, false, false] rfl rfl (by kernel_rfl) (fun _ _ _ h => h) (Or.inl ⟨by rfl, ?_⟩) ?_ ?_
                rotate_left
                · intro w'
                  go_simp
                  with_reducible rfl
                rotate_left
                · simp only [Act.put, List.setIfInBounds_toArray, List.set_cons_zero, List.set_cons_succ, i64_w, i32_w]
                  rfl
                refine pure_ (i := 14) (N := some 151) (v := ?_) (a' := ?_) #[true, true, true, true, true, true, true, true, true, true, true, true, true, true, true, false, false, false, false, false, false, false, false, false, false, false, false, false, false, false, false] rfl rfl (by kernel_rfl) (fun _ _ _ h => h) (Or.inl ⟨by rfl, ?_⟩) ?_ ?_
                rotate_left
                · intro w'
                  go_simp
                  with_reducible rfl
                rotate_left
                · simp only [Act.put, List.setIfInBounds_toArray, List.set_cons_zero, List.set_cons_succ, i64_w, i32_w]
                  rfl
                refine pure_ (i := 15) (N := some 152) (v := ?_) (a' := ?_) #[true, true, true, true, true, true, true, true, true, true, true, true, true, true, true, true, false, false, false, false, false, false, false, false, false, false, false, false, false, false, false] rfl rfl (by kernel_rfl) (fun _ _ _ h => h) (Or.inl ⟨by rfl, ?_⟩) ?_ ?_
                rotate_left
                · intro w'
                  go_simp
                  with_reducible rfl
                rotate_left
                · simp only [Act.put, List.setIfInBounds_toArray, List.set_cons_zero, List.set_cons_succ, i64_w, i32_w]
                  rfl
                refine pure_ (i := 17) (N := some 154) (v := ?_) (a' := ?_) #[true, true, true, true, true, true, true, true, true, true, true, true, true, true, true, true, false, true, false, false, false, false, false, false, false, false, false, false, false, false, false] rfl rfl (by kernel_rfl) (fun _ _ _ h => h) (Or.inl ⟨by rfl, ?_⟩) ?_ ?_
                rotate_left
                · intro w'
                  go_simp
                  with_reducible rfl
                rotate_left
                · simp only [Act.put, List.setIfInBounds_toArray, List.set_cons_zero, List.set_cons_succ, i64_w, i32_w]
                  rfl
                refine pure_ (i := 18) (N := some 155) (v := ?_) (a' := ?_) #[true, true, true, true, true, true, true, true, true, true, true, true, true, true, true, true, false, true, true, false, false, false, false, false, false, false, false, false, false, false, false] rfl rfl (by kernel_rfl) (fun _ _ _ h => h) (Or.inl ⟨by rfl, ?_⟩) ?_ ?_
                rotate_left
                · intro w'
                  go_simp
                  with_reducible rfl
                rotate_left
                · simp only [Act.put, List.setIfInBounds_toArray, List.set_cons_zero, List.set_cons_succ, i64_w, i32_w]
                  rfl
                refine pure_ (i := 19) (N := some 156) (v := ?_) (a' := ?_) #[true, true, true, true, true, true, true, true, true, true, true, true, true, true, true, true, false, true, true, true, false, false, false, false, false, false, false, false, false, false, false] rfl rfl (by kernel_rfl) (fun _ _ _ h => h) (Or.inl ⟨by rfl, ?_⟩) ?_ ?_
                rotate_left
                · intro w'
                  go_simp
                  with_reducible rfl
                rotate_left
                · simp only [Act.put, List.setIfInBounds_toArray, List.set_cons_zero, List.set_cons_succ, i64_w, i32_w]
                  rfl
                refine take_ (i := 20) (N := some 157) (v := ?_) (a' := ?_) #[true, true, true, true, true, true, true, true, true, true, true, true, true, true, true, true, false, true, true, true, true, false, false, false, false, false, false, false, false, false, false] rfl rfl (by kernel_rfl) (fun _ _ _ h => h) (Or.inl ⟨by rfl, ?_⟩) hHeld ?_ ?_
                rotate_left
                · rintro w' h0_
                  go_simp
                  with_reducible rfl
                rotate_left
                · simp only [Act.put, List.setIfInBounds_toArray, List.set_cons_zero, List.set_cons_succ, i64_w, i32_w]
                  rfl
                refine pure_ (i := 21) (N := some 158) (v := ?_) (a' := ?_) #[true, true, true, true, true, true, true, true, true, true, true, true, true, true, true, true, false, true, true, true, true, true, false, false, false, false, false, false, false, false, false] rfl rfl (by kernel_rfl) (fun _ _ _ h => h) (Or.inl ⟨by rfl, ?_⟩) ?_ ?_
                rotate_left
                · intro w'
                  go_simp
                  with_reducible rfl
                rotate_left
                · simp only [Act.put, List.setIfInBounds_toArray, List.set_cons_zero, List.set_cons_succ, i64_w, i32_w]
                  rfl
                refine one_ (i := 16) (N := some 153) #[true, true, true, true, true, true, true, true, true, true, true, true, true, true, true, true, true, true, true, true, true, true, false, false, false, false, false, false, false, false, false] rfl rfl (by kernel_rfl) (by decide) (fun K hK => ?_)
                refine goes_ Try.func27 (by kernel_rfl) rfl #[.pointer (some ⟨g, 0, none⟩)] (by rfl) rfl rfl (by (try simp only [List.map_toArray, List.map_cons, List.map_nil]); first | done | rfl) ?_
                (with_reducible refine (len_calls _ g b L (HVt.out.1.below (below_step HBd.out HD9.out))).mono ?_)
                rintro e_ w10 ⟨rfl, rfl⟩
                refine ⟨_, rfl, ?_⟩
                refine hK.out _ _ (Rv.cell (HRt.out.below (below_step HBd.out HD9.out))) (fun hHeld => ?_)
                clear hK K
                refine norm_ (a' := ?_) ?_ ?_
                rotate_left
                · show Act.put _ (some 153) _ = _
                  simp only [Act.put, List.setIfInBounds_toArray, List.set_cons_zero, List.set_cons_succ, i64_w, i32_w]
                  rfl
                refine pure_ (i := 22) (N := some 159) (v := ?_) (a' := ?_) #[true, true, true, true, true, true, true, true, true, true, true, true, true, true, true, true, true, true, true, true, true, true, true, false, false, false, false, false, false, false, false] rfl rfl (by kernel_rfl) (fun _ _ _ h => h) (Or.inl ⟨by rfl, ?_⟩) ?_ ?_
                rotate_left
                · intro w'
                  go_simp
                  with_reducible rfl
                rotate_left
                · simp only [Act.put, List.setIfInBounds_toArray, List.set_cons_zero, List.set_cons_succ, i64_w, i32_w]
                  rfl
                refine pure_ (i := 23) (N := some 160) (v := ?_) (a' := ?_) #[true, true, true, true, true, true, true, true, true, true, true, true, true, true, true, true, true, true, true, true, true, true, true, true, false, false, false, false, false, false, false] rfl rfl (by kernel_rfl) (fun _ _ _ h => h) (Or.inl ⟨by rfl, ?_⟩) ?_ ?_
                rotate_left
                · intro w'
                  go_simp
                  with_reducible rfl
                rotate_left
                · simp only [Act.put, List.setIfInBounds_toArray, List.set_cons_zero, List.set_cons_succ, i64_w, i32_w]
                  rfl
                refine pure_ (i := 24) (N := some 161) (v := ?_) (a' := ?_) #[true, true, true, true, true, true, true, true, true, true, true, true, true, true, true, true, true, true, true, true, true, true, true, true, true, false, false, false, false, false, false] rfl rfl (by kernel_rfl) (fun _ _ _ h => h) (Or.inl ⟨by rfl, ?_⟩) ?_ ?_
                rotate_left
                · intro w'
                  go_simp
                  with_reducible rfl
                rotate_left
                · simp only [Act.put, List.setIfInBounds_toArray, List.set_cons_zero, List.set_cons_succ, i64_w, i32_w]
                  rfl
                refine pure_ (i := 25) (N := some 162) (v := ?_) (a' := ?_) #[true, true, true, true, true, true, true, true, true, true, true, true, true, true, true, true, true, true, true, true, true, true, true, true, true, true, false, false, false, false, false] rfl rfl (by kernel_rfl) (fun _ _ _ h => h) (Or.inl ⟨by rfl, ?_⟩) ?_ ?_
                rotate_left
                · intro w'
                  go_simp
                  with_reducible rfl
                rotate_left
                · simp only [Act.put, List.setIfInBounds_toArray, List.set_cons_zero, List.set_cons_succ, i64_w, i32_w]
                  rfl
                refine pure_ (i := 26) (N := some 163) (v := ?_) (a' := ?_) #[true, true, true, true, true, true, true, true, true, true, true, true, true, true, true, true, true, true, true, true, true, true, true, true, true, true, true, false, false, false, false] rfl rfl (by kernel_rfl) (fun _ _ _ h => h) (Or.inl ⟨by rfl, ?_⟩) ?_ ?_
                rotate_left
                · intro w'
                  go_simp
                  with_reducible rfl
                rotate_left
                · simp only [Act.put, List.setIfInBounds_toArray, List.set_cons_zero, List.set_cons_succ, i64_w, i32_w]
                  rfl
                refine one_ (i := 27) (N := some 164) #[true, true, true, true, true, true, true, true, true, true, true, true, true, true, true, true, true, true, true, true, true, true, true, true, true, true, true, true, false, false, false] rfl rfl (by kernel_rfl) (by decide) (fun K hK => ?_)
                refine goes_ Try.func24 (by kernel_rfl) rfl #[.pointer (some ⟨g, 0, none⟩)] (by rfl) rfl rfl (by (try simp only [List.map_toArray, List.map_cons, List.map_nil]); first | done | rfl) ?_
                (with_reducible refine (copy_calls _ g b L (HVt.out.1.below (below_step HBd.out HD9.out))).mono ?_)
                rintro e_ w10 ⟨g9, b9, rfl, h1_, _, _, h2_⟩
                have HV10 := Aside0.mk h1_
                have HD10 := Aside0.mk (below_step HD9.out h2_)
                clear h1_ h2_
                refine ⟨_, rfl, ?_⟩
                refine hK.out _ _ (Rv.cell (HRt.out.below (below_step HBd.out HD10.out))) (fun hHeld => ?_)
                clear hK K
                refine norm_ (a' := ?_) ?_ ?_
                rotate_left
                · show Act.put _ (some 164) _ = _
                  simp only [Act.put, List.setIfInBounds_toArray, List.set_cons_zero, List.set_cons_succ, i64_w, i32_w]
                  rfl
                refine last_ (i := 28) (N := some 165) #[true, true, true, true, true, true, true, true, true, true, true, true, true, true, true, true, true, true, true, true, true, true, true, true, true, true, true, true, true, false, false] rfl rfl (by kernel_rfl) (by decide) (fun K hK => ?_)
                refine goes_ Try.func18 (by kernel_rfl) rfl #[.pointer (some ⟨g, 0, none⟩), .pointer (some ⟨g9, 0, none⟩)] (by rfl) rfl rfl (by (try simp only [List.map_toArray, List.map_cons, List.map_nil]); first | done | rfl) ?_
                (with_reducible refine (same_calls _ g b g9 b9 L L (HVt.out.1.below (below_step HBd.out HD10.out)) HV10.out).mono ?_)
                rintro e_ w11 ⟨rr, rfl, h1_, h2_⟩
                obtain rfl := h1_.2 rfl
                have HD11 := Aside0.mk (below_step HD10.out h2_)
                clear h1_ h2_
                refine ⟨_, rfl, ?_⟩
                refine hK.out _ _ ?_
                clear hK K
                refine norm_ (a' := ?_) ?_ ?_
                rotate_left
                · show Act.put _ (some 165) _ = _
                  simp only [Act.put, List.setIfInBounds_toArray, List.set_cons_zero, List.set_cons_succ, i64_w, i32_w]
                  rfl
                refine pure_ (i := 29) (N := some 166) (v := ?_) (a' := ?_) #[true, true, true, true, true, true, true, true, true, true, true, true, true, true, true, true, true, true, true, true, true, true, true, true, true, true, true, true, true, true, false] rfl rfl (by kernel_rfl) (fun _ _ _ h => h) (Or.inl ⟨by rfl, ?_⟩) ?_ ?_
                rotate_left
                · intro w'
                  go_simp
                  with_reducible rfl
                rotate_left
                · simp only [Act.put, List.setIfInBounds_toArray, List.set_cons_zero, List.set_cons_succ, i64_w, i32_w]
                  rfl
                refine pure_ (i := 30) (N := some 167) (v := ?_) (a' := ?_) #[true, true, true, true, true, true, true, true, true, true, true, true, true, true, true, true, true, true, true, true, true, true, true, true, true, true, true, true, true, true, true] rfl rfl (by kernel_rfl) (fun _ _ _ h => h) (Or.inl ⟨by rfl, ?_⟩) ?_ ?_
                rotate_left
                · intro w'
                  go_simp
                  with_reducible rfl
                rotate_left
                · simp only [Act.put, List.setIfInBounds_toArray, List.set_cons_zero, List.set_cons_succ, i64_w, i32_w]
                  rfl
                refine done_ (by kernel_rfl) ?_
                have HOe5 := Aside0.mk (HOd5.out.below HD11.out)
                have HOe6 := Aside0.mk (HOd6.out.below HD11.out)
                have HB11 := Aside0.mk (below_step HBd.out HD11.out)
                clear HOd5 HOd6 HD7 HD8 HD9 HD10 HD11 HC8 HL8 HV10 HEQ HEL HBd
                go_upto_region 30 with (first | (go_at_call 28; (with_reducible refine (spoil_calls _ wr.heap.size cap5 L.length p5 L HOe5.out (by have := HVt.out.2.1; omega)).mono ?_); rintro e w12 ⟨rfl, h1_, h2_⟩; have HB12 := Aside0.mk (HB11.out.trans (h1_ _ (Nat.le_refl _) HB11.out.size)); have HOf6 := Aside0.mk (h2_ _ _ _ _ _ HOe6.out (Or.inr HP5.out)); clear h1_ h2_))
                go_wp2_with (first | (go_at_call 28; (with_reducible refine (spoil_calls _ w5.heap.size cap6 (liveL L).length p6 (liveL L) HOf6.out (by have := HVt.out.2.1; have := liveL_le L; omega)).mono ?_); rintro e w13 ⟨rfl, h1_, h2_⟩; have HB13 := Aside0.mk (HB12.out.trans (h1_ _ HS5.out HB12.out.size)); clear h1_ h2_))
                go_roundw
                case rel => exact ⟨k + 1, g, b, p, c2, L, by have := HLT.out; omega, rfl, by go_num, ⟨HVt.out.1.below HB13.out, HVt.out.2⟩, ⟨HRt.out.below HB13.out⟩, ⟨below_step HBt.out HB13.out⟩, HGt⟩
                case measure => have := HLT.out; simp [intOf, wrap64]; omega
      · obtain rfl : k = l.length := by omega
        obtain ⟨ke, hke⟩ := equal_same L (by have := HV.out.2.1; omega)
        have HEQ := Aside0.mk hke
        clear hke
        go_upto_region 31 with (fail)
        have HBd := Aside0.mk (below_drew1 (Below.refl wr.heap.size wr))
        refine start_ (n := 11) (S := (fun w' => w'.cell? ⟨h, 0, none⟩ = some (.slice p L.length c2))) (ds := [8]) #[false, false, false, false, false, false, false, false, false, false, false] (by kernel_rfl) rfl rfl (Rv.cell (HR.out.below HBd.out)) (fun hHeld => ?_)
        generalize wr.drew = wd at HBd hHeld ⊢
        refine pure_ (i := 0) (N := some 172) (v := ?_) (a' := ?_) #[true, false, false, false, false, false, false, false, false, false, false] rfl rfl (by kernel_rfl) (fun _ _ _ h => h) (Or.inl ⟨by rfl, ?_⟩) ?_ ?_
        rotate_left
        · intro w'
          go_simp
          with_reducible rfl
        rotate_left
        · simp only [Act.put, List.setIfInBounds_toArray, List.set_cons_zero, List.set_cons_succ, i64_w, i32_w]
          rfl
        refine pure_ (i := 2) (N := some 174) (v := ?_) (a' := ?_) #[true, false, true, false, false, false, false, false, false, false, false] rfl rfl (by kernel_rfl) (fun _ _ _ h => h) (Or.inl ⟨by rfl, ?_⟩) ?_ ?_
        rotate_left
        · intro w'
          go_simp
          with_reducible rfl
        rotate_left
        · simp only [Act.put, List.setIfInBounds_toArray, List.set_cons_zero, List.set_cons_succ, i64_w, i32_w]
          rfl
        refine pure_ (i := 3) (N := some 175) (v := ?_) (a' := ?_) #[true, false, true, true, false, false, false, false, false, false, false] rfl rfl (by kernel_rfl) (fun _ _ _ h => h) (Or.inl ⟨by rfl, ?_⟩) ?_ ?_
        rotate_left
        · intro w'
          go_simp
          with_reducible rfl
        rotate_left
        · simp only [Act.put, List.setIfInBounds_toArray, List.set_cons_zero, List.set_cons_succ, i64_w, i32_w]
          rfl
        refine pure_ (i := 4) (N := some 176) (v := ?_) (a' := ?_) #[true, false, true, true, true, false, false, false, false, false, false] rfl rfl (by kernel_rfl) (fun _ _ _ h => h) (Or.inl ⟨by rfl, ?_⟩) ?_ ?_
        rotate_left
        · intro w'
          go_simp
          with_reducible rfl
        rotate_left
        · simp only [Act.put, List.setIfInBounds_toArray, List.set_cons_zero, List.set_cons_succ, i64_w, i32_w]
          rfl
        refine take_ (i := 5) (N := some 177) (v := ?_) (a' := ?_) #[true, false, true, true, true, true, false, false, false, false, false] rfl rfl (by kernel_rfl) (fun _ _ _ h => h) (Or.inl ⟨by rfl, ?_⟩) hHeld ?_ ?_
        rotate_left
        · rintro w' h0_
          go_simp
          with_reducible rfl
        rotate_left
        · simp only [Act.put, List.setIfInBounds_toArray, List.set_cons_zero, List.set_cons_succ, i64_w, i32_w]
          rfl
        refine one_ (i := 1) (N := some 173) #[true, true, true, true, true, true, false, false, false, false, false] rfl rfl (by kernel_rfl) (by decide) (fun K hK => ?_)
        refine goes_ Try.func16 (by kernel_rfl) rfl #[.pointer (some ⟨g, 0, none⟩)] (by rfl) rfl rfl (by (try simp only [List.map_toArray, List.map_cons, List.map_nil]); first | done | rfl) ?_
        (with_reducible refine (list_calls _ g b L (HV.out.1.below HBd.out) (by have := HV.out.2.1; omega)).mono ?_)
        rintro e_ w5 ⟨v5, rfl, h1_, h2_⟩
        obtain ⟨p5, cap5, rfl, hcap_, hcm_, hp_⟩ := rowP h1_ rfl
        have HO5 : Aside0 (Ro w5 wd.heap.size p5 cap5 L.length L) := ⟨⟨rfl, ⟨hcap_, hcm_⟩, hp_⟩⟩
        have HB5 := Aside0.mk (below_step HBd.out h2_)
        clear h1_ h2_ hcap_ hcm_ hp_
        refine ⟨_, rfl, ?_⟩
        refine hK.out _ _ (Rv.cell (HR.out.below HB5.out)) (fun hHeld => ?_)
        clear hK K
        refine norm_ (a' := ?_) ?_ ?_
        rotate_left
        · show Act.put _ (some 173) _ = _
          simp only [Act.put, List.setIfInBounds_toArray, List.set_cons_zero, List.set_cons_succ, i64_w, i32_w]
          rfl
        refine one_ (i := 6) (N := some 178) #[true, true, true, true, true, true, true, false, false, false, false] rfl rfl (by kernel_rfl) (by decide) (fun K hK => ?_)
        refine goes_ Try.func19 (by kernel_rfl) rfl #[.slice p5 L.length cap5, .slice p L.length c2] (by rfl) rfl rfl (by (try simp only [List.map_toArray, List.map_cons, List.map_nil]); first | done | rfl) ?_
        (with_reducible refine (hearsayref17_Equal.calls ke p5 cap5 L p c2 L true _ HO5.out.C HO5.out.capl.1 (HR.out.below HB5.out).C HR.out.cap.1 HEQ.out).mono ?_)
        rintro e_ w7 ⟨rfl, h1_⟩
        have HB7 := Aside0.mk (below_step HB5.out (Drawn0.below h1_))
        clear h1_
        refine ⟨_, rfl, ?_⟩
        refine hK.out _ _ (Rv.cell (HR.out.below HB7.out)) (fun hHeld => ?_)
        clear hK K
        refine norm_ (a' := ?_) ?_ ?_
        rotate_left
        · show Act.put _ (some 178) _ = _
          simp only [Act.put, List.setIfInBounds_toArray, List.set_cons_zero, List.set_cons_succ, i64_w, i32_w]
          rfl
        refine pure_ (i := 7) (N := some 179) (v := ?_) (a' := ?_) #[true, true, true, true, true, true, true, true, false, false, false] rfl rfl (by kernel_rfl) (fun _ _ _ h => h) (Or.inl ⟨by rfl, ?_⟩) ?_ ?_
        rotate_left
        · intro w'
          go_simp
          with_reducible rfl
        rotate_left
        · simp only [Act.put, List.setIfInBounds_toArray, List.set_cons_zero, List.set_cons_succ, i64_w, i32_w]
          rfl
        refine last_ (i := 8) (N := some 180) #[true, true, true, true, true, true, true, true, true, false, false] rfl rfl (by kernel_rfl) (by decide) (fun K hK => ?_)
        refine goes_ Try.func13 (by kernel_rfl) rfl #[] (by rfl) rfl rfl (by (try simp only [List.map_toArray, List.map_cons, List.map_nil]); first | done | rfl) ?_
        (with_reducible refine (wakes_true _).mono ?_)
        rintro e_ w8 ⟨rfl, h1_⟩
        have HB8 := Aside0.mk (below_step HB7.out h1_)
        clear h1_
        refine ⟨_, rfl, ?_⟩
        refine hK.out _ _ ?_
        clear hK K
        refine norm_ (a' := ?_) ?_ ?_
        rotate_left
        · show Act.put _ (some 180) _ = _
          simp only [Act.put, List.setIfInBounds_toArray, List.set_cons_zero, List.set_cons_succ, i64_w, i32_w]
          rfl
        refine pure_ (i := 9) (N := some 181) (v := ?_) (a' := ?_) #[true, true, true, true, true, true, true, true, true, true, false] rfl rfl (by kernel_rfl) (fun _ _ _ h => h) (Or.inl ⟨by rfl, ?_⟩) ?_ ?_
        rotate_left
        · intro w'
          go_simp
          with_reducible rfl
        rotate_left
        · simp only [Act.put, List.setIfInBounds_toArray, List.set_cons_zero, List.set_cons_succ, i64_w, i32_w]
          rfl
        refine pure_ (i := 10) (N := some 2) (v := ?_) (a' := ?_) #[true, true, true, true, true, true, true, true, true, true, true] rfl rfl (by kernel_rfl) (fun _ _ _ h => h) (Or.inl ⟨by rfl, ?_⟩) ?_ ?_
        rotate_left
        · intro w'
          go_simp
          with_reducible rfl
        rotate_left
        · simp only [Act.put, List.setIfInBounds_toArray, List.set_cons_zero, List.set_cons_succ, i64_w, i32_w]
          rfl
        refine done_ (by kernel_rfl) ?_
        try go_wp2
        go_ret
        exact ⟨rfl, below_step HB.out HB8.out⟩
end Go.Proofs.Ytognmibankcefaa.Print
