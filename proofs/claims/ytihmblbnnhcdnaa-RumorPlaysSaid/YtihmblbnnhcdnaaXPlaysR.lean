/- RumorPlays, walked. -/
import Derived.Test.YtihmblbnnhcdnaaXPlaysM
namespace Go.Proofs.Ytihmblbnnhcdnaa.Print
open Go.RowKit Go.Maps Go.ChangeMaps Go.Proofs.YtihmblbnnhcdnaaW.PrintWords Go.Proofs.YtihmblbnnhcdnaaW.PrintLast Go.Proofs.YtihmblbnnhcdnaaW.PrintMore
set_option linter.unusedVariables false
set_option linter.unusedSimpArgs false
set_option maxHeartbeats 40000000 in
set_option maxRecDepth 100000 in
theorem playsr_law (w : World) (t : Int) (A : Option Addr) (c : Nat) (l : List S35) (hC : Kd.C k35 w A l.length l) (hc : l.length ≤ c) (hwf : ∀ x ∈ l, Opens.wfM x.f2) :
    Calls Try.prog 3 #[.int .i64 t, .slice A l.length c] w fun e w' => e = .returned (.bool true) ∧ Below w.heap.size w w' := by
  have hu33 := Try.underlying33
  have hu35 := Try.underlying35
  have HC := Aside0.mk hC
  have HWF := Aside0.mk hwf
  clear hC hwf
  by_cases hbig : (l.length : Int) > 200
  · go_enter Try.func3, Try.ntmps3
    go_wp2_with (first | (go_at_call 7; (with_reducible refine (wakesR_true _).mono ?_); rintro e w1 ⟨rfl, h1_⟩; have HB1 := Aside0.mk h1_; clear h1_))
    go_ret
    exact ⟨rfl, HB1.out⟩
  · have hl200 : l.length ≤ 200 := by omega
    by_cases hbad : t < 1 ∨ 64 < t
    · go_enter Try.func3, Try.ntmps3
      have HBD := Aside0.mk hbad
      clear hbad
      go_wp2_with (first
        | (go_at_call 8; (with_reducible refine (newq_bad _ t HBD.out).mono ?_); rintro e w1 ⟨rfl, h1_⟩; have HB1 := Aside0.mk h1_; clear h1_)
        | (go_at_call 9; (with_reducible refine (rnew_bad _ t HBD.out).mono ?_); rintro e w2 ⟨rfl, h1_⟩; have HB2 := Aside0.mk (below_step HB1.out h1_); clear h1_)
        | (go_at_call 7; (with_reducible refine (wakesR_true _).mono ?_); rintro e w3 ⟨rfl, h1_⟩; have HB3 := Aside0.mk (below_step HB2.out h1_); clear h1_))
      go_ret
      exact ⟨rfl, HB3.out⟩
    · have HT : Aside0 (1 ≤ t ∧ t ≤ 64) := ⟨by omega⟩
      clear hbad
      go_enter Try.func3, Try.ntmps3
      go_upto_region 4 with (first | (go_at_call 8; (with_reducible refine (newq_s _ t HT.out.1 HT.out.2).mono ?_); rintro e w1 ⟨g, mb, v, hs, rfl, h1_, h2_, h3_⟩; have HQ1 := Aside0.mk h1_; have HG1 := Aside0.mk h2_; have HB1 := Aside0.mk h3_; clear h1_ h2_ h3_))
      go_upto_region 5 with (first | (go_at_call 9; (with_reducible refine (rnew_calls _ t HT.out.1 HT.out.2).mono ?_); rintro e w2 ⟨h, rfl, h1_, h2_, h3_⟩; have HR2 := Aside0.mk h1_; have HH := Aside0.mk (Nat.le_trans HB1.out.size h2_); have HQ2 := Aside0.mk (HQ1.out.below h3_); have HB2 := Aside0.mk (below_step HB1.out h3_); clear h1_ h2_ h3_ HQ1 HB1))
      go_wp2
      go_loopw [5, 8] (fun vq i wr => ∃ (k g mb : Nat) (v : Value) (hs : Hs) (last : Int) (L : List One) (p : Option Addr) (c2 : Nat), k ≤ l.length ∧ vq = .pointer (some ⟨g, 0, none⟩) ∧ i = .int .i64 k ∧ Aside0 (Qs wr g mb t last v hs L) ∧ Aside0 (Rf wr h t last p c2 L) ∧ Aside0 (last ≤ (k : Int)) ∧ Aside0 (Below w.heap.size w wr) ∧ Aside0 ((∀ j, QB g mb v hs j → w.heap.size ≤ j) ∧ ∀ j, RB h p j → w.heap.size ≤ j)) (fun _ i _ => l.length - (intOf i).toNat)
      case atStart => exact ⟨0, g, mb, v, hs, 0, [], none, 0, Nat.zero_le _, rfl, rfl, HQ2, HR2, ⟨by simp⟩, HB2, ⟨HG1.out, fun j hj => by rcases hj with rfl | ⟨a, ha, _⟩; exact HH.out; cases ha⟩⟩
      case round =>
        clear HQ2 HR2 HB2 HG1
        obtain ⟨k, g, mb, v, hs, last, L, p, c2, hk, rfl, rfl, HQ, HR, HL, HB, HG⟩ := hrel
        by_cases hlt : (k : Int) < (l.length : Int)
        · have HLT := Aside0.mk (show k < l.length by omega)
          obtain ⟨x, hx⟩ : ∃ x, l[k]? = some x := ⟨l[k]'(by omega), List.getElem?_eq_getElem (by omega)⟩
          obtain ⟨ad, eA, x0_, _, _, _, _, _⟩ := at_A (Kd.C_below HC.out HB.out) hx
          cases eA
          have HAT := Aside0.mk (fun W (hW : Below w.heap.size w W) => show W.cell? ⟨(ad.add (k * 6)).block, (ad.add (k * 6)).off + 1, none⟩ = some (.int .i64 x.f1) ∧ W.cell? ⟨(ad.add (k * 6)).block, (ad.add (k * 6)).off + 2, none⟩ = some (.int .u32 x.f2.f0) ∧ W.cell? ⟨(ad.add (k * 6)).block, (ad.add (k * 6)).off + 3, none⟩ = some (.int .u32 x.f2.f1) ∧ W.cell? ⟨(ad.add (k * 6)).block, (ad.add (k * 6)).off + 4, none⟩ = some (.int .u8 x.f2.f2) ∧ W.cell? ⟨(ad.add (k * 6)).block, (ad.add (k * 6)).off + 5, none⟩ = some (.string x.f2.f3) from by
            obtain ⟨ad', e', _, h'⟩ := at_A (Kd.C_below HC.out hW) hx
            cases e'
            exact h')
          have HX := Aside0.mk (HWF.out x (List.mem_of_getElem? hx))
          have hL_ := HL.out
          have HL : Aside0 (last ≤ (k : Int) ∧ last ≤ 200) := ⟨by omega⟩
          obtain ⟨d, hd⟩ : ∃ d, d = x.f0 := ⟨_, rfl⟩
          rw [← hd] at x0_
          have hk0 : 0 ≤ (k : Int) := by omega
          clear hx hd hL_
          by_cases hd0 : d = 0
          · subst hd0
            obtain ⟨a, er, L', last', hadd⟩ : ∃ a er L' last', addL L last x.f2 = (a, er, L', last') := ⟨_, _, _, _, rfl⟩
            have HAL := Aside0.mk (add_len (t := t) (last := last) (L := L) x.f2)
            have HQC := Aside0.mk (addq_s wr g mb t last v hs L x.f2 HQ.out HX.out.1 (by have := HL.out; omega))
            have HRC := Aside0.mk (fun W (hR : Rf W h t last p c2 L) => radd_calls W h t last p c2 L x.f2 hR HQ.out.al (by have := HQ.out.len; have := HL.out; omega) (by have := HQ.out.len; have := HL.out; omega) HX.out.2)
            rw [hadd] at HQC HAL
            simp only [hadd] at HRC
            clear hadd
            go_upto_region 14 with (fail)
            clear x0_
            obtain ⟨x11_, x12_, x13_, x14_, x15_⟩ := HAT.out _ HB.out
            go_upto_region 15 with (first | (go_at_call 10; refine HQC.out.mono ?_; rintro e w3 ⟨v3, hs3, rfl, h1_, h2_, h3_⟩; have HQ3 := Aside0.mk h1_; have HK3 := Aside0.mk h2_; have HN3 := Aside0.mk h3_; clear h1_ h2_ h3_ HQC x11_ x12_ x13_ x14_ x15_))
            have HB3 := Aside0.mk (HB.out.trans (HK3.out.below HB.out.size HG.out.1))
            have HR3 := Aside0.mk (HR.out.kp HK3.out (fun j hj hj' => qr_dis HQ.out HR.out j hj' hj))
            obtain ⟨x21_, x22_, x23_, x24_, x25_⟩ := HAT.out _ HB3.out
            go_upto_region 16 with (first | (go_at_call 11; refine (HRC.out _ HR3.out).mono ?_; rintro e w4 ⟨p4, c4, rfl, h1_, h2_, h3_⟩; have HRt := Aside0.mk h1_; have HK4 := Aside0.mk h2_; have HN4 := Aside0.mk h3_; clear h1_ h2_ h3_ HRC x21_ x22_ x23_ x24_ x25_))
            have HQt := Aside0.mk (HQ3.out.kp HK4.out (fun j hj hj' => qr_dis HQ3.out HR3.out j hj hj'))
            have HBt := Aside0.mk (HB3.out.trans (HK4.out.below HB3.out.size HG.out.2))
            have HGt : Aside0 ((∀ j, QB g mb v3 hs3 j → w.heap.size ≤ j) ∧ ∀ j, RB h p4 j → w.heap.size ≤ j) := ⟨fun j hj => (HN3.out j hj).elim (HG.out.1 j) (fun h => Nat.le_trans HB.out.size h), fun j hj => (HN4.out j hj).elim (HG.out.2 j) (fun h => Nat.le_trans HB3.out.size h)⟩
            have HLt : Aside0 (last' ≤ 800000) := ⟨by have := HL.out; have := HAL.out; omega⟩
            have HLt' : Aside0 (last' ≤ ((k + 1 : Nat) : Int)) := ⟨by have := HL.out; have := HAL.out; omega⟩
            clear HQ HR HB HG HL HQ3 HR3 HB3 HK3 HK4 HN3 HN4 HAL
            have hnb : (a != a) = false := by simp
            have hne : (er != er) = false := by simp
            go_upto_region 27 with (fail)
            clear hnb hne
            obtain ⟨ms, hms⟩ : ∃ ms, ms = memsL L' := ⟨_, rfl⟩
            have HMS := Aside0.mk hms
            have HML : Aside0 (ms.length ≤ 1000000) := ⟨by rw [hms, memsL_len]; have := HQt.out.len; have := HLt.out; omega⟩
            have HLI := Aside0.mk (listq_m w4 g mb t last' v3 hs3 L' HQt.out (by have := HLt.out; omega))
            have HRL := Aside0.mk (fun W' (hR : Rf W' h t last' p4 c4 L') => rlist_m W' h t last' p4 c4 L' hR (by have := HQt.out.len; have := HLt.out; omega))
            rw [← hms] at HLI
            simp only [← hms] at HRL
            clear hms
            go_upto_region 28 with (first | (go_at_call 16; refine HLI.out.mono ?_; rintro e w5 ⟨A5, c5, rfl, h1_, h2_⟩; have HO5 := Aside0.mk h1_; have HB5 : Aside0 (Below w4.heap.size w4 w5) := ⟨h2_⟩; clear h1_ h2_ HLI))
            have hbd := below_drew1 (Below.refl w5.heap.size w5)
            have HBd := Aside0.mk (below_step HB5.out hbd)
            have HOd := Aside0.mk (Kd.R_below HO5.out hbd)
            clear hbd HO5 HB5
            obtain ⟨ke, hke⟩ := equal_sameR ms HML.out
            have HEQ := Aside0.mk hke
            clear hke
            obtain ⟨zz, hzz⟩ : ∃ zz, zz = leftL t L' x.f2.f0 := ⟨_, rfl⟩
            have HLC : Aside0 (∀ W', Below w4.heap.size w4 W' → Calls Try.prog 18 #[.pointer (some ⟨g, 0, none⟩), .int .u32 x.f2.f0] W' fun e w' => e = .returned (.int .i64 zz) ∧ Below W'.heap.size W' w') := ⟨fun W' hW => by rw [hzz]; exact leftq_s W' g mb t last' v3 hs3 L' x.f2.f0 (HQt.out.below hW) HX.out.1⟩
            have HRC : Aside0 (∀ W', Below w4.heap.size w4 W' → Calls Try.prog 19 #[.pointer (some ⟨h, 0, none⟩), .int .u32 x.f2.f0] W' fun e w' => e = .returned (.int .i64 zz) ∧ Below W'.heap.size W' w') := ⟨fun W' hW => by rw [hzz]; exact rleft_calls W' h t last' p4 c4 L' x.f2.f0 (HRt.out.below hW) HQt.out.al HT.out.2 (by have := HQt.out.len; have := HLt.out; omega)⟩
            clear hzz
            refine start_ (n := 24) (S := (fun w' => w'.cell? ⟨(ad.add (k * 6)).block, (ad.add (k * 6)).off + 2, none⟩ = some (.int .u32 x.f2.f0))) (ds := [21]) #[false, false, false, false, false, false, false, false, false, false, false, false, false, false, false, false, false, false, false, false, false, false, false, false] (by kernel_rfl) rfl rfl ((HAT.out _ (below_step HBt.out HBd.out)).2.1) (fun hHeld => ?_)
            generalize w5.drew = wd at HBd HOd hHeld ⊢
            refine pure_ (i := 0) (N := some 122) (v := ?_) (a' := ?_) #[true, false, false, false, false, false, false, false, false, false, false, false, false, false, false, false, false, false, false, false, false, false, false, false] rfl rfl (by kernel_rfl) (fun _ _ _ h => h) (Or.inl ⟨by rfl, ?_⟩) ?_ ?_
            rotate_left
            · intro w'
              go_simp
              with_reducible rfl
            rotate_left
            · simp only [Act.put, List.setIfInBounds_toArray, List.set_cons_zero, List.set_cons_succ, i64_w, i32_w]
              rfl
            refine pure_ (i := 1) (N := some 123) (v := ?_) (a' := ?_) #[true, true, false, false, false, false, false, false, false, false, false, false, false, false, false, false, false, false, false, false, false, false, false, false] rfl rfl (by kernel_rfl) (fun _ _ _ h => h) (Or.inl ⟨by rfl, ?_⟩) ?_ ?_
            rotate_left
            · intro w'
              go_simp
              with_reducible rfl
            rotate_left
            · simp only [Act.put, List.setIfInBounds_toArray, List.set_cons_zero, List.set_cons_succ, i64_w, i32_w]
              rfl
            refine one_ (i := 2) (N := some 124) #[true, true, true, false, false, false, false, false, false, false, false, false, false, false, false, false, false, false, false, false, false, false, false, false] rfl rfl (by kernel_rfl) (by decide) (fun K hK => ?_)
            refine goes_ Try.func17 (by kernel_rfl) rfl #[.pointer (some ⟨h, 0, none⟩)] (by rfl) rfl rfl (by (try simp only [List.map_toArray, List.map_cons, List.map_nil]); first | done | rfl) ?_
            refine (HRL.out _ (HRt.out.below HBd.out)).mono ?_
            rintro e_ w7 ⟨A8, c8, rfl, h1_, h2_⟩
            have HO8 := Aside0.mk h1_
            have HD7 := Aside0.mk h2_
            have HB7 := Aside0.mk (below_step HBd.out h2_)
            have HO7 := Aside0.mk (Kd.R_below HOd.out h2_)
            clear h1_ h2_
            refine ⟨_, rfl, ?_⟩
            refine hK.out _ _ ((HAT.out _ (below_step HBt.out HB7.out)).2.1) (fun hHeld => ?_)
            clear hK K
            refine norm_ (a' := ?_) ?_ ?_
            rotate_left
            · show Act.put _ (some 124) _ = _
              simp only [Act.put, List.setIfInBounds_toArray, List.set_cons_zero, List.set_cons_succ, i64_w, i32_w]
              rfl
            refine one_ (i := 3) (N := some 125) #[true, true, true, true, false, false, false, false, false, false, false, false, false, false, false, false, false, false, false, false, false, false, false, false] rfl rfl (by kernel_rfl) (by decide) (fun K hK => ?_)
            refine goes_ Try.func12 (by kernel_rfl) rfl #[.slice A5 ms.length c5, .slice A8 ms.length c8] (by rfl) rfl rfl (by (try simp only [List.map_toArray, List.map_cons, List.map_nil]); first | done | rfl) ?_
            (with_reducible refine (hearsayref17_Equal.calls ke A5 c5 ms A8 c8 ms true _ (Kd.R_reads' HO7.out).2.2 (Kd.R_reads' HO7.out).2.1 (Kd.R_reads' HO8.out).2.2 (Kd.R_reads' HO8.out).2.1 HEQ.out).mono ?_)
            rintro e_ w8 ⟨rfl, h1_⟩
            have HB8 := Aside0.mk (below_step HB7.out (Drawn0.below h1_))
            have HO9 := Aside0.mk (Kd.R_below HO7.out (Drawn0.below h1_))
            clear h1_
            refine ⟨_, rfl, ?_⟩
            refine hK.out _ _ ((HAT.out _ (below_step HBt.out HB8.out)).2.1) (fun hHeld => ?_)
            clear hK K
            refine norm_ (a' := ?_) ?_ ?_
            rotate_left
            · show Act.put _ (some 125) _ = _
              simp only [Act.put, List.setIfInBounds_toArray, List.set_cons_zero, List.set_cons_succ, i64_w, i32_w]
              rfl
            refine pure_ (i := 4) (N := some 126) (v := ?_) (a' := ?_) #[true, true, true, true, true, false, false, false, false, false, false, false, false, false, false, false, false, false, false, false, false, false, false, false] rfl rfl (by kernel_rfl) (fun _ _ _ h => h) (Or.inl ⟨by rfl, ?_⟩) ?_ ?_
            rotate_left
            · intro w'
              go_simp
              with_reducible rfl
            rotate_left
            · simp only [Act.put, List.setIfInBounds_toArray, List.set_cons_zero, List.set_cons_succ, i64_w, i32_w]
              rfl
            refine pure_ (i := 5) (N := some 127) (v := ?_) (a' := ?_) #[true, true, true, true, true, true, false, false, false, false, false, false, false, false, false, false, false, false, false, false, false, false, false, false] rfl rfl (by kernel_rfl) (fun _ _ _ h => h) (Or.inl ⟨by rfl, ?_⟩) ?_ ?_
            rotate_left
            · intro w'
              go_simp
              with_reducible rfl
            rotate_left
            · simp only [Act.put, List.setIfInBounds_toArray, List.set_cons_zero, List.set_cons_succ, i64_w, i32_w]
              rfl
            refine pure_ (i := 6) (N := some 128) (v := ?_) (a' := ?_) #[true, true, true, true, true, true, true, false, false, false, false, false, false, false, false, false, false, false, false, false, false, false, false, false] rfl rfl (by kernel_rfl) (fun _ _ _ h => h) (Or.inl ⟨by rfl, ?_⟩) ?_ ?_
            rotate_left
            · intro w'
              go_simp
              with_reducible rfl
            rotate_left
            · simp only [Act.put, List.setIfInBounds_toArray, List.set_cons_zero, List.set_cons_succ, i64_w, i32_w]
              rfl
            refine pure_ (i := 7) (N := some 129) (v := ?_) (a' := ?_) #[true, true, true, true, true, true, true, true, false, false, false, false, false, false, false, false, false, false, false, false, false, false, false, false] rfl rfl (by kernel_rfl) (fun _ _ _ h => h) (Or.inl ⟨by rfl, ?_⟩) ?_ ?_
            rotate_left
            · intro w'
              go_simp
              with_reducible rfl
            rotate_left
            · simp only [Act.put, List.setIfInBounds_toArray, List.set_cons_zero, List.set_cons_succ, i64_w, i32_w]
              rfl
            refine pure_ (i := 8) (N := some 130) (v := ?_) (a' := ?_) #[true, true, true, true, true, true, true, true, true, false, false, false, false, false, false, false, false, false, false, false, false, false, false, false] rfl rfl (by kernel_rfl) (fun _ _ _ h => h) (Or.inl ⟨by rfl, ?_⟩) ?_ ?_
            rotate_left
            · intro w'
              go_simp
              with_reducible rfl
            rotate_left
            · simp only [Act.put, List.setIfInBounds_toArray, List.set_cons_zero, List.set_cons_succ, i64_w, i32_w]
              rfl
            refine pure_ (i := 9) (N := some 131) (v := ?_) (a' := ?_) #[true, true, true, true, true, true, true, true, true, true, false, false, false, false, false, false, false, false, false, false, false, false, false, false] rfl rfl (by kernel_rfl) (fun _ _ _ h => h) (Or.inl ⟨by rfl, ?_⟩) ?_ ?_
            rotate_left
            · intro w'
              go_simp
              with_reducible rfl
            rotate_left
            · simp only [Act.put, List.setIfInBounds_toArray, List.set_cons_zero, List.set_cons_succ, i64_w, i32_w]
              rfl
            refine pure_ (i := 10) (N := some 132) (v := ?_) (a' := ?_) #[true, true, true, true, true, true, true, true, true, true, true, false, false, false, false, false, false, false, false, false, false, false, false, false] rfl rfl (by kernel_rfl) (fun _ _ _ h => h) (Or.inl ⟨by rfl, ?_⟩) ?_ ?_
            rotate_left
            · intro w'
              go_simp
              with_reducible rfl
            rotate_left
            · simp only [Act.put, List.setIfInBounds_toArray, List.set_cons_zero, List.set_cons_succ, i64_w, i32_w]
              rfl
            refine pure_ (i := 11) (N := some 133) (v := ?_) (a' := ?_) #[true, true, true, true, true, true, true, true, true, true, true, true, false, false, false, false, false, false, false, false, false, false, false, false] rfl rfl (by kernel_rfl) (fun _ _ _ h => h) (Or.inl ⟨by rfl, ?_⟩) ?_ ?_
            rotate_left
            · intro w'
              go_simp
              with_reducible rfl
            rotate_left
            · simp only [Act.put, List.setIfInBounds_toArray, List.set_cons_zero, List.set_cons_succ, i64_w, i32_w]
              rfl
            refine take_ (i := 12) (N := some 134) (v := ?_) (a' := ?_) #[true, true, true, true, true, true, true, true, true, true, true, true, true, false, false, false, false, false, false, false, false, false, false, false] rfl rfl (by kernel_rfl) (fun _ _ _ h => h) (Or.inl ⟨by rfl, ?_⟩) hHeld ?_ ?_
            rotate_left
            · rintro w' h0_
              go_simp
              with_reducible rfl
            rotate_left
            · simp only [Act.put, List.setIfInBounds_toArray, List.set_cons_zero, List.set_cons_succ, i64_w, i32_w]
              rfl
            refine pure_ (i := 14) (N := some 136) (v := ?_) (a' := ?_) #[true, true, true, true, true, true, true, true, true, true, true, true, true, false, true, false, false, false, false, false, false, false, false, false] rfl rfl (by kernel_rfl) (fun _ _ _ h => h) (Or.inl ⟨by rfl, ?_⟩) ?_ ?_
            rotate_left
            · intro w'
              go_simp
              with_reducible rfl
            rotate_left
            · simp only [Act.put, List.setIfInBounds_toArray, List.set_cons_zero, List.set_cons_succ, i64_w, i32_w]
              rfl
            refine pure_ (i := 15) (N := some 137) (v := ?_) (a' := ?_) #[true, true, true, true, true, true, true, true, true, true, true, true, true, false, true, true, false, false, false, false, false, false, false, false] rfl rfl (by kernel_rfl) (fun _ _ _ h => h) (Or.inl ⟨by rfl, ?_⟩) ?_ ?_
            rotate_left
            · intro w'
              go_simp
              with_reducible rfl
            rotate_left
            · simp only [Act.put, List.setIfInBounds_toArray, List.set_cons_zero, List.set_cons_succ, i64_w, i32_w]
              rfl
            refine pure_ (i := 16) (N := some 138) (v := ?_) (a' := ?_) #[true, true, true, true, true, true, true, true, true, true, true, true, true, false, true, true, true, false, false, false, false, false, false, false] rfl rfl (by kernel_rfl) (fun _ _ _ h => h) (Or.inl ⟨by rfl, ?_⟩) ?_ ?_
            rotate_left
            · intro w'
              go_simp
              with_reducible rfl
            rotate_left
            · simp only [Act.put, List.setIfInBounds_toArray, List.set_cons_zero, List.set_cons_succ, i64_w, i32_w]
              rfl
            refine pure_ (i := 17) (N := some 139) (v := ?_) (a' := ?_) #[true, true, true, true, true, true, true, true, true, true, true, true, true, false, true, true, true, true, false, false, false, false, false, false] rfl rfl (by kernel_rfl) (fun _ _ _ h => h) (Or.inl ⟨by rfl, ?_⟩) ?_ ?_
            rotate_left
            · intro w'
              go_simp
              with_reducible rfl
            rotate_left
            · simp only [Act.put, List.setIfInBounds_toArray, List.set_cons_zero, List.set_cons_succ, i64_w, i32_w]
              rfl
            refine pure_ (i := 18) (N := some 140) (v := ?_) (a' := ?_) #[true, true, true, true, true, true, true, true, true, true, true, true, true, false, true, true, true, true, true, false, false, false, false, false] rfl rfl (by kernel_rfl) (fun _ _ _ h => h) (Or.inl ⟨by rfl, ?_⟩) ?_ ?_
            rotate_left
            · intro w'
              go_simp
              with_reducible rfl
            rotate_left
            · simp only [Act.put, List.setIfInBounds_toArray, List.set_cons_zero, List.set_cons_succ, i64_w, i32_w]
              rfl
            refine pure_ (i := 19) (N := some 141) (v := ?_) (a' := ?_) #[true, true, true, true, true, true, true, true, true, true, true, true, true, false, true, true, true, true, true, true, false, false, false, false] rfl rfl (by kernel_rfl) (fun _ _ _ h => h) (Or.inl ⟨by rfl, ?_⟩) ?_ ?_
            rotate_left
            · intro w'
              go_simp
              with_reducible rfl
            rotate_left
            · simp only [Act.put, List.setIfInBounds_toArray, List.set_cons_zero, List.set_cons_succ, i64_w, i32_w]
              rfl
            refine take_ (i := 20) (N := some 142) (v := ?_) (a' := ?_) #[true, true, true, true, true, true, true, true, true, true, true, true, true, false, true, true, true, true, true, true, true, false, false, false] rfl rfl (by kernel_rfl) (fun _ _ _ h => h) (Or.inl ⟨by rfl, ?_⟩) hHeld ?_ ?_
            rotate_left
            · rintro w' h0_
              go_simp
              with_reducible rfl
            rotate_left
            · simp only [Act.put, List.setIfInBounds_toArray, List.set_cons_zero, List.set_cons_succ, i64_w, i32_w]
              rfl
            refine one_ (i := 13) (N := some 135) #[true, true, true, true, true, true, true, true, true, true, true, true, true, true, true, true, true, true, true, true, true, false, false, false] rfl rfl (by kernel_rfl) (by decide) (fun K hK => ?_)
            refine goes_ Try.func18 (by kernel_rfl) rfl #[.pointer (some ⟨g, 0, none⟩), .int .u32 x.f2.f0] (by rfl) rfl rfl (by (try simp only [List.map_toArray, List.map_cons, List.map_nil]); first | done | rfl) ?_
            refine (HLC.out _ HB8.out).mono ?_
            rintro e_ w9 ⟨rfl, h1_⟩
            have HB9 := Aside0.mk (below_step HB8.out h1_)
            have HOa := Aside0.mk (Kd.R_below HO9.out h1_)
            clear h1_
            refine ⟨_, rfl, ?_⟩
            refine hK.out _ _ ((HAT.out _ (below_step HBt.out HB9.out)).2.1) (fun hHeld => ?_)
            clear hK K
            refine norm_ (a' := ?_) ?_ ?_
            rotate_left
            · show Act.put _ (some 135) _ = _
              simp only [Act.put, List.setIfInBounds_toArray, List.set_cons_zero, List.set_cons_succ, i64_w, i32_w]
              rfl
            refine last_ (i := 21) (N := some 143) #[true, true, true, true, true, true, true, true, true, true, true, true, true, true, true, true, true, true, true, true, true, true, false, false] rfl rfl (by kernel_rfl) (by decide) (fun K hK => ?_)
            refine goes_ Try.func19 (by kernel_rfl) rfl #[.pointer (some ⟨h, 0, none⟩), .int .u32 x.f2.f0] (by rfl) rfl rfl (by (try simp only [List.map_toArray, List.map_cons, List.map_nil]); first | done | rfl) ?_
            refine (HRC.out _ HB9.out).mono ?_
            rintro e_ w10 ⟨rfl, h1_⟩
            have HBa := Aside0.mk (below_step HB9.out h1_)
            have HOb := Aside0.mk (Kd.R_below HOa.out h1_)
            clear h1_
            refine ⟨_, rfl, ?_⟩
            refine hK.out _ _ ?_
            clear hK K
            refine norm_ (a' := ?_) ?_ ?_
            rotate_left
            · show Act.put _ (some 143) _ = _
              simp only [Act.put, List.setIfInBounds_toArray, List.set_cons_zero, List.set_cons_succ, i64_w, i32_w]
              rfl
            refine pure_ (i := 22) (N := some 144) (v := ?_) (a' := ?_) #[true, true, true, true, true, true, true, true, true, true, true, true, true, true, true, true, true, true, true, true, true, true, true, false] rfl rfl (by kernel_rfl) (fun _ _ _ h => h) (Or.inl ⟨by rfl, ?_⟩) ?_ ?_
            rotate_left
            · intro w'
              go_simp
              with_reducible rfl
            rotate_left
            · simp only [Act.put, List.setIfInBounds_toArray, List.set_cons_zero, List.set_cons_succ, i64_w, i32_w]
              rfl
            refine pure_ (i := 23) (N := some 145) (v := ?_) (a' := ?_) #[true, true, true, true, true, true, true, true, true, true, true, true, true, true, true, true, true, true, true, true, true, true, true, true] rfl rfl (by kernel_rfl) (fun _ _ _ h => h) (Or.inl ⟨by rfl, ?_⟩) ?_ ?_
            rotate_left
            · intro w'
              go_simp
              with_reducible rfl
            rotate_left
            · simp only [Act.put, List.setIfInBounds_toArray, List.set_cons_zero, List.set_cons_succ, i64_w, i32_w]
              rfl
            refine done_ (by kernel_rfl) ?_
            have HWI : Aside0 (0 < ms.length → ∃ r, A5 = some ⟨r, 0, none⟩ ∧ Wip w10 r ms.length ∧ w4.heap.size ≤ r) := ⟨fun h0 => wip_of HOb.out h0⟩
            clear HOd HO7 HO8 HO9 HOa HOb HD7 HB7 HB8 HB9 HBd HEQ HLC HRC HRL
            have hml_ := HML.out
            go_wp2
            go_loopw [15] (fun v wr2 => ∃ j : Nat, j ≤ ms.length ∧ v = .int .i64 j ∧ Aside0 (0 < ms.length → ∃ r, A5 = some ⟨r, 0, none⟩ ∧ Wip wr2 r ms.length ∧ w4.heap.size ≤ r) ∧ Aside0 (Below w4.heap.size w4 wr2)) (fun v _ => ms.length - (intOf v).toNat)
            case atStart => exact ⟨0, Nat.zero_le _, rfl, HWI, HBa⟩
            case round =>
              clear HWI HBa
              obtain ⟨j, hj, rfl, HWI, HBa⟩ := hrel
              by_cases hjt : (j : Int) < (ms.length : Int)
              · have HJT := Aside0.mk (show j < ms.length by omega)
                obtain ⟨r, rfl, hwi, hrg⟩ := HWI.out (by omega)
                obtain ⟨v0, hv0⟩ := hwi.cell (j * 4) (by omega)
                obtain ⟨v1, hv1⟩ := hwi.cell (j * 4 + 1) (by omega)
                obtain ⟨v2, hv2⟩ := hwi.cell (j * 4 + 2) (by omega)
                obtain ⟨v3, hv3⟩ := hwi.cell (j * 4 + 3) (by omega)
                have f0 := hwi.frozen (j * 4)
                have f1 := hwi.frozen (j * 4 + 1)
                have f2 := hwi.frozen (j * 4 + 2)
                have f3 := hwi.frozen (j * 4 + 3)
                have hrl := hwi.lt
                have hj0 : 0 ≤ (j : Int) := by omega
                have HWJ := Aside0.mk hwi
                have HRG := Aside0.mk hrg
                clear hwi hrg
                go_wp2
                go_roundw
                case rel => exact ⟨j + 1, by have := HJT.out; omega, by go_num, ⟨fun _ => ⟨r, rfl, (((HWJ.out.set _ _).set _ _).set _ _).set _ _, HRG.out⟩⟩, ⟨below_set (below_set (below_set (below_set HBa.out HRG.out) HRG.out) HRG.out) HRG.out⟩⟩
                case measure => have := HJT.out; simp [intOf, wrap64]; omega
              · go_wp2
                go_roundw
                case rel => exact ⟨k + 1, g, mb, v3, hs3, last', L', p4, c4, by have := HLT.out; omega, rfl, by go_num, ⟨HQt.out.below HBa.out⟩, ⟨HRt.out.below HBa.out⟩, HLt', ⟨below_step HBt.out HBa.out⟩, HGt⟩
                case measure => have := HLT.out; simp [intOf, wrap64]; omega
          · have e0 : (d == 0) = false := by simpa using hd0
            by_cases hd1 : d = 1
            · subst hd1
              go_upto_region 19 with (fail)
              clear x0_
              obtain ⟨ke, hke⟩ := equal_sameR (tookL L x.f1) (by rw [tookL_len]; unfold takeN; have := HQ.out.len; have := HL.out; omega)
              have HEQ := Aside0.mk hke
              clear hke
              have hbd := below_drew1 (Below.refl wr.heap.size wr)
              have HQd := Aside0.mk (HQ.out.below hbd)
              have HRd := Aside0.mk (HR.out.below hbd)
              have HBd := Aside0.mk (below_step HB.out hbd)
              clear hbd
              refine start_ (n := 16) (S := (fun w' => w'.cell? ⟨(ad.add (k * 6)).block, (ad.add (k * 6)).off + 1, none⟩ = some (.int .i64 x.f1))) (ds := [14]) #[false, false, false, false, false, false, false, false, false, false, false, false, false, false, false, false] (by kernel_rfl) rfl rfl ((HAT.out _ HBd.out).1) (fun hHeld => ?_)
              generalize wr.drew = wd at HQd HRd HBd hHeld ⊢
              refine pure_ (i := 0) (N := some 87) (v := ?_) (a' := ?_) #[true, false, false, false, false, false, false, false, false, false, false, false, false, false, false, false] rfl rfl (by kernel_rfl) (fun _ _ _ h => h) (Or.inl ⟨by rfl, ?_⟩) ?_ ?_
              rotate_left
              · intro w'
                go_simp
                with_reducible rfl
              rotate_left
              · simp only [Act.put, List.setIfInBounds_toArray, List.set_cons_zero, List.set_cons_succ, i64_w, i32_w]
                rfl
              refine pure_ (i := 1) (N := some 88) (v := ?_) (a' := ?_) #[true, true, false, false, false, false, false, false, false, false, false, false, false, false, false, false] rfl rfl (by kernel_rfl) (fun _ _ _ h => h) (Or.inl ⟨by rfl, ?_⟩) ?_ ?_
              rotate_left
              · intro w'
                go_simp
                with_reducible rfl
              rotate_left
              · simp only [Act.put, List.setIfInBounds_toArray, List.set_cons_zero, List.set_cons_succ, i64_w, i32_w]
                rfl
              refine pure_ (i := 2) (N := some 89) (v := ?_) (a' := ?_) #[true, true, true, false, false, false, false, false, false, false, false, false, false, false, false, false] rfl rfl (by kernel_rfl) (fun _ _ _ h => h) (Or.inl ⟨by rfl, ?_⟩) ?_ ?_
              rotate_left
              · intro w'
                go_simp
                with_reducible rfl
              rotate_left
              · simp only [Act.put, List.setIfInBounds_toArray, List.set_cons_zero, List.set_cons_succ, i64_w, i32_w]
                rfl
              refine pure_ (i := 3) (N := some 90) (v := ?_) (a' := ?_) #[true, true, true, true, false, false, false, false, false, false, false, false, false, false, false, false] rfl rfl (by kernel_rfl) (fun _ _ _ h => h) (Or.inl ⟨by rfl, ?_⟩) ?_ ?_
              rotate_left
              · intro w'
                go_simp
                with_reducible rfl
              rotate_left
              · simp only [Act.put, List.setIfInBounds_toArray, List.set_cons_zero, List.set_cons_succ, i64_w, i32_w]
                rfl
              refine pure_ (i := 4) (N := some 91) (v := ?_) (a' := ?_) #[true, true, true, true, true, false, false, false, false, false, false, false, false, false, false, false] rfl rfl (by kernel_rfl) (fun _ _ _ h => h) (Or.inl ⟨by rfl, ?_⟩) ?_ ?_
              rotate_left
              · intro w'
                go_simp
                with_reducible rfl
              rotate_left
              · simp only [Act.put, List.setIfInBounds_toArray, List.set_cons_zero, List.set_cons_succ, i64_w, i32_w]
                rfl
              refine take_ (i := 5) (N := some 92) (v := ?_) (a' := ?_) #[true, true, true, true, true, true, false, false, false, false, false, false, false, false, false, false] rfl rfl (by kernel_rfl) (fun _ _ _ h => h) (Or.inl ⟨by rfl, ?_⟩) hHeld ?_ ?_
              rotate_left
              · rintro w' h0_
                go_simp
                with_reducible rfl
              rotate_left
              · simp only [Act.put, List.setIfInBounds_toArray, List.set_cons_zero, List.set_cons_succ, i64_w, i32_w]
                rfl
              refine pure_ (i := 7) (N := some 94) (v := ?_) (a' := ?_) #[true, true, true, true, true, true, false, true, false, false, false, false, false, false, false, false] rfl rfl (by kernel_rfl) (fun _ _ _ h => h) (Or.inl ⟨by rfl, ?_⟩) ?_ ?_
              rotate_left
              · intro w'
                go_simp
                with_reducible rfl
              rotate_left
              · simp only [Act.put, List.setIfInBounds_toArray, List.set_cons_zero, List.set_cons_succ, i64_w, i32_w]
                rfl
              refine pure_ (i := 8) (N := some 95) (v := ?_) (a' := ?_) #[true, true, true, true, true, true, false, true, true, false, false, false, false, false, false, false] rfl rfl (by kernel_rfl) (fun _ _ _ h => h) (Or.inl ⟨by rfl, ?_⟩) ?_ ?_
              rotate_left
              · intro w'
                go_simp
                with_reducible rfl
              rotate_left
              · simp only [Act.put, List.setIfInBounds_toArray, List.set_cons_zero, List.set_cons_succ, i64_w, i32_w]
                rfl
              refine pure_ (i := 9) (N := some 96) (v := ?_) (a' := ?_) #[true, true, true, true, true, true, false, true, true, true, false, false, false, false, false, false] rfl rfl (by kernel_rfl) (fun _ _ _ h => h) (Or.inl ⟨by rfl, ?_⟩) ?_ ?_
              rotate_left
              · intro w'
                go_simp
                with_reducible rfl
              rotate_left
              · simp only [Act.put, List.setIfInBounds_toArray, List.set_cons_zero, List.set_cons_succ, i64_w, i32_w]
                rfl
              refine pure_ (i := 10) (N := some 97) (v := ?_) (a' := ?_) #[true, true, true, true, true, true, false, true, true, true, true, false, false, false, false, false] rfl rfl (by kernel_rfl) (fun _ _ _ h => h) (Or.inl ⟨by rfl, ?_⟩) ?_ ?_
              rotate_left
              · intro w'
                go_simp
                with_reducible rfl
              rotate_left
              · simp only [Act.put, List.setIfInBounds_toArray, List.set_cons_zero, List.set_cons_succ, i64_w, i32_w]
                rfl
              refine pure_ (i := 11) (N := some 98) (v := ?_) (a' := ?_) #[true, true, true, true, true, true, false, true, true, true, true, true, false, false, false, false] rfl rfl (by kernel_rfl) (fun _ _ _ h => h) (Or.inl ⟨by rfl, ?_⟩) ?_ ?_
              rotate_left
              · intro w'
                go_simp
                with_reducible rfl
              rotate_left
              · simp only [Act.put, List.setIfInBounds_toArray, List.set_cons_zero, List.set_cons_succ, i64_w, i32_w]
                rfl
              refine take_ (i := 12) (N := some 99) (v := ?_) (a' := ?_) #[true, true, true, true, true, true, false, true, true, true, true, true, true, false, false, false] rfl rfl (by kernel_rfl) (fun _ _ _ h => h) (Or.inl ⟨by rfl, ?_⟩) hHeld ?_ ?_
              rotate_left
              · rintro w' h0_
                go_simp
                with_reducible rfl
              rotate_left
              · simp only [Act.put, List.setIfInBounds_toArray, List.set_cons_zero, List.set_cons_succ, i64_w, i32_w]
                rfl
              refine one_ (i := 6) (N := some 93) #[true, true, true, true, true, true, true, true, true, true, true, true, true, false, false, false] rfl rfl (by kernel_rfl) (by decide) (fun K hK => ?_)
              refine goes_ Try.func13 (by kernel_rfl) rfl #[.pointer (some ⟨g, 0, none⟩), .int .i64 x.f1] (by rfl) rfl rfl (by (try simp only [List.map_toArray, List.map_cons, List.map_nil]); first | done | rfl) ?_
              refine (takeq_m wd g mb t last v hs L x.f1 HQd.out (by have := HL.out; omega)).mono ?_
              rintro e_ w3 ⟨A3, c3, v3, hs3, rfl, h0_, h1_, h2_, h3_⟩
              have HO3 := Aside0.mk h0_
              have HQ3 := Aside0.mk h1_
              have HK3 := Aside0.mk h2_
              have HN3 := Aside0.mk h3_
              have HB3 := Aside0.mk (HBd.out.trans (h2_.below HBd.out.size HG.out.1))
              have HR3 := Aside0.mk (HRd.out.kp h2_ (fun j hj hj' => qr_dis HQd.out HRd.out j hj' hj))
              clear h0_ h1_ h2_ h3_
              refine ⟨_, rfl, ?_⟩
              refine hK.out _ _ ((HAT.out _ HB3.out).1) (fun hHeld => ?_)
              clear hK K
              refine norm_ (a' := ?_) ?_ ?_
              rotate_left
              · show Act.put _ (some 93) _ = _
                simp only [Act.put, List.setIfInBounds_toArray, List.set_cons_zero, List.set_cons_succ, i64_w, i32_w]
                rfl
              refine one_ (i := 13) (N := some 100) #[true, true, true, true, true, true, true, true, true, true, true, true, true, true, false, false] rfl rfl (by kernel_rfl) (by decide) (fun K hK => ?_)
              refine goes_ Try.func14 (by kernel_rfl) rfl #[.pointer (some ⟨h, 0, none⟩), .int .i64 x.f1] (by rfl) rfl rfl (by (try simp only [List.map_toArray, List.map_cons, List.map_nil]); first | done | rfl) ?_
              refine (rtake_m w3 h t last p c2 L x.f1 HR3.out (by have := HQ.out.len; have := HL.out; omega) HQ.out.al.snt HT.out.2).mono ?_
              rintro e_ w4 ⟨A4, c4_, p4, c4, rfl, h0_, h1_, h2_, h3_⟩
              have HO4 := Aside0.mk h0_
              have HR4 := Aside0.mk h1_
              have HK4 := Aside0.mk h2_
              have HN4 := Aside0.mk h3_
              have HB4 := Aside0.mk (HB3.out.trans (h2_.below HB3.out.size HG.out.2))
              have HQ4 := Aside0.mk (HQ3.out.kp h2_ (fun j hj hj' => qr_dis HQ3.out HR3.out j hj hj'))
              have HO3' := Aside0.mk (RM_kp HO3.out h2_ (fun j hj hj' => by obtain ⟨cells, hc⟩ := Kd.R_typed HO3.out j hj; obtain ⟨cells', tt, hc', h1⟩ := HR3.out.typ hj'; rw [hc] at hc'; injection hc' with hc'; injection hc' with _ hc'; rcases h1 with h1 | h1 <;> rw [h1] at hc' <;> exact absurd hc' (by decide)))
              clear h0_ h1_ h2_ h3_
              refine ⟨_, rfl, ?_⟩
              refine hK.out _ _ ((HAT.out _ HB4.out).1) (fun hHeld => ?_)
              clear hK K
              refine norm_ (a' := ?_) ?_ ?_
              rotate_left
              · show Act.put _ (some 100) _ = _
                simp only [Act.put, List.setIfInBounds_toArray, List.set_cons_zero, List.set_cons_succ, i64_w, i32_w]
                rfl
              refine last_ (i := 14) (N := some 101) #[true, true, true, true, true, true, true, true, true, true, true, true, true, true, true, false] rfl rfl (by kernel_rfl) (by decide) (fun K hK => ?_)
              refine goes_ Try.func12 (by kernel_rfl) rfl #[.slice A3 (tookL L x.f1).length c3, .slice A4 (tookL L x.f1).length c4_] (by rfl) rfl rfl (by (try simp only [List.map_toArray, List.map_cons, List.map_nil]); first | done | rfl) ?_
              (with_reducible refine (hearsayref17_Equal.calls ke A3 c3 (tookL L x.f1) A4 c4_ (tookL L x.f1) true _ (Kd.R_reads' HO3'.out).2.2 (Kd.R_reads' HO3'.out).2.1 (Kd.R_reads' HO4.out).2.2 (Kd.R_reads' HO4.out).2.1 HEQ.out).mono ?_)
              rintro e_ u5 ⟨rfl, h1_⟩
              have HD5 := Aside0.mk (Drawn0.below h1_)
              clear h1_
              refine ⟨_, rfl, ?_⟩
              refine hK.out _ _ ?_
              clear hK K
              refine norm_ (a' := ?_) ?_ ?_
              rotate_left
              · show Act.put _ (some 101) _ = _
                simp only [Act.put, List.setIfInBounds_toArray, List.set_cons_zero, List.set_cons_succ, i64_w, i32_w]
                rfl
              refine pure_ (i := 15) (N := some 102) (v := ?_) (a' := ?_) #[true, true, true, true, true, true, true, true, true, true, true, true, true, true, true, true] rfl rfl (by kernel_rfl) (fun _ _ _ h => h) (Or.inl ⟨by rfl, ?_⟩) ?_ ?_
              rotate_left
              · intro w'
                go_simp
                with_reducible rfl
              rotate_left
              · simp only [Act.put, List.setIfInBounds_toArray, List.set_cons_zero, List.set_cons_succ, i64_w, i32_w]
                rfl
              refine done_ (by kernel_rfl) ?_
              have HQt := Aside0.mk (HQ4.out.below HD5.out)
              have HRt := Aside0.mk (HR4.out.below HD5.out)
              have HBt := Aside0.mk (below_step HB4.out HD5.out)
              have HGt : Aside0 ((∀ j, QB g mb v3 hs3 j → w.heap.size ≤ j) ∧ ∀ j, RB h p4 j → w.heap.size ≤ j) := ⟨fun j hj => (HN3.out j hj).elim (HG.out.1 j) (fun h => Nat.le_trans HBd.out.size h), fun j hj => (HN4.out j hj).elim (HG.out.2 j) (fun h => Nat.le_trans HB3.out.size h)⟩
              have HLt : Aside0 (last ≤ 800000) := ⟨by have := HL.out; omega⟩
              have HLt' : Aside0 (last ≤ ((k + 1 : Nat) : Int)) := ⟨by have := HL.out; omega⟩
              clear HQ HR HB HG HL HQd HRd HBd HQ3 HK3 HN3 HB3 HR3 HO3 HO4 HR4 HK4 HN4 HB4 HQ4 HO3' HD5 HEQ
              go_upto_region 27 with (fail)
              obtain ⟨ms, hms⟩ : ∃ ms, ms = memsL (takeL t L x.f1) := ⟨_, rfl⟩
              have HMS := Aside0.mk hms
              have HML : Aside0 (ms.length ≤ 1000000) := ⟨by rw [hms, memsL_len]; have := HQt.out.len; have := HLt.out; omega⟩
              have HLI := Aside0.mk (listq_m u5 g mb t last v3 hs3 (takeL t L x.f1) HQt.out (by have := HLt.out; omega))
              have HRL := Aside0.mk (fun W' (hR : Rf W' h t last p4 c4 (takeL t L x.f1)) => rlist_m W' h t last p4 c4 (takeL t L x.f1) hR (by have := HQt.out.len; have := HLt.out; omega))
              rw [← hms] at HLI
              simp only [← hms] at HRL
              clear hms
              go_upto_region 28 with (first | (go_at_call 16; refine HLI.out.mono ?_; rintro e w5 ⟨A5, c5, rfl, h1_, h2_⟩; have HO5 := Aside0.mk h1_; have HB5 : Aside0 (Below u5.heap.size u5 w5) := ⟨h2_⟩; clear h1_ h2_ HLI))
              have hbd := below_drew1 (Below.refl w5.heap.size w5)
              have HBd := Aside0.mk (below_step HB5.out hbd)
              have HOd := Aside0.mk (Kd.R_below HO5.out hbd)
              clear hbd HO5 HB5
              obtain ⟨ke, hke⟩ := equal_sameR ms HML.out
              have HEQ := Aside0.mk hke
              clear hke
              obtain ⟨zz, hzz⟩ : ∃ zz, zz = leftL t (takeL t L x.f1) x.f2.f0 := ⟨_, rfl⟩
              have HLC : Aside0 (∀ W', Below u5.heap.size u5 W' → Calls Try.prog 18 #[.pointer (some ⟨g, 0, none⟩), .int .u32 x.f2.f0] W' fun e w' => e = .returned (.int .i64 zz) ∧ Below W'.heap.size W' w') := ⟨fun W' hW => by rw [hzz]; exact leftq_s W' g mb t last v3 hs3 (takeL t L x.f1) x.f2.f0 (HQt.out.below hW) HX.out.1⟩
              have HRC : Aside0 (∀ W', Below u5.heap.size u5 W' → Calls Try.prog 19 #[.pointer (some ⟨h, 0, none⟩), .int .u32 x.f2.f0] W' fun e w' => e = .returned (.int .i64 zz) ∧ Below W'.heap.size W' w') := ⟨fun W' hW => by rw [hzz]; exact rleft_calls W' h t last p4 c4 (takeL t L x.f1) x.f2.f0 (HRt.out.below hW) HQt.out.al HT.out.2 (by have := HQt.out.len; have := HLt.out; omega)⟩
              clear hzz
              refine start_ (n := 24) (S := (fun w' => w'.cell? ⟨(ad.add (k * 6)).block, (ad.add (k * 6)).off + 2, none⟩ = some (.int .u32 x.f2.f0))) (ds := [21]) #[false, false, false, false, false, false, false, false, false, false, false, false, false, false, false, false, false, false, false, false, false, false, false, false] (by kernel_rfl) rfl rfl ((HAT.out _ (below_step HBt.out HBd.out)).2.1) (fun hHeld => ?_)
              generalize w5.drew = wd at HBd HOd hHeld ⊢
              refine pure_ (i := 0) (N := some 122) (v := ?_) (a' := ?_) #[true, false, false, false, false, false, false, false, false, false, false, false, false, false, false, false, false, false, false, false, false, false, false, false] rfl rfl (by kernel_rfl) (fun _ _ _ h => h) (Or.inl ⟨by rfl, ?_⟩) ?_ ?_
              rotate_left
              · intro w'
                go_simp
                with_reducible rfl
              rotate_left
              · simp only [Act.put, List.setIfInBounds_toArray, List.set_cons_zero, List.set_cons_succ, i64_w, i32_w]
                rfl
              refine pure_ (i := 1) (N := some 123) (v := ?_) (a' := ?_) #[true, true, false, false, false, false, false, false, false, false, false, false, false, false, false, false, false, false, false, false, false, false, false, false] rfl rfl (by kernel_rfl) (fun _ _ _ h => h) (Or.inl ⟨by rfl, ?_⟩) ?_ ?_
              rotate_left
              · intro w'
                go_simp
                with_reducible rfl
              rotate_left
              · simp only [Act.put, List.setIfInBounds_toArray, List.set_cons_zero, List.set_cons_succ, i64_w, i32_w]
                rfl
              refine one_ (i := 2) (N := some 124) #[true, true, true, false, false, false, false, false, false, false, false, false, false, false, false, false, false, false, false, false, false, false, false, false] rfl rfl (by kernel_rfl) (by decide) (fun K hK => ?_)
              refine goes_ Try.func17 (by kernel_rfl) rfl #[.pointer (some ⟨h, 0, none⟩)] (by rfl) rfl rfl (by (try simp only [List.map_toArray, List.map_cons, List.map_nil]); first | done | rfl) ?_
              refine (HRL.out _ (HRt.out.below HBd.out)).mono ?_
              rintro e_ w7 ⟨A8, c8, rfl, h1_, h2_⟩
              have HO8 := Aside0.mk h1_
              have HD7 := Aside0.mk h2_
              have HB7 := Aside0.mk (below_step HBd.out h2_)
              have HO7 := Aside0.mk (Kd.R_below HOd.out h2_)
              clear h1_ h2_
              refine ⟨_, rfl, ?_⟩
              refine hK.out _ _ ((HAT.out _ (below_step HBt.out HB7.out)).2.1) (fun hHeld => ?_)
              clear hK K
              refine norm_ (a' := ?_) ?_ ?_
              rotate_left
              · show Act.put _ (some 124) _ = _
                simp only [Act.put, List.setIfInBounds_toArray, List.set_cons_zero, List.set_cons_succ, i64_w, i32_w]
                rfl
              refine one_ (i := 3) (N := some 125) #[true, true, true, true, false, false, false, false, false, false, false, false, false, false, false, false, false, false, false, false, false, false, false, false] rfl rfl (by kernel_rfl) (by decide) (fun K hK => ?_)
              refine goes_ Try.func12 (by kernel_rfl) rfl #[.slice A5 ms.length c5, .slice A8 ms.length c8] (by rfl) rfl rfl (by (try simp only [List.map_toArray, List.map_cons, List.map_nil]); first | done | rfl) ?_
              (with_reducible refine (hearsayref17_Equal.calls ke A5 c5 ms A8 c8 ms true _ (Kd.R_reads' HO7.out).2.2 (Kd.R_reads' HO7.out).2.1 (Kd.R_reads' HO8.out).2.2 (Kd.R_reads' HO8.out).2.1 HEQ.out).mono ?_)
              rintro e_ w8 ⟨rfl, h1_⟩
              have HB8 := Aside0.mk (below_step HB7.out (Drawn0.below h1_))
              have HO9 := Aside0.mk (Kd.R_below HO7.out (Drawn0.below h1_))
              clear h1_
              refine ⟨_, rfl, ?_⟩
              refine hK.out _ _ ((HAT.out _ (below_step HBt.out HB8.out)).2.1) (fun hHeld => ?_)
              clear hK K
              refine norm_ (a' := ?_) ?_ ?_
              rotate_left
              · show Act.put _ (some 125) _ = _
                simp only [Act.put, List.setIfInBounds_toArray, List.set_cons_zero, List.set_cons_succ, i64_w, i32_w]
                rfl
              refine pure_ (i := 4) (N := some 126) (v := ?_) (a' := ?_) #[true, true, true, true, true, false, false, false, false, false, false, false, false, false, false, false, false, false, false, false, false, false, false, false] rfl rfl (by kernel_rfl) (fun _ _ _ h => h) (Or.inl ⟨by rfl, ?_⟩) ?_ ?_
              rotate_left
              · intro w'
                go_simp
                with_reducible rfl
              rotate_left
              · simp only [Act.put, List.setIfInBounds_toArray, List.set_cons_zero, List.set_cons_succ, i64_w, i32_w]
                rfl
              refine pure_ (i := 5) (N := some 127) (v := ?_) (a' := ?_) #[true, true, true, true, true, true, false, false, false, false, false, false, false, false, false, false, false, false, false, false, false, false, false, false] rfl rfl (by kernel_rfl) (fun _ _ _ h => h) (Or.inl ⟨by rfl, ?_⟩) ?_ ?_
              rotate_left
              · intro w'
                go_simp
                with_reducible rfl
              rotate_left
              · simp only [Act.put, List.setIfInBounds_toArray, List.set_cons_zero, List.set_cons_succ, i64_w, i32_w]
                rfl
              refine pure_ (i := 6) (N := some 128) (v := ?_) (a' := ?_) #[true, true, true, true, true, true, true, false, false, false, false, false, false, false, false, false, false, false, false, false, false, false, false, false] rfl rfl (by kernel_rfl) (fun _ _ _ h => h) (Or.inl ⟨by rfl, ?_⟩) ?_ ?_
              rotate_left
              · intro w'
                go_simp
                with_reducible rfl
              rotate_left
              · simp only [Act.put, List.setIfInBounds_toArray, List.set_cons_zero, List.set_cons_succ, i64_w, i32_w]
                rfl
              refine pure_ (i := 7) (N := some 129) (v := ?_) (a' := ?_) #[true, true, true, true, true, true, true, true, false, false, false, false, false, false, false, false, false, false, false, false, false, false, false, false] rfl rfl (by kernel_rfl) (fun _ _ _ h => h) (Or.inl ⟨by rfl, ?_⟩) ?_ ?_
              rotate_left
              · intro w'
                go_simp
                with_reducible rfl
              rotate_left
              · simp only [Act.put, List.setIfInBounds_toArray, List.set_cons_zero, List.set_cons_succ, i64_w, i32_w]
                rfl
              refine pure_ (i := 8) (N := some 130) (v := ?_) (a' := ?_) #[true, true, true, true, true, true, true, true, true, false, false, false, false, false, false, false, false, false, false, false, false, false, false, false] rfl rfl (by kernel_rfl) (fun _ _ _ h => h) (Or.inl ⟨by rfl, ?_⟩) ?_ ?_
              rotate_left
              · intro w'
                go_simp
                with_reducible rfl
              rotate_left
              · simp only [Act.put, List.setIfInBounds_toArray, List.set_cons_zero, List.set_cons_succ, i64_w, i32_w]
                rfl
              refine pure_ (i := 9) (N := some 131) (v := ?_) (a' := ?_) #[true, true, true, true, true, true, true, true, true, true, false, false, false, false, false, false, false, false, false, false, false, false, false, false] rfl rfl (by kernel_rfl) (fun _ _ _ h => h) (Or.inl ⟨by rfl, ?_⟩) ?_ ?_
              rotate_left
              · intro w'
                go_simp
                with_reducible rfl
              rotate_left
              · simp only [Act.put, List.setIfInBounds_toArray, List.set_cons_zero, List.set_cons_succ, i64_w, i32_w]
                rfl
              refine pure_ (i := 10) (N := some 132) (v := ?_) (a' := ?_) #[true, true, true, true, true, true, true, true, true, true, true, false, false, false, false, false, false, false, false, false, false, false, false, false] rfl rfl (by kernel_rfl) (fun _ _ _ h => h) (Or.inl ⟨by rfl, ?_⟩) ?_ ?_
              rotate_left
              · intro w'
                go_simp
                with_reducible rfl
              rotate_left
              · simp only [Act.put, List.setIfInBounds_toArray, List.set_cons_zero, List.set_cons_succ, i64_w, i32_w]
                rfl
              refine pure_ (i := 11) (N := some 133) (v := ?_) (a' := ?_) #[true, true, true, true, true, true, true, true, true, true, true, true, false, false, false, false, false, false, false, false, false, false, false, false] rfl rfl (by kernel_rfl) (fun _ _ _ h => h) (Or.inl ⟨by rfl, ?_⟩) ?_ ?_
              rotate_left
              · intro w'
                go_simp
                with_reducible rfl
              rotate_left
              · simp only [Act.put, List.setIfInBounds_toArray, List.set_cons_zero, List.set_cons_succ, i64_w, i32_w]
                rfl
              refine take_ (i := 12) (N := some 134) (v := ?_) (a' := ?_) #[true, true, true, true, true, true, true, true, true, true, true, true, true, false, false, false, false, false, false, false, false, false, false, false] rfl rfl (by kernel_rfl) (fun _ _ _ h => h) (Or.inl ⟨by rfl, ?_⟩) hHeld ?_ ?_
              rotate_left
              · rintro w' h0_
                go_simp
                with_reducible rfl
              rotate_left
              · simp only [Act.put, List.setIfInBounds_toArray, List.set_cons_zero, List.set_cons_succ, i64_w, i32_w]
                rfl
              refine pure_ (i := 14) (N := some 136) (v := ?_) (a' := ?_) #[true, true, true, true, true, true, true, true, true, true, true, true, true, false, true, false, false, false, false, false, false, false, false, false] rfl rfl (by kernel_rfl) (fun _ _ _ h => h) (Or.inl ⟨by rfl, ?_⟩) ?_ ?_
              rotate_left
              · intro w'
                go_simp
                with_reducible rfl
              rotate_left
              · simp only [Act.put, List.setIfInBounds_toArray, List.set_cons_zero, List.set_cons_succ, i64_w, i32_w]
                rfl
              refine pure_ (i := 15) (N := some 137) (v := ?_) (a' := ?_) #[true, true, true, true, true, true, true, true, true, true, true, true, true, false, true, true, false, false, false, false, false, false, false, false] rfl rfl (by kernel_rfl) (fun _ _ _ h => h) (Or.inl ⟨by rfl, ?_⟩) ?_ ?_
              rotate_left
              · intro w'
                go_simp
                with_reducible rfl
              rotate_left
              · simp only [Act.put, List.setIfInBounds_toArray, List.set_cons_zero, List.set_cons_succ, i64_w, i32_w]
                rfl
              refine pure_ (i := 16) (N := some 138) (v := ?_) (a' := ?_) #[true, true, true, true, true, true, true, true, true, true, true, true, true, false, true, true, true, false, false, false, false, false, false, false] rfl rfl (by kernel_rfl) (fun _ _ _ h => h) (Or.inl ⟨by rfl, ?_⟩) ?_ ?_
              rotate_left
              · intro w'
                go_simp
                with_reducible rfl
              rotate_left
              · simp only [Act.put, List.setIfInBounds_toArray, List.set_cons_zero, List.set_cons_succ, i64_w, i32_w]
                rfl
              refine pure_ (i := 17) (N := some 139) (v := ?_) (a' := ?_) #[true, true, true, true, true, true, true, true, true, true, true, true, true, false, true, true, true, true, false, false, false, false, false, false] rfl rfl (by kernel_rfl) (fun _ _ _ h => h) (Or.inl ⟨by rfl, ?_⟩) ?_ ?_
              rotate_left
              · intro w'
                go_simp
                with_reducible rfl
              rotate_left
              · simp only [Act.put, List.setIfInBounds_toArray, List.set_cons_zero, List.set_cons_succ, i64_w, i32_w]
                rfl
              refine pure_ (i := 18) (N := some 140) (v := ?_) (a' := ?_) #[true, true, true, true, true, true, true, true, true, true, true, true, true, false, true, true, true, true, true, false, false, false, false, false] rfl rfl (by kernel_rfl) (fun _ _ _ h => h) (Or.inl ⟨by rfl, ?_⟩) ?_ ?_
              rotate_left
              · intro w'
                go_simp
                with_reducible rfl
              rotate_left
              · simp only [Act.put, List.setIfInBounds_toArray, List.set_cons_zero, List.set_cons_succ, i64_w, i32_w]
                rfl
              refine pure_ (i := 19) (N := some 141) (v := ?_) (a' := ?_) #[true, true, true, true, true, true, true, true, true, true, true, true, true, false, true, true, true, true, true, true, false, false, false, false] rfl rfl (by kernel_rfl) (fun _ _ _ h => h) (Or.inl ⟨by rfl, ?_⟩) ?_ ?_
              rotate_left
              · intro w'
                go_simp
                with_reducible rfl
              rotate_left
              · simp only [Act.put, List.setIfInBounds_toArray, List.set_cons_zero, List.set_cons_succ, i64_w, i32_w]
                rfl
              refine take_ (i := 20) (N := some 142) (v := ?_) (a' := ?_) #[true, true, true, true, true, true, true, true, true, true, true, true, true, false, true, true, true, true, true, true, true, false, false, false] rfl rfl (by kernel_rfl) (fun _ _ _ h => h) (Or.inl ⟨by rfl, ?_⟩) hHeld ?_ ?_
              rotate_left
              · rintro w' h0_
                go_simp
                with_reducible rfl
              rotate_left
              · simp only [Act.put, List.setIfInBounds_toArray, List.set_cons_zero, List.set_cons_succ, i64_w, i32_w]
                rfl
              refine one_ (i := 13) (N := some 135) #[true, true, true, true, true, true, true, true, true, true, true, true, true, true, true, true, true, true, true, true, true, false, false, false] rfl rfl (by kernel_rfl) (by decide) (fun K hK => ?_)
              refine goes_ Try.func18 (by kernel_rfl) rfl #[.pointer (some ⟨g, 0, none⟩), .int .u32 x.f2.f0] (by rfl) rfl rfl (by (try simp only [List.map_toArray, List.map_cons, List.map_nil]); first | done | rfl) ?_
              refine (HLC.out _ HB8.out).mono ?_
              rintro e_ w9 ⟨rfl, h1_⟩
              have HB9 := Aside0.mk (below_step HB8.out h1_)
              have HOa := Aside0.mk (Kd.R_below HO9.out h1_)
              clear h1_
              refine ⟨_, rfl, ?_⟩
              refine hK.out _ _ ((HAT.out _ (below_step HBt.out HB9.out)).2.1) (fun hHeld => ?_)
              clear hK K
              refine norm_ (a' := ?_) ?_ ?_
              rotate_left
              · show Act.put _ (some 135) _ = _
                simp only [Act.put, List.setIfInBounds_toArray, List.set_cons_zero, List.set_cons_succ, i64_w, i32_w]
                rfl
              refine last_ (i := 21) (N := some 143) #[true, true, true, true, true, true, true, true, true, true, true, true, true, true, true, true, true, true, true, true, true, true, false, false] rfl rfl (by kernel_rfl) (by decide) (fun K hK => ?_)
              refine goes_ Try.func19 (by kernel_rfl) rfl #[.pointer (some ⟨h, 0, none⟩), .int .u32 x.f2.f0] (by rfl) rfl rfl (by (try simp only [List.map_toArray, List.map_cons, List.map_nil]); first | done | rfl) ?_
              refine (HRC.out _ HB9.out).mono ?_
              rintro e_ w10 ⟨rfl, h1_⟩
              have HBa := Aside0.mk (below_step HB9.out h1_)
              have HOb := Aside0.mk (Kd.R_below HOa.out h1_)
              clear h1_
              refine ⟨_, rfl, ?_⟩
              refine hK.out _ _ ?_
              clear hK K
              refine norm_ (a' := ?_) ?_ ?_
              rotate_left
              · show Act.put _ (some 143) _ = _
                simp only [Act.put, List.setIfInBounds_toArray, List.set_cons_zero, List.set_cons_succ, i64_w, i32_w]
                rfl
              refine pure_ (i := 22) (N := some 144) (v := ?_) (a' := ?_) #[true, true, true, true, true, true, true, true, true, true, true, true, true, true, true, true, true, true, true, true, true, true, true, false] rfl rfl (by kernel_rfl) (fun _ _ _ h => h) (Or.inl ⟨by rfl, ?_⟩) ?_ ?_
              rotate_left
              · intro w'
                go_simp
                with_reducible rfl
              rotate_left
              · simp only [Act.put, List.setIfInBounds_toArray, List.set_cons_zero, List.set_cons_succ, i64_w, i32_w]
                rfl
              refine pure_ (i := 23) (N := some 145) (v := ?_) (a' := ?_) #[true, true, true, true, true, true, true, true, true, true, true, true, true, true, true, true, true, true, true, true, true, true, true, true] rfl rfl (by kernel_rfl) (fun _ _ _ h => h) (Or.inl ⟨by rfl, ?_⟩) ?_ ?_
              rotate_left
              · intro w'
                go_simp
                with_reducible rfl
              rotate_left
              · simp only [Act.put, List.setIfInBounds_toArray, List.set_cons_zero, List.set_cons_succ, i64_w, i32_w]
                rfl
              refine done_ (by kernel_rfl) ?_
              have HWI : Aside0 (0 < ms.length → ∃ r, A5 = some ⟨r, 0, none⟩ ∧ Wip w10 r ms.length ∧ u5.heap.size ≤ r) := ⟨fun h0 => wip_of HOb.out h0⟩
              clear HOd HO7 HO8 HO9 HOa HOb HD7 HB7 HB8 HB9 HBd HEQ HLC HRC HRL
              have hml_ := HML.out
              go_wp2
              go_loopw [15] (fun v wr2 => ∃ j : Nat, j ≤ ms.length ∧ v = .int .i64 j ∧ Aside0 (0 < ms.length → ∃ r, A5 = some ⟨r, 0, none⟩ ∧ Wip wr2 r ms.length ∧ u5.heap.size ≤ r) ∧ Aside0 (Below u5.heap.size u5 wr2)) (fun v _ => ms.length - (intOf v).toNat)
              case atStart => exact ⟨0, Nat.zero_le _, rfl, HWI, HBa⟩
              case round =>
                clear HWI HBa
                obtain ⟨j, hj, rfl, HWI, HBa⟩ := hrel
                by_cases hjt : (j : Int) < (ms.length : Int)
                · have HJT := Aside0.mk (show j < ms.length by omega)
                  obtain ⟨r, rfl, hwi, hrg⟩ := HWI.out (by omega)
                  obtain ⟨v0, hv0⟩ := hwi.cell (j * 4) (by omega)
                  obtain ⟨v1, hv1⟩ := hwi.cell (j * 4 + 1) (by omega)
                  obtain ⟨v2, hv2⟩ := hwi.cell (j * 4 + 2) (by omega)
                  obtain ⟨v3, hv3⟩ := hwi.cell (j * 4 + 3) (by omega)
                  have f0 := hwi.frozen (j * 4)
                  have f1 := hwi.frozen (j * 4 + 1)
                  have f2 := hwi.frozen (j * 4 + 2)
                  have f3 := hwi.frozen (j * 4 + 3)
                  have hrl := hwi.lt
                  have hj0 : 0 ≤ (j : Int) := by omega
                  have HWJ := Aside0.mk hwi
                  have HRG := Aside0.mk hrg
                  clear hwi hrg
                  go_wp2
                  go_roundw
                  case rel => exact ⟨j + 1, by have := HJT.out; omega, by go_num, ⟨fun _ => ⟨r, rfl, (((HWJ.out.set _ _).set _ _).set _ _).set _ _, HRG.out⟩⟩, ⟨below_set (below_set (below_set (below_set HBa.out HRG.out) HRG.out) HRG.out) HRG.out⟩⟩
                  case measure => have := HJT.out; simp [intOf, wrap64]; omega
                · go_wp2
                  go_roundw
                  case rel => exact ⟨k + 1, g, mb, v3, hs3, last, (takeL t L x.f1), p4, c4, by have := HLT.out; omega, rfl, by go_num, ⟨HQt.out.below HBa.out⟩, ⟨HRt.out.below HBa.out⟩, HLt', ⟨below_step HBt.out HBa.out⟩, HGt⟩
                  case measure => have := HLT.out; simp [intOf, wrap64]; omega
            · have e1 : (d == 1) = false := by simpa using hd1
              by_cases hd2 : d = 2
              · subst hd2
                go_upto_region 22 with (fail)
                clear x0_
                go_upto_region 27 with (first | (go_at_call 15; (with_reducible refine (copyq_s _ g mb t last v hs L HQ.out (by have := HL.out; omega)).mono ?_); rintro e w4 ⟨g4, mb4, v4, hs4, rfl, h1_, h2_, h3_⟩; have HQt := Aside0.mk h1_; have HRt := Aside0.mk (HR.out.below h3_); have HBt := Aside0.mk (below_step HB.out h3_); have HGt : Aside0 ((∀ j, QB g4 mb4 v4 hs4 j → w.heap.size ≤ j) ∧ ∀ j, RB h p j → w.heap.size ≤ j) := ⟨fun j hj => Nat.le_trans HB.out.size (h2_ j hj), HG.out.2⟩; clear h1_ h2_ h3_))
                have HLt : Aside0 (last ≤ 800000) := ⟨by have := HL.out; omega⟩
                have HLt' : Aside0 (last ≤ ((k + 1 : Nat) : Int)) := ⟨by have := HL.out; omega⟩
                clear HQ HR HB HG HL
                obtain ⟨ms, hms⟩ : ∃ ms, ms = memsL L := ⟨_, rfl⟩
                have HMS := Aside0.mk hms
                have HML : Aside0 (ms.length ≤ 1000000) := ⟨by rw [hms, memsL_len]; have := HQt.out.len; have := HLt.out; omega⟩
                have HLI := Aside0.mk (listq_m w4 g4 mb4 t last v4 hs4 L HQt.out (by have := HLt.out; omega))
                have HRL := Aside0.mk (fun W' (hR : Rf W' h t last p c2 L) => rlist_m W' h t last p c2 L hR (by have := HQt.out.len; have := HLt.out; omega))
                rw [← hms] at HLI
                simp only [← hms] at HRL
                clear hms
                go_upto_region 28 with (first | (go_at_call 16; refine HLI.out.mono ?_; rintro e w5 ⟨A5, c5, rfl, h1_, h2_⟩; have HO5 := Aside0.mk h1_; have HB5 : Aside0 (Below w4.heap.size w4 w5) := ⟨h2_⟩; clear h1_ h2_ HLI))
                have hbd := below_drew1 (Below.refl w5.heap.size w5)
                have HBd := Aside0.mk (below_step HB5.out hbd)
                have HOd := Aside0.mk (Kd.R_below HO5.out hbd)
                clear hbd HO5 HB5
                obtain ⟨ke, hke⟩ := equal_sameR ms HML.out
                have HEQ := Aside0.mk hke
                clear hke
                obtain ⟨zz, hzz⟩ : ∃ zz, zz = leftL t L x.f2.f0 := ⟨_, rfl⟩
                have HLC : Aside0 (∀ W', Below w4.heap.size w4 W' → Calls Try.prog 18 #[.pointer (some ⟨g4, 0, none⟩), .int .u32 x.f2.f0] W' fun e w' => e = .returned (.int .i64 zz) ∧ Below W'.heap.size W' w') := ⟨fun W' hW => by rw [hzz]; exact leftq_s W' g4 mb4 t last v4 hs4 L x.f2.f0 (HQt.out.below hW) HX.out.1⟩
                have HRC : Aside0 (∀ W', Below w4.heap.size w4 W' → Calls Try.prog 19 #[.pointer (some ⟨h, 0, none⟩), .int .u32 x.f2.f0] W' fun e w' => e = .returned (.int .i64 zz) ∧ Below W'.heap.size W' w') := ⟨fun W' hW => by rw [hzz]; exact rleft_calls W' h t last p c2 L x.f2.f0 (HRt.out.below hW) HQt.out.al HT.out.2 (by have := HQt.out.len; have := HLt.out; omega)⟩
                clear hzz
                refine start_ (n := 24) (S := (fun w' => w'.cell? ⟨(ad.add (k * 6)).block, (ad.add (k * 6)).off + 2, none⟩ = some (.int .u32 x.f2.f0))) (ds := [21]) #[false, false, false, false, false, false, false, false, false, false, false, false, false, false, false, false, false, false, false, false, false, false, false, false] (by kernel_rfl) rfl rfl ((HAT.out _ (below_step HBt.out HBd.out)).2.1) (fun hHeld => ?_)
                generalize w5.drew = wd at HBd HOd hHeld ⊢
                refine pure_ (i := 0) (N := some 122) (v := ?_) (a' := ?_) #[true, false, false, false, false, false, false, false, false, false, false, false, false, false, false, false, false, false, false, false, false, false, false, false] rfl rfl (by kernel_rfl) (fun _ _ _ h => h) (Or.inl ⟨by rfl, ?_⟩) ?_ ?_
                rotate_left
                · intro w'
                  go_simp
                  with_reducible rfl
                rotate_left
                · simp only [Act.put, List.setIfInBounds_toArray, List.set_cons_zero, List.set_cons_succ, i64_w, i32_w]
                  rfl
                refine pure_ (i := 1) (N := some 123) (v := ?_) (a' := ?_) #[true, true, false, false, false, false, false, false, false, false, false, false, false, false, false, false, false, false, false, false, false, false, false, false] rfl rfl (by kernel_rfl) (fun _ _ _ h => h) (Or.inl ⟨by rfl, ?_⟩) ?_ ?_
                rotate_left
                · intro w'
                  go_simp
                  with_reducible rfl
                rotate_left
                · simp only [Act.put, List.setIfInBounds_toArray, List.set_cons_zero, List.set_cons_succ, i64_w, i32_w]
                  rfl
                refine one_ (i := 2) (N := some 124) #[true, true, true, false, false, false, false, false, false, false, false, false, false, false, false, false, false, false, false, false, false, false, false, false] rfl rfl (by kernel_rfl) (by decide) (fun K hK => ?_)
                refine goes_ Try.func17 (by kernel_rfl) rfl #[.pointer (some ⟨h, 0, none⟩)] (by rfl) rfl rfl (by (try simp only [List.map_toArray, List.map_cons, List.map_nil]); first | done | rfl) ?_
                refine (HRL.out _ (HRt.out.below HBd.out)).mono ?_
                rintro e_ w7 ⟨A8, c8, rfl, h1_, h2_⟩
                have HO8 := Aside0.mk h1_
                have HD7 := Aside0.mk h2_
                have HB7 := Aside0.mk (below_step HBd.out h2_)
                have HO7 := Aside0.mk (Kd.R_below HOd.out h2_)
                clear h1_ h2_
                refine ⟨_, rfl, ?_⟩
                refine hK.out _ _ ((HAT.out _ (below_step HBt.out HB7.out)).2.1) (fun hHeld => ?_)
                clear hK K
                refine norm_ (a' := ?_) ?_ ?_
                rotate_left
                · show Act.put _ (some 124) _ = _
                  simp only [Act.put, List.setIfInBounds_toArray, List.set_cons_zero, List.set_cons_succ, i64_w, i32_w]
                  rfl
                refine one_ (i := 3) (N := some 125) #[true, true, true, true, false, false, false, false, false, false, false, false, false, false, false, false, false, false, false, false, false, false, false, false] rfl rfl (by kernel_rfl) (by decide) (fun K hK => ?_)
                refine goes_ Try.func12 (by kernel_rfl) rfl #[.slice A5 ms.length c5, .slice A8 ms.length c8] (by rfl) rfl rfl (by (try simp only [List.map_toArray, List.map_cons, List.map_nil]); first | done | rfl) ?_
                (with_reducible refine (hearsayref17_Equal.calls ke A5 c5 ms A8 c8 ms true _ (Kd.R_reads' HO7.out).2.2 (Kd.R_reads' HO7.out).2.1 (Kd.R_reads' HO8.out).2.2 (Kd.R_reads' HO8.out).2.1 HEQ.out).mono ?_)
                rintro e_ w8 ⟨rfl, h1_⟩
                have HB8 := Aside0.mk (below_step HB7.out (Drawn0.below h1_))
                have HO9 := Aside0.mk (Kd.R_below HO7.out (Drawn0.below h1_))
                clear h1_
                refine ⟨_, rfl, ?_⟩
                refine hK.out _ _ ((HAT.out _ (below_step HBt.out HB8.out)).2.1) (fun hHeld => ?_)
                clear hK K
                refine norm_ (a' := ?_) ?_ ?_
                rotate_left
                · show Act.put _ (some 125) _ = _
                  simp only [Act.put, List.setIfInBounds_toArray, List.set_cons_zero, List.set_cons_succ, i64_w, i32_w]
                  rfl
                refine pure_ (i := 4) (N := some 126) (v := ?_) (a' := ?_) #[true, true, true, true, true, false, false, false, false, false, false, false, false, false, false, false, false, false, false, false, false, false, false, false] rfl rfl (by kernel_rfl) (fun _ _ _ h => h) (Or.inl ⟨by rfl, ?_⟩) ?_ ?_
                rotate_left
                · intro w'
                  go_simp
                  with_reducible rfl
                rotate_left
                · simp only [Act.put, List.setIfInBounds_toArray, List.set_cons_zero, List.set_cons_succ, i64_w, i32_w]
                  rfl
                refine pure_ (i := 5) (N := some 127) (v := ?_) (a' := ?_) #[true, true, true, true, true, true, false, false, false, false, false, false, false, false, false, false, false, false, false, false, false, false, false, false] rfl rfl (by kernel_rfl) (fun _ _ _ h => h) (Or.inl ⟨by rfl, ?_⟩) ?_ ?_
                rotate_left
                · intro w'
                  go_simp
                  with_reducible rfl
                rotate_left
                · simp only [Act.put, List.setIfInBounds_toArray, List.set_cons_zero, List.set_cons_succ, i64_w, i32_w]
                  rfl
                refine pure_ (i := 6) (N := some 128) (v := ?_) (a' := ?_) #[true, true, true, true, true, true, true, false, false, false, false, false, false, false, false, false, false, false, false, false, false, false, false, false] rfl rfl (by kernel_rfl) (fun _ _ _ h => h) (Or.inl ⟨by rfl, ?_⟩) ?_ ?_
                rotate_left
                · intro w'
                  go_simp
                  with_reducible rfl
                rotate_left
                · simp only [Act.put, List.setIfInBounds_toArray, List.set_cons_zero, List.set_cons_succ, i64_w, i32_w]
                  rfl
                refine pure_ (i := 7) (N := some 129) (v := ?_) (a' := ?_) #[true, true, true, true, true, true, true, true, false, false, false, false, false, false, false, false, false, false, false, false, false, false, false, false] rfl rfl (by kernel_rfl) (fun _ _ _ h => h) (Or.inl ⟨by rfl, ?_⟩) ?_ ?_
                rotate_left
                · intro w'
                  go_simp
                  with_reducible rfl
                rotate_left
                · simp only [Act.put, List.setIfInBounds_toArray, List.set_cons_zero, List.set_cons_succ, i64_w, i32_w]
                  rfl
                refine pure_ (i := 8) (N := some 130) (v := ?_) (a' := ?_) #[true, true, true, true, true, true, true, true, true, false, false, false, false, false, false, false, false, false, false, false, false, false, false, false] rfl rfl (by kernel_rfl) (fun _ _ _ h => h) (Or.inl ⟨by rfl, ?_⟩) ?_ ?_
                rotate_left
                · intro w'
                  go_simp
                  with_reducible rfl
                rotate_left
                · simp only [Act.put, List.setIfInBounds_toArray, List.set_cons_zero, List.set_cons_succ, i64_w, i32_w]
                  rfl
                refine pure_ (i := 9) (N := some 131) (v := ?_) (a' := ?_) #[true, true, true, true, true, true, true, true, true, true, false, false, false, false, false, false, false, false, false, false, false, false, false, false] rfl rfl (by kernel_rfl) (fun _ _ _ h => h) (Or.inl ⟨by rfl, ?_⟩) ?_ ?_
                rotate_left
                · intro w'
                  go_simp
                  with_reducible rfl
                rotate_left
                · simp only [Act.put, List.setIfInBounds_toArray, List.set_cons_zero, List.set_cons_succ, i64_w, i32_w]
                  rfl
                refine pure_ (i := 10) (N := some 132) (v := ?_) (a' := ?_) #[true, true, true, true, true, true, true, true, true, true, true, false, false, false, false, false, false, false, false, false, false, false, false, false] rfl rfl (by kernel_rfl) (fun _ _ _ h => h) (Or.inl ⟨by rfl, ?_⟩) ?_ ?_
                rotate_left
                · intro w'
                  go_simp
                  with_reducible rfl
                rotate_left
                · simp only [Act.put, List.setIfInBounds_toArray, List.set_cons_zero, List.set_cons_succ, i64_w, i32_w]
                  rfl
                refine pure_ (i := 11) (N := some 133) (v := ?_) (a' := ?_) #[true, true, true, true, true, true, true, true, true, true, true, true, false, false, false, false, false, false, false, false, false, false, false, false] rfl rfl (by kernel_rfl) (fun _ _ _ h => h) (Or.inl ⟨by rfl, ?_⟩) ?_ ?_
                rotate_left
                · intro w'
                  go_simp
                  with_reducible rfl
                rotate_left
                · simp only [Act.put, List.setIfInBounds_toArray, List.set_cons_zero, List.set_cons_succ, i64_w, i32_w]
                  rfl
                refine take_ (i := 12) (N := some 134) (v := ?_) (a' := ?_) #[true, true, true, true, true, true, true, true, true, true, true, true, true, false, false, false, false, false, false, false, false, false, false, false] rfl rfl (by kernel_rfl) (fun _ _ _ h => h) (Or.inl ⟨by rfl, ?_⟩) hHeld ?_ ?_
                rotate_left
                · rintro w' h0_
                  go_simp
                  with_reducible rfl
                rotate_left
                · simp only [Act.put, List.setIfInBounds_toArray, List.set_cons_zero, List.set_cons_succ, i64_w, i32_w]
                  rfl
                refine pure_ (i := 14) (N := some 136) (v := ?_) (a' := ?_) #[true, true, true, true, true, true, true, true, true, true, true, true, true, false, true, false, false, false, false, false, false, false, false, false] rfl rfl (by kernel_rfl) (fun _ _ _ h => h) (Or.inl ⟨by rfl, ?_⟩) ?_ ?_
                rotate_left
                · intro w'
                  go_simp
                  with_reducible rfl
                rotate_left
                · simp only [Act.put, List.setIfInBounds_toArray, List.set_cons_zero, List.set_cons_succ, i64_w, i32_w]
                  rfl
                refine pure_ (i := 15) (N := some 137) (v := ?_) (a' := ?_) #[true, true, true, true, true, true, true, true, true, true, true, true, true, false, true, true, false, false, false, false, false, false, false, false] rfl rfl (by kernel_rfl) (fun _ _ _ h => h) (Or.inl ⟨by rfl, ?_⟩) ?_ ?_
                rotate_left
                · intro w'
                  go_simp
                  with_reducible rfl
                rotate_left
                · simp only [Act.put, List.setIfInBounds_toArray, List.set_cons_zero, List.set_cons_succ, i64_w, i32_w]
                  rfl
                refine pure_ (i := 16) (N := some 138) (v := ?_) (a' := ?_) #[true, true, true, true, true, true, true, true, true, true, true, true, true, false, true, true, true, false, false, false, false, false, false, false] rfl rfl (by kernel_rfl) (fun _ _ _ h => h) (Or.inl ⟨by rfl, ?_⟩) ?_ ?_
                rotate_left
                · intro w'
                  go_simp
                  with_reducible rfl
                rotate_left
                · simp only [Act.put, List.setIfInBounds_toArray, List.set_cons_zero, List.set_cons_succ, i64_w, i32_w]
                  rfl
                refine pure_ (i := 17) (N := some 139) (v := ?_) (a' := ?_) #[true, true, true, true, true, true, true, true, true, true, true, true, true, false, true, true, true, true, false, false, false, false, false, false] rfl rfl (by kernel_rfl) (fun _ _ _ h => h) (Or.inl ⟨by rfl, ?_⟩) ?_ ?_
                rotate_left
                · intro w'
                  go_simp
                  with_reducible rfl
                rotate_left
                · simp only [Act.put, List.setIfInBounds_toArray, List.set_cons_zero, List.set_cons_succ, i64_w, i32_w]
                  rfl
                refine pure_ (i := 18) (N := some 140) (v := ?_) (a' := ?_) #[true, true, true, true, true, true, true, true, true, true, true, true, true, false, true, true, true, true, true, false, false, false, false, false] rfl rfl (by kernel_rfl) (fun _ _ _ h => h) (Or.inl ⟨by rfl, ?_⟩) ?_ ?_
                rotate_left
                · intro w'
                  go_simp
                  with_reducible rfl
                rotate_left
                · simp only [Act.put, List.setIfInBounds_toArray, List.set_cons_zero, List.set_cons_succ, i64_w, i32_w]
                  rfl
                refine pure_ (i := 19) (N := some 141) (v := ?_) (a' := ?_) #[true, true, true, true, true, true, true, true, true, true, true, true, true, false, true, true, true, true, true, true, false, false, false, false] rfl rfl (by kernel_rfl) (fun _ _ _ h => h) (Or.inl ⟨by rfl, ?_⟩) ?_ ?_
                rotate_left
                · intro w'
                  go_simp
                  with_reducible rfl
                rotate_left
                · simp only [Act.put, List.setIfInBounds_toArray, List.set_cons_zero, List.set_cons_succ, i64_w, i32_w]
                  rfl
                refine take_ (i := 20) (N := some 142) (v := ?_) (a' := ?_) #[true, true, true, true, true, true, true, true, true, true, true, true, true, false, true, true, true, true, true, true, true, false, false, false] rfl rfl (by kernel_rfl) (fun _ _ _ h => h) (Or.inl ⟨by rfl, ?_⟩) hHeld ?_ ?_
                rotate_left
                · rintro w' h0_
                  go_simp
                  with_reducible rfl
                rotate_left
                · simp only [Act.put, List.setIfInBounds_toArray, List.set_cons_zero, List.set_cons_succ, i64_w, i32_w]
                  rfl
                refine one_ (i := 13) (N := some 135) #[true, true, true, true, true, true, true, true, true, true, true, true, true, true, true, true, true, true, true, true, true, false, false, false] rfl rfl (by kernel_rfl) (by decide) (fun K hK => ?_)
                refine goes_ Try.func18 (by kernel_rfl) rfl #[.pointer (some ⟨g4, 0, none⟩), .int .u32 x.f2.f0] (by rfl) rfl rfl (by (try simp only [List.map_toArray, List.map_cons, List.map_nil]); first | done | rfl) ?_
                refine (HLC.out _ HB8.out).mono ?_
                rintro e_ w9 ⟨rfl, h1_⟩
                have HB9 := Aside0.mk (below_step HB8.out h1_)
                have HOa := Aside0.mk (Kd.R_below HO9.out h1_)
                clear h1_
                refine ⟨_, rfl, ?_⟩
                refine hK.out _ _ ((HAT.out _ (below_step HBt.out HB9.out)).2.1) (fun hHeld => ?_)
                clear hK K
                refine norm_ (a' := ?_) ?_ ?_
                rotate_left
                · show Act.put _ (some 135) _ = _
                  simp only [Act.put, List.setIfInBounds_toArray, List.set_cons_zero, List.set_cons_succ, i64_w, i32_w]
                  rfl
                refine last_ (i := 21) (N := some 143) #[true, true, true, true, true, true, true, true, true, true, true, true, true, true, true, true, true, true, true, true, true, true, false, false] rfl rfl (by kernel_rfl) (by decide) (fun K hK => ?_)
                refine goes_ Try.func19 (by kernel_rfl) rfl #[.pointer (some ⟨h, 0, none⟩), .int .u32 x.f2.f0] (by rfl) rfl rfl (by (try simp only [List.map_toArray, List.map_cons, List.map_nil]); first | done | rfl) ?_
                refine (HRC.out _ HB9.out).mono ?_
                rintro e_ w10 ⟨rfl, h1_⟩
                have HBa := Aside0.mk (below_step HB9.out h1_)
                have HOb := Aside0.mk (Kd.R_below HOa.out h1_)
                clear h1_
                refine ⟨_, rfl, ?_⟩
                refine hK.out _ _ ?_
                clear hK K
                refine norm_ (a' := ?_) ?_ ?_
                rotate_left
                · show Act.put _ (some 143) _ = _
                  simp only [Act.put, List.setIfInBounds_toArray, List.set_cons_zero, List.set_cons_succ, i64_w, i32_w]
                  rfl
                refine pure_ (i := 22) (N := some 144) (v := ?_) (a' := ?_) #[true, true, true, true, true, true, true, true, true, true, true, true, true, true, true, true, true, true, true, true, true, true, true, false] rfl rfl (by kernel_rfl) (fun _ _ _ h => h) (Or.inl ⟨by rfl, ?_⟩) ?_ ?_
                rotate_left
                · intro w'
                  go_simp
                  with_reducible rfl
                rotate_left
                · simp only [Act.put, List.setIfInBounds_toArray, List.set_cons_zero, List.set_cons_succ, i64_w, i32_w]
                  rfl
                refine pure_ (i := 23) (N := some 145) (v := ?_) (a' := ?_) #[true, true, true, true, true, true, true, true, true, true, true, true, true, true, true, true, true, true, true, true, true, true, true, true] rfl rfl (by kernel_rfl) (fun _ _ _ h => h) (Or.inl ⟨by rfl, ?_⟩) ?_ ?_
                rotate_left
                · intro w'
                  go_simp
                  with_reducible rfl
                rotate_left
                · simp only [Act.put, List.setIfInBounds_toArray, List.set_cons_zero, List.set_cons_succ, i64_w, i32_w]
                  rfl
                refine done_ (by kernel_rfl) ?_
                have HWI : Aside0 (0 < ms.length → ∃ r, A5 = some ⟨r, 0, none⟩ ∧ Wip w10 r ms.length ∧ w4.heap.size ≤ r) := ⟨fun h0 => wip_of HOb.out h0⟩
                clear HOd HO7 HO8 HO9 HOa HOb HD7 HB7 HB8 HB9 HBd HEQ HLC HRC HRL
                have hml_ := HML.out
                go_wp2
                go_loopw [15] (fun v wr2 => ∃ j : Nat, j ≤ ms.length ∧ v = .int .i64 j ∧ Aside0 (0 < ms.length → ∃ r, A5 = some ⟨r, 0, none⟩ ∧ Wip wr2 r ms.length ∧ w4.heap.size ≤ r) ∧ Aside0 (Below w4.heap.size w4 wr2)) (fun v _ => ms.length - (intOf v).toNat)
                case atStart => exact ⟨0, Nat.zero_le _, rfl, HWI, HBa⟩
                case round =>
                  clear HWI HBa
                  obtain ⟨j, hj, rfl, HWI, HBa⟩ := hrel
                  by_cases hjt : (j : Int) < (ms.length : Int)
                  · have HJT := Aside0.mk (show j < ms.length by omega)
                    obtain ⟨r, rfl, hwi, hrg⟩ := HWI.out (by omega)
                    obtain ⟨v0, hv0⟩ := hwi.cell (j * 4) (by omega)
                    obtain ⟨v1, hv1⟩ := hwi.cell (j * 4 + 1) (by omega)
                    obtain ⟨v2, hv2⟩ := hwi.cell (j * 4 + 2) (by omega)
                    obtain ⟨v3, hv3⟩ := hwi.cell (j * 4 + 3) (by omega)
                    have f0 := hwi.frozen (j * 4)
                    have f1 := hwi.frozen (j * 4 + 1)
                    have f2 := hwi.frozen (j * 4 + 2)
                    have f3 := hwi.frozen (j * 4 + 3)
                    have hrl := hwi.lt
                    have hj0 : 0 ≤ (j : Int) := by omega
                    have HWJ := Aside0.mk hwi
                    have HRG := Aside0.mk hrg
                    clear hwi hrg
                    go_wp2
                    go_roundw
                    case rel => exact ⟨j + 1, by have := HJT.out; omega, by go_num, ⟨fun _ => ⟨r, rfl, (((HWJ.out.set _ _).set _ _).set _ _).set _ _, HRG.out⟩⟩, ⟨below_set (below_set (below_set (below_set HBa.out HRG.out) HRG.out) HRG.out) HRG.out⟩⟩
                    case measure => have := HJT.out; simp [intOf, wrap64]; omega
                  · go_wp2
                    go_roundw
                    case rel => exact ⟨k + 1, g4, mb4, v4, hs4, last, L, p, c2, by have := HLT.out; omega, rfl, by go_num, ⟨HQt.out.below HBa.out⟩, ⟨HRt.out.below HBa.out⟩, HLt', ⟨below_step HBt.out HBa.out⟩, HGt⟩
                    case measure => have := HLT.out; simp [intOf, wrap64]; omega
              · have e2 : (d == 2) = false := by simpa using hd2
                by_cases hd3 : d = 3
                · subst hd3
                  go_upto_region 24 with (fail)
                  clear x0_
                  go_upto_region 25 with (first | (go_at_call 15; (with_reducible refine (copyq_s _ g mb t last v hs L HQ.out (by have := HL.out; omega)).mono ?_); rintro e w3 ⟨g3, mb3, v3, hs3, rfl, h1_, h2_, h3_⟩; have HC3 := Aside0.mk h1_; have HN3 := Aside0.mk h2_; have HF3 := Aside0.mk h3_; have HB3 := Aside0.mk (below_step HB.out h3_); clear h1_ h2_ h3_))
                  obtain ⟨a, er, L', last', hadd⟩ : ∃ a er L' last', addL L last x.f2 = (a, er, L', last') := ⟨_, _, _, _, rfl⟩
                  have HAL := Aside0.mk (add_len (t := t) (last := last) (L := L) x.f2)
                  have HQC := Aside0.mk (addq_s w3 g3 mb3 t last v3 hs3 L x.f2 HC3.out HX.out.1 (by have := HL.out; omega))
                  rw [hadd] at HQC HAL
                  clear hadd
                  obtain ⟨x11_, x12_, x13_, x14_, x15_⟩ := HAT.out _ HB3.out
                  go_upto_region 26 with (first | (go_at_call 10; refine HQC.out.mono ?_; rintro e w4 ⟨v4, hs4, rfl, h1_, h2_, h3_⟩; have HQ4 := Aside0.mk h1_; have HF4 := Aside0.mk (HF3.out.trans (h2_.below HF3.out.size HN3.out)); have HN4 := Aside0.mk (fun j hj => (h3_ j hj).elim (HN3.out j) (fun h => Nat.le_trans HF3.out.size h)); clear h1_ h2_ h3_ HQC x11_ x12_ x13_ x14_ x15_))
                  have HLQ : Aside0 (last' ≤ 800000) := ⟨by have := HL.out; have := HAL.out; omega⟩
                  clear HC3 HN3 HF3 HB3
                  go_upto_region 27 with (first | (go_at_call 13; refine (takeq_m _ g3 mb3 t last' v4 hs4 L' 3 HQ4.out HLQ.out).mono ?_; rintro e u5 ⟨A5_, c5_, v5, hs5, rfl, _, _, h2_, _⟩; have HF5 := Aside0.mk (HF4.out.trans (h2_.below HF4.out.size HN4.out)); clear h2_))
                  have HQt := Aside0.mk (HQ.out.below HF5.out)
                  have HRt := Aside0.mk (HR.out.below HF5.out)
                  have HBt := Aside0.mk (below_step HB.out HF5.out)
                  have HGt := HG
                  have HLt : Aside0 (last ≤ 800000) := ⟨by have := HL.out; omega⟩
                  have HLt' : Aside0 (last ≤ ((k + 1 : Nat) : Int)) := ⟨by have := HL.out; omega⟩
                  clear HQ HR HB HG HL HQ4 HF4 HN4 HF5 HAL HLQ
                  obtain ⟨ms, hms⟩ : ∃ ms, ms = memsL L := ⟨_, rfl⟩
                  have HMS := Aside0.mk hms
                  have HML : Aside0 (ms.length ≤ 1000000) := ⟨by rw [hms, memsL_len]; have := HQt.out.len; have := HLt.out; omega⟩
                  have HLI := Aside0.mk (listq_m u5 g mb t last v hs L HQt.out (by have := HLt.out; omega))
                  have HRL := Aside0.mk (fun W' (hR : Rf W' h t last p c2 L) => rlist_m W' h t last p c2 L hR (by have := HQt.out.len; have := HLt.out; omega))
                  rw [← hms] at HLI
                  simp only [← hms] at HRL
                  clear hms
                  go_upto_region 28 with (first | (go_at_call 16; refine HLI.out.mono ?_; rintro e w5 ⟨A5, c5, rfl, h1_, h2_⟩; have HO5 := Aside0.mk h1_; have HB5 : Aside0 (Below u5.heap.size u5 w5) := ⟨h2_⟩; clear h1_ h2_ HLI))
                  have hbd := below_drew1 (Below.refl w5.heap.size w5)
                  have HBd := Aside0.mk (below_step HB5.out hbd)
                  have HOd := Aside0.mk (Kd.R_below HO5.out hbd)
                  clear hbd HO5 HB5
                  obtain ⟨ke, hke⟩ := equal_sameR ms HML.out
                  have HEQ := Aside0.mk hke
                  clear hke
                  obtain ⟨zz, hzz⟩ : ∃ zz, zz = leftL t L x.f2.f0 := ⟨_, rfl⟩
                  have HLC : Aside0 (∀ W', Below u5.heap.size u5 W' → Calls Try.prog 18 #[.pointer (some ⟨g, 0, none⟩), .int .u32 x.f2.f0] W' fun e w' => e = .returned (.int .i64 zz) ∧ Below W'.heap.size W' w') := ⟨fun W' hW => by rw [hzz]; exact leftq_s W' g mb t last v hs L x.f2.f0 (HQt.out.below hW) HX.out.1⟩
                  have HRC : Aside0 (∀ W', Below u5.heap.size u5 W' → Calls Try.prog 19 #[.pointer (some ⟨h, 0, none⟩), .int .u32 x.f2.f0] W' fun e w' => e = .returned (.int .i64 zz) ∧ Below W'.heap.size W' w') := ⟨fun W' hW => by rw [hzz]; exact rleft_calls W' h t last p c2 L x.f2.f0 (HRt.out.below hW) HQt.out.al HT.out.2 (by have := HQt.out.len; have := HLt.out; omega)⟩
                  clear hzz
                  refine start_ (n := 24) (S := (fun w' => w'.cell? ⟨(ad.add (k * 6)).block, (ad.add (k * 6)).off + 2, none⟩ = some (.int .u32 x.f2.f0))) (ds := [21]) #[false, false, false, false, false, false, false, false, false, false, false, false, false, false, false, false, false, false, false, false, false, false, false, false] (by kernel_rfl) rfl rfl ((HAT.out _ (below_step HBt.out HBd.out)).2.1) (fun hHeld => ?_)
                  generalize w5.drew = wd at HBd HOd hHeld ⊢
                  refine pure_ (i := 0) (N := some 122) (v := ?_) (a' := ?_) #[true, false, false, false, false, false, false, false, false, false, false, false, false, false, false, false, false, false, false, false, false, false, false, false] rfl rfl (by kernel_rfl) (fun _ _ _ h => h) (Or.inl ⟨by rfl, ?_⟩) ?_ ?_
                  rotate_left
                  · intro w'
                    go_simp
                    with_reducible rfl
                  rotate_left
                  · simp only [Act.put, List.setIfInBounds_toArray, List.set_cons_zero, List.set_cons_succ, i64_w, i32_w]
                    rfl
                  refine pure_ (i := 1) (N := some 123) (v := ?_) (a' := ?_) #[true, true, false, false, false, false, false, false, false, false, false, false, false, false, false, false, false, false, false, false, false, false, false, false] rfl rfl (by kernel_rfl) (fun _ _ _ h => h) (Or.inl ⟨by rfl, ?_⟩) ?_ ?_
                  rotate_left
                  · intro w'
                    go_simp
                    with_reducible rfl
                  rotate_left
                  · simp only [Act.put, List.setIfInBounds_toArray, List.set_cons_zero, List.set_cons_succ, i64_w, i32_w]
                    rfl
                  refine one_ (i := 2) (N := some 124) #[true, true, true, false, false, false, false, false, false, false, false, false, false, false, false, false, false, false, false, false, false, false, false, false] rfl rfl (by kernel_rfl) (by decide) (fun K hK => ?_)
                  refine goes_ Try.func17 (by kernel_rfl) rfl #[.pointer (some ⟨h, 0, none⟩)] (by rfl) rfl rfl (by (try simp only [List.map_toArray, List.map_cons, List.map_nil]); first | done | rfl) ?_
                  refine (HRL.out _ (HRt.out.below HBd.out)).mono ?_
                  rintro e_ w7 ⟨A8, c8, rfl, h1_, h2_⟩
                  have HO8 := Aside0.mk h1_
                  have HD7 := Aside0.mk h2_
                  have HB7 := Aside0.mk (below_step HBd.out h2_)
                  have HO7 := Aside0.mk (Kd.R_below HOd.out h2_)
                  clear h1_ h2_
                  refine ⟨_, rfl, ?_⟩
                  refine hK.out _ _ ((HAT.out _ (below_step HBt.out HB7.out)).2.1) (fun hHeld => ?_)
                  clear hK K
                  refine norm_ (a' := ?_) ?_ ?_
                  rotate_left
                  · show Act.put _ (some 124) _ = _
                    simp only [Act.put, List.setIfInBounds_toArray, List.set_cons_zero, List.set_cons_succ, i64_w, i32_w]
                    rfl
                  refine one_ (i := 3) (N := some 125) #[true, true, true, true, false, false, false, false, false, false, false, false, false, false, false, false, false, false, false, false, false, false, false, false] rfl rfl (by kernel_rfl) (by decide) (fun K hK => ?_)
                  refine goes_ Try.func12 (by kernel_rfl) rfl #[.slice A5 ms.length c5, .slice A8 ms.length c8] (by rfl) rfl rfl (by (try simp only [List.map_toArray, List.map_cons, List.map_nil]); first | done | rfl) ?_
                  (with_reducible refine (hearsayref17_Equal.calls ke A5 c5 ms A8 c8 ms true _ (Kd.R_reads' HO7.out).2.2 (Kd.R_reads' HO7.out).2.1 (Kd.R_reads' HO8.out).2.2 (Kd.R_reads' HO8.out).2.1 HEQ.out).mono ?_)
                  rintro e_ w8 ⟨rfl, h1_⟩
                  have HB8 := Aside0.mk (below_step HB7.out (Drawn0.below h1_))
                  have HO9 := Aside0.mk (Kd.R_below HO7.out (Drawn0.below h1_))
                  clear h1_
                  refine ⟨_, rfl, ?_⟩
                  refine hK.out _ _ ((HAT.out _ (below_step HBt.out HB8.out)).2.1) (fun hHeld => ?_)
                  clear hK K
                  refine norm_ (a' := ?_) ?_ ?_
                  rotate_left
                  · show Act.put _ (some 125) _ = _
                    simp only [Act.put, List.setIfInBounds_toArray, List.set_cons_zero, List.set_cons_succ, i64_w, i32_w]
                    rfl
                  refine pure_ (i := 4) (N := some 126) (v := ?_) (a' := ?_) #[true, true, true, true, true, false, false, false, false, false, false, false, false, false, false, false, false, false, false, false, false, false, false, false] rfl rfl (by kernel_rfl) (fun _ _ _ h => h) (Or.inl ⟨by rfl, ?_⟩) ?_ ?_
                  rotate_left
                  · intro w'
                    go_simp
                    with_reducible rfl
                  rotate_left
                  · simp only [Act.put, List.setIfInBounds_toArray, List.set_cons_zero, List.set_cons_succ, i64_w, i32_w]
                    rfl
                  refine pure_ (i := 5) (N := some 127) (v := ?_) (a' := ?_) #[true, true, true, true, true, true, false, false, false, false, false, false, false, false, false, false, false, false, false, false, false, false, false, false] rfl rfl (by kernel_rfl) (fun _ _ _ h => h) (Or.inl ⟨by rfl, ?_⟩) ?_ ?_
                  rotate_left
                  · intro w'
                    go_simp
                    with_reducible rfl
                  rotate_left
                  · simp only [Act.put, List.setIfInBounds_toArray, List.set_cons_zero, List.set_cons_succ, i64_w, i32_w]
                    rfl
                  refine pure_ (i := 6) (N := some 128) (v := ?_) (a' := ?_) #[true, true, true, true, true, true, true, false, false, false, false, false, false, false, false, false, false, false, false, false, false, false, false, false] rfl rfl (by kernel_rfl) (fun _ _ _ h => h) (Or.inl ⟨by rfl, ?_⟩) ?_ ?_
                  rotate_left
                  · intro w'
                    go_simp
                    with_reducible rfl
                  rotate_left
                  · simp only [Act.put, List.setIfInBounds_toArray, List.set_cons_zero, List.set_cons_succ, i64_w, i32_w]
                    rfl
                  refine pure_ (i := 7) (N := some 129) (v := ?_) (a' := ?_) #[true, true, true, true, true, true, true, true, false, false, false, false, false, false, false, false, false, false, false, false, false, false, false, false] rfl rfl (by kernel_rfl) (fun _ _ _ h => h) (Or.inl ⟨by rfl, ?_⟩) ?_ ?_
                  rotate_left
                  · intro w'
                    go_simp
                    with_reducible rfl
                  rotate_left
                  · simp only [Act.put, List.setIfInBounds_toArray, List.set_cons_zero, List.set_cons_succ, i64_w, i32_w]
                    rfl
                  refine pure_ (i := 8) (N := some 130) (v := ?_) (a' := ?_) #[true, true, true, true, true, true, true, true, true, false, false, false, false, false, false, false, false, false, false, false, false, false, false, false] rfl rfl (by kernel_rfl) (fun _ _ _ h => h) (Or.inl ⟨by rfl, ?_⟩) ?_ ?_
                  rotate_left
                  · intro w'
                    go_simp
                    with_reducible rfl
                  rotate_left
                  · simp only [Act.put, List.setIfInBounds_toArray, List.set_cons_zero, List.set_cons_succ, i64_w, i32_w]
                    rfl
                  refine pure_ (i := 9) (N := some 131) (v := ?_) (a' := ?_) #[true, true, true, true, true, true, true, true, true, true, false, false, false, false, false, false, false, false, false, false, false, false, false, false] rfl rfl (by kernel_rfl) (fun _ _ _ h => h) (Or.inl ⟨by rfl, ?_⟩) ?_ ?_
                  rotate_left
                  · intro w'
                    go_simp
                    with_reducible rfl
                  rotate_left
                  · simp only [Act.put, List.setIfInBounds_toArray, List.set_cons_zero, List.set_cons_succ, i64_w, i32_w]
                    rfl
                  refine pure_ (i := 10) (N := some 132) (v := ?_) (a' := ?_) #[true, true, true, true, true, true, true, true, true, true, true, false, false, false, false, false, false, false, false, false, false, false, false, false] rfl rfl (by kernel_rfl) (fun _ _ _ h => h) (Or.inl ⟨by rfl, ?_⟩) ?_ ?_
                  rotate_left
                  · intro w'
                    go_simp
                    with_reducible rfl
                  rotate_left
                  · simp only [Act.put, List.setIfInBounds_toArray, List.set_cons_zero, List.set_cons_succ, i64_w, i32_w]
                    rfl
                  refine pure_ (i := 11) (N := some 133) (v := ?_) (a' := ?_) #[true, true, true, true, true, true, true, true, true, true, true, true, false, false, false, false, false, false, false, false, false, false, false, false] rfl rfl (by kernel_rfl) (fun _ _ _ h => h) (Or.inl ⟨by rfl, ?_⟩) ?_ ?_
                  rotate_left
                  · intro w'
                    go_simp
                    with_reducible rfl
                  rotate_left
                  · simp only [Act.put, List.setIfInBounds_toArray, List.set_cons_zero, List.set_cons_succ, i64_w, i32_w]
                    rfl
                  refine take_ (i := 12) (N := some 134) (v := ?_) (a' := ?_) #[true, true, true, true, true, true, true, true, true, true, true, true, true, false, false, false, false, false, false, false, false, false, false, false] rfl rfl (by kernel_rfl) (fun _ _ _ h => h) (Or.inl ⟨by rfl, ?_⟩) hHeld ?_ ?_
                  rotate_left
                  · rintro w' h0_
                    go_simp
                    with_reducible rfl
                  rotate_left
                  · simp only [Act.put, List.setIfInBounds_toArray, List.set_cons_zero, List.set_cons_succ, i64_w, i32_w]
                    rfl
                  refine pure_ (i := 14) (N := some 136) (v := ?_) (a' := ?_) #[true, true, true, true, true, true, true, true, true, true, true, true, true, false, true, false, false, false, false, false, false, false, false, false] rfl rfl (by kernel_rfl) (fun _ _ _ h => h) (Or.inl ⟨by rfl, ?_⟩) ?_ ?_
                  rotate_left
                  · intro w'
                    go_simp
                    with_reducible rfl
                  rotate_left
                  · simp only [Act.put, List.setIfInBounds_toArray, List.set_cons_zero, List.set_cons_succ, i64_w, i32_w]
                    rfl
                  refine pure_ (i := 15) (N := some 137) (v := ?_) (a' := ?_) #[true, true, true, true, true, true, true, true, true, true, true, true, true, false, true, true, false, false, false, false, false, false, false, false] rfl rfl (by kernel_rfl) (fun _ _ _ h => h) (Or.inl ⟨by rfl, ?_⟩) ?_ ?_
                  rotate_left
                  · intro w'
                    go_simp
                    with_reducible rfl
                  rotate_left
                  · simp only [Act.put, List.setIfInBounds_toArray, List.set_cons_zero, List.set_cons_succ, i64_w, i32_w]
                    rfl
                  refine pure_ (i := 16) (N := some 138) (v := ?_) (a' := ?_) #[true, true, true, true, true, true, true, true, true, true, true, true, true, false, true, true, true, false, false, false, false, false, false, false] rfl rfl (by kernel_rfl) (fun _ _ _ h => h) (Or.inl ⟨by rfl, ?_⟩) ?_ ?_
                  rotate_left
                  · intro w'
                    go_simp
                    with_reducible rfl
                  rotate_left
                  · simp only [Act.put, List.setIfInBounds_toArray, List.set_cons_zero, List.set_cons_succ, i64_w, i32_w]
                    rfl
                  refine pure_ (i := 17) (N := some 139) (v := ?_) (a' := ?_) #[true, true, true, true, true, true, true, true, true, true, true, true, true, false, true, true, true, true, false, false, false, false, false, false] rfl rfl (by kernel_rfl) (fun _ _ _ h => h) (Or.inl ⟨by rfl, ?_⟩) ?_ ?_
                  rotate_left
                  · intro w'
                    go_simp
                    with_reducible rfl
                  rotate_left
                  · simp only [Act.put, List.setIfInBounds_toArray, List.set_cons_zero, List.set_cons_succ, i64_w, i32_w]
                    rfl
                  refine pure_ (i := 18) (N := some 140) (v := ?_) (a' := ?_) #[true, true, true, true, true, true, true, true, true, true, true, true, true, false, true, true, true, true, true, false, false, false, false, false] rfl rfl (by kernel_rfl) (fun _ _ _ h => h) (Or.inl ⟨by rfl, ?_⟩) ?_ ?_
                  rotate_left
                  · intro w'
                    go_simp
                    with_reducible rfl
                  rotate_left
                  · simp only [Act.put, List.setIfInBounds_toArray, List.set_cons_zero, List.set_cons_succ, i64_w, i32_w]
                    rfl
                  refine pure_ (i := 19) (N := some 141) (v := ?_) (a' := ?_) #[true, true, true, true, true, true, true, true, true, true, true, true, true, false, true, true, true, true, true, true, false, false, false, false] rfl rfl (by kernel_rfl) (fun _ _ _ h => h) (Or.inl ⟨by rfl, ?_⟩) ?_ ?_
                  rotate_left
                  · intro w'
                    go_simp
                    with_reducible rfl
                  rotate_left
                  · simp only [Act.put, List.setIfInBounds_toArray, List.set_cons_zero, List.set_cons_succ, i64_w, i32_w]
                    rfl
                  refine take_ (i := 20) (N := some 142) (v := ?_) (a' := ?_) #[true, true, true, true, true, true, true, true, true, true, true, true, true, false, true, true, true, true, true, true, true, false, false, false] rfl rfl (by kernel_rfl) (fun _ _ _ h => h) (Or.inl ⟨by rfl, ?_⟩) hHeld ?_ ?_
                  rotate_left
                  · rintro w' h0_
                    go_simp
                    with_reducible rfl
                  rotate_left
                  · simp only [Act.put, List.setIfInBounds_toArray, List.set_cons_zero, List.set_cons_succ, i64_w, i32_w]
                    rfl
                  refine one_ (i := 13) (N := some 135) #[true, true, true, true, true, true, true, true, true, true, true, true, true, true, true, true, true, true, true, true, true, false, false, false] rfl rfl (by kernel_rfl) (by decide) (fun K hK => ?_)
                  refine goes_ Try.func18 (by kernel_rfl) rfl #[.pointer (some ⟨g, 0, none⟩), .int .u32 x.f2.f0] (by rfl) rfl rfl (by (try simp only [List.map_toArray, List.map_cons, List.map_nil]); first | done | rfl) ?_
                  refine (HLC.out _ HB8.out).mono ?_
                  rintro e_ w9 ⟨rfl, h1_⟩
                  have HB9 := Aside0.mk (below_step HB8.out h1_)
                  have HOa := Aside0.mk (Kd.R_below HO9.out h1_)
                  clear h1_
                  refine ⟨_, rfl, ?_⟩
                  refine hK.out _ _ ((HAT.out _ (below_step HBt.out HB9.out)).2.1) (fun hHeld => ?_)
                  clear hK K
                  refine norm_ (a' := ?_) ?_ ?_
                  rotate_left
                  · show Act.put _ (some 135) _ = _
                    simp only [Act.put, List.setIfInBounds_toArray, List.set_cons_zero, List.set_cons_succ, i64_w, i32_w]
                    rfl
                  refine last_ (i := 21) (N := some 143) #[true, true, true, true, true, true, true, true, true, true, true, true, true, true, true, true, true, true, true, true, true, true, false, false] rfl rfl (by kernel_rfl) (by decide) (fun K hK => ?_)
                  refine goes_ Try.func19 (by kernel_rfl) rfl #[.pointer (some ⟨h, 0, none⟩), .int .u32 x.f2.f0] (by rfl) rfl rfl (by (try simp only [List.map_toArray, List.map_cons, List.map_nil]); first | done | rfl) ?_
                  refine (HRC.out _ HB9.out).mono ?_
                  rintro e_ w10 ⟨rfl, h1_⟩
                  have HBa := Aside0.mk (below_step HB9.out h1_)
                  have HOb := Aside0.mk (Kd.R_below HOa.out h1_)
                  clear h1_
                  refine ⟨_, rfl, ?_⟩
                  refine hK.out _ _ ?_
                  clear hK K
                  refine norm_ (a' := ?_) ?_ ?_
                  rotate_left
                  · show Act.put _ (some 143) _ = _
                    simp only [Act.put, List.setIfInBounds_toArray, List.set_cons_zero, List.set_cons_succ, i64_w, i32_w]
                    rfl
                  refine pure_ (i := 22) (N := some 144) (v := ?_) (a' := ?_) #[true, true, true, true, true, true, true, true, true, true, true, true, true, true, true, true, true, true, true, true, true, true, true, false] rfl rfl (by kernel_rfl) (fun _ _ _ h => h) (Or.inl ⟨by rfl, ?_⟩) ?_ ?_
                  rotate_left
                  · intro w'
                    go_simp
                    with_reducible rfl
                  rotate_left
                  · simp only [Act.put, List.setIfInBounds_toArray, List.set_cons_zero, List.set_cons_succ, i64_w, i32_w]
                    rfl
                  refine pure_ (i := 23) (N := some 145) (v := ?_) (a' := ?_) #[true, true, true, true, true, true, true, true, true, true, true, true, true, true, true, true, true, true, true, true, true, true, true, true] rfl rfl (by kernel_rfl) (fun _ _ _ h => h) (Or.inl ⟨by rfl, ?_⟩) ?_ ?_
                  rotate_left
                  · intro w'
                    go_simp
                    with_reducible rfl
                  rotate_left
                  · simp only [Act.put, List.setIfInBounds_toArray, List.set_cons_zero, List.set_cons_succ, i64_w, i32_w]
                    rfl
                  refine done_ (by kernel_rfl) ?_
                  have HWI : Aside0 (0 < ms.length → ∃ r, A5 = some ⟨r, 0, none⟩ ∧ Wip w10 r ms.length ∧ u5.heap.size ≤ r) := ⟨fun h0 => wip_of HOb.out h0⟩
                  clear HOd HO7 HO8 HO9 HOa HOb HD7 HB7 HB8 HB9 HBd HEQ HLC HRC HRL
                  have hml_ := HML.out
                  go_wp2
                  go_loopw [15] (fun v wr2 => ∃ j : Nat, j ≤ ms.length ∧ v = .int .i64 j ∧ Aside0 (0 < ms.length → ∃ r, A5 = some ⟨r, 0, none⟩ ∧ Wip wr2 r ms.length ∧ u5.heap.size ≤ r) ∧ Aside0 (Below u5.heap.size u5 wr2)) (fun v _ => ms.length - (intOf v).toNat)
                  case atStart => exact ⟨0, Nat.zero_le _, rfl, HWI, HBa⟩
                  case round =>
                    clear HWI HBa
                    obtain ⟨j, hj, rfl, HWI, HBa⟩ := hrel
                    by_cases hjt : (j : Int) < (ms.length : Int)
                    · have HJT := Aside0.mk (show j < ms.length by omega)
                      obtain ⟨r, rfl, hwi, hrg⟩ := HWI.out (by omega)
                      obtain ⟨v0, hv0⟩ := hwi.cell (j * 4) (by omega)
                      obtain ⟨v1, hv1⟩ := hwi.cell (j * 4 + 1) (by omega)
                      obtain ⟨v2, hv2⟩ := hwi.cell (j * 4 + 2) (by omega)
                      obtain ⟨v3, hv3⟩ := hwi.cell (j * 4 + 3) (by omega)
                      have f0 := hwi.frozen (j * 4)
                      have f1 := hwi.frozen (j * 4 + 1)
                      have f2 := hwi.frozen (j * 4 + 2)
                      have f3 := hwi.frozen (j * 4 + 3)
                      have hrl := hwi.lt
                      have hj0 : 0 ≤ (j : Int) := by omega
                      have HWJ := Aside0.mk hwi
                      have HRG := Aside0.mk hrg
                      clear hwi hrg
                      go_wp2
                      go_roundw
                      case rel => exact ⟨j + 1, by have := HJT.out; omega, by go_num, ⟨fun _ => ⟨r, rfl, (((HWJ.out.set _ _).set _ _).set _ _).set _ _, HRG.out⟩⟩, ⟨below_set (below_set (below_set (below_set HBa.out HRG.out) HRG.out) HRG.out) HRG.out⟩⟩
                      case measure => have := HJT.out; simp [intOf, wrap64]; omega
                    · go_wp2
                      go_roundw
                      case rel => exact ⟨k + 1, g, mb, v, hs, last, L, p, c2, by have := HLT.out; omega, rfl, by go_num, ⟨HQt.out.below HBa.out⟩, ⟨HRt.out.below HBa.out⟩, HLt', ⟨below_step HBt.out HBa.out⟩, HGt⟩
                      case measure => have := HLT.out; simp [intOf, wrap64]; omega
                · have e3 : (d == 3) = false := by simpa using hd3
                  go_upto_region 27 with (fail)
                  clear x0_
                  have HQt := HQ
                  have HRt := HR
                  have HBt := HB
                  have HGt := HG
                  have HLt : Aside0 (last ≤ 800000) := ⟨by have := HL.out; omega⟩
                  have HLt' : Aside0 (last ≤ ((k + 1 : Nat) : Int)) := ⟨by have := HL.out; omega⟩
                  clear HQ HR HB HG HL
                  obtain ⟨ms, hms⟩ : ∃ ms, ms = memsL L := ⟨_, rfl⟩
                  have HMS := Aside0.mk hms
                  have HML : Aside0 (ms.length ≤ 1000000) := ⟨by rw [hms, memsL_len]; have := HQt.out.len; have := HLt.out; omega⟩
                  have HLI := Aside0.mk (listq_m wr g mb t last v hs L HQt.out (by have := HLt.out; omega))
                  have HRL := Aside0.mk (fun W' (hR : Rf W' h t last p c2 L) => rlist_m W' h t last p c2 L hR (by have := HQt.out.len; have := HLt.out; omega))
                  rw [← hms] at HLI
                  simp only [← hms] at HRL
                  clear hms
                  go_upto_region 28 with (first | (go_at_call 16; refine HLI.out.mono ?_; rintro e w5 ⟨A5, c5, rfl, h1_, h2_⟩; have HO5 := Aside0.mk h1_; have HB5 : Aside0 (Below wr.heap.size wr w5) := ⟨h2_⟩; clear h1_ h2_ HLI))
                  have hbd := below_drew1 (Below.refl w5.heap.size w5)
                  have HBd := Aside0.mk (below_step HB5.out hbd)
                  have HOd := Aside0.mk (Kd.R_below HO5.out hbd)
                  clear hbd HO5 HB5
                  obtain ⟨ke, hke⟩ := equal_sameR ms HML.out
                  have HEQ := Aside0.mk hke
                  clear hke
                  obtain ⟨zz, hzz⟩ : ∃ zz, zz = leftL t L x.f2.f0 := ⟨_, rfl⟩
                  have HLC : Aside0 (∀ W', Below wr.heap.size wr W' → Calls Try.prog 18 #[.pointer (some ⟨g, 0, none⟩), .int .u32 x.f2.f0] W' fun e w' => e = .returned (.int .i64 zz) ∧ Below W'.heap.size W' w') := ⟨fun W' hW => by rw [hzz]; exact leftq_s W' g mb t last v hs L x.f2.f0 (HQt.out.below hW) HX.out.1⟩
                  have HRC : Aside0 (∀ W', Below wr.heap.size wr W' → Calls Try.prog 19 #[.pointer (some ⟨h, 0, none⟩), .int .u32 x.f2.f0] W' fun e w' => e = .returned (.int .i64 zz) ∧ Below W'.heap.size W' w') := ⟨fun W' hW => by rw [hzz]; exact rleft_calls W' h t last p c2 L x.f2.f0 (HRt.out.below hW) HQt.out.al HT.out.2 (by have := HQt.out.len; have := HLt.out; omega)⟩
                  clear hzz
                  refine start_ (n := 24) (S := (fun w' => w'.cell? ⟨(ad.add (k * 6)).block, (ad.add (k * 6)).off + 2, none⟩ = some (.int .u32 x.f2.f0))) (ds := [21]) #[false, false, false, false, false, false, false, false, false, false, false, false, false, false, false, false, false, false, false, false, false, false, false, false] (by kernel_rfl) rfl rfl ((HAT.out _ (below_step HBt.out HBd.out)).2.1) (fun hHeld => ?_)
                  generalize w5.drew = wd at HBd HOd hHeld ⊢
                  refine pure_ (i := 0) (N := some 122) (v := ?_) (a' := ?_) #[true, false, false, false, false, false, false, false, false, false, false, false, false, false, false, false, false, false, false, false, false, false, false, false] rfl rfl (by kernel_rfl) (fun _ _ _ h => h) (Or.inl ⟨by rfl, ?_⟩) ?_ ?_
                  rotate_left
                  · intro w'
                    go_simp
                    with_reducible rfl
                  rotate_left
                  · simp only [Act.put, List.setIfInBounds_toArray, List.set_cons_zero, List.set_cons_succ, i64_w, i32_w]
                    rfl
                  refine pure_ (i := 1) (N := some 123) (v := ?_) (a' := ?_) #[true, true, false, false, false, false, false, false, false, false, false, false, false, false, false, false, false, false, false, false, false, false, false, false] rfl rfl (by kernel_rfl) (fun _ _ _ h => h) (Or.inl ⟨by rfl, ?_⟩) ?_ ?_
                  rotate_left
                  · intro w'
                    go_simp
                    with_reducible rfl
                  rotate_left
                  · simp only [Act.put, List.setIfInBounds_toArray, List.set_cons_zero, List.set_cons_succ, i64_w, i32_w]
                    rfl
                  refine one_ (i := 2) (N := some 124) #[true, true, true, false, false, false, false, false, false, false, false, false, false, false, false, false, false, false, false, false, false, false, false, false] rfl rfl (by kernel_rfl) (by decide) (fun K hK => ?_)
                  refine goes_ Try.func17 (by kernel_rfl) rfl #[.pointer (some ⟨h, 0, none⟩)] (by rfl) rfl rfl (by (try simp only [List.map_toArray, List.map_cons, List.map_nil]); first | done | rfl) ?_
                  refine (HRL.out _ (HRt.out.below HBd.out)).mono ?_
                  rintro e_ w7 ⟨A8, c8, rfl, h1_, h2_⟩
                  have HO8 := Aside0.mk h1_
                  have HD7 := Aside0.mk h2_
                  have HB7 := Aside0.mk (below_step HBd.out h2_)
                  have HO7 := Aside0.mk (Kd.R_below HOd.out h2_)
                  clear h1_ h2_
                  refine ⟨_, rfl, ?_⟩
                  refine hK.out _ _ ((HAT.out _ (below_step HBt.out HB7.out)).2.1) (fun hHeld => ?_)
                  clear hK K
                  refine norm_ (a' := ?_) ?_ ?_
                  rotate_left
                  · show Act.put _ (some 124) _ = _
                    simp only [Act.put, List.setIfInBounds_toArray, List.set_cons_zero, List.set_cons_succ, i64_w, i32_w]
                    rfl
                  refine one_ (i := 3) (N := some 125) #[true, true, true, true, false, false, false, false, false, false, false, false, false, false, false, false, false, false, false, false, false, false, false, false] rfl rfl (by kernel_rfl) (by decide) (fun K hK => ?_)
                  refine goes_ Try.func12 (by kernel_rfl) rfl #[.slice A5 ms.length c5, .slice A8 ms.length c8] (by rfl) rfl rfl (by (try simp only [List.map_toArray, List.map_cons, List.map_nil]); first | done | rfl) ?_
                  (with_reducible refine (hearsayref17_Equal.calls ke A5 c5 ms A8 c8 ms true _ (Kd.R_reads' HO7.out).2.2 (Kd.R_reads' HO7.out).2.1 (Kd.R_reads' HO8.out).2.2 (Kd.R_reads' HO8.out).2.1 HEQ.out).mono ?_)
                  rintro e_ w8 ⟨rfl, h1_⟩
                  have HB8 := Aside0.mk (below_step HB7.out (Drawn0.below h1_))
                  have HO9 := Aside0.mk (Kd.R_below HO7.out (Drawn0.below h1_))
                  clear h1_
                  refine ⟨_, rfl, ?_⟩
                  refine hK.out _ _ ((HAT.out _ (below_step HBt.out HB8.out)).2.1) (fun hHeld => ?_)
                  clear hK K
                  refine norm_ (a' := ?_) ?_ ?_
                  rotate_left
                  · show Act.put _ (some 125) _ = _
                    simp only [Act.put, List.setIfInBounds_toArray, List.set_cons_zero, List.set_cons_succ, i64_w, i32_w]
                    rfl
                  refine pure_ (i := 4) (N := some 126) (v := ?_) (a' := ?_) #[true, true, true, true, true, false, false, false, false, false, false, false, false, false, false, false, false, false, false, false, false, false, false, false] rfl rfl (by kernel_rfl) (fun _ _ _ h => h) (Or.inl ⟨by rfl, ?_⟩) ?_ ?_
                  rotate_left
                  · intro w'
                    go_simp
                    with_reducible rfl
                  rotate_left
                  · simp only [Act.put, List.setIfInBounds_toArray, List.set_cons_zero, List.set_cons_succ, i64_w, i32_w]
                    rfl
                  refine pure_ (i := 5) (N := some 127) (v := ?_) (a' := ?_) #[true, true, true, true, true, true, false, false, false, false, false, false, false, false, false, false, false, false, false, false, false, false, false, false] rfl rfl (by kernel_rfl) (fun _ _ _ h => h) (Or.inl ⟨by rfl, ?_⟩) ?_ ?_
                  rotate_left
                  · intro w'
                    go_simp
                    with_reducible rfl
                  rotate_left
                  · simp only [Act.put, List.setIfInBounds_toArray, List.set_cons_zero, List.set_cons_succ, i64_w, i32_w]
                    rfl
                  refine pure_ (i := 6) (N := some 128) (v := ?_) (a' := ?_) #[true, true, true, true, true, true, true, false, false, false, false, false, false, false, false, false, false, false, false, false, false, false, false, false] rfl rfl (by kernel_rfl) (fun _ _ _ h => h) (Or.inl ⟨by rfl, ?_⟩) ?_ ?_
                  rotate_left
                  · intro w'
                    go_simp
                    with_reducible rfl
                  rotate_left
                  · simp only [Act.put, List.setIfInBounds_toArray, List.set_cons_zero, List.set_cons_succ, i64_w, i32_w]
                    rfl
                  refine pure_ (i := 7) (N := some 129) (v := ?_) (a' := ?_) #[true, true, true, true, true, true, true, true, false, false, false, false, false, false, false, false, false, false, false, false, false, false, false, false] rfl rfl (by kernel_rfl) (fun _ _ _ h => h) (Or.inl ⟨by rfl, ?_⟩) ?_ ?_
                  rotate_left
                  · intro w'
                    go_simp
                    with_reducible rfl
                  rotate_left
                  · simp only [Act.put, List.setIfInBounds_toArray, List.set_cons_zero, List.set_cons_succ, i64_w, i32_w]
                    rfl
                  refine pure_ (i := 8) (N := some 130) (v := ?_) (a' := ?_) #[true, true, true, true, true, true, true, true, true, false, false, false, false, false, false, false, false, false, false, false, false, false, false, false] rfl rfl (by kernel_rfl) (fun _ _ _ h => h) (Or.inl ⟨by rfl, ?_⟩) ?_ ?_
                  rotate_left
                  · intro w'
                    go_simp
                    with_reducible rfl
                  rotate_left
                  · simp only [Act.put, List.setIfInBounds_toArray, List.set_cons_zero, List.set_cons_succ, i64_w, i32_w]
                    rfl
                  refine pure_ (i := 9) (N := some 131) (v := ?_) (a' := ?_) #[true, true, true, true, true, true, true, true, true, true, false, false, false, false, false, false, false, false, false, false, false, false, false, false] rfl rfl (by kernel_rfl) (fun _ _ _ h => h) (Or.inl ⟨by rfl, ?_⟩) ?_ ?_
                  rotate_left
                  · intro w'
                    go_simp
                    with_reducible rfl
                  rotate_left
                  · simp only [Act.put, List.setIfInBounds_toArray, List.set_cons_zero, List.set_cons_succ, i64_w, i32_w]
                    rfl
                  refine pure_ (i := 10) (N := some 132) (v := ?_) (a' := ?_) #[true, true, true, true, true, true, true, true, true, true, true, false, false, false, false, false, false, false, false, false, false, false, false, false] rfl rfl (by kernel_rfl) (fun _ _ _ h => h) (Or.inl ⟨by rfl, ?_⟩) ?_ ?_
                  rotate_left
                  · intro w'
                    go_simp
                    with_reducible rfl
                  rotate_left
                  · simp only [Act.put, List.setIfInBounds_toArray, List.set_cons_zero, List.set_cons_succ, i64_w, i32_w]
                    rfl
                  refine pure_ (i := 11) (N := some 133) (v := ?_) (a' := ?_) #[true, true, true, true, true, true, true, true, true, true, true, true, false, false, false, false, false, false, false, false, false, false, false, false] rfl rfl (by kernel_rfl) (fun _ _ _ h => h) (Or.inl ⟨by rfl, ?_⟩) ?_ ?_
                  rotate_left
                  · intro w'
                    go_simp
                    with_reducible rfl
                  rotate_left
                  · simp only [Act.put, List.setIfInBounds_toArray, List.set_cons_zero, List.set_cons_succ, i64_w, i32_w]
                    rfl
                  refine take_ (i := 12) (N := some 134) (v := ?_) (a' := ?_) #[true, true, true, true, true, true, true, true, true, true, true, true, true, false, false, false, false, false, false, false, false, false, false, false] rfl rfl (by kernel_rfl) (fun _ _ _ h => h) (Or.inl ⟨by rfl, ?_⟩) hHeld ?_ ?_
                  rotate_left
                  · rintro w' h0_
                    go_simp
                    with_reducible rfl
                  rotate_left
                  · simp only [Act.put, List.setIfInBounds_toArray, List.set_cons_zero, List.set_cons_succ, i64_w, i32_w]
                    rfl
                  refine pure_ (i := 14) (N := some 136) (v := ?_) (a' := ?_) #[true, true, true, true, true, true, true, true, true, true, true, true, true, false, true, false, false, false, false, false, false, false, false, false] rfl rfl (by kernel_rfl) (fun _ _ _ h => h) (Or.inl ⟨by rfl, ?_⟩) ?_ ?_
                  rotate_left
                  · intro w'
                    go_simp
                    with_reducible rfl
                  rotate_left
                  · simp only [Act.put, List.setIfInBounds_toArray, List.set_cons_zero, List.set_cons_succ, i64_w, i32_w]
                    rfl
                  refine pure_ (i := 15) (N := some 137) (v := ?_) (a' := ?_) #[true, true, true, true, true, true, true, true, true, true, true, true, true, false, true, true, false, false, false, false, false, false, false, false] rfl rfl (by kernel_rfl) (fun _ _ _ h => h) (Or.inl ⟨by rfl, ?_⟩) ?_ ?_
                  rotate_left
                  · intro w'
                    go_simp
                    with_reducible rfl
                  rotate_left
                  · simp only [Act.put, List.setIfInBounds_toArray, List.set_cons_zero, List.set_cons_succ, i64_w, i32_w]
                    rfl
                  refine pure_ (i := 16) (N := some 138) (v := ?_) (a' := ?_) #[true, true, true, true, true, true, true, true, true, true, true, true, true, false, true, true, true, false, false, false, false, false, false, false] rfl rfl (by kernel_rfl) (fun _ _ _ h => h) (Or.inl ⟨by rfl, ?_⟩) ?_ ?_
                  rotate_left
                  · intro w'
                    go_simp
                    with_reducible rfl
                  rotate_left
                  · simp only [Act.put, List.setIfInBounds_toArray, List.set_cons_zero, List.set_cons_succ, i64_w, i32_w]
                    rfl
                  refine pure_ (i := 17) (N := some 139) (v := ?_) (a' := ?_) #[true, true, true, true, true, true, true, true, true, true, true, true, true, false, true, true, true, true, false, false, false, false, false, false] rfl rfl (by kernel_rfl) (fun _ _ _ h => h) (Or.inl ⟨by rfl, ?_⟩) ?_ ?_
                  rotate_left
                  · intro w'
                    go_simp
                    with_reducible rfl
                  rotate_left
                  · simp only [Act.put, List.setIfInBounds_toArray, List.set_cons_zero, List.set_cons_succ, i64_w, i32_w]
                    rfl
                  refine pure_ (i := 18) (N := some 140) (v := ?_) (a' := ?_) #[true, true, true, true, true, true, true, true, true, true, true, true, true, false, true, true, true, true, true, false, false, false, false, false] rfl rfl (by kernel_rfl) (fun _ _ _ h => h) (Or.inl ⟨by rfl, ?_⟩) ?_ ?_
                  rotate_left
                  · intro w'
                    go_simp
                    with_reducible rfl
                  rotate_left
                  · simp only [Act.put, List.setIfInBounds_toArray, List.set_cons_zero, List.set_cons_succ, i64_w, i32_w]
                    rfl
                  refine pure_ (i := 19) (N := some 141) (v := ?_) (a' := ?_) #[true, true, true, true, true, true, true, true, true, true, true, true, true, false, true, true, true, true, true, true, false, false, false, false] rfl rfl (by kernel_rfl) (fun _ _ _ h => h) (Or.inl ⟨by rfl, ?_⟩) ?_ ?_
                  rotate_left
                  · intro w'
                    go_simp
                    with_reducible rfl
                  rotate_left
                  · simp only [Act.put, List.setIfInBounds_toArray, List.set_cons_zero, List.set_cons_succ, i64_w, i32_w]
                    rfl
                  refine take_ (i := 20) (N := some 142) (v := ?_) (a' := ?_) #[true, true, true, true, true, true, true, true, true, true, true, true, true, false, true, true, true, true, true, true, true, false, false, false] rfl rfl (by kernel_rfl) (fun _ _ _ h => h) (Or.inl ⟨by rfl, ?_⟩) hHeld ?_ ?_
                  rotate_left
                  · rintro w' h0_
                    go_simp
                    with_reducible rfl
                  rotate_left
                  · simp only [Act.put, List.setIfInBounds_toArray, List.set_cons_zero, List.set_cons_succ, i64_w, i32_w]
                    rfl
                  refine one_ (i := 13) (N := some 135) #[true, true, true, true, true, true, true, true, true, true, true, true, true, true, true, true, true, true, true, true, true, false, false, false] rfl rfl (by kernel_rfl) (by decide) (fun K hK => ?_)
                  refine goes_ Try.func18 (by kernel_rfl) rfl #[.pointer (some ⟨g, 0, none⟩), .int .u32 x.f2.f0] (by rfl) rfl rfl (by (try simp only [List.map_toArray, List.map_cons, List.map_nil]); first | done | rfl) ?_
                  refine (HLC.out _ HB8.out).mono ?_
                  rintro e_ w9 ⟨rfl, h1_⟩
                  have HB9 := Aside0.mk (below_step HB8.out h1_)
                  have HOa := Aside0.mk (Kd.R_below HO9.out h1_)
                  clear h1_
                  refine ⟨_, rfl, ?_⟩
                  refine hK.out _ _ ((HAT.out _ (below_step HBt.out HB9.out)).2.1) (fun hHeld => ?_)
                  clear hK K
                  refine norm_ (a' := ?_) ?_ ?_
                  rotate_left
                  · show Act.put _ (some 135) _ = _
                    simp only [Act.put, List.setIfInBounds_toArray, List.set_cons_zero, List.set_cons_succ, i64_w, i32_w]
                    rfl
                  refine last_ (i := 21) (N := some 143) #[true, true, true, true, true, true, true, true, true, true, true, true, true, true, true, true, true, true, true, true, true, true, false, false] rfl rfl (by kernel_rfl) (by decide) (fun K hK => ?_)
                  refine goes_ Try.func19 (by kernel_rfl) rfl #[.pointer (some ⟨h, 0, none⟩), .int .u32 x.f2.f0] (by rfl) rfl rfl (by (try simp only [List.map_toArray, List.map_cons, List.map_nil]); first | done | rfl) ?_
                  refine (HRC.out _ HB9.out).mono ?_
                  rintro e_ w10 ⟨rfl, h1_⟩
                  have HBa := Aside0.mk (below_step HB9.out h1_)
                  have HOb := Aside0.mk (Kd.R_below HOa.out h1_)
                  clear h1_
                  refine ⟨_, rfl, ?_⟩
                  refine hK.out _ _ ?_
                  clear hK K
                  refine norm_ (a' := ?_) ?_ ?_
                  rotate_left
                  · show Act.put _ (some 143) _ = _
                    simp only [Act.put, List.setIfInBounds_toArray, List.set_cons_zero, List.set_cons_succ, i64_w, i32_w]
                    rfl
                  refine pure_ (i := 22) (N := some 144) (v := ?_) (a' := ?_) #[true, true, true, true, true, true, true, true, true, true, true, true, true, true, true, true, true, true, true, true, true, true, true, false] rfl rfl (by kernel_rfl) (fun _ _ _ h => h) (Or.inl ⟨by rfl, ?_⟩) ?_ ?_
                  rotate_left
                  · intro w'
                    go_simp
                    with_reducible rfl
                  rotate_left
                  · simp only [Act.put, List.setIfInBounds_toArray, List.set_cons_zero, List.set_cons_succ, i64_w, i32_w]
                    rfl
                  refine pure_ (i := 23) (N := some 145) (v := ?_) (a' := ?_) #[true, true, true, true, true, true, true, true, true, true, true, true, true, true, true, true, true, true, true, true, true, true, true, true] rfl rfl (by kernel_rfl) (fun _ _ _ h => h) (Or.inl ⟨by rfl, ?_⟩) ?_ ?_
                  rotate_left
                  · intro w'
                    go_simp
                    with_reducible rfl
                  rotate_left
                  · simp only [Act.put, List.setIfInBounds_toArray, List.set_cons_zero, List.set_cons_succ, i64_w, i32_w]
                    rfl
                  refine done_ (by kernel_rfl) ?_
                  have HWI : Aside0 (0 < ms.length → ∃ r, A5 = some ⟨r, 0, none⟩ ∧ Wip w10 r ms.length ∧ wr.heap.size ≤ r) := ⟨fun h0 => wip_of HOb.out h0⟩
                  clear HOd HO7 HO8 HO9 HOa HOb HD7 HB7 HB8 HB9 HBd HEQ HLC HRC HRL
                  have hml_ := HML.out
                  go_wp2
                  go_loopw [15] (fun v wr2 => ∃ j : Nat, j ≤ ms.length ∧ v = .int .i64 j ∧ Aside0 (0 < ms.length → ∃ r, A5 = some ⟨r, 0, none⟩ ∧ Wip wr2 r ms.length ∧ wr.heap.size ≤ r) ∧ Aside0 (Below wr.heap.size wr wr2)) (fun v _ => ms.length - (intOf v).toNat)
                  case atStart => exact ⟨0, Nat.zero_le _, rfl, HWI, HBa⟩
                  case round =>
                    clear HWI HBa
                    obtain ⟨j, hj, rfl, HWI, HBa⟩ := hrel
                    by_cases hjt : (j : Int) < (ms.length : Int)
                    · have HJT := Aside0.mk (show j < ms.length by omega)
                      obtain ⟨r, rfl, hwi, hrg⟩ := HWI.out (by omega)
                      obtain ⟨v0, hv0⟩ := hwi.cell (j * 4) (by omega)
                      obtain ⟨v1, hv1⟩ := hwi.cell (j * 4 + 1) (by omega)
                      obtain ⟨v2, hv2⟩ := hwi.cell (j * 4 + 2) (by omega)
                      obtain ⟨v3, hv3⟩ := hwi.cell (j * 4 + 3) (by omega)
                      have f0 := hwi.frozen (j * 4)
                      have f1 := hwi.frozen (j * 4 + 1)
                      have f2 := hwi.frozen (j * 4 + 2)
                      have f3 := hwi.frozen (j * 4 + 3)
                      have hrl := hwi.lt
                      have hj0 : 0 ≤ (j : Int) := by omega
                      have HWJ := Aside0.mk hwi
                      have HRG := Aside0.mk hrg
                      clear hwi hrg
                      go_wp2
                      go_roundw
                      case rel => exact ⟨j + 1, by have := HJT.out; omega, by go_num, ⟨fun _ => ⟨r, rfl, (((HWJ.out.set _ _).set _ _).set _ _).set _ _, HRG.out⟩⟩, ⟨below_set (below_set (below_set (below_set HBa.out HRG.out) HRG.out) HRG.out) HRG.out⟩⟩
                      case measure => have := HJT.out; simp [intOf, wrap64]; omega
                    · go_wp2
                      go_roundw
                      case rel => exact ⟨k + 1, g, mb, v, hs, last, L, p, c2, by have := HLT.out; omega, rfl, by go_num, ⟨HQt.out.below HBa.out⟩, ⟨HRt.out.below HBa.out⟩, HLt', ⟨below_step HBt.out HBa.out⟩, HGt⟩
                      case measure => have := HLT.out; simp [intOf, wrap64]; omega
        · obtain rfl : k = l.length := by omega
          have hL_ := HL.out
          have HL : Aside0 (last ≤ 200) := ⟨by omega⟩
          clear hL_
          obtain ⟨ms, hms⟩ : ∃ ms, ms = memsL L := ⟨_, rfl⟩
          have HML : Aside0 (ms.length ≤ 1000000) := ⟨by rw [hms, memsL_len]; have := HQ.out.len; have := HL.out; omega⟩
          have HLI := Aside0.mk (listq_m wr g mb t last v hs L HQ.out (by have := HL.out; omega))
          have HRL := Aside0.mk (fun W' (hR : Rf W' h t last p c2 L) => rlist_m W' h t last p c2 L hR (by have := HQ.out.len; have := HL.out; omega))
          rw [← hms] at HLI
          simp only [← hms] at HRL
          clear hms
          obtain ⟨ke, hke⟩ := equal_sameR ms HML.out
          have HEQ := Aside0.mk hke
          clear hke
          go_wp2_with (first
            | (go_at_call 16; refine HLI.out.mono ?_; rintro e w5 ⟨A5, c5, rfl, h1_, h2_⟩; have HO5 := Aside0.mk h1_; have HB5 := Aside0.mk h2_; clear h1_ h2_ HLI)
            | (go_at_call 17; refine (HRL.out _ (HR.out.below HB5.out)).mono ?_; rintro e w6 ⟨A6, c6, rfl, h1_, h2_⟩; have HO6 := Aside0.mk h1_; have HB6 := Aside0.mk (below_step HB5.out h2_); have HO56 := Aside0.mk (Kd.R_below HO5.out h2_); clear h1_ h2_ HRL)
            | (go_at_call 12; (with_reducible refine (hearsayref17_Equal.calls ke A5 c5 ms A6 c6 ms true _ (Kd.R_reads' HO56.out).2.2 (Kd.R_reads' HO56.out).2.1 (Kd.R_reads' HO6.out).2.2 (Kd.R_reads' HO6.out).2.1 HEQ.out).mono ?_); rintro e w7 ⟨rfl, h1_⟩; have HB7 := Aside0.mk (below_step HB6.out (Drawn0.below h1_)); clear h1_)
            | (go_at_call 7; (with_reducible refine (wakesR_true _).mono ?_); rintro e w8 ⟨rfl, h1_⟩; have HB8 := Aside0.mk (below_step HB7.out h1_); clear h1_))
          go_ret
          exact ⟨rfl, below_step HB.out HB8.out⟩
end Go.Proofs.Ytihmblbnnhcdnaa.Print
