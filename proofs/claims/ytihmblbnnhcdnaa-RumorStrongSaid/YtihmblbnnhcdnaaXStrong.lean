/- RumorStrong, walked. -/
import Derived.Test.YtihmblbnnhcdnaaXVqM
namespace Go.Proofs.Ytihmblbnnhcdnaa.Print
open Go.RowKit Go.Maps Go.ChangeMaps Go.Proofs.YtihmblbnnhcdnaaW.PrintWords Go.Proofs.YtihmblbnnhcdnaaW.PrintLast Go.Proofs.YtihmblbnnhcdnaaW.PrintMore
set_option linter.unusedVariables false
set_option linter.unusedSimpArgs false
set_option maxHeartbeats 40000000 in
set_option maxRecDepth 100000 in
theorem strong_law (w : World) (A : Option Addr) (c : Nat) (l : List Mem) (hC : Kd.C k33 w A l.length l) (hc : l.length ≤ c) (hwf : ∀ x ∈ l, Opens.wfM x) :
    Calls Try.prog 6 #[.slice A l.length c] w fun e w' => e = .returned (.bool true) ∧ Below w.heap.size w w' := by
  have hu33 := Try.underlying33
  have HC := Aside0.mk hC
  have HWF := Aside0.mk hwf
  clear hC hwf
  by_cases hbig : (l.length : Int) > 30
  · go_enter Try.func6, Try.ntmps6
    go_wp2_with (first | (go_at_call 7; (with_reducible refine (wakesR_true _).mono ?_); rintro e w1 ⟨rfl, h1_⟩; have HB1 := Aside0.mk h1_; clear h1_))
    go_ret
    exact ⟨rfl, HB1.out⟩
  · have hl30 : l.length ≤ 30 := by omega
    go_enter Try.func6, Try.ntmps6
    go_upto_region 4 with (first | (go_at_call 8; (with_reducible refine (newq_s _ 3 (by omega) (by omega)).mono ?_); rintro e w1 ⟨g, mb, v, hs, rfl, h1_, h2_, h3_⟩; have HQ1 := Aside0.mk h1_; have HG1 := Aside0.mk h2_; have HB1 := Aside0.mk h3_; clear h1_ h2_ h3_))
    go_upto_region 7 with (first | (go_at_call 20; (with_reducible refine (new_calls _).mono ?_); rintro e w2 ⟨gv, bv, rfl, h1_, h2_, h3_, h4_⟩; have HV2 := Aside0.mk h1_; have HGV := Aside0.mk (And.intro (Nat.le_trans HB1.out.size h2_) (Nat.le_trans HB1.out.size h3_)); have HNE := Aside0.mk (show bv ≠ mb from fun e => by have := HQ1.out.lt (Or.inr (Or.inl rfl)); omega); have HQ2 := Aside0.mk (HQ1.out.below h4_); have HB2 := Aside0.mk (below_step HB1.out h4_); clear h1_ h2_ h3_ h4_ HQ1 HB1))
    go_wp2
    go_loopw [6] (fun i wr => ∃ (k : Nat) (v : Value) (hs : Hs) (last : Int) (L : List One) (V : List Mem), k ≤ l.length ∧ i = .int .i64 k ∧ Aside0 (Qs wr g mb 3 last v hs L) ∧ Aside0 (Vw wr gv bv V) ∧ Aside0 ((memsL L).Perm V ∧ V.length ≤ k ∧ last ≤ (k : Int)) ∧ Aside0 (Below w.heap.size w wr) ∧ Aside0 (∀ j, QB g mb v hs j → w.heap.size ≤ j)) (fun i _ => l.length - (intOf i).toNat)
    case atStart => exact ⟨0, v, hs, 0, [], [], Nat.zero_le _, rfl, HQ2, HV2, ⟨List.Perm.refl _, Nat.le_refl _, by simp⟩, HB2, HG1⟩
    case round =>
      clear HQ2 HV2 HB2 HG1
      obtain ⟨k, v, hs, last, L, V, hk, rfl, HQ, HV, HL, HB, HG⟩ := hrel
      by_cases hlt : (k : Int) < (l.length : Int)
      · have HLT := Aside0.mk (show k < l.length by omega)
        obtain ⟨x, hx⟩ : ∃ x, l[k]? = some x := ⟨l[k]'(by omega), List.getElem?_eq_getElem (by omega)⟩
        obtain ⟨ad, eA, x0_, x1_, x2_, x3_⟩ := at_M (Kd.C_below HC.out HB.out) hx
        cases eA
        have HAT := Aside0.mk (fun W (hW : Below w.heap.size w W) => show W.cell? (ad.add (k * 4)) = some (.int .u32 x.f0) ∧ W.cell? ⟨(ad.add (k * 4)).block, (ad.add (k * 4)).off + 1, none⟩ = some (.int .u32 x.f1) ∧ W.cell? ⟨(ad.add (k * 4)).block, (ad.add (k * 4)).off + 2, none⟩ = some (.int .u8 x.f2) ∧ W.cell? ⟨(ad.add (k * 4)).block, (ad.add (k * 4)).off + 3, none⟩ = some (.string x.f3) from by
          obtain ⟨ad', e', h'⟩ := at_M (Kd.C_below HC.out hW) hx
          cases e'
          exact h')
        have HX := Aside0.mk (HWF.out x (List.mem_of_getElem? hx))
        have hk0 : 0 ≤ (k : Int) := by omega
        clear hx
        obtain ⟨a, er, L', last', hadd⟩ : ∃ a er L' last', addL L last x = (a, er, L', last') := ⟨_, _, _, _, rfl⟩
        have hts := told_same (nx := last) HV.out.ord HL.out.1 x (Or.inl (by have := HL.out.2.1; omega))
        have HAL := Aside0.mk (add_len (t := 3) (last := last) (L := L) x)
        have HQC := Aside0.mk (addq_s wr g mb 3 last v hs L x HQ.out HX.out.1 (by have := HL.out; omega))
        have HMC := Aside0.mk (fun W (hV : Vw W gv bv V) => merge_m W gv bv V x HX.out.1.1 HX.out.1.2 hV (by have := HL.out.2.1; omega))
        rw [hadd] at hts HQC HAL
        obtain ⟨b, f, V', hmer⟩ : ∃ b f V', mergeM V x = (b, f, V') := ⟨_, _, _, rfl⟩
        rw [hmer] at hts
        simp only [hmer] at HMC
        obtain ⟨t1, t2, t3, t4, t5⟩ := hts
        have t1' : b = a := t1
        have t2' : f = er := t2
        subst t1'
        subst t2'
        have HTS := Aside0.mk (And.intro t3 t5)
        clear t3 t4 t5 t1 t2 hadd hmer
        go_upto_region 11 with (first | (go_at_call 10; refine HQC.out.mono ?_; rintro e w3 ⟨v3, hs3, rfl, h1_, h2_, h3_⟩; have HQ3 := Aside0.mk h1_; have HK3 := Aside0.mk h2_; have HN3 := Aside0.mk h3_; clear h1_ h2_ h3_ HQC x0_ x1_ x2_ x3_))
        have HB3 := Aside0.mk (HB.out.trans (HK3.out.below HB.out.size HG.out))
        have HV3 := Aside0.mk (HV.out.kp HK3.out (vq_dis HQ.out HV.out HNE.out).1 (vq_dis HQ.out HV.out HNE.out).2)
        obtain ⟨x0_, x1_, x2_, x3_⟩ := HAT.out _ HB3.out
        go_upto_region 12 with (first | (go_at_call 21; refine (HMC.out _ HV3.out).mono ?_; rintro e w4 ⟨rfl, h1_, h2_⟩; have HV4 := Aside0.mk h1_; have HF4 := Aside0.mk (VF.kp h2_); clear h1_ h2_ HMC x0_ x1_ x2_ x3_))
        have HQ4 := Aside0.mk (HQ3.out.kp HF4.out (fun j hj e => (vq_dis HQ3.out HV3.out HNE.out).2 (e ▸ hj)))
        have HB4 := Aside0.mk (HB3.out.trans (HF4.out.below HB3.out.size (fun j hj => by rw [hj]; exact HGV.out.2)))
        have HG4 : Aside0 (∀ j, QB g mb v3 hs3 j → w.heap.size ≤ j) := ⟨fun j hj => (HN3.out j hj).elim (HG.out j) (fun h => Nat.le_trans HB.out.size h)⟩
        clear HQ HV HB HG HQ3 HV3 HB3 HK3 HF4 HN3
        have hnb : (b != b) = false := by simp
        have hne : (f != f) = false := by simp
        go_wp2
        go_roundw
        case rel => exact ⟨k + 1, v3, hs3, last', L', V', by have := HLT.out; omega, by go_num, HQ4, HV4, ⟨HTS.out.1, by have := HTS.out.2; have := HL.out.2.1; omega, by have := HAL.out; have := HL.out.2.2; omega⟩, HB4, HG4⟩
        case measure => have := HLT.out; simp [intOf, wrap64]; omega
      · obtain rfl : k = l.length := by omega
        obtain ⟨ms, hms⟩ : ∃ ms, ms = memsL L := ⟨_, rfl⟩
        have HP := Aside0.mk (show ms.Perm V by rw [hms]; exact HL.out.1)
        have HML : Aside0 (ms.length ≤ 30) := ⟨by rw [HP.out.length_eq]; have := HL.out.2.1; omega⟩
        have HND : Aside0 ((ms.map (·.f0)).Nodup) := ⟨by rw [hms]; exact mems_nodup HQ.out.al.adr⟩
        have HMY : Aside0 (∀ x ∈ ms, mayM x = true) := ⟨by rw [hms]; exact mems_may HQ.out.al.may⟩
        have HMW : Aside0 (∀ x ∈ ms, 0 ≤ x.f0 ∧ x.f0 ≤ 4294967295) := ⟨by rw [hms]; exact mems_wf HQ.out.al.wf⟩
        have HLC := Aside0.mk (fun W (hQ : Qs W g mb 3 last v hs L) => listq_m W g mb 3 last v hs L hQ (by have := HL.out.2.2; omega))
        simp only [← hms] at HLC
        clear hms
        go_upto_region 15 with (first | (go_at_call 20; (with_reducible refine (new_calls _).mono ?_); rintro e w3 ⟨gm, bm, rfl, h1_, h2_, h3_, h4_⟩; have HM3 := Aside0.mk h1_; have HGM := Aside0.mk (And.intro h2_ h3_); have HB3 : Aside0 (Below wr.heap.size wr w3) := ⟨h4_⟩; clear h1_ h2_ h3_ h4_))
        go_upto_region 16 with (first | (go_at_call 16; refine (HLC.out _ (HQ.out.below HB3.out)).mono ?_; rintro e w4 ⟨A5, c5, rfl, h1_, h2_⟩; have HO4 := Aside0.mk h1_; have HM4 := Aside0.mk (HM3.out.below h2_); have HB4 := Aside0.mk (below_step HB3.out h2_); clear h1_ h2_ HLC HM3 HB3))
        have hml_ := HML.out
        go_wp2
        go_loopw [13] (fun i wr2 => ∃ (k : Nat) (R : List Mem), k ≤ ms.length ∧ i = .int .i64 k ∧ Aside0 (Vw wr2 gm bm R) ∧ Aside0 (R.Perm (ms.take k)) ∧ Aside0 (Kd.R k33 33 wr2 w3.heap.size (fun _ => True) (.slice A5 ms.length c5) ms) ∧ Aside0 (Below wr.heap.size wr wr2)) (fun i _ => ms.length - (intOf i).toNat)
        case atStart => exact ⟨0, [], Nat.zero_le _, rfl, HM4, ⟨List.Perm.refl _⟩, HO4, HB4⟩
        case round =>
          clear HM4 HO4 HB4
          obtain ⟨k, R, hk, rfl, HM, HPR, HO, HBB⟩ := hrel
          by_cases hlt2 : (k : Int) < (ms.length : Int)
          · have HLT := Aside0.mk (show k < ms.length by omega)
            obtain ⟨x, hx⟩ : ∃ x, ms[k]? = some x := ⟨ms[k]'(by omega), List.getElem?_eq_getElem (by omega)⟩
            obtain ⟨ad, eA, x0_, x1_, x2_, x3_⟩ := at_M (Kd.R_reads' HO.out).2.2 hx
            cases eA
            have hk0 : 0 ≤ (k : Int) := by omega
            have hrl : R.length = k := by rw [HPR.out.length_eq, List.length_take]; omega
            have hmf := merge_fresh HM.out.ord (HMY.out x (List.mem_of_getElem? hx)) (fun y hy => take_fresh HND.out hx y (HPR.out.mem_iff.1 hy)) (by omega)
            have HWX := Aside0.mk (HMW.out x (List.mem_of_getElem? hx))
            have HMC := Aside0.mk (merge_m _ gm bm R x HWX.out.1 HWX.out.2 HM.out (by omega))
            have HTK := Aside0.mk (show ms.take (k + 1) = ms.take k ++ [x] by rw [List.take_add_one, hx]; rfl)
            obtain ⟨b, f, R', hmer⟩ : ∃ b f R', mergeM R x = (b, f, R') := ⟨_, _, _, rfl⟩
            rw [hmer] at hmf HMC
            have HMF := Aside0.mk hmf
            clear hmf hmer hx hrl
            go_wp2_with (first | (go_at_call 21; refine HMC.out.mono ?_; rintro e w5 ⟨rfl, h1_, h2_⟩; have HM5 := Aside0.mk h1_; have HF5 := Aside0.mk (VF.kp h2_); clear h1_ h2_ HMC x0_ x1_ x2_ x3_))
            have HO5 := Aside0.mk (RM_kp HO.out HF5.out (fun j hj e => by
              obtain ⟨cells, hcc⟩ := Kd.R_typed HO.out j hj
              obtain ⟨es, clock, hb, _⟩ := HM.out.map
              rw [e, hb] at hcc
              cases hcc))
            have HB5 := Aside0.mk (HBB.out.trans (HF5.out.below HBB.out.size (fun j hj => by rw [hj]; exact HGM.out.2)))
            go_roundw
            case rel => exact ⟨k + 1, R', by have := HLT.out; omega, by go_num, HM5, ⟨by rw [HTK.out]; exact HMF.out.1.trans ((List.Perm.cons x HPR.out).trans (List.perm_append_singleton _ _).symm)⟩, HO5, HB5⟩
            case measure => have := HLT.out; simp [intOf, wrap64]; omega
          · obtain rfl : k = ms.length := by omega
            rw [List.take_length] at HPR
            obtain rfl : R = V := rises_eq (HPR.out.trans HP.out) HM.out.ord HV.out.ord
            obtain ⟨ke, hke⟩ := equal_sameS R (by have := HL.out.2.1; omega)
            have HEQ := Aside0.mk hke
            have hln : ((ms.length : Int) == (R.length : Int)) = true := by have := HP.out.length_eq; simp; omega
            clear hke
            go_wp2_with (first
              | (go_at_call 22; (with_reducible refine (list_m _ gm bm R HM.out (by have := HL.out.2.1; omega)).mono ?_); rintro e w5 ⟨A6, c6, rfl, h1_, h2_⟩; have HO6 := Aside0.mk h1_; have HB6 := Aside0.mk (below_step HBB.out h2_); clear h1_ h2_)
              | (go_at_call 22; (with_reducible refine (list_m _ gv bv R (HV.out.below HB6.out) (by have := HL.out.2.1; omega)).mono ?_); rintro e w6 ⟨A7, c7, rfl, h1_, h2_⟩; have HO7 := Aside0.mk h1_; have HO67 := Aside0.mk (Kd.R_below HO6.out h2_); have HB7 := Aside0.mk (below_step HB6.out h2_); clear h1_ h2_)
              | (go_at_call 12; (with_reducible refine (hearsayref17_Equal.calls ke A6 c6 R A7 c7 R true _ (Kd.R_reads' HO67.out).2.2 (Kd.R_reads' HO67.out).2.1 (Kd.R_reads' HO7.out).2.2 (Kd.R_reads' HO7.out).2.1 HEQ.out).mono ?_); rintro e w7 ⟨rfl, h1_⟩; have HB8 := Aside0.mk (below_step HB7.out (Drawn0.below h1_)); clear h1_)
              | (go_at_call 23; (with_reducible refine (len_calls _ gv bv R (HV.out.below HB8.out)).mono ?_); rintro e w8 ⟨rfl, rfl⟩)
              | (go_at_call 7; (with_reducible refine (wakesR_true _).mono ?_); rintro e w9 ⟨rfl, h1_⟩; have HB9 := Aside0.mk (below_step HB8.out h1_); clear h1_))
            go_ret
            exact ⟨rfl, below_step HB.out HB9.out⟩
end Go.Proofs.Ytihmblbnnhcdnaa.Print
