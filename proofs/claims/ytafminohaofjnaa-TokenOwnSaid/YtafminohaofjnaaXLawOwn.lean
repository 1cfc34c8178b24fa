/- The statement TokenOwn, walked. -/
import Derived.Test.YtafminohaofjnaaXOwnP
import Derived.Test.YtafminohaofjnaaXSame
namespace Go.Proofs.Ytafminohaofjnaa.Print
open Go.RowKit Go.Proofs.YtafminohaofjnaaW.PrintWords Go.Proofs.YtafminohaofjnaaW.PrintLast Go.Proofs.YtafminohaofjnaaW.PrintMore
set_option linter.unusedVariables false
set_option linter.unusedSimpArgs false
set_option maxHeartbeats 40000000 in
set_option maxRecDepth 100000 in
theorem tokenOwn_calls (a0 : ByteArray) (w : World) : Calls Try.prog 8 #[.string a0] w fun e w' => e = .returned (.bool true) ∧ Below w.heap.size w w' := by
  have hu30 := Try.underlying30
  by_cases hs : 20000 < a0.size
  · have h1 : (20000 : Int) < (a0.size : Int) := by omega
    go_enter Try.func8, Try.ntmps8
    go_wp2
    go_ret
    exact ⟨rfl, Below.refl _ _⟩
  · have h1 : ¬ (20000 : Int) < (a0.size : Int) := by omega
    have h1' : decide ((20000 : Int) < (a0.size : Int)) = false := decide_eq_false h1
    have hLn := entr_len a0
    obtain ⟨k1, hk1⟩ := (entr_same a0).rounds
    have hE := entr_f a0
    obtain ⟨⟨L, s1, s2, e0⟩, hL⟩ : ∃ y, y = entr a0 := ⟨_, rfl⟩
    rw [← hL] at hLn hk1 hE
    have HE := Aside0.mk hE
    have HK := Aside0.mk hk1
    have HLn := Aside0.mk hLn
    clear hE hk1 hLn hL
    go_enter Try.func8, Try.ntmps8
    go_upto_region 4 with (first | (go_at_call 12; (with_reducible refine (token_Entries.calls a0 L s1 s2 e0 _ HE.out).mono ?_); rintro e w1 ⟨va, rfl, hS, hb⟩; have HA := Aside0.mk hS; have HB := Aside0.mk hb; clear hS hb))
    obtain ⟨A, cA, rfl, hlA, hCA⟩ := Kd.S_reads HA.out
    obtain ⟨g0, hg0, hH⟩ : ∃ g0, (0 < L.length → A = some ⟨g0, 0, none⟩) ∧ Hdr w1 g0 w.heap.size w1.heap.size (hdrF w1 g0) L := by
      by_cases hz : 0 < L.length
      · obtain ⟨g, cap, he, _⟩ := Kd.S_form HA.out hz
        injection he with he _ _
        subst he
        exact ⟨g, fun _ => rfl, hdr_of HA.out⟩
      · exact ⟨0, fun h => absurd h hz, fun i x hx => by have := (List.getElem?_eq_some_iff.1 hx).1; omega⟩
    obtain ⟨F, hF⟩ : ∃ F, F = hdrF w1 g0 := ⟨_, rfl⟩
    rw [← hF] at hH
    clear hF
    have HH := Aside0.mk (hH.below (below_alloc (Below.refl w1.heap.size w1) (.cells #[.int .i64 s1, .int .i64 s2] 30)))
    have HCA := Aside0.mk (Kd.C_alloc hCA (.cells #[.int .i64 s1, .int .i64 s2] 30))
    have HLA := Aside0.mk hlA
    have HG0 := Aside0.mk hg0
    have HB2 := Aside0.mk (below_alloc HB.out (.cells #[.int .i64 s1, .int .i64 s2] 30))
    have HSZ := Aside0.mk (show w1.heap.size ≤ (w1.alloc (.cells #[.int .i64 s1, .int .i64 s2] 30)).heap.size by simp)
    clear HA HB hCA hlA hg0 hH
    generalize w1.heap.size = N1 at HH HSZ ⊢
    generalize w1.alloc (.cells #[.int .i64 s1, .int .i64 s2] 30) = w2 at HH HCA HB2 HSZ ⊢
    go_upto_region 5 with (first | (go_at_call 12; (with_reducible refine (token_Entries.calls a0 L s1 s2 e0 _ HE.out).mono ?_); rintro e w3 ⟨vb, rfl, hS, hb⟩; have HS := Aside0.mk hS; have HB3 := Aside0.mk (below_step HB2.out hb); have HH3 := Aside0.mk (HH.out.below hb); have HCA3 := Aside0.mk (Kd.C_below HCA.out hb); clear hS hb HB2 HH HCA))
    obtain ⟨B, cB, rfl, hlB, _⟩ := Kd.S_reads HS.out
    have HLB := Aside0.mk hlB
    clear hlB
    have HS4 := Aside0.mk (Kd.S_mono (Kd.S_bound (Kd.S_lower (Kd.S_alloc HS.out (.cells #[.int .i64 s1, .int .i64 s2] 30)) HSZ.out)) (ok' := fun k => N1 ≤ k) (fun k hk => hk.2.1))
    have HB4 := Aside0.mk (below_alloc HB3.out (.cells #[.int .i64 s1, .int .i64 s2] 30))
    have HH4 := Aside0.mk (HH3.out.below (below_alloc (Below.refl w3.heap.size w3) (.cells #[.int .i64 s1, .int .i64 s2] 30)))
    have HCA4 := Aside0.mk (Kd.C_alloc HCA3.out (.cells #[.int .i64 s1, .int .i64 s2] 30))
    clear HS HB3 HH3 HCA3 HSZ
    generalize w3.alloc (.cells #[.int .i64 s1, .int .i64 s2] 30) = w4 at HS4 HB4 HH4 HCA4 ⊢
    go_wp2_with (first | (go_at_call 14; (with_reducible refine (hearsayref08_Same.calls k1 A cA L B cB L true _ HCA4.out HLA.out (Kd.S_reads' HS4.out).2.2 HLB.out HK.out).mono ?_); rintro e w5 ⟨rfl, hd⟩; have hb := hd.below; have HS5 := Aside0.mk (Kd.S_below HS4.out hb); have HB5 := Aside0.mk (below_step HB4.out hb); have HH5 := Aside0.mk (HH4.out.below hb); clear hd hb HS4 HB4 HH4 HCA4))
    go_loopw [9] (fun i wr => ∃ k : Nat, k ≤ L.length ∧ i = .int .i64 k ∧ Aside0 (Hdr wr g0 w.heap.size N1 F L) ∧ Aside0 (Kd.S k45 45 wr N1 (fun k_ => N1 ≤ k_) (.slice B L.length cB) L) ∧ Aside0 (Below w.heap.size w wr)) (fun i _ => L.length - (intOf i).toNat)
    case atStart => exact ⟨0, Nat.zero_le _, rfl, HH5, HS5, HB5⟩
    case round =>
      clear HH5 HS5 HB5
      obtain ⟨k, hk, rfl, HH, HS, HB⟩ := hrel
      have hLm : L.length ≤ 262145 := HLn.out.1
      by_cases hlt : k < L.length
      · obtain ⟨x, hx⟩ : ∃ x, L[k]? = some x := ⟨L[k], List.getElem?_eq_getElem hlt⟩
        have hA := HG0.out (by omega)
        subst hA
        obtain ⟨h1c, h2c, h3c, h4c⟩ := HH.out k x hx
        have HX := Aside0.mk hx
        clear hx
        generalize hFk : F k = fk at h1c h2c h3c h4c
        obtain ⟨Ak, ck⟩ := fk
        have HFK := Aside0.mk hFk
        have HW := Aside0.mk h4c
        clear hFk h4c
        simp only at h1c h2c h3c
        generalize hn : x.f2.length = n at h1c h2c
        have HN := Aside0.mk hn
        clear hn
        go_wp2
        clear h1c
        go_loopw [11] (fun j wz => ∃ m : Nat, m ≤ n ∧ j = .int .i64 m ∧ Aside0 (Hdr wz g0 w.heap.size N1 F L) ∧ Aside0 (Kd.S k45 45 wz N1 (fun k_ => N1 ≤ k_) (.slice B L.length cB) L) ∧ Aside0 (Below w.heap.size w wz)) (fun j _ => n - (intOf j).toNat)
        case atStart => exact ⟨0, Nat.zero_le _, rfl, HH, HS, HB⟩
        case round =>
          clear HH HS HB
          obtain ⟨m, hm, rfl, HH, HS, HB⟩ := hrel
          by_cases hmn : m < n
          · obtain ⟨_, q2, q3, q4⟩ := HH.out k x HX.out
            rw [HFK.out] at q2 q3 q4
            rcases q4 with q4 | ⟨g, cells, e1, e2, e0_, e3, e4, e5⟩
            · exfalso; simp only at q4; omega
            simp only at q2 q3 e1 e5
            subst e1
            have s0 : m * 4 < cells.size := by omega
            have s1_ : m * 4 + 1 < cells.size := by omega
            have s2_ : m * 4 + 2 < cells.size := by omega
            have s3_ : m * 4 + 3 < cells.size := by omega
            have c0 := (blk_cell e4 (m * 4)).trans (Array.getElem?_eq_getElem s0)
            have c1 := (blk_cell e4 (m * 4 + 1)).trans (Array.getElem?_eq_getElem s1_)
            have c2 := (blk_cell e4 (m * 4 + 2)).trans (Array.getElem?_eq_getElem s2_)
            have c3 := (blk_cell e4 (m * 4 + 3)).trans (Array.getElem?_eq_getElem s3_)
            have f0 := blk_frozen e4 (m * 4)
            have f1 := blk_frozen e4 (m * 4 + 1)
            have f2 := blk_frozen e4 (m * 4 + 2)
            have f3 := blk_frozen e4 (m * 4 + 3)
            generalize cells[m * 4] = u0_ at c0
            generalize cells[m * 4 + 1] = u1_ at c1
            generalize cells[m * 4 + 2] = u2_ at c2
            generalize cells[m * 4 + 3] = u3_ at c3
            have HE4 := Aside0.mk e4
            have HE2 := Aside0.mk e2
            have HE0 := Aside0.mk e0_
            have HE3 := Aside0.mk e3
            clear e4 e2 e0_ e3 e5 q2 q3 s0 s1_ s2_ s3_
            go_wp2
            go_roundw
            case rel =>
              have p1 := HH.out.put HE4.out HE2.out (j := m * 4) (.string (⟨#[120]⟩ : ByteArray))
              have g1 := blk_set HE4.out (m * 4) (.string (⟨#[120]⟩ : ByteArray))
              have p2 := p1.put g1 HE2.out (j := m * 4 + 1) (.bool false)
              have g2 := blk_set g1 (m * 4 + 1) (.bool false)
              have p3 := p2.put g2 HE2.out (j := m * 4 + 2) (.int .i64 0)
              have g3 := blk_set g2 (m * 4 + 2) (.int .i64 0)
              have p4 := p3.put g3 HE2.out (j := m * 4 + 3) (.int .i64 0)
              have hk_ : ∀ k_, N1 ≤ k_ → k_ ≠ g := fun k_ h_ => by have := HE3.out; omega
              exact ⟨m + 1, by omega, by go_num, ⟨p4⟩, ⟨Kd.S_far (p := ⟨g, m * 4 + 3, none⟩) (Kd.S_far (p := ⟨g, m * 4 + 2, none⟩) (Kd.S_far (p := ⟨g, m * 4 + 1, none⟩) (Kd.S_far (p := ⟨g, m * 4, none⟩) HS.out hk_ _) hk_ _) hk_ _) hk_ _⟩, ⟨below_set (below_set (below_set (below_set HB.out HE0.out) HE0.out) HE0.out) HE0.out⟩⟩
            case measure => simp [intOf]; omega
          · obtain rfl : m = n := by omega
            obtain ⟨h1c, _, _, _⟩ := HH.out k x HX.out
            rw [HFK.out, HN.out] at h1c
            simp only at h1c
            go_wp2
            clear h1c
            go_loopw [12] (fun j wz => ∃ q : Nat, m ≤ q ∧ q ≤ ck ∧ j = .int .i64 q ∧ Aside0 (Hdr wz g0 w.heap.size N1 F L) ∧ Aside0 (Kd.S k45 45 wz N1 (fun k_ => N1 ≤ k_) (.slice B L.length cB) L) ∧ Aside0 (Below w.heap.size w wz)) (fun j _ => ck - (intOf j).toNat)
            case atStart => exact ⟨m, Nat.le_refl _, by omega, rfl, HH, HS, HB⟩
            case round =>
              clear HH HS HB
              obtain ⟨q, hq, hqc, rfl, HH, HS, HB⟩ := hrel
              by_cases hqn : q < ck
              · obtain ⟨_, q2, q3, q4⟩ := HH.out k x HX.out
                rw [HFK.out] at q2 q3 q4
                rcases q4 with q4 | ⟨g, cells, e1, e2, e0_, e3, e4, e5⟩
                · exfalso; simp only at q4; omega
                simp only at q2 q3 e1 e5
                subst e1
                have s2_ : q * 4 + 2 < cells.size := by omega
                have c2 := (blk_cell e4 (q * 4 + 2)).trans (Array.getElem?_eq_getElem s2_)
                have f2 := blk_frozen e4 (q * 4 + 2)
                generalize cells[q * 4 + 2] = u2_ at c2
                have HE4 := Aside0.mk e4
                have HE2 := Aside0.mk e2
                have HE0 := Aside0.mk e0_
                have HE3 := Aside0.mk e3
                clear e4 e2 e0_ e3 e5 q2 q3 s2_
                go_wp2
                go_roundw
                case rel =>
                  have hk_ : ∀ k_, N1 ≤ k_ → k_ ≠ g := fun k_ h_ => by have := HE3.out; omega
                  exact ⟨q + 1, by omega, by omega, by go_num, ⟨HH.out.put HE4.out HE2.out _⟩, ⟨Kd.S_far (p := ⟨g, q * 4 + 2, none⟩) HS.out hk_ _⟩, ⟨below_set HB.out HE0.out⟩⟩
                case measure => simp [intOf]; omega
              · obtain rfl : q = ck := by omega
                go_wp2
                go_roundw
                case rel => exact ⟨k + 1, by omega, by go_num, HH, HS, HB⟩
                case measure => simp [intOf]; omega
      · obtain rfl : k = L.length := by omega
        clear hlt hk HH
        go_upto_region 21 with (first | (go_at_call 12; (with_reducible refine (token_Entries.calls a0 L s1 s2 e0 _ HE.out).mono ?_); rintro e w6 ⟨vc, rfl, hS, hb⟩; have HT := Aside0.mk hS; have HS6 := Aside0.mk (Kd.S_below HS.out hb); have HB6 := Aside0.mk (below_step HB.out hb); clear hS hb HS HB))
        obtain ⟨C, cC, rfl, hlC, hCC⟩ := Kd.S_reads HT.out
        have HLC := Aside0.mk hlC
        have HS7 := Aside0.mk (Kd.S_alloc HS6.out (.cells #[.int .i64 s1, .int .i64 s2] 30))
        have HB7 := Aside0.mk (below_alloc HB6.out (.cells #[.int .i64 s1, .int .i64 s2] 30))
        have HCC := Aside0.mk (Kd.C_alloc hCC (.cells #[.int .i64 s1, .int .i64 s2] 30))
        clear HT HS6 HB6 hlC hCC
        generalize w6.alloc (.cells #[.int .i64 s1, .int .i64 s2] 30) = w7 at HS7 HB7 HCC ⊢
        go_wp2_with (first | (go_at_call 14; (with_reducible refine (hearsayref08_Same.calls k1 B cB L C cC L true _ (Kd.S_reads' HS7.out).2.2 HLB.out HCC.out HLC.out HK.out).mono ?_); rintro e w8 ⟨rfl, hd⟩; have hb := hd.below; have HB8 := Aside0.mk (below_step HB7.out hb); clear hd hb HB7 HS7 HCC) | (go_at_call 15; (with_reducible refine (hearsaylaw08_reads.calls true _ reads_f).mono ?_); rintro e w9 ⟨rfl, hb⟩; have HB9 := Aside0.mk (below_step HB8.out hb); clear hb HB8))
        go_ret
        exact ⟨rfl, HB9.out⟩
end Go.Proofs.Ytafminohaofjnaa.Print
