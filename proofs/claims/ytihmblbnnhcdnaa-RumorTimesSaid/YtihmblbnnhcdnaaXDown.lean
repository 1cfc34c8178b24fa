/- heap.down, walked. -/
import Derived.Test.YtihmblbnnhcdnaaXUp
namespace Go.Proofs.Ytihmblbnnhcdnaa.Print
open Go.RowKit Go.Maps Go.ChangeMaps Go.Proofs.YtihmblbnnhcdnaaW.PrintWords Go.Proofs.YtihmblbnnhcdnaaW.PrintLast Go.Proofs.YtihmblbnnhcdnaaW.PrintMore
set_option linter.unusedVariables false
set_option linter.unusedSimpArgs false
set_option maxHeartbeats 8000000 in
set_option maxRecDepth 100000 in
theorem down_calls (w : World) (g : Nat) (t last : Int) (mp v : Value) (hs : Hs) (n i0 : Nat) (h : Rq w g t last mp v hs) (hn : n ≤ hs.length) (hi0 : i0 ≤ n) (hl : hs.length ≤ 1000000) (hh : Heap.Hole lessO n (at1 hs) i0) :
    Calls Try.prog 39 #[.iface 68 (.pointer (some ⟨g, 2, none⟩)), .int .i64 i0, .int .i64 n] w fun e w' => ∃ hs' mv, e = .returned (.bool mv) ∧ Rq w' g t last mp v hs' ∧ hs'.Perm hs ∧ (∀ k, n ≤ k → hs'[k]? = hs[k]?) ∧ ((mv = false ∧ hs' = hs ∧ Heap.Kids lessO n (at1 hs) i0) ∨ (mv = true ∧ Heap.IsH lessO n (at1 hs'))) ∧ Kp w w' (HoS v hs) := by
  obtain ⟨A, c, rfl, hcl, hcm⟩ := h.ho.form
  obtain ⟨N, hN⟩ : ∃ N, N = hs.length := ⟨_, rfl⟩
  rw [← hN] at h hcl ⊢
  have H0 := Aside0.mk (And.intro h hh)
  have HNN := Aside0.mk hN
  have hNl : N ≤ 1000000 := by omega
  have hnN : n ≤ N := by omega
  have hnl : n ≤ 1000000 := by omega
  clear h hh hN hn hl
  go_enter Try.func39, Try.ntmps39
  go_wp2
  go_loopw [7] (fun u wr => ∃ (i : Nat) (hc : Hs), i ≤ n ∧ i0 ≤ i ∧ u = .int .i64 i ∧ Aside0 (Rq wr g t last mp (.slice A N c) hc ∧ hc.Perm hs ∧ (∀ k, n ≤ k → hc[k]? = hs[k]?) ∧ Heap.Hole lessO n (at1 hc) i ∧ ((i = i0 ∧ hc = hs) ∨ (i0 < i ∧ Heap.Par lessO (at1 hc) i)) ∧ Kp w wr (HoS (.slice A N c) hs))) (fun u _ => n - (intOf u).toNat)
  case atStart => exact ⟨i0, hs, hi0, Nat.le_refl _, rfl, ⟨H0.out.1, List.Perm.refl _, fun _ _ => rfl, H0.out.2, Or.inl ⟨rfl, rfl⟩, Kp.of (Below.refl _ _)⟩⟩
  case round =>
    clear H0
    obtain ⟨i, hc, hin, hii, rfl, HR⟩ := hrel
    have hlen : hc.length = N := by rw [HNN.out]; exact HR.out.2.1.length_eq
    have hi1 : i ≤ 1000000 := by omega
    have hi2 : 0 ≤ (i : Int) := by omega
    have hnn : 0 ≤ (n : Int) := by omega
    have HR' := HR
    have FIN : Aside0 (Heap.Kids lessO n (at1 hc) i → ((decide (i0 < i) = false ∧ hc = hs ∧ Heap.Kids lessO n (at1 hs) i0) ∨ (decide (i0 < i) = true ∧ Heap.IsH lessO n (at1 hc)))) := ⟨fun hk => by
      rcases HR.out.2.2.2.2.1 with ⟨e1, e2⟩ | ⟨e1, e2⟩
      · subst e2
        subst e1
        exact Or.inl ⟨by simp, rfl, hk⟩
      · exact Or.inr ⟨by simpa using e1, HR.out.2.2.2.1.full e2 hk⟩⟩
    have hl6 : hc.length ≤ 1000000 := by omega
    clear HR'
    by_cases h1 : 2 * i + 1 < n
    · have h1' : 2 * (i : Int) + 1 < (n : Int) := by omega
      have h1p : 0 ≤ 2 * (i : Int) + 1 := by omega
      obtain ⟨bi, oi, ei⟩ := get_some (hs := hc) (k := i) (by omega)
      obtain ⟨b1, o1, e1⟩ := get_some (hs := hc) (k := 2 * i + 1) (by omega)
      have ml := mLess wr g A N c HR.out.1.cell
      by_cases h2 : 2 * i + 2 < n
      · have h2' : 2 * (i : Int) + 1 + 1 < (n : Int) := by omega
        obtain ⟨b2, o2, e2⟩ := get_some (hs := hc) (k := 2 * i + 2) (by omega)
        have LK : Aside0 (∀ W, Ho W (.slice A N c) hc → Calls Try.prog 86 #[.slice A N c, .int .i64 (2 * (i : Int) + 1 + 1), .int .i64 (2 * (i : Int) + 1)] W fun e w' => e = .returned (.bool (lessO o2 o1)) ∧ Below W.heap.size W w') := ⟨fun W hW => by
          have k1 := less_calls W (.slice A N c) hc (2 * i + 2) (2 * i + 1) b2 b1 o2 o1 hW e2 e1 hl6
          rw [show ((2 * i + 2 : Nat) : Int) = 2 * (i : Int) + 1 + 1 by omega, show ((2 * i + 1 : Nat) : Int) = 2 * (i : Int) + 1 by omega] at k1
          exact k1⟩
        cases hk2 : lessO o2 o1 with
        | false =>
          rw [hk2] at LK
          have SIB : Aside0 (∀ k, 0 < k → k < n → (k - 1) / 2 = i → lessO (at1 hc k) (at1 hc (2 * i + 1)) = false) := ⟨fun k hk0 hkn hkp => by
            by_cases e : k = 2 * i + 1
            · subst e; exact lessO_self _
            · obtain rfl : k = 2 * i + 2 := by omega
              rw [at1_of e2, at1_of e1]; exact hk2⟩
          go_upto_region 8 with (first | (go_at_call 86; (with_reducible refine (LK.out _ HR.out.1.ho).mono ?_); rintro e w6 ⟨rfl, hb_⟩; have HB6 := Aside0.mk hb_; have ml6 := mLess w6 g A N c (HR.out.1.below hb_).cell; clear hb_ ml))
          have hjn : 2 * i + 1 < n := by omega
          have LS : Aside0 (∀ W, Ho W (.slice A N c) hc → Calls Try.prog 86 #[.slice A N c, .int .i64 (2 * (i : Int) + 1), .int .i64 i] W fun e w' => e = .returned (.bool (lessO o1 oi)) ∧ Below W.heap.size W w') := ⟨fun W hW => by
            have k1 := less_calls W (.slice A N c) hc (2 * i + 1) i b1 bi o1 oi hW e1 ei hl6
            rw [show ((2 * i + 1 : Nat) : Int) = 2 * (i : Int) + 1 by omega] at k1
            exact k1⟩
          have SW : Aside0 (∀ W, Ho W (.slice A N c) hc → Calls Try.prog 87 #[.slice A N c, .int .i64 i, .int .i64 (2 * (i : Int) + 1)] W fun e w' => e = .returned (.tuple #[]) ∧ Ho w' (.slice A N c) (swapH hc i (2 * i + 1) (bi, oi) (b1, o1)) ∧ Kp W w' (HoS (.slice A N c) hc)) := ⟨fun W hW => by
            have k1 := swap_calls W (.slice A N c) hc i (2 * i + 1) bi b1 oi o1 hW ei e1 hl6
            rw [show ((2 * i + 1 : Nat) : Int) = 2 * (i : Int) + 1 by omega] at k1
            exact k1⟩
          have HM : Aside0 (n - (intOf (Value.int .i64 (2 * (i : Int) + 1))).toNat < n - (intOf (Value.int .i64 i)).toNat) := ⟨by simp only [intOf]; omega⟩
          cases hle : lessO o1 oi with
          | false =>
            rw [hle] at LS
            go_wp2_with (first | (go_at_call 86; (with_reducible refine (LS.out _ ((HR.out.1.below HB6.out)).ho).mono ?_); rintro e w8 ⟨rfl, hb_⟩; have HB8 := Aside0.mk hb_; clear hb_))
            go_ret
            refine ⟨hc, decide (i0 < i), rfl, ((HR.out.1.below HB6.out)).below HB8.out, HR.out.2.1, HR.out.2.2.1, FIN.out (fun k hk0 hkn hkp => lessO_pre.tr _ _ _ (by rw [at1_of ei, at1_of e1]; exact hle) (SIB.out k hk0 hkn hkp)), ((HR.out.2.2.2.2.2.trans (Kp.of (S := fun _ => False) HB6.out) (fun _ _ h => h.elim))).trans (Kp.of (S := fun _ => False) HB8.out) (fun _ _ h => h.elim)⟩
          | true =>
            rw [hle] at LS
            go_wp2_with (first
              | (go_at_call 86; (with_reducible refine (LS.out _ ((HR.out.1.below HB6.out)).ho).mono ?_); rintro e w8 ⟨rfl, hb_⟩; have HB8 := Aside0.mk hb_; have ms := mSwap w8 g A N c (((HR.out.1.below HB6.out)).below hb_).cell; clear hb_)
              | (go_at_call 87; (with_reducible refine (SW.out _ (((HR.out.1.below HB6.out)).below HB8.out).ho).mono ?_); rintro e w9 ⟨rfl, hh_, hk_⟩; have HH9 := Aside0.mk hh_; have HK9 := Aside0.mk hk_; clear hh_ hk_))
            go_roundw
            case rel =>
              have hdn := Heap.down_step lessO_pre hjn (by omega) (by omega) HR.out.2.2.2.1 SIB.out (by rw [at1_of ei, at1_of e1]; exact hle)
              refine ⟨2 * i + 1, swapH hc i (2 * i + 1) (bi, oi) (b1, o1), by omega, by omega, by go_num, ⟨(((HR.out.1.below HB6.out)).below HB8.out).kept HH9.out HK9.out, (swap_perm ei e1).trans HR.out.2.1, fun k hk => (swap_tail (n := n) (by omega) hjn k hk).trans (HR.out.2.2.1 k hk), ?_, Or.inr ⟨by omega, ?_⟩, (((HR.out.2.2.2.2.2.trans (Kp.of (S := fun _ => False) HB6.out) (fun _ _ h => h.elim))).trans (Kp.of (S := fun _ => False) HB8.out) (fun _ _ h => h.elim)).trans HK9.out (fun k _ hk => HoS.perm HR.out.2.1 hk)⟩⟩
              · rw [at1_swap ei e1]; exact hdn.1
              · rw [at1_swap ei e1]; exact hdn.2.1
            case measure => exact HM.out
        | true =>
          rw [hk2] at LK
          have SIB : Aside0 (∀ k, 0 < k → k < n → (k - 1) / 2 = i → lessO (at1 hc k) (at1 hc (2 * i + 2)) = false) := ⟨fun k hk0 hkn hkp => by
            by_cases e : k = 2 * i + 2
            · subst e; exact lessO_self _
            · obtain rfl : k = 2 * i + 1 := by omega
              rw [at1_of e2, at1_of e1]; exact lessO_pre.asy _ _ hk2⟩
          go_upto_region 8 with (first | (go_at_call 86; (with_reducible refine (LK.out _ HR.out.1.ho).mono ?_); rintro e w6 ⟨rfl, hb_⟩; have HB6 := Aside0.mk hb_; have ml6 := mLess w6 g A N c (HR.out.1.below hb_).cell; clear hb_ ml))
          have hjn : 2 * i + 2 < n := by omega
          have LS : Aside0 (∀ W, Ho W (.slice A N c) hc → Calls Try.prog 86 #[.slice A N c, .int .i64 (2 * (i : Int) + 1 + 1), .int .i64 i] W fun e w' => e = .returned (.bool (lessO o2 oi)) ∧ Below W.heap.size W w') := ⟨fun W hW => by
            have k1 := less_calls W (.slice A N c) hc (2 * i + 2) i b2 bi o2 oi hW e2 ei hl6
            rw [show ((2 * i + 2 : Nat) : Int) = 2 * (i : Int) + 1 + 1 by omega] at k1
            exact k1⟩
          have SW : Aside0 (∀ W, Ho W (.slice A N c) hc → Calls Try.prog 87 #[.slice A N c, .int .i64 i, .int .i64 (2 * (i : Int) + 1 + 1)] W fun e w' => e = .returned (.tuple #[]) ∧ Ho w' (.slice A N c) (swapH hc i (2 * i + 2) (bi, oi) (b2, o2)) ∧ Kp W w' (HoS (.slice A N c) hc)) := ⟨fun W hW => by
            have k1 := swap_calls W (.slice A N c) hc i (2 * i + 2) bi b2 oi o2 hW ei e2 hl6
            rw [show ((2 * i + 2 : Nat) : Int) = 2 * (i : Int) + 1 + 1 by omega] at k1
            exact k1⟩
          have HM : Aside0 (n - (intOf (Value.int .i64 (2 * (i : Int) + 1 + 1))).toNat < n - (intOf (Value.int .i64 i)).toNat) := ⟨by simp only [intOf]; omega⟩
          cases hle : lessO o2 oi with
          | false =>
            rw [hle] at LS
            go_wp2_with (first | (go_at_call 86; (with_reducible refine (LS.out _ ((HR.out.1.below HB6.out)).ho).mono ?_); rintro e w8 ⟨rfl, hb_⟩; have HB8 := Aside0.mk hb_; clear hb_))
            go_ret
            refine ⟨hc, decide (i0 < i), rfl, ((HR.out.1.below HB6.out)).below HB8.out, HR.out.2.1, HR.out.2.2.1, FIN.out (fun k hk0 hkn hkp => lessO_pre.tr _ _ _ (by rw [at1_of ei, at1_of e2]; exact hle) (SIB.out k hk0 hkn hkp)), ((HR.out.2.2.2.2.2.trans (Kp.of (S := fun _ => False) HB6.out) (fun _ _ h => h.elim))).trans (Kp.of (S := fun _ => False) HB8.out) (fun _ _ h => h.elim)⟩
          | true =>
            rw [hle] at LS
            go_wp2_with (first
              | (go_at_call 86; (with_reducible refine (LS.out _ ((HR.out.1.below HB6.out)).ho).mono ?_); rintro e w8 ⟨rfl, hb_⟩; have HB8 := Aside0.mk hb_; have ms := mSwap w8 g A N c (((HR.out.1.below HB6.out)).below hb_).cell; clear hb_)
              | (go_at_call 87; (with_reducible refine (SW.out _ (((HR.out.1.below HB6.out)).below HB8.out).ho).mono ?_); rintro e w9 ⟨rfl, hh_, hk_⟩; have HH9 := Aside0.mk hh_; have HK9 := Aside0.mk hk_; clear hh_ hk_))
            go_roundw
            case rel =>
              have hdn := Heap.down_step lessO_pre hjn (by omega) (by omega) HR.out.2.2.2.1 SIB.out (by rw [at1_of ei, at1_of e2]; exact hle)
              refine ⟨2 * i + 2, swapH hc i (2 * i + 2) (bi, oi) (b2, o2), by omega, by omega, by go_num, ⟨(((HR.out.1.below HB6.out)).below HB8.out).kept HH9.out HK9.out, (swap_perm ei e2).trans HR.out.2.1, fun k hk => (swap_tail (n := n) (by omega) hjn k hk).trans (HR.out.2.2.1 k hk), ?_, Or.inr ⟨by omega, ?_⟩, (((HR.out.2.2.2.2.2.trans (Kp.of (S := fun _ => False) HB6.out) (fun _ _ h => h.elim))).trans (Kp.of (S := fun _ => False) HB8.out) (fun _ _ h => h.elim)).trans HK9.out (fun k _ hk => HoS.perm HR.out.2.1 hk)⟩⟩
              · rw [at1_swap ei e2]; exact hdn.1
              · rw [at1_swap ei e2]; exact hdn.2.1
            case measure => exact HM.out
      · have h2' : ¬ 2 * (i : Int) + 1 + 1 < (n : Int) := by omega
        have SIB : Aside0 (∀ k, 0 < k → k < n → (k - 1) / 2 = i → lessO (at1 hc k) (at1 hc (2 * i + 1)) = false) := ⟨fun k hk0 hkn hkp => by
          obtain rfl : k = 2 * i + 1 := by omega
          exact lessO_self _⟩
        go_upto_region 8 with (fail)
        have hjn : 2 * i + 1 < n := by omega
        have LS : Aside0 (∀ W, Ho W (.slice A N c) hc → Calls Try.prog 86 #[.slice A N c, .int .i64 (2 * (i : Int) + 1), .int .i64 i] W fun e w' => e = .returned (.bool (lessO o1 oi)) ∧ Below W.heap.size W w') := ⟨fun W hW => by
          have k1 := less_calls W (.slice A N c) hc (2 * i + 1) i b1 bi o1 oi hW e1 ei hl6
          rw [show ((2 * i + 1 : Nat) : Int) = 2 * (i : Int) + 1 by omega] at k1
          exact k1⟩
        have SW : Aside0 (∀ W, Ho W (.slice A N c) hc → Calls Try.prog 87 #[.slice A N c, .int .i64 i, .int .i64 (2 * (i : Int) + 1)] W fun e w' => e = .returned (.tuple #[]) ∧ Ho w' (.slice A N c) (swapH hc i (2 * i + 1) (bi, oi) (b1, o1)) ∧ Kp W w' (HoS (.slice A N c) hc)) := ⟨fun W hW => by
          have k1 := swap_calls W (.slice A N c) hc i (2 * i + 1) bi b1 oi o1 hW ei e1 hl6
          rw [show ((2 * i + 1 : Nat) : Int) = 2 * (i : Int) + 1 by omega] at k1
          exact k1⟩
        have HM : Aside0 (n - (intOf (Value.int .i64 (2 * (i : Int) + 1))).toNat < n - (intOf (Value.int .i64 i)).toNat) := ⟨by simp only [intOf]; omega⟩
        cases hle : lessO o1 oi with
        | false =>
          rw [hle] at LS
          go_wp2_with (first | (go_at_call 86; (with_reducible refine (LS.out _ (HR.out.1).ho).mono ?_); rintro e w8 ⟨rfl, hb_⟩; have HB8 := Aside0.mk hb_; clear hb_))
          go_ret
          refine ⟨hc, decide (i0 < i), rfl, (HR.out.1).below HB8.out, HR.out.2.1, HR.out.2.2.1, FIN.out (fun k hk0 hkn hkp => lessO_pre.tr _ _ _ (by rw [at1_of ei, at1_of e1]; exact hle) (SIB.out k hk0 hkn hkp)), (HR.out.2.2.2.2.2).trans (Kp.of (S := fun _ => False) HB8.out) (fun _ _ h => h.elim)⟩
        | true =>
          rw [hle] at LS
          go_wp2_with (first
            | (go_at_call 86; (with_reducible refine (LS.out _ (HR.out.1).ho).mono ?_); rintro e w8 ⟨rfl, hb_⟩; have HB8 := Aside0.mk hb_; have ms := mSwap w8 g A N c ((HR.out.1).below hb_).cell; clear hb_)
            | (go_at_call 87; (with_reducible refine (SW.out _ ((HR.out.1).below HB8.out).ho).mono ?_); rintro e w9 ⟨rfl, hh_, hk_⟩; have HH9 := Aside0.mk hh_; have HK9 := Aside0.mk hk_; clear hh_ hk_))
          go_roundw
          case rel =>
            have hdn := Heap.down_step lessO_pre hjn (by omega) (by omega) HR.out.2.2.2.1 SIB.out (by rw [at1_of ei, at1_of e1]; exact hle)
            refine ⟨2 * i + 1, swapH hc i (2 * i + 1) (bi, oi) (b1, o1), by omega, by omega, by go_num, ⟨((HR.out.1).below HB8.out).kept HH9.out HK9.out, (swap_perm ei e1).trans HR.out.2.1, fun k hk => (swap_tail (n := n) (by omega) hjn k hk).trans (HR.out.2.2.1 k hk), ?_, Or.inr ⟨by omega, ?_⟩, ((HR.out.2.2.2.2.2).trans (Kp.of (S := fun _ => False) HB8.out) (fun _ _ h => h.elim)).trans HK9.out (fun k _ hk => HoS.perm HR.out.2.1 hk)⟩⟩
            · rw [at1_swap ei e1]; exact hdn.1
            · rw [at1_swap ei e1]; exact hdn.2.1
          case measure => exact HM.out
    · have h1' : ¬ 2 * (i : Int) + 1 < (n : Int) := by omega
      have h1n : (n : Int) ≤ 2 * (i : Int) + 1 := by omega
      go_wp2_with (fail)
      go_ret
      rcases FIN.out (fun k hk0 hkn hkp => absurd hkn (by omega)) with ⟨f1, f2, f3⟩ | ⟨f1, f2⟩
      · exact ⟨hc, Or.inl ⟨by show Ending.returned (Value.bool (decide (i0 < i))) = _; rw [f1], HR.out.1, HR.out.2.1, HR.out.2.2.1, ⟨f2, f3⟩, HR.out.2.2.2.2.2⟩⟩
      · exact ⟨hc, Or.inr ⟨by show Ending.returned (Value.bool (decide (i0 < i))) = _; rw [f1], HR.out.1, HR.out.2.1, HR.out.2.2.1, f2, HR.out.2.2.2.2.2⟩⟩
end Go.Proofs.Ytihmblbnnhcdnaa.Print
