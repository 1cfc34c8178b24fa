/- The statement RewriteTurns, walked. -/
import Derived.Test.YtfcmphigmfdceaaXTurnsYa
import Derived.Test.YtfcmphigmfdceaaXTurnsYb
namespace Go.Proofs.Ytfcmphigmfdceaa.Print
open Go.RowKit Go.Proofs.YtfcmphigmfdceaaW.PrintWords Go.Proofs.YtfcmphigmfdceaaW.PrintLast Go.Proofs.YtfcmphigmfdceaaW.PrintMore
set_option linter.unusedVariables false
set_option linter.unusedSimpArgs false
attribute [local go_sem high] eqA57
set_option maxHeartbeats 100000000 in
set_option maxRecDepth 100000 in
theorem rewriteTurns_calls (A0 : Option Addr) (c0 : Nat) (l0 : List S38) (q : S32) (A2 : Option Addr) (c2 : Nat) (l2 : List S59) (w : World)
    (hr0 : Kd.C k38 w A0 l0.length l0) (hc0 : l0.length ≤ c0) (hr2 : Kd.C k59 w A2 l2.length l2) (hc2 : l2.length ≤ c2) (hs : ∀ r ∈ l2, r.f0.size ≤ 9223372036854775807) :
    Calls Try.prog 8 #[.slice A0 l0.length c0, .agg #[.string q.f0, .int .u16 q.f1, .int .u16 q.f2], .slice A2 l2.length c2] w fun e w' => e = .returned (.bool true) ∧ Below w.heap.size w w' := by
  obtain ⟨kl, hkl⟩ := (long_f l0).rounds
  have HKL := Aside0.mk hkl
  have HR0 := Aside0.mk hr0
  have HC0 := Aside0.mk hc0
  have HR2 := Aside0.mk hr2
  have HC2 := Aside0.mk hc2
  have HS := Aside0.mk hs
  have m2 : l2.length ≤ 9223372036854775807 := Kd.C_max hr2
  clear hkl hr0 hr2 hc0 hc2 hs
  have fin : ∀ w2, Below (w.alloc (.cells #[.string q.f0, .int .u16 q.f1, .int .u16 q.f2] 32)).heap.size (w.alloc (.cells #[.string q.f0, .int .u16 q.f1, .int .u16 q.f2] 32)) w2 → Bx w2 w.heap.size #[.string q.f0, .int .u16 q.f1, .int .u16 q.f2] 32 ∧ Below w.heap.size w w2 := by
    intro w2 hb
    exact ⟨Bx.below (Bx.new w _ _) hb, (below_alloc (Below.refl w.heap.size w) _).trans (below_to hb (by simp))⟩
  have FIN := Aside0.mk fin
  clear fin
  cases hlo : longP l0 with
  | true =>
    rw [hlo] at HKL
    clear hlo
    go_enter Try.func8, Try.ntmps8
    go_wp2_with (first | (go_at_call 10; (with_reducible refine (hearsaylaw25_long.calls kl A0 c0 l0 true _ (Kd.C_alloc HR0.out _) HC0.out HKL.out).mono ?_); rintro e w1 ⟨rfl, hd1⟩; have hb1 := hd1.below; obtain ⟨x0, hB⟩ := FIN.out _ hb1; have X0 := Aside0.mk x0; have HB1 := Aside0.mk hB; clear hd1 hb1 x0 hB; have lt0 := X0.out.lt; have z0 := X0.out.cell 0 _ rfl; have z1 := X0.out.cell 1 _ rfl; have z2 := X0.out.cell 2 _ rfl))
    go_ret
    exact ⟨rfl, HB1.out⟩
  | false =>
    rw [hlo] at HKL
    clear hlo
    by_cases g1 : 2000 < q.f0.size
    · have g1' : (2000 : Int) < (q.f0.size : Int) := by omega
      have g1'' : decide ((2000 : Int) < (q.f0.size : Int)) = true := decide_eq_true g1'
      go_enter Try.func8, Try.ntmps8
      go_wp2_with (first | (go_at_call 10; (with_reducible refine (hearsaylaw25_long.calls kl A0 c0 l0 false _ (Kd.C_alloc HR0.out _) HC0.out HKL.out).mono ?_); rintro e w1 ⟨rfl, hd1⟩; have hb1 := hd1.below; obtain ⟨x0, hB⟩ := FIN.out _ hb1; have X0 := Aside0.mk x0; have HB1 := Aside0.mk hB; clear hd1 hb1 x0 hB; have lt0 := X0.out.lt; have z0 := X0.out.cell 0 _ rfl; have z1 := X0.out.cell 1 _ rfl; have z2 := X0.out.cell 2 _ rfl))
      go_ret
      exact ⟨rfl, HB1.out⟩
    · have g1' : ¬ (2000 : Int) < (q.f0.size : Int) := by omega
      have g1'' : decide ((2000 : Int) < (q.f0.size : Int)) = false := decide_eq_false g1'
      by_cases g2 : 50 < l2.length
      · have g2' : (50 : Int) < (l2.length : Int) := by omega
        have g2'' : decide ((50 : Int) < (l2.length : Int)) = true := decide_eq_true g2'
        go_enter Try.func8, Try.ntmps8
        go_wp2_with (first | (go_at_call 10; (with_reducible refine (hearsaylaw25_long.calls kl A0 c0 l0 false _ (Kd.C_alloc HR0.out _) HC0.out HKL.out).mono ?_); rintro e w1 ⟨rfl, hd1⟩; have hb1 := hd1.below; obtain ⟨x0, hB⟩ := FIN.out _ hb1; have X0 := Aside0.mk x0; have HB1 := Aside0.mk hB; clear hd1 hb1 x0 hB; have lt0 := X0.out.lt; have z0 := X0.out.cell 0 _ rfl; have z1 := X0.out.cell 1 _ rfl; have z2 := X0.out.cell 2 _ rfl))
        go_ret
        exact ⟨rfl, HB1.out⟩
      · have g2' : ¬ (50 : Int) < (l2.length : Int) := by omega
        have g2'' : decide ((50 : Int) < (l2.length : Int)) = false := decide_eq_false g2'
        have HQS := Aside0.mk (show q.f0.size ≤ 9223372036854775807 by omega)
        have HL2 := Aside0.mk (show l2.length ≤ 50 by omega)
        obtain ⟨y, is, ha1⟩ : ∃ y is, askP l0 ⟨q.f0, q.f1, q.f2⟩ = (y, is) := ⟨_, _, rfl⟩
        obtain ⟨mf, ha2, hml⟩ : ∃ mf, askP l0 ⟨lowS q.f0, q.f1, q.f2⟩ = (⟨mf, y.f1, y.f2⟩, is) ∧ lowS mf = lowS y.f0 := by
          have h := ask_low l0 ⟨q.f0, q.f1, q.f2⟩
          rw [ha1] at h
          obtain ⟨h1, h2, h3, h4⟩ := h
          refine ⟨(askP l0 (lowQ ⟨q.f0, q.f1, q.f2⟩)).1.f0, ?_, h2.symm⟩
          show askP l0 (lowQ ⟨q.f0, q.f1, q.f2⟩) = _
          generalize askP l0 (lowQ ⟨q.f0, q.f1, q.f2⟩) = m at h1 h3 h4 ⊢
          obtain ⟨⟨m0, m1, m2⟩, mb⟩ := m
          simp only at h1 h3 h4 ⊢
          rw [h1, h3, h4]
        have HA2 := Aside0.mk ha2
        have HML := Aside0.mk hml
        clear ha2 hml
        obtain ⟨n, t, cl⟩ := y
        simp only at HA2 HML
        cases is with
        | false =>
          have hy := askP_fail (l := l0) (q := ⟨q.f0, q.f1, q.f2⟩) (by rw [ha1])
          rw [ha1] at hy
          obtain ⟨rfl, rfl, rfl⟩ : n = ⟨#[]⟩ ∧ t = 0 ∧ cl = 0 := by
            have e := (Prod.mk.inj hy).1
            rw [z32_eq] at e
            injection e with e0 e1 e2
            exact ⟨e0, e1, e2⟩
          have HA1 := Aside0.mk ha1
          have HYS := Aside0.mk (show (⟨#[]⟩ : ByteArray).size ≤ 9223372036854775807 from by decide)
          have HMS := Aside0.mk (show mf.size ≤ 9223372036854775807 from by rw [← lowS_size, HML.out]; decide)
          clear ha1 hy
          go_enter Try.func8, Try.ntmps8
          go_wp2_with (first | (go_at_call 10; (with_reducible refine (hearsaylaw25_long.calls kl A0 c0 l0 false _ (Kd.C_alloc HR0.out _) HC0.out HKL.out).mono ?_); rintro e w1 ⟨rfl, hd1⟩; have hb1 := hd1.below; obtain ⟨x0, hB⟩ := FIN.out _ hb1; have X0 := Aside0.mk x0; have HB1 := Aside0.mk hB; clear hd1 hb1 x0 hB; have lt0 := X0.out.lt; have z0 := X0.out.cell 0 _ rfl; have z1 := X0.out.cell 1 _ rfl; have z2 := X0.out.cell 2 _ rfl) | (go_at_call 16; (with_reducible refine (ask_calls2 A0 c0 l0 q.f0 q.f1 q.f2 (⟨#[]⟩ : ByteArray) 0 0 false _ (Kd.C_below HR0.out HB1.out) HC0.out HA1.out).mono ?_); rintro e w2 ⟨rfl, hb2⟩; have X0b := Aside0.mk (X0.out.below hb2); have HB2 := Aside0.mk (HB1.out.trans (below_to hb2 HB1.out.size)); clear hb2 z0 z1 z2 lt0; have lt0 := X0b.out.lt; have z0 := X0b.out.cell 0 _ rfl; have z1 := X0b.out.cell 1 _ rfl; have z2 := X0b.out.cell 2 _ rfl) | (go_at_call 26; (with_reducible refine (hearsayref01_Fold.calls q.f0 (lowS q.f0) _ (rfold_f HQS.out rfl)).mono ?_); rintro e w3 ⟨rfl, hb3⟩; have X0c := Aside0.mk (((X0b.out.alloc (.cells #[.string (⟨#[]⟩ : ByteArray), .int .u16 0, .int .u16 0] 32)).alloc (.cells #[.string q.f0, .int .u16 q.f1, .int .u16 q.f2] 32)).below hb3); have X7 := Aside0.mk (((Bx.new w2 #[.string (⟨#[]⟩ : ByteArray), .int .u16 0, .int .u16 0] 32).alloc (.cells #[.string q.f0, .int .u16 q.f1, .int .u16 q.f2] 32)).below hb3); have X9 := Aside0.mk ((Bx.next (W := w2) (n := w2.heap.size + 1) (.cells #[.string (⟨#[]⟩ : ByteArray), .int .u16 0, .int .u16 0] 32) #[.string q.f0, .int .u16 q.f1, .int .u16 q.f2] 32 (by simp)).below hb3); have HB3 := Aside0.mk ((below_alloc (below_alloc HB2.out (.cells #[.string (⟨#[]⟩ : ByteArray), .int .u16 0, .int .u16 0] 32)) (.cells #[.string q.f0, .int .u16 q.f1, .int .u16 q.f2] 32)).trans (below_to hb3 (below_alloc (below_alloc HB2.out (.cells #[.string (⟨#[]⟩ : ByteArray), .int .u16 0, .int .u16 0] 32)) (.cells #[.string q.f0, .int .u16 q.f1, .int .u16 q.f2] 32)).size)); clear hb3 z0 z1 z2 lt0; have lt0 := X0c.out.lt; have lt7 := X7.out.lt; have lt9 := X9.out.lt; have f9 := X9.out.frozen 0; have cl0 := X9.out.cell 0 _ rfl; have cl1 := X9.out.cell 1 _ rfl; have cl2 := X9.out.cell 2 _ rfl) | (go_at_call 16; (with_reducible refine (ask_calls2 A0 c0 l0 (lowS q.f0) q.f1 q.f2 mf 0 0 false _ (Kd.C_below HR0.out (HB3.out.setCell (p := ⟨w2.heap.size + 1, 0, none⟩) (Nat.le_succ_of_le HB2.out.size) (.string (lowS q.f0)))) HC0.out HA2.out).mono ?_); rintro e w4 ⟨rfl, hb4⟩; have X0d := Aside0.mk ((X0c.out.other (B' := w2.heap.size + 1) (by have := X0b.out.lt; omega) 0 (.string (lowS q.f0))).below hb4); have X7d := Aside0.mk ((X7.out.other (B' := w2.heap.size + 1) (by omega) 0 (.string (lowS q.f0))).below hb4); have HB4 := Aside0.mk ((HB3.out.setCell (p := ⟨w2.heap.size + 1, 0, none⟩) (Nat.le_succ_of_le HB2.out.size) (.string (lowS q.f0))).trans (below_to hb4 (HB3.out.setCell (p := ⟨w2.heap.size + 1, 0, none⟩) (Nat.le_succ_of_le HB2.out.size) (.string (lowS q.f0))).size)); clear hb4 cl0 cl1 cl2 f9 lt0 lt7 lt9))
          have Z0' := Aside0.mk (X0d.out.alloc (.cells #[.string mf, .int .u16 0, .int .u16 0] 32))
          have Z7' := Aside0.mk (X7d.out.alloc (.cells #[.string mf, .int .u16 0, .int .u16 0] 32))
          have ZM' := Aside0.mk (Bx.new w4 #[.string mf, .int .u16 0, .int .u16 0] 32)
          have HB5' := Aside0.mk (below_alloc HB4.out (.cells #[.string mf, .int .u16 0, .int .u16 0] 32))
          generalize w4.alloc (.cells #[.string mf, .int .u16 0, .int .u16 0] 32) = w5 at Z0' Z7' ZM' HB5' ⊢
          have Z0 : Aside0 (Bx w5.drew w.heap.size #[.string q.f0, .int .u16 q.f1, .int .u16 q.f2] 32) := ⟨Z0'.out⟩
          have Z7 : Aside0 (Bx w5.drew w2.heap.size #[.string (⟨#[]⟩ : ByteArray), .int .u16 0, .int .u16 0] 32) := ⟨Z7'.out⟩
          have ZM : Aside0 (Bx w5.drew w4.heap.size #[.string mf, .int .u16 0, .int .u16 0] 32) := ⟨ZM'.out⟩
          have HB5 := Aside0.mk (below_drew HB5'.out)
          clear Z0' Z7' ZM' HB5'
          refine start_ (n := 26) (S := (fun w' => Below w5.drew.heap.size w5.drew w')) (ds := []) (bm_ 26 0) (by kernel_rfl) rfl rfl (Below.refl _ _) (fun hHeld => ?_)
          refine with_tabW turns.tab7 turns.bits7 (fun HT_ HW_ => ?_)
          refine pure_ (i := 0) (N := some 49) (v := ?_) (a' := ?_) (bm_ 26 1) rfl rfl (any_of HT_.out (by kernel_rfl)) (fun _ _ _ h => h) (Or.inl ⟨by rfl, ?_⟩) ?_ ?_
          rotate_left
          · intro w'
            go_simp
            with_reducible rfl
          rotate_left
          · simp only [Act.put, sA_, s0_, sS_, i64_w, i32_w]
            rfl
          refine pure_ (i := 1) (N := some 50) (v := ?_) (a' := ?_) (bm_ 26 3) rfl rfl (any_of HT_.out (by kernel_rfl)) (fun _ _ _ h => h) (Or.inl ⟨by rfl, ?_⟩) ?_ ?_
          rotate_left
          · intro w'
            go_simp
            with_reducible rfl
          rotate_left
          · simp only [Act.put, sA_, s0_, sS_, i64_w, i32_w]
            rfl
          refine pure_ (i := 2) (N := some 51) (v := ?_) (a' := ?_) (bm_ 26 7) rfl rfl (any_of HT_.out (by kernel_rfl)) (fun _ _ _ h => h) (Or.inl ⟨by rfl, ?_⟩) ?_ ?_
          rotate_left
          · intro w'
            go_simp
            with_reducible rfl
          rotate_left
          · simp only [Act.put, sA_, s0_, sS_, i64_w, i32_w]
            rfl
          refine pure_ (i := 3) (N := some 52) (v := ?_) (a' := ?_) (bm_ 26 15) rfl rfl (any_of HT_.out (by kernel_rfl)) (fun _ _ _ h => h) (Or.inl ⟨by rfl, ?_⟩) ?_ ?_
          rotate_left
          · intro w'
            go_simp
            with_reducible rfl
          rotate_left
          · simp only [Act.put, sA_, s0_, sS_, i64_w, i32_w]
            rfl
          refine pure_ (i := 4) (N := some 53) (v := ?_) (a' := ?_) (bm_ 26 31) rfl rfl (any_of HT_.out (by kernel_rfl)) (fun _ _ _ h => h) (Or.inl ⟨by rfl, ?_⟩) ?_ ?_
          rotate_left
          · intro w'
            go_simp
            with_reducible rfl
          rotate_left
          · simp only [Act.put, sA_, s0_, sS_, i64_w, i32_w]
            rfl
          refine take_ (i := 5) (N := some 54) (v := ?_) (a' := ?_) (bm_ 26 63) rfl rfl (take_ofW HT_.out HW_.out (by kernel_rfl)) (fun _ _ _ h => h) (Or.inl ⟨by rfl, ?_⟩) hHeld ?_ ?_
          rotate_left
          · rintro w' hs
            have b_ := Bx.blw Z7.out hs Z7.out.lt; have c_0 := b_.cell 0 _ rfl; have c_1 := b_.cell 1 _ rfl; have c_2 := b_.cell 2 _ rfl; go_simp
            with_reducible rfl
          rotate_left
          · simp only [Act.put, sA_, s0_, sS_, i64_w, i32_w]
            rfl
          refine pure_ (i := 7) (N := some 56) (v := ?_) (a' := ?_) (bm_ 26 191) rfl rfl (any_of HT_.out (by kernel_rfl)) (fun _ _ _ h => h) (Or.inl ⟨by rfl, ?_⟩) ?_ ?_
          rotate_left
          · intro w'
            go_simp
            with_reducible rfl
          rotate_left
          · simp only [Act.put, sA_, s0_, sS_, i64_w, i32_w]
            rfl
          refine take_ (i := 8) (N := some 57) (v := ?_) (a' := ?_) (bm_ 26 447) rfl rfl (take_ofW HT_.out HW_.out (by kernel_rfl)) (fun _ _ _ h => h) (Or.inl ⟨by rfl, ?_⟩) hHeld ?_ ?_
          rotate_left
          · rintro w' hs
            have b_ := Bx.blw ZM.out hs ZM.out.lt; have c_0 := b_.cell 0 _ rfl; have c_1 := b_.cell 1 _ rfl; have c_2 := b_.cell 2 _ rfl; go_simp
            with_reducible rfl
          rotate_left
          · simp only [Act.put, sA_, s0_, sS_, i64_w, i32_w]
            rfl
          refine one_ (i := 6) (N := some 55) (bm_ 26 511) rfl rfl (one_of HT_.out (by kernel_rfl)) (by decide) (fun K hK => ?_)
          refine goes_ Try.func26 (by kernel_rfl) rfl #[.string (⟨#[]⟩ : ByteArray)] (by rfl) rfl rfl (by (try simp only [List.map_toArray, List.map_cons, List.map_nil]); first | done | rfl) ?_
          (with_reducible refine (hearsayref01_Fold.calls (⟨#[]⟩ : ByteArray) (lowS (⟨#[]⟩ : ByteArray)) _ (rfold_f HYS.out rfl)).mono ?_)
          rintro e wf1 ⟨rfl, hbf⟩
          refine ⟨_, rfl, ?_⟩
          refine hK.out _ _ (hHeld.trans (below_to hbf hHeld.size)) (fun hHeld => ?_)
          clear hK K
          refine norm_ (a' := ?_) ?_ ?_
          rotate_left
          · show Act.put _ (some 55) _ = _
            simp only [Act.put, sA_, s0_, sS_, i64_w, i32_w]
            rfl
          refine one_ (i := 9) (N := some 58) (bm_ 26 1023) rfl rfl (one_of HT_.out (by kernel_rfl)) (by decide) (fun K hK => ?_)
          refine goes_ Try.func26 (by kernel_rfl) rfl #[.string mf] (by rfl) rfl rfl (by (try simp only [List.map_toArray, List.map_cons, List.map_nil]); first | done | rfl) ?_
          (with_reducible refine (hearsayref01_Fold.calls mf (lowS (⟨#[]⟩ : ByteArray)) _ (rfold_f HMS.out HML.out)).mono ?_)
          rintro e wf2 ⟨rfl, hbf⟩
          refine ⟨_, rfl, ?_⟩
          refine hK.out _ _ (hHeld.trans (below_to hbf hHeld.size)) (fun hHeld => ?_)
          clear hK K
          refine norm_ (a' := ?_) ?_ ?_
          rotate_left
          · show Act.put _ (some 58) _ = _
            simp only [Act.put, sA_, s0_, sS_, i64_w, i32_w]
            rfl
          refine pure_ (i := 10) (N := some 59) (v := ?_) (a' := ?_) (bm_ 26 2047) rfl rfl (any_of HT_.out (by kernel_rfl)) (fun _ _ _ h => h) (Or.inl ⟨by rfl, ?_⟩) ?_ ?_
          rotate_left
          · intro w'
            go_simp
            with_reducible rfl
          rotate_left
          · simp only [Act.put, sA_, s0_, sS_, i64_w, i32_w]
            rfl
          refine pure_ (i := 11) (N := some 60) (v := ?_) (a' := ?_) (bm_ 26 4095) rfl rfl (any_of HT_.out (by kernel_rfl)) (fun _ _ _ h => h) (Or.inl ⟨by rfl, ?_⟩) ?_ ?_
          rotate_left
          · intro w'
            go_simp
            with_reducible rfl
          rotate_left
          · simp only [Act.put, sA_, s0_, sS_, i64_w, i32_w]
            rfl
          refine pure_ (i := 12) (N := some 61) (v := ?_) (a' := ?_) (bm_ 26 8191) rfl rfl (any_of HT_.out (by kernel_rfl)) (fun _ _ _ h => h) (Or.inl ⟨by rfl, ?_⟩) ?_ ?_
          rotate_left
          · intro w'
            go_simp
            with_reducible rfl
          rotate_left
          · simp only [Act.put, sA_, s0_, sS_, i64_w, i32_w]
            rfl
          refine pure_ (i := 13) (N := some 62) (v := ?_) (a' := ?_) (bm_ 26 16383) rfl rfl (any_of HT_.out (by kernel_rfl)) (fun _ _ _ h => h) (Or.inl ⟨by rfl, ?_⟩) ?_ ?_
          rotate_left
          · intro w'
            go_simp
            with_reducible rfl
          rotate_left
          · simp only [Act.put, sA_, s0_, sS_, i64_w, i32_w]
            rfl
          refine take_ (i := 14) (N := some 63) (v := ?_) (a' := ?_) (bm_ 26 32767) rfl rfl (take_ofW HT_.out HW_.out (by kernel_rfl)) (fun _ _ _ h => h) (Or.inl ⟨by rfl, ?_⟩) hHeld ?_ ?_
          rotate_left
          · rintro w' hs
            have b_ := Bx.blw Z7.out hs Z7.out.lt; have c_0 := b_.cell 0 _ rfl; have c_1 := b_.cell 1 _ rfl; have c_2 := b_.cell 2 _ rfl; go_simp
            with_reducible rfl
          rotate_left
          · simp only [Act.put, sA_, s0_, sS_, i64_w, i32_w]
            rfl
          refine pure_ (i := 15) (N := some 64) (v := ?_) (a' := ?_) (bm_ 26 65535) rfl rfl (any_of HT_.out (by kernel_rfl)) (fun _ _ _ h => h) (Or.inl ⟨by rfl, ?_⟩) ?_ ?_
          rotate_left
          · intro w'
            go_simp
            with_reducible rfl
          rotate_left
          · simp only [Act.put, sA_, s0_, sS_, i64_w, i32_w]
            rfl
          refine take_ (i := 16) (N := some 65) (v := ?_) (a' := ?_) (bm_ 26 131071) rfl rfl (take_ofW HT_.out HW_.out (by kernel_rfl)) (fun _ _ _ h => h) (Or.inl ⟨by rfl, ?_⟩) hHeld ?_ ?_
          rotate_left
          · rintro w' hs
            have b_ := Bx.blw ZM.out hs ZM.out.lt; have c_0 := b_.cell 0 _ rfl; have c_1 := b_.cell 1 _ rfl; have c_2 := b_.cell 2 _ rfl; go_simp
            with_reducible rfl
          rotate_left
          · simp only [Act.put, sA_, s0_, sS_, i64_w, i32_w]
            rfl
          refine pure_ (i := 17) (N := some 66) (v := ?_) (a' := ?_) (bm_ 26 262143) rfl rfl (any_of HT_.out (by kernel_rfl)) (fun _ _ _ h => h) (Or.inl ⟨by rfl, ?_⟩) ?_ ?_
          rotate_left
          · intro w'
            go_simp
            with_reducible rfl
          rotate_left
          · simp only [Act.put, sA_, s0_, sS_, i64_w, i32_w]
            rfl
          refine pure_ (i := 18) (N := some 67) (v := ?_) (a' := ?_) (bm_ 26 524287) rfl rfl (any_of HT_.out (by kernel_rfl)) (fun _ _ _ h => h) (Or.inl ⟨by rfl, ?_⟩) ?_ ?_
          rotate_left
          · intro w'
            go_simp
            with_reducible rfl
          rotate_left
          · simp only [Act.put, sA_, s0_, sS_, i64_w, i32_w]
            rfl
          refine pure_ (i := 19) (N := some 68) (v := ?_) (a' := ?_) (bm_ 26 1048575) rfl rfl (any_of HT_.out (by kernel_rfl)) (fun _ _ _ h => h) (Or.inl ⟨by rfl, ?_⟩) ?_ ?_
          rotate_left
          · intro w'
            go_simp
            with_reducible rfl
          rotate_left
          · simp only [Act.put, sA_, s0_, sS_, i64_w, i32_w]
            rfl
          refine pure_ (i := 20) (N := some 69) (v := ?_) (a' := ?_) (bm_ 26 2097151) rfl rfl (any_of HT_.out (by kernel_rfl)) (fun _ _ _ h => h) (Or.inl ⟨by rfl, ?_⟩) ?_ ?_
          rotate_left
          · intro w'
            go_simp
            with_reducible rfl
          rotate_left
          · simp only [Act.put, sA_, s0_, sS_, i64_w, i32_w]
            rfl
          refine take_ (i := 21) (N := some 70) (v := ?_) (a' := ?_) (bm_ 26 4194303) rfl rfl (take_ofW HT_.out HW_.out (by kernel_rfl)) (fun _ _ _ h => h) (Or.inl ⟨by rfl, ?_⟩) hHeld ?_ ?_
          rotate_left
          · rintro w' hs
            have b_ := Bx.blw Z7.out hs Z7.out.lt; have c_0 := b_.cell 0 _ rfl; have c_1 := b_.cell 1 _ rfl; have c_2 := b_.cell 2 _ rfl; go_simp
            with_reducible rfl
          rotate_left
          · simp only [Act.put, sA_, s0_, sS_, i64_w, i32_w]
            rfl
          refine pure_ (i := 22) (N := some 71) (v := ?_) (a' := ?_) (bm_ 26 8388607) rfl rfl (any_of HT_.out (by kernel_rfl)) (fun _ _ _ h => h) (Or.inl ⟨by rfl, ?_⟩) ?_ ?_
          rotate_left
          · intro w'
            go_simp
            with_reducible rfl
          rotate_left
          · simp only [Act.put, sA_, s0_, sS_, i64_w, i32_w]
            rfl
          refine take_ (i := 23) (N := some 72) (v := ?_) (a' := ?_) (bm_ 26 16777215) rfl rfl (take_ofW HT_.out HW_.out (by kernel_rfl)) (fun _ _ _ h => h) (Or.inl ⟨by rfl, ?_⟩) hHeld ?_ ?_
          rotate_left
          · rintro w' hs
            have b_ := Bx.blw ZM.out hs ZM.out.lt; have c_0 := b_.cell 0 _ rfl; have c_1 := b_.cell 1 _ rfl; have c_2 := b_.cell 2 _ rfl; go_simp
            with_reducible rfl
          rotate_left
          · simp only [Act.put, sA_, s0_, sS_, i64_w, i32_w]
            rfl
          refine pure_ (i := 24) (N := some 73) (v := ?_) (a' := ?_) (bm_ 26 33554431) rfl rfl (any_of HT_.out (by kernel_rfl)) (fun _ _ _ h => h) (Or.inl ⟨by rfl, ?_⟩) ?_ ?_
          rotate_left
          · intro w'
            go_simp
            with_reducible rfl
          rotate_left
          · simp only [Act.put, sA_, s0_, sS_, i64_w, i32_w]
            rfl
          refine pure_ (i := 25) (N := some 74) (v := ?_) (a' := ?_) (bm_ 26 67108863) rfl rfl (any_of HT_.out (by kernel_rfl)) (fun _ _ _ h => h) (Or.inl ⟨by rfl, ?_⟩) ?_ ?_
          rotate_left
          · intro w'
            go_simp
            with_reducible rfl
          rotate_left
          · simp only [Act.put, sA_, s0_, sS_, i64_w, i32_w]
            rfl
          refine done_ (done_of HT_.out (by kernel_rfl)) ?_
          have X0e := Aside0.mk (Bx.blw Z0.out hHeld Z0.out.lt)
          have X7e := Aside0.mk (Bx.blw Z7.out hHeld Z7.out.lt)
          have HB6 := Aside0.mk (HB5.out.trans (below_to hHeld HB5.out.size))
          clear hHeld Z0 Z7 ZM HB5
          have p0 := X0e.out.cell 0 _ rfl; have p1 := X0e.out.cell 1 _ rfl; have p2 := X0e.out.cell 2 _ rfl
          have y0 := X7e.out.cell 0 _ rfl; have y1 := X7e.out.cell 1 _ rfl; have y2 := X7e.out.cell 2 _ rfl
          have lt0 := X0e.out.lt
          have lt7 := X7e.out.lt
          go_wp2_with (first | (go_at_call 15; refine (hearsaylaw25_asks.calls true _ asks_f).mono ?_; rintro e w8 ⟨rfl, hb8⟩; have HB8 := Aside0.mk (HB6.out.trans (below_to hb8 HB6.out.size)); clear hb8))
          go_ret
          exact ⟨rfl, HB8.out⟩
        | true =>
          obtain ⟨yg, yc, yt⟩ := ask_good (l := l0) (q := ⟨q.f0, q.f1, q.f2⟩) (by rw [ha1])
          rw [ha1] at yg yc yt
          simp only at yg yc yt
          subst yc
          by_cases ht : t = q.f1
          · subst ht
            exact turns_a A0 c0 l0 q A2 c2 l2 w kl HKL.out HR0.out HC0.out HR2.out HC2.out HS.out g1 g2 n mf ha1 HA2.out HML.out yg
          · have hn := yt.resolve_left ht
            exact turns_b A0 c0 l0 q A2 c2 l2 w kl HKL.out HR0.out HC0.out HR2.out HC2.out HS.out g1 g2 n t mf ha1 HA2.out HML.out yg ht (by rw [hn]; simp)
end Go.Proofs.Ytfcmphigmfdceaa.Print
