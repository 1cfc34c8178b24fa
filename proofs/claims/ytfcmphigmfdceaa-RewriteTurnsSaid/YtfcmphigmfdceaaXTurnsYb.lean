/- The statement RewriteTurns, walked. -/
import Derived.Test.YtfcmphigmfdceaaXTurnsM
namespace Go.Proofs.Ytfcmphigmfdceaa.Print
open Go.RowKit Go.Proofs.YtfcmphigmfdceaaW.PrintWords Go.Proofs.YtfcmphigmfdceaaW.PrintLast Go.Proofs.YtfcmphigmfdceaaW.PrintMore
set_option linter.unusedVariables false
set_option linter.unusedSimpArgs false
attribute [local go_sem high] eqA57
set_option maxHeartbeats 100000000 in
set_option maxRecDepth 100000 in
theorem turns_b (A0 : Option Addr) (c0 : Nat) (l0 : List S38) (q : S32) (A2 : Option Addr) (c2 : Nat) (l2 : List S59) (w : World) (kl : Nat) (hkl : hearsaylaw25_long.f kl l0 = some false)
    (hr0 : Kd.C k38 w A0 l0.length l0) (hc0 : l0.length ≤ c0) (hr2 : Kd.C k59 w A2 l2.length l2) (hc2 : l2.length ≤ c2) (hs : ∀ r ∈ l2, r.f0.size ≤ 9223372036854775807) (g1 : ¬ 2000 < q.f0.size) (g2 : ¬ 50 < l2.length)
    (n : ByteArray) (t : Int) (mf : ByteArray) (ha1 : askP l0 ⟨q.f0, q.f1, q.f2⟩ = (⟨n, t, q.f2⟩, true)) (ha2 : askP l0 ⟨lowS q.f0, q.f1, q.f2⟩ = (⟨mf, t, q.f2⟩, true)) (hml : lowS mf = lowS n) (yg : (dec n).isSome = true) (htn : ¬ t = q.f1) (hnq : (n.toList == q.f0.toList) = true) :
    Calls Try.prog 8 #[.slice A0 l0.length c0, .agg #[.string q.f0, .int .u16 q.f1, .int .u16 q.f2], .slice A2 l2.length c2] w fun e w' => e = .returned (.bool true) ∧ Below w.heap.size w w' := by
  have HKL := Aside0.mk hkl
  have HR0 := Aside0.mk hr0
  have HC0 := Aside0.mk hc0
  have HR2 := Aside0.mk hr2
  have HC2 := Aside0.mk hc2
  have HS := Aside0.mk hs
  have m2 : l2.length ≤ 9223372036854775807 := Kd.C_max hr2
  clear hkl hr0 hr2 hc0 hc2 hs
  have fin : ∀ w2, Below (w.alloc (.cells #[.string q.f0, .int .u16 q.f1, .int .u16 q.f2] 32)).heap.size (w.alloc (.cells #[.string q.f0, .int .u16 q.f1, .int .u16 q.f2] 32)) w2 → Bx w2 w.heap.size #[.string q.f0, .int .u16 q.f1, .int .u16 q.f2] 32 ∧ Below w.heap.size w w2 := by
    intro w2 hb
    exact ⟨Bx.below (Bx.new w _ _) hb, (below_alloc (Below.refl w.heap.size w) _).trans (below_to hb (by simp))⟩
  have FIN := Aside0.mk fin
  clear fin
  have g1' : ¬ (2000 : Int) < (q.f0.size : Int) := by omega
  have g1'' : decide ((2000 : Int) < (q.f0.size : Int)) = false := decide_eq_false g1'
  have g2' : ¬ (50 : Int) < (l2.length : Int) := by omega
  have g2'' : decide ((50 : Int) < (l2.length : Int)) = false := decide_eq_false g2'
  have HQS := Aside0.mk (show q.f0.size ≤ 9223372036854775807 by omega)
  have HL2 := Aside0.mk (show l2.length ≤ 50 by omega)
  have HYS := Aside0.mk (show n.size ≤ 9223372036854775807 from by
    obtain ⟨L, hL⟩ := Option.isSome_iff_exists.1 yg
    have := (dec_some hL).1; omega)
  have HMS := Aside0.mk (show mf.size ≤ 9223372036854775807 from by rw [← lowS_size, hml, lowS_size]; exact HYS.out)
  have HA1 := Aside0.mk ha1
  have HA2 := Aside0.mk ha2
  have HML := Aside0.mk hml
  obtain ⟨ki, hki⟩ := (is_f n).rounds
  rw [yg] at hki
  have HKI := Aside0.mk hki
  clear ha1 ha2 hml yg hki g1 g2
  go_enter Try.func8, Try.ntmps8
  go_wp2_with (first | (go_at_call 10; (with_reducible refine (hearsaylaw25_long.calls kl A0 c0 l0 false _ (Kd.C_alloc HR0.out _) HC0.out HKL.out).mono ?_); rintro e w1 ⟨rfl, hd1⟩; have hb1 := hd1.below; obtain ⟨x0, hB⟩ := FIN.out _ hb1; have X0 := Aside0.mk x0; have HB1 := Aside0.mk hB; clear hd1 hb1 x0 hB; have lt0 := X0.out.lt; have z0 := X0.out.cell 0 _ rfl; have z1 := X0.out.cell 1 _ rfl; have z2 := X0.out.cell 2 _ rfl) | (go_at_call 16; (with_reducible refine (ask_calls2 A0 c0 l0 q.f0 q.f1 q.f2 n t q.f2 true _ (Kd.C_below HR0.out HB1.out) HC0.out HA1.out).mono ?_); rintro e w2 ⟨rfl, hb2⟩; have X0b := Aside0.mk (X0.out.below hb2); have HB2 := Aside0.mk (HB1.out.trans (below_to hb2 HB1.out.size)); clear hb2 z0 z1 z2 lt0; have lt0 := X0b.out.lt; have z0 := X0b.out.cell 0 _ rfl; have z1 := X0b.out.cell 1 _ rfl; have z2 := X0b.out.cell 2 _ rfl) | (go_at_call 26; (with_reducible refine (hearsayref01_Fold.calls q.f0 (lowS q.f0) _ (rfold_f HQS.out rfl)).mono ?_); rintro e w3 ⟨rfl, hb3⟩; have X0c := Aside0.mk (((X0b.out.alloc (.cells #[.string n, .int .u16 t, .int .u16 q.f2] 32)).alloc (.cells #[.string q.f0, .int .u16 q.f1, .int .u16 q.f2] 32)).below hb3); have X7 := Aside0.mk (((Bx.new w2 #[.string n, .int .u16 t, .int .u16 q.f2] 32).alloc (.cells #[.string q.f0, .int .u16 q.f1, .int .u16 q.f2] 32)).below hb3); have X9 := Aside0.mk ((Bx.next (W := w2) (n := w2.heap.size + 1) (.cells #[.string n, .int .u16 t, .int .u16 q.f2] 32) #[.string q.f0, .int .u16 q.f1, .int .u16 q.f2] 32 (by simp)).below hb3); have HB3 := Aside0.mk ((below_alloc (below_alloc HB2.out (.cells #[.string n, .int .u16 t, .int .u16 q.f2] 32)) (.cells #[.string q.f0, .int .u16 q.f1, .int .u16 q.f2] 32)).trans (below_to hb3 (below_alloc (below_alloc HB2.out (.cells #[.string n, .int .u16 t, .int .u16 q.f2] 32)) (.cells #[.string q.f0, .int .u16 q.f1, .int .u16 q.f2] 32)).size)); clear hb3 z0 z1 z2 lt0; have lt0 := X0c.out.lt; have lt7 := X7.out.lt; have lt9 := X9.out.lt; have f9 := X9.out.frozen 0; have cl0 := X9.out.cell 0 _ rfl; have cl1 := X9.out.cell 1 _ rfl; have cl2 := X9.out.cell 2 _ rfl) | (go_at_call 16; (with_reducible refine (ask_calls2 A0 c0 l0 (lowS q.f0) q.f1 q.f2 mf t q.f2 true _ (Kd.C_below HR0.out (HB3.out.setCell (p := ⟨w2.heap.size + 1, 0, none⟩) (Nat.le_succ_of_le HB2.out.size) (.string (lowS q.f0)))) HC0.out HA2.out).mono ?_); rintro e w4 ⟨rfl, hb4⟩; have X0d := Aside0.mk ((X0c.out.other (B' := w2.heap.size + 1) (by have := X0b.out.lt; omega) 0 (.string (lowS q.f0))).below hb4); have X7d := Aside0.mk ((X7.out.other (B' := w2.heap.size + 1) (by omega) 0 (.string (lowS q.f0))).below hb4); have HB4 := Aside0.mk ((HB3.out.setCell (p := ⟨w2.heap.size + 1, 0, none⟩) (Nat.le_succ_of_le HB2.out.size) (.string (lowS q.f0))).trans (below_to hb4 (HB3.out.setCell (p := ⟨w2.heap.size + 1, 0, none⟩) (Nat.le_succ_of_le HB2.out.size) (.string (lowS q.f0))).size)); clear hb4 cl0 cl1 cl2 f9 lt0 lt7 lt9))
  have Z0' := Aside0.mk (X0d.out.alloc (.cells #[.string mf, .int .u16 t, .int .u16 q.f2] 32))
  have Z7' := Aside0.mk (X7d.out.alloc (.cells #[.string mf, .int .u16 t, .int .u16 q.f2] 32))
  have ZM' := Aside0.mk (Bx.new w4 #[.string mf, .int .u16 t, .int .u16 q.f2] 32)
  have HB5' := Aside0.mk (below_alloc HB4.out (.cells #[.string mf, .int .u16 t, .int .u16 q.f2] 32))
  generalize w4.alloc (.cells #[.string mf, .int .u16 t, .int .u16 q.f2] 32) = w5 at Z0' Z7' ZM' HB5' ⊢
  have Z0 : Aside0 (Bx w5.drew w.heap.size #[.string q.f0, .int .u16 q.f1, .int .u16 q.f2] 32) := ⟨Z0'.out⟩
  have Z7 : Aside0 (Bx w5.drew w2.heap.size #[.string n, .int .u16 t, .int .u16 q.f2] 32) := ⟨Z7'.out⟩
  have ZM : Aside0 (Bx w5.drew w4.heap.size #[.string mf, .int .u16 t, .int .u16 q.f2] 32) := ⟨ZM'.out⟩
  have HB5 := Aside0.mk (below_drew HB5'.out)
  clear Z0' Z7' ZM' HB5'
  refine start_ (n := 26) (S := (fun w' => Below w5.drew.heap.size w5.drew w')) (ds := []) (bm_ 26 0) (by kernel_rfl) rfl rfl (Below.refl _ _) (fun hHeld => ?_)
  refine with_tabW turns.tab7 turns.bits7 (fun HT_ HW_ => ?_)
  refine pure_ (i := 0) (N := some 49) (v := ?_) (a' := ?_) (bm_ 26 1) rfl rfl (any_of HT_.out (by kernel_rfl)) (fun _ _ _ h => h) (Or.inl ⟨by rfl, ?_⟩) ?_ ?_
  rotate_left
  · intro w'
    go_simp
    with_reducible rfl
  rotate_left
  · simp only [Act.put, sA_, s0_, sS_, i64_w, i32_w]
    rfl
  refine pure_ (i := 1) (N := some 50) (v := ?_) (a' := ?_) (bm_ 26 3) rfl rfl (any_of HT_.out (by kernel_rfl)) (fun _ _ _ h => h) (Or.inl ⟨by rfl, ?_⟩) ?_ ?_
  rotate_left
  · intro w'
    go_simp
    with_reducible rfl
  rotate_left
  · simp only [Act.put, sA_, s0_, sS_, i64_w, i32_w]
    rfl
  refine pure_ (i := 2) (N := some 51) (v := ?_) (a' := ?_) (bm_ 26 7) rfl rfl (any_of HT_.out (by kernel_rfl)) (fun _ _ _ h => h) (Or.inl ⟨by rfl, ?_⟩) ?_ ?_
  rotate_left
  · intro w'
    go_simp
    with_reducible rfl
  rotate_left
  · simp only [Act.put, sA_, s0_, sS_, i64_w, i32_w]
    rfl
  refine pure_ (i := 3) (N := some 52) (v := ?_) (a' := ?_) (bm_ 26 15) rfl rfl (any_of HT_.out (by kernel_rfl)) (fun _ _ _ h => h) (Or.inl ⟨by rfl, ?_⟩) ?_ ?_
  rotate_left
  · intro w'
    go_simp
    with_reducible rfl
  rotate_left
  · simp only [Act.put, sA_, s0_, sS_, i64_w, i32_w]
    rfl
  refine pure_ (i := 4) (N := some 53) (v := ?_) (a' := ?_) (bm_ 26 31) rfl rfl (any_of HT_.out (by kernel_rfl)) (fun _ _ _ h => h) (Or.inl ⟨by rfl, ?_⟩) ?_ ?_
  rotate_left
  · intro w'
    go_simp
    with_reducible rfl
  rotate_left
  · simp only [Act.put, sA_, s0_, sS_, i64_w, i32_w]
    rfl
  refine take_ (i := 5) (N := some 54) (v := ?_) (a' := ?_) (bm_ 26 63) rfl rfl (take_ofW HT_.out HW_.out (by kernel_rfl)) (fun _ _ _ h => h) (Or.inl ⟨by rfl, ?_⟩) hHeld ?_ ?_
  rotate_left
  · rintro w' hs
    have b_ := Bx.blw Z7.out hs Z7.out.lt; have c_0 := b_.cell 0 _ rfl; have c_1 := b_.cell 1 _ rfl; have c_2 := b_.cell 2 _ rfl; go_simp
    with_reducible rfl
  rotate_left
  · simp only [Act.put, sA_, s0_, sS_, i64_w, i32_w]
    rfl
  refine pure_ (i := 7) (N := some 56) (v := ?_) (a' := ?_) (bm_ 26 191) rfl rfl (any_of HT_.out (by kernel_rfl)) (fun _ _ _ h => h) (Or.inl ⟨by rfl, ?_⟩) ?_ ?_
  rotate_left
  · intro w'
    go_simp
    with_reducible rfl
  rotate_left
  · simp only [Act.put, sA_, s0_, sS_, i64_w, i32_w]
    rfl
  refine take_ (i := 8) (N := some 57) (v := ?_) (a' := ?_) (bm_ 26 447) rfl rfl (take_ofW HT_.out HW_.out (by kernel_rfl)) (fun _ _ _ h => h) (Or.inl ⟨by rfl, ?_⟩) hHeld ?_ ?_
  rotate_left
  · rintro w' hs
    have b_ := Bx.blw ZM.out hs ZM.out.lt; have c_0 := b_.cell 0 _ rfl; have c_1 := b_.cell 1 _ rfl; have c_2 := b_.cell 2 _ rfl; go_simp
    with_reducible rfl
  rotate_left
  · simp only [Act.put, sA_, s0_, sS_, i64_w, i32_w]
    rfl
  refine one_ (i := 6) (N := some 55) (bm_ 26 511) rfl rfl (one_of HT_.out (by kernel_rfl)) (by decide) (fun K hK => ?_)
  refine goes_ Try.func26 (by kernel_rfl) rfl #[.string n] (by rfl) rfl rfl (by (try simp only [List.map_toArray, List.map_cons, List.map_nil]); first | done | rfl) ?_
  (with_reducible refine (hearsayref01_Fold.calls n (lowS n) _ (rfold_f HYS.out rfl)).mono ?_)
  rintro e wf1 ⟨rfl, hbf⟩
  refine ⟨_, rfl, ?_⟩
  refine hK.out _ _ (hHeld.trans (below_to hbf hHeld.size)) (fun hHeld => ?_)
  clear hK K
  refine norm_ (a' := ?_) ?_ ?_
  rotate_left
  · show Act.put _ (some 55) _ = _
    simp only [Act.put, sA_, s0_, sS_, i64_w, i32_w]
    rfl
  refine one_ (i := 9) (N := some 58) (bm_ 26 1023) rfl rfl (one_of HT_.out (by kernel_rfl)) (by decide) (fun K hK => ?_)
  refine goes_ Try.func26 (by kernel_rfl) rfl #[.string mf] (by rfl) rfl rfl (by (try simp only [List.map_toArray, List.map_cons, List.map_nil]); first | done | rfl) ?_
  (with_reducible refine (hearsayref01_Fold.calls mf (lowS n) _ (rfold_f HMS.out HML.out)).mono ?_)
  rintro e wf2 ⟨rfl, hbf⟩
  refine ⟨_, rfl, ?_⟩
  refine hK.out _ _ (hHeld.trans (below_to hbf hHeld.size)) (fun hHeld => ?_)
  clear hK K
  refine norm_ (a' := ?_) ?_ ?_
  rotate_left
  · show Act.put _ (some 58) _ = _
    simp only [Act.put, sA_, s0_, sS_, i64_w, i32_w]
    rfl
  refine pure_ (i := 10) (N := some 59) (v := ?_) (a' := ?_) (bm_ 26 2047) rfl rfl (any_of HT_.out (by kernel_rfl)) (fun _ _ _ h => h) (Or.inl ⟨by rfl, ?_⟩) ?_ ?_
  rotate_left
  · intro w'
    go_simp
    with_reducible rfl
  rotate_left
  · simp only [Act.put, sA_, s0_, sS_, i64_w, i32_w]
    rfl
  refine pure_ (i := 11) (N := some 60) (v := ?_) (a' := ?_) (bm_ 26 4095) rfl rfl (any_of HT_.out (by kernel_rfl)) (fun _ _ _ h => h) (Or.inl ⟨by rfl, ?_⟩) ?_ ?_
  rotate_left
  · intro w'
    go_simp
    with_reducible rfl
  rotate_left
  · simp only [Act.put, sA_, s0_, sS_, i64_w, i32_w]
    rfl
  refine pure_ (i := 12) (N := some 61) (v := ?_) (a' := ?_) (bm_ 26 8191) rfl rfl (any_of HT_.out (by kernel_rfl)) (fun _ _ _ h => h) (Or.inl ⟨by rfl, ?_⟩) ?_ ?_
  rotate_left
  · intro w'
    go_simp
    with_reducible rfl
  rotate_left
  · simp only [Act.put, sA_, s0_, sS_, i64_w, i32_w]
    rfl
  refine pure_ (i := 13) (N := some 62) (v := ?_) (a' := ?_) (bm_ 26 16383) rfl rfl (any_of HT_.out (by kernel_rfl)) (fun _ _ _ h => h) (Or.inl ⟨by rfl, ?_⟩) ?_ ?_
  rotate_left
  · intro w'
    go_simp
    with_reducible rfl
  rotate_left
  · simp only [Act.put, sA_, s0_, sS_, i64_w, i32_w]
    rfl
  refine take_ (i := 14) (N := some 63) (v := ?_) (a' := ?_) (bm_ 26 32767) rfl rfl (take_ofW HT_.out HW_.out (by kernel_rfl)) (fun _ _ _ h => h) (Or.inl ⟨by rfl, ?_⟩) hHeld ?_ ?_
  rotate_left
  · rintro w' hs
    have b_ := Bx.blw Z7.out hs Z7.out.lt; have c_0 := b_.cell 0 _ rfl; have c_1 := b_.cell 1 _ rfl; have c_2 := b_.cell 2 _ rfl; go_simp
    with_reducible rfl
  rotate_left
  · simp only [Act.put, sA_, s0_, sS_, i64_w, i32_w]
    rfl
  refine pure_ (i := 15) (N := some 64) (v := ?_) (a' := ?_) (bm_ 26 65535) rfl rfl (any_of HT_.out (by kernel_rfl)) (fun _ _ _ h => h) (Or.inl ⟨by rfl, ?_⟩) ?_ ?_
  rotate_left
  · intro w'
    go_simp
    with_reducible rfl
  rotate_left
  · simp only [Act.put, sA_, s0_, sS_, i64_w, i32_w]
    rfl
  refine take_ (i := 16) (N := some 65) (v := ?_) (a' := ?_) (bm_ 26 131071) rfl rfl (take_ofW HT_.out HW_.out (by kernel_rfl)) (fun _ _ _ h => h) (Or.inl ⟨by rfl, ?_⟩) hHeld ?_ ?_
  rotate_left
  · rintro w' hs
    have b_ := Bx.blw ZM.out hs ZM.out.lt; have c_0 := b_.cell 0 _ rfl; have c_1 := b_.cell 1 _ rfl; have c_2 := b_.cell 2 _ rfl; go_simp
    with_reducible rfl
  rotate_left
  · simp only [Act.put, sA_, s0_, sS_, i64_w, i32_w]
    rfl
  refine pure_ (i := 17) (N := some 66) (v := ?_) (a' := ?_) (bm_ 26 262143) rfl rfl (any_of HT_.out (by kernel_rfl)) (fun _ _ _ h => h) (Or.inl ⟨by rfl, ?_⟩) ?_ ?_
  rotate_left
  · intro w'
    go_simp
    with_reducible rfl
  rotate_left
  · simp only [Act.put, sA_, s0_, sS_, i64_w, i32_w]
    rfl
  refine pure_ (i := 18) (N := some 67) (v := ?_) (a' := ?_) (bm_ 26 524287) rfl rfl (any_of HT_.out (by kernel_rfl)) (fun _ _ _ h => h) (Or.inl ⟨by rfl, ?_⟩) ?_ ?_
  rotate_left
  · intro w'
    go_simp
    with_reducible rfl
  rotate_left
  · simp only [Act.put, sA_, s0_, sS_, i64_w, i32_w]
    rfl
  refine pure_ (i := 19) (N := some 68) (v := ?_) (a' := ?_) (bm_ 26 1048575) rfl rfl (any_of HT_.out (by kernel_rfl)) (fun _ _ _ h => h) (Or.inl ⟨by rfl, ?_⟩) ?_ ?_
  rotate_left
  · intro w'
    go_simp
    with_reducible rfl
  rotate_left
  · simp only [Act.put, sA_, s0_, sS_, i64_w, i32_w]
    rfl
  refine pure_ (i := 20) (N := some 69) (v := ?_) (a' := ?_) (bm_ 26 2097151) rfl rfl (any_of HT_.out (by kernel_rfl)) (fun _ _ _ h => h) (Or.inl ⟨by rfl, ?_⟩) ?_ ?_
  rotate_left
  · intro w'
    go_simp
    with_reducible rfl
  rotate_left
  · simp only [Act.put, sA_, s0_, sS_, i64_w, i32_w]
    rfl
  refine take_ (i := 21) (N := some 70) (v := ?_) (a' := ?_) (bm_ 26 4194303) rfl rfl (take_ofW HT_.out HW_.out (by kernel_rfl)) (fun _ _ _ h => h) (Or.inl ⟨by rfl, ?_⟩) hHeld ?_ ?_
  rotate_left
  · rintro w' hs
    have b_ := Bx.blw Z7.out hs Z7.out.lt; have c_0 := b_.cell 0 _ rfl; have c_1 := b_.cell 1 _ rfl; have c_2 := b_.cell 2 _ rfl; go_simp
    with_reducible rfl
  rotate_left
  · simp only [Act.put, sA_, s0_, sS_, i64_w, i32_w]
    rfl
  refine pure_ (i := 22) (N := some 71) (v := ?_) (a' := ?_) (bm_ 26 8388607) rfl rfl (any_of HT_.out (by kernel_rfl)) (fun _ _ _ h => h) (Or.inl ⟨by rfl, ?_⟩) ?_ ?_
  rotate_left
  · intro w'
    go_simp
    with_reducible rfl
  rotate_left
  · simp only [Act.put, sA_, s0_, sS_, i64_w, i32_w]
    rfl
  refine take_ (i := 23) (N := some 72) (v := ?_) (a' := ?_) (bm_ 26 16777215) rfl rfl (take_ofW HT_.out HW_.out (by kernel_rfl)) (fun _ _ _ h => h) (Or.inl ⟨by rfl, ?_⟩) hHeld ?_ ?_
  rotate_left
  · rintro w' hs
    have b_ := Bx.blw ZM.out hs ZM.out.lt; have c_0 := b_.cell 0 _ rfl; have c_1 := b_.cell 1 _ rfl; have c_2 := b_.cell 2 _ rfl; go_simp
    with_reducible rfl
  rotate_left
  · simp only [Act.put, sA_, s0_, sS_, i64_w, i32_w]
    rfl
  refine pure_ (i := 24) (N := some 73) (v := ?_) (a' := ?_) (bm_ 26 33554431) rfl rfl (any_of HT_.out (by kernel_rfl)) (fun _ _ _ h => h) (Or.inl ⟨by rfl, ?_⟩) ?_ ?_
  rotate_left
  · intro w'
    go_simp
    with_reducible rfl
  rotate_left
  · simp only [Act.put, sA_, s0_, sS_, i64_w, i32_w]
    rfl
  refine pure_ (i := 25) (N := some 74) (v := ?_) (a' := ?_) (bm_ 26 67108863) rfl rfl (any_of HT_.out (by kernel_rfl)) (fun _ _ _ h => h) (Or.inl ⟨by rfl, ?_⟩) ?_ ?_
  rotate_left
  · intro w'
    go_simp
    with_reducible rfl
  rotate_left
  · simp only [Act.put, sA_, s0_, sS_, i64_w, i32_w]
    rfl
  refine done_ (done_of HT_.out (by kernel_rfl)) ?_
  have X0e := Aside0.mk (Bx.blw Z0.out hHeld Z0.out.lt)
  have X7e := Aside0.mk (Bx.blw Z7.out hHeld Z7.out.lt)
  have HB6 := Aside0.mk (HB5.out.trans (below_to hHeld HB5.out.size))
  clear hHeld Z0 Z7 ZM HB5
  have p0 := X0e.out.cell 0 _ rfl; have p1 := X0e.out.cell 1 _ rfl; have p2 := X0e.out.cell 2 _ rfl
  have y0 := X7e.out.cell 0 _ rfl; have y1 := X7e.out.cell 1 _ rfl; have y2 := X7e.out.cell 2 _ rfl
  have lt0 := X0e.out.lt
  have lt7 := X7e.out.lt
  go_wp2_with (first | (go_at_call 27; (with_reducible refine (hearsayref01_Is.calls ki n true _ HKI.out).mono ?_); rintro e w7 ⟨rfl, hb7⟩; have X0f := Aside0.mk (X0e.out.below hb7); have X7f := Aside0.mk (X7e.out.below hb7); have HB7 := Aside0.mk (HB6.out.trans (below_to hb7 HB6.out.size)); clear hb7 p0 p1 p2 y0 y1 y2 lt0 lt7; have lt0 := X0f.out.lt; have lt7 := X7f.out.lt; have p0 := X0f.out.cell 0 _ rfl; have p1 := X0f.out.cell 1 _ rfl; have p2 := X0f.out.cell 2 _ rfl; have y0 := X7f.out.cell 0 _ rfl; have y1 := X7f.out.cell 1 _ rfl; have y2 := X7f.out.cell 2 _ rfl))
  have HX12' := Aside0.mk (Bx.new w7 #[.int .u16 0, .bool false, .slice none 0 0, .slice none 0 0, .slice none 0 0] 45)
  have HBA := Aside0.mk (below_alloc (Below.refl w7.heap.size w7) (.cells #[.int .u16 0, .bool false, .slice none 0 0, .slice none 0 0, .slice none 0 0] 45))
  go_loopw [13] (fun i wr => ∃ k : Nat, k ≤ l2.length ∧ i = .int .i64 k ∧ ∃ v, Aside0 (Bx wr w7.heap.size #[.int .u16 0, .bool false, v, .slice none 0 0, .slice none 0 0] 45) ∧ Aside0 (Kd.R k59 59 wr (w7.heap.size + 1) (fun k_ => w7.heap.size + 1 ≤ k_) v (putsP n (l2.take k))) ∧ Aside0 (Below w7.heap.size w7 wr)) (fun i _ => l2.length - (intOf i).toNat)
  case atStart => exact ⟨0, Nat.zero_le _, rfl, _, HX12', ⟨Kd.R_nil _ _ _ _ _⟩, HBA⟩
  case round =>
    obtain ⟨k, hk, rfl, v, HX12, HRk, HB⟩ := hrel
    clear p0 p1 p2 y0 y1 y2 lt0 lt7
    have X0g := Aside0.mk (Bx.blw X0f.out HB.out X0f.out.lt)
    have X7g := Aside0.mk (Bx.blw X7f.out HB.out X7f.out.lt)
    have HLW := Aside0.mk (show w7.heap.size < wr.heap.size from HX12.out.lt)
    have lt12 := HX12.out.lt
    have lt7 := X7g.out.lt
    have lt0 := X0g.out.lt
    have y0 := X7g.out.cell 0 _ rfl
    have b2 := HX12.out.cell 2 _ rfl
    by_cases hlt : k < l2.length
    · obtain ⟨x, hx⟩ : ∃ x, l2[k]? = some x := ⟨l2[k], List.getElem?_eq_getElem hlt⟩
      obtain ⟨ad, hA, c_0, c_1, c_2, c_3, c_4, c_5, c_6, c_7, c_8, c_9, c_10, c_11⟩ := at_T59 (Kd.C_below (Kd.C_below HR2.out HB7.out) HB.out) (k : Int) (by omega) (by omega)
      rw [rd_T59_at hx] at c_0 c_1 c_2 c_3 c_4 c_5 c_6 c_7 c_8 c_9 c_10 c_11
      simp only [Int.toNat_natCast] at c_0 c_1 c_2 c_3 c_4 c_5 c_6 c_7 c_8 c_9 c_10 c_11
      subst hA
      have HLK := Aside0.mk (show (putsP n (l2.take k)).length ≤ 50 from by rw [puts_length, List.length_take]; have := HL2.out; omega)
      have HR1 : Aside0 (Kd.R k59 59 wr (w7.heap.size + 1) (fun k_ => w7.heap.size + 1 ≤ k_ ∧ k_ < wr.heap.size) v (putsP n (l2.take k))) := ⟨Kd.R_mono (Kd.R_bound HRk.out) (fun k_ hk_ => ⟨hk_.1, hk_.2.2.1⟩)⟩
      have HT := Aside0.mk (puts_succ (n := n) hx)
      clear hx
      by_cases hpar : k % 2 = 0
      · have hm : (k : Int).tmod 2 = 0 := by rw [Int.tmod_eq_emod_of_nonneg (Int.natCast_nonneg k)]; omega
        have HT2 := Aside0.mk (show putP n k x = ⟨lowS n, x.f1, x.f2, x.f3, x.f4⟩ from by unfold putP; rw [if_pos hpar])
        go_wp2_with (first | (go_at_call 26; (with_reducible refine (hearsayref01_Fold.calls n (lowS n) _ (rfold_f HYS.out rfl)).mono ?_); rintro e v2 ⟨rfl, hb2⟩; have HRb := Aside0.mk (Kd.R_below (Kd.R_alloc HR1.out (.cells #[.string x.f0, .int .u16 x.f1, .int .u16 x.f2, .int .u32 x.f3, .string x.f4.f0, .string x.f4.f1, .string x.f4.f2, .int .u32 x.f4.f3.f0, .int .u32 x.f4.f3.f1, .int .u32 x.f4.f3.f2, .int .u32 x.f4.f3.f3, .int .u32 x.f4.f3.f4] 59)) hb2); have HBv := Aside0.mk ((HB.out.alloc HB.out.size (.cells #[.string x.f0, .int .u16 x.f1, .int .u16 x.f2, .int .u32 x.f3, .string x.f4.f0, .string x.f4.f1, .string x.f4.f2, .int .u32 x.f4.f3.f0, .int .u32 x.f4.f3.f1, .int .u32 x.f4.f3.f2, .int .u32 x.f4.f3.f3, .int .u32 x.f4.f3.f4] 59)).trans (below_to hb2 (by have := HLW.out; simp; omega))); have HY := Aside0.mk ((Bx.new wr #[.string x.f0, .int .u16 x.f1, .int .u16 x.f2, .int .u32 x.f3, .string x.f4.f0, .string x.f4.f1, .string x.f4.f2, .int .u32 x.f4.f3.f0, .int .u32 x.f4.f3.f1, .int .u32 x.f4.f3.f2, .int .u32 x.f4.f3.f3, .int .u32 x.f4.f3.f4] 59).below hb2); have H12 := Aside0.mk ((HX12.out.alloc (.cells #[.string x.f0, .int .u16 x.f1, .int .u16 x.f2, .int .u32 x.f3, .string x.f4.f0, .string x.f4.f1, .string x.f4.f2, .int .u32 x.f4.f3.f0, .int .u32 x.f4.f3.f1, .int .u32 x.f4.f3.f2, .int .u32 x.f4.f3.f3, .int .u32 x.f4.f3.f4] 59)).below hb2); clear hb2 y0 b2 lt12 lt7 lt0; have hlt2 := HY.out.lt; have lt12 := H12.out.lt; have HR3 := Aside0.mk (Kd.R_mono (Kd.R_far HRb.out (p := ⟨wr.heap.size, 0, none⟩) (fun k_ hk_ => by show k_ ≠ wr.heap.size; omega) (.string (lowS n))) (fun _ hk_ => hk_.1)); have HB3 := Aside0.mk (HBv.out.setCell (p := ⟨wr.heap.size, 0, none⟩) HB.out.size (.string (lowS n))); have H12s := Aside0.mk (H12.out.other (B' := wr.heap.size) (by have := HLW.out; omega) 0 (.string (lowS n))); have hne1 : ¬ w7.heap.size = wr.heap.size := (by have := HLW.out; omega); have hne2 : ¬ wr.heap.size = w7.heap.size := (by have := HLW.out; omega); have y0 := HY.out.cell 0 _ rfl; have y1 := HY.out.cell 1 _ rfl; have y2 := HY.out.cell 2 _ rfl; have y3 := HY.out.cell 3 _ rfl; have y4 := HY.out.cell 4 _ rfl; have y5 := HY.out.cell 5 _ rfl; have y6 := HY.out.cell 6 _ rfl; have y7 := HY.out.cell 7 _ rfl; have y8 := HY.out.cell 8 _ rfl; have y9 := HY.out.cell 9 _ rfl; have y10 := HY.out.cell 10 _ rfl; have y11 := HY.out.cell 11 _ rfl; have yf := HY.out.frozen 0; have b2 := H12.out.cell 2 _ rfl) | ((with_reducible refine gate_builtin (b := .append) (xs := #[.tmp 126, .tmp 128]) rfl ?_); at_builtin; refine Kd.R_append k59 (w0 := v2.setCell ⟨wr.heap.size, 0, none⟩ (.string (lowS n))) (w7.heap.size + 1) rfl (.tmp 126) (.tmp 128) 43 59 (.agg #[(.string ⟨#[]⟩), (.int .u16 0), (.int .u16 0), (.int .u32 0), (.string ⟨#[]⟩), (.string ⟨#[]⟩), (.string ⟨#[]⟩), (.int .u32 0), (.int .u32 0), (.int .u32 0), (.int .u32 0), (.int .u32 0)]) 96 rfl Try.underlying43 info59 rfl (by decide) (by omega) v (putsP n (l2.take k)) (⟨lowS n, x.f1, x.f2, x.f3, x.f4⟩ : S59) [.string (lowS n), .int .u16 x.f1, .int .u16 x.f2, .int .u32 x.f3, .string x.f4.f0, .string x.f4.f1, .string x.f4.f2, .int .u32 x.f4.f3.f0, .int .u32 x.f4.f3.f1, .int .u32 x.f4.f3.f2, .int .u32 x.f4.f3.f3, .int .u32 x.f4.f3.f4] (fun k_ => w7.heap.size + 1 ≤ k_) (fun _ => False) rfl ?hx ?aP (fun _ hk => hk.elim) ?aF ?aO ?aB ?aS ?aL ?_; (case hx => first | rfl | (show Value.slice (some ⟨v2.heap.size, 0, none⟩) 1 1 = _; simp)); (case aP => exact k59_mkM _ _ _ (⟨lowS n, x.f1, x.f2, x.f3, x.f4⟩ : S59)); (case aB => exact Below.refl _ _); (case aF => exact (fun k_ hk_ => by have := HLW.out; have := HY.out.lt; simp at hk_; omega)); (case aO => exact HR3.out); (case aS => have := HLW.out; have := HY.out.lt; simp; omega); (case aL => have := HLK.out; omega); intro v4 w4 ho hb hg hat; obtain ⟨A4, c4, e4⟩ := Kd.R_slice ho; rw [List.length_append, List.length_singleton] at e4; subst e4; have HR4 := Aside0.mk ho; have HB4 := Aside0.mk (HB3.out.trans (below_to hb (Nat.le_succ _))); have H124 := Aside0.mk (Bx.blw H12s.out hb (Nat.lt_succ_self _)); have f12 := H124.out.frozen 2; have b4 := H124.out.cell 2 _ rfl; clear ho hb hg hat))
        go_roundw
        case rel => exact ⟨k + 1, by omega, by go_num, _, ⟨H124.out.set 2 _⟩, ⟨by rw [HT.out, HT2.out]; exact Kd.R_far HR4.out (p := ⟨w7.heap.size, 2, none⟩) (fun k_ hk_ => by show k_ ≠ w7.heap.size; omega) _⟩, ⟨HB4.out.setCell (p := ⟨w7.heap.size, 2, none⟩) (Nat.le_refl _) _⟩⟩
        case measure => simp [intOf]; omega
      · have hm : ¬ (k : Int).tmod 2 = 0 := by rw [Int.tmod_eq_emod_of_nonneg (Int.natCast_nonneg k)]; omega
        have HT2 := Aside0.mk (show putP n k x = x from by unfold putP; rw [if_neg hpar])
        have HR3 := Aside0.mk (Kd.R_mono (Kd.R_alloc HR1.out (.cells #[.string x.f0, .int .u16 x.f1, .int .u16 x.f2, .int .u32 x.f3, .string x.f4.f0, .string x.f4.f1, .string x.f4.f2, .int .u32 x.f4.f3.f0, .int .u32 x.f4.f3.f1, .int .u32 x.f4.f3.f2, .int .u32 x.f4.f3.f3, .int .u32 x.f4.f3.f4] 59)) (ok' := fun k_ => w7.heap.size + 1 ≤ k_) (fun _ hk_ => hk_.1))
        have HB3 := Aside0.mk (HB.out.alloc HB.out.size (.cells #[.string x.f0, .int .u16 x.f1, .int .u16 x.f2, .int .u32 x.f3, .string x.f4.f0, .string x.f4.f1, .string x.f4.f2, .int .u32 x.f4.f3.f0, .int .u32 x.f4.f3.f1, .int .u32 x.f4.f3.f2, .int .u32 x.f4.f3.f3, .int .u32 x.f4.f3.f4] 59))
        have H12s := Aside0.mk (HX12.out.alloc (.cells #[.string x.f0, .int .u16 x.f1, .int .u16 x.f2, .int .u32 x.f3, .string x.f4.f0, .string x.f4.f1, .string x.f4.f2, .int .u32 x.f4.f3.f0, .int .u32 x.f4.f3.f1, .int .u32 x.f4.f3.f2, .int .u32 x.f4.f3.f3, .int .u32 x.f4.f3.f4] 59))
        have hne1 : ¬ w7.heap.size = wr.heap.size := by omega
        have hne2 : ¬ wr.heap.size = w7.heap.size := by omega
        go_wp2_with (first | ((with_reducible refine gate_builtin (b := .append) (xs := #[.tmp 126, .tmp 128]) rfl ?_); at_builtin; refine Kd.R_append k59 (w0 := wr.alloc (.cells #[.string x.f0, .int .u16 x.f1, .int .u16 x.f2, .int .u32 x.f3, .string x.f4.f0, .string x.f4.f1, .string x.f4.f2, .int .u32 x.f4.f3.f0, .int .u32 x.f4.f3.f1, .int .u32 x.f4.f3.f2, .int .u32 x.f4.f3.f3, .int .u32 x.f4.f3.f4] 59)) (w7.heap.size + 1) rfl (.tmp 126) (.tmp 128) 43 59 (.agg #[(.string ⟨#[]⟩), (.int .u16 0), (.int .u16 0), (.int .u32 0), (.string ⟨#[]⟩), (.string ⟨#[]⟩), (.string ⟨#[]⟩), (.int .u32 0), (.int .u32 0), (.int .u32 0), (.int .u32 0), (.int .u32 0)]) 96 rfl Try.underlying43 info59 rfl (by decide) (by omega) v (putsP n (l2.take k)) x [.string x.f0, .int .u16 x.f1, .int .u16 x.f2, .int .u32 x.f3, .string x.f4.f0, .string x.f4.f1, .string x.f4.f2, .int .u32 x.f4.f3.f0, .int .u32 x.f4.f3.f1, .int .u32 x.f4.f3.f2, .int .u32 x.f4.f3.f3, .int .u32 x.f4.f3.f4] (fun k_ => w7.heap.size + 1 ≤ k_) (fun _ => False) rfl ?hx ?aP (fun _ hk => hk.elim) ?aF ?aO ?aB ?aS ?aL ?_; (case hx => first | rfl | (show Value.slice (some ⟨wr.heap.size + 1, 0, none⟩) 1 1 = _; simp)); (case aP => exact k59_mkM _ _ _ x); (case aB => exact Below.refl _ _); (case aF => exact (fun k_ hk_ => by have := HLW.out; simp at hk_; omega)); (case aO => exact HR3.out); (case aS => have := HLW.out; simp; omega); (case aL => have := HLK.out; omega); intro v4 w4 ho hb hg hat; obtain ⟨A4, c4, e4⟩ := Kd.R_slice ho; rw [List.length_append, List.length_singleton] at e4; subst e4; have HR4 := Aside0.mk ho; have HB4 := Aside0.mk (HB3.out.trans (below_to hb (Nat.le_succ _))); have H124 := Aside0.mk (Bx.blw H12s.out hb (Nat.lt_succ_self _)); have f12 := H124.out.frozen 2; have b4 := H124.out.cell 2 _ rfl; clear ho hb hg hat))
        go_roundw
        case rel => exact ⟨k + 1, by omega, by go_num, _, ⟨H124.out.set 2 _⟩, ⟨by rw [HT.out, HT2.out]; exact Kd.R_far HR4.out (p := ⟨w7.heap.size, 2, none⟩) (fun k_ hk_ => by show k_ ≠ w7.heap.size; omega) _⟩, ⟨HB4.out.setCell (p := ⟨w7.heap.size, 2, none⟩) (Nat.le_refl _) _⟩⟩
        case measure => simp [intOf]; omega
    · obtain rfl : k = l2.length := by omega
      rw [List.take_length] at HRk
      obtain ⟨A5, c5, rfl, hle5, hC5⟩ := Kd.R_reads HRk.out
      rw [puts_length] at HX12 hle5 hC5
      have HC5 := Aside0.mk hC5
      have HE5 := Aside0.mk hle5
      obtain ⟨M, hM⟩ : ∃ M, M = (putsP n l2).map (turnP q.f0 n) := ⟨_, rfl⟩
      have HM := Aside0.mk hM
      clear b2 y0 hle5 hC5 hM hlt
      have p0 := X0g.out.cell 0 _ rfl; have p1 := X0g.out.cell 1 _ rfl; have p2 := X0g.out.cell 2 _ rfl
      have y0 := X7g.out.cell 0 _ rfl; have y1 := X7g.out.cell 1 _ rfl; have y2 := X7g.out.cell 2 _ rfl
      have a0 := HX12.out.cell 0 _ rfl; have a1 := HX12.out.cell 1 _ rfl; have a2 := HX12.out.cell 2 _ rfl; have a3 := HX12.out.cell 3 _ rfl; have a4 := HX12.out.cell 4 _ rfl
      go_wp2_with (first | (go_at_call 22; (with_reducible refine (back_calls2 q.f0 q.f1 q.f2 n _ _ A5 c5 (putsP n l2) l2.length (puts_length _ _) M HM.out _ HC5.out HE5.out (by have := HL2.out; omega) HYS.out (puts_small HYS.out HS.out)).mono ?_); rintro e w9 ⟨E2, e2, E3, e3, E4, e4, rfl, he2, hE2, hb9⟩; have X0h := Aside0.mk (X0g.out.below hb9); have X7h := Aside0.mk (X7g.out.below hb9); have HB8 := Aside0.mk (HB7.out.trans (below_to HB.out HB7.out.size)); have HB9 := Aside0.mk (HB8.out.trans (below_to hb9 HB8.out.size)); have HE := Aside0.mk hE2; have HEc := Aside0.mk he2; have HR9 := Aside0.mk (Kd.C_below (Kd.C_below (Kd.C_below HR2.out HB7.out) HB.out) hb9); clear he2 hE2 hb9 p0 p1 p2 y0 y1 y2 a0 a1 a2 a3 a4 lt0 lt7 lt12))
      obtain ⟨W9, hW9⟩ : ∃ W9, w9.alloc (.cells #[.int .u16 0, .bool false, .slice E2 l2.length e2, .slice E3 0 e3, .slice E4 0 e4] 45) = W9 := ⟨_, rfl⟩
      have X0i := Aside0.mk (X0h.out.alloc (.cells #[.int .u16 0, .bool false, .slice E2 l2.length e2, .slice E3 0 e3, .slice E4 0 e4] 45))
      have X7i := Aside0.mk (X7h.out.alloc (.cells #[.int .u16 0, .bool false, .slice E2 l2.length e2, .slice E3 0 e3, .slice E4 0 e4] 45))
      rw [hW9] at X0i X7i
      have X15 : Aside0 (Bx W9 w9.heap.size #[.int .u16 0, .bool false, .slice E2 l2.length e2, .slice E3 0 e3, .slice E4 0 e4] 45) := ⟨by rw [← hW9]; exact Bx.new _ _ _⟩
      have HB10 : Aside0 (Below w.heap.size w W9) := ⟨by rw [← hW9]; exact below_alloc HB9.out _⟩
      have HEi : Aside0 (Kd.C k59 W9 E2 l2.length M) := ⟨by rw [← hW9]; exact Kd.C_alloc HE.out _⟩
      have HR10 : Aside0 (Kd.C k59 W9 A2 l2.length l2) := ⟨by rw [← hW9]; exact Kd.C_alloc HR9.out _⟩
      rw [hW9]
      clear hW9
      go_loopw [16] (fun i wr => ∃ k : Nat, k ≤ l2.length ∧ i = .int .i64 k ∧ Aside0 (Below W9.heap.size W9 wr)) (fun i _ => l2.length - (intOf i).toNat)
      case atStart => exact ⟨0, Nat.zero_le _, rfl, ⟨Below.refl _ _⟩⟩
      case round =>
        obtain ⟨k, hk, rfl, HBr⟩ := hrel
        by_cases hlt : k < l2.length
        · have X0j := Aside0.mk (Bx.blw X0i.out HBr.out X0i.out.lt)
          have X7j := Aside0.mk (Bx.blw X7i.out HBr.out X7i.out.lt)
          have X15j := Aside0.mk (Bx.blw X15.out HBr.out X15.out.lt)
          have lt0 := X0j.out.lt
          have lt7 := X7j.out.lt
          have lt15 := X15j.out.lt
          have y0 := X7j.out.cell 0 _ rfl
          have b2 := X15j.out.cell 2 _ rfl
          obtain ⟨x, hx⟩ : ∃ x, l2[k]? = some x := ⟨l2[k], List.getElem?_eq_getElem hlt⟩
          obtain ⟨ad, hA, c_0, c_1, c_2, c_3, c_4, c_5, c_6, c_7, c_8, c_9, c_10, c_11⟩ := at_T59 (Kd.C_below HR10.out HBr.out) (k : Int) (by omega) (by omega)
          rw [rd_T59_at hx] at c_0 c_1 c_2 c_3 c_4 c_5 c_6 c_7 c_8 c_9 c_10 c_11
          simp only [Int.toNat_natCast] at c_0 c_1 c_2 c_3 c_4 c_5 c_6 c_7 c_8 c_9 c_10 c_11
          have had1 := World.block_lt_of_cell? _ _ c_0
          subst hA
          obtain ⟨bd, hBd, d_0, d_1, d_2, d_3, d_4, d_5, d_6, d_7, d_8, d_9, d_10, d_11⟩ := at_T59 (Kd.C_below HEi.out HBr.out) (k : Int) (by omega) (by omega)
          subst hBd
          have HXK := Aside0.mk hx
          by_cases hpar : k % 2 = 0
          · have hm : (k : Int).tmod 2 = 0 := by rw [Int.tmod_eq_emod_of_nonneg (Int.natCast_nonneg k)]; omega
            have hz : M[k]? = some (⟨q.f0, x.f1, x.f2, x.f3, x.f4⟩ : S59) := by
              rw [HM.out, List.getElem?_map, puts_get hx]
              exact congrArg some (turn_even q.f0 n hpar x)
            rw [rd_T59_at hz] at d_0 d_1 d_2 d_3 d_4 d_5 d_6 d_7 d_8 d_9 d_10 d_11
            simp only [Int.toNat_natCast] at d_0 d_1 d_2 d_3 d_4 d_5 d_6 d_7 d_8 d_9 d_10 d_11
            clear hz
            clear hx
            go_wp2
            have K0' := Aside0.mk (X0j.out.alloc (.cells #[.string q.f0, .int .u16 x.f1, .int .u16 x.f2, .int .u32 x.f3, .string x.f4.f0, .string x.f4.f1, .string x.f4.f2, .int .u32 x.f4.f3.f0, .int .u32 x.f4.f3.f1, .int .u32 x.f4.f3.f2, .int .u32 x.f4.f3.f3, .int .u32 x.f4.f3.f4] 59))
            have K7' := Aside0.mk (X7j.out.alloc (.cells #[.string q.f0, .int .u16 x.f1, .int .u16 x.f2, .int .u32 x.f3, .string x.f4.f0, .string x.f4.f1, .string x.f4.f2, .int .u32 x.f4.f3.f0, .int .u32 x.f4.f3.f1, .int .u32 x.f4.f3.f2, .int .u32 x.f4.f3.f3, .int .u32 x.f4.f3.f4] 59))
            have K17' := Aside0.mk (Bx.new wr #[.string q.f0, .int .u16 x.f1, .int .u16 x.f2, .int .u32 x.f3, .string x.f4.f0, .string x.f4.f1, .string x.f4.f2, .int .u32 x.f4.f3.f0, .int .u32 x.f4.f3.f1, .int .u32 x.f4.f3.f2, .int .u32 x.f4.f3.f3, .int .u32 x.f4.f3.f4] 59)
            have HBs' := Aside0.mk (HBr.out.alloc HBr.out.size (.cells #[.string q.f0, .int .u16 x.f1, .int .u16 x.f2, .int .u32 x.f3, .string x.f4.f0, .string x.f4.f1, .string x.f4.f2, .int .u32 x.f4.f3.f0, .int .u32 x.f4.f3.f1, .int .u32 x.f4.f3.f2, .int .u32 x.f4.f3.f3, .int .u32 x.f4.f3.f4] 59))
            have HRq' := Aside0.mk (Kd.C_alloc (Kd.C_below HR10.out HBr.out) (.cells #[.string q.f0, .int .u16 x.f1, .int .u16 x.f2, .int .u32 x.f3, .string x.f4.f0, .string x.f4.f1, .string x.f4.f2, .int .u32 x.f4.f3.f0, .int .u32 x.f4.f3.f1, .int .u32 x.f4.f3.f2, .int .u32 x.f4.f3.f3, .int .u32 x.f4.f3.f4] 59))
            clear c_0 c_1 c_2 c_3 c_4 c_5 c_6 c_7 c_8 c_9 c_10 c_11 d_0 d_1 d_2 d_3 d_4 d_5 d_6 d_7 d_8 d_9 d_10 d_11 b2 y0 lt0 lt7 lt15 had1
            generalize wr.alloc (.cells #[.string q.f0, .int .u16 x.f1, .int .u16 x.f2, .int .u32 x.f3, .string x.f4.f0, .string x.f4.f1, .string x.f4.f2, .int .u32 x.f4.f3.f0, .int .u32 x.f4.f3.f1, .int .u32 x.f4.f3.f2, .int .u32 x.f4.f3.f3, .int .u32 x.f4.f3.f4] 59) = wq at K0' K7' K17' HBs' HRq' ⊢
            have K0 := Aside0.mk K0'.out.drew
            have K7 := Aside0.mk K7'.out.drew
            have K17 := Aside0.mk K17'.out.drew
            have HBs := Aside0.mk (below_drew HBs'.out)
            have HRq := Aside0.mk (Kd.C_drew HRq'.out)
            clear K0' K7' K17' HBs' HRq'
            refine start_ (n := 11) (S := (fun w' => Below wq.drew.heap.size wq.drew w')) (ds := []) (bm_ 11 0) (by kernel_rfl) rfl rfl (Below.refl _ _) (fun hHeld => ?_)
            refine with_tabW turns.tab29 turns.bits29 (fun HT_ HW_ => ?_)
            refine pure_ (i := 0) (N := some 167) (v := ?_) (a' := ?_) (bm_ 11 1) rfl rfl (any_of HT_.out (by kernel_rfl)) (fun _ _ _ h => h) (Or.inl ⟨by rfl, ?_⟩) ?_ ?_
            rotate_left
            · intro w'
              go_simp
              with_reducible rfl
            rotate_left
            · simp only [Act.put, sA_, s0_, sS_, i64_w, i32_w]
              rfl
            refine pure_ (i := 1) (N := some 168) (v := ?_) (a' := ?_) (bm_ 11 3) rfl rfl (any_of HT_.out (by kernel_rfl)) (fun _ _ _ h => h) (Or.inl ⟨by rfl, ?_⟩) ?_ ?_
            rotate_left
            · intro w'
              go_simp
              with_reducible rfl
            rotate_left
            · simp only [Act.put, sA_, s0_, sS_, i64_w, i32_w]
              rfl
            refine pure_ (i := 2) (N := some 169) (v := ?_) (a' := ?_) (bm_ 11 7) rfl rfl (any_of HT_.out (by kernel_rfl)) (fun _ _ _ h => h) (Or.inl ⟨by rfl, ?_⟩) ?_ ?_
            rotate_left
            · intro w'
              go_simp
              with_reducible rfl
            rotate_left
            · simp only [Act.put, sA_, s0_, sS_, i64_w, i32_w]
              rfl
            refine pure_ (i := 3) (N := some 170) (v := ?_) (a' := ?_) (bm_ 11 15) rfl rfl (any_of HT_.out (by kernel_rfl)) (fun _ _ _ h => h) (Or.inl ⟨by rfl, ?_⟩) ?_ ?_
            rotate_left
            · intro w'
              go_simp
              with_reducible rfl
            rotate_left
            · simp only [Act.put, sA_, s0_, sS_, i64_w, i32_w]
              rfl
            refine pure_ (i := 4) (N := some 171) (v := undef) (a' := ?_) (bm_ 11 31) rfl rfl (any_of HT_.out (by kernel_rfl)) (fun _ _ _ h => h) (Or.inr ⟨by rfl, rfl⟩) ?_ ?_
            rotate_left
            · simp only [Act.put, sA_, s0_, sS_, i64_w, i32_w]
              rfl
            refine pure_ (i := 5) (N := some 172) (v := undef) (a' := ?_) (bm_ 11 63) rfl rfl (any_of HT_.out (by kernel_rfl)) (fun _ _ _ h => h) (Or.inr ⟨by rfl, rfl⟩) ?_ ?_
            rotate_left
            · simp only [Act.put, sA_, s0_, sS_, i64_w, i32_w]
              rfl
            refine pure_ (i := 6) (N := some 173) (v := undef) (a' := ?_) (bm_ 11 127) rfl rfl (any_of HT_.out (by kernel_rfl)) (fun _ _ _ h => h) (Or.inr ⟨by rfl, rfl⟩) ?_ ?_
            rotate_left
            · simp only [Act.put, sA_, s0_, sS_, i64_w, i32_w]
              rfl
            refine pure_ (i := 7) (N := some 174) (v := undef) (a' := ?_) (bm_ 11 255) rfl rfl (any_of HT_.out (by kernel_rfl)) (fun _ _ _ h => h) (Or.inr ⟨by rfl, rfl⟩) ?_ ?_
            rotate_left
            · simp only [Act.put, sA_, s0_, sS_, i64_w, i32_w]
              rfl
            refine pure_ (i := 8) (N := some 175) (v := undef) (a' := ?_) (bm_ 11 511) rfl rfl (any_of HT_.out (by kernel_rfl)) (fun _ _ _ h => h) (Or.inr ⟨by rfl, rfl⟩) ?_ ?_
            rotate_left
            · simp only [Act.put, sA_, s0_, sS_, i64_w, i32_w]
              rfl
            refine pure_ (i := 9) (N := some 176) (v := undef) (a' := ?_) (bm_ 11 1023) rfl rfl (any_of HT_.out (by kernel_rfl)) (fun _ _ _ h => h) (Or.inr ⟨by rfl, rfl⟩) ?_ ?_
            rotate_left
            · simp only [Act.put, sA_, s0_, sS_, i64_w, i32_w]
              rfl
            refine pure_ (i := 10) (N := some 177) (v := ?_) (a' := ?_) (bm_ 11 2047) rfl rfl (any_of HT_.out (by kernel_rfl)) (fun _ _ _ h => h) (Or.inl ⟨by rfl, ?_⟩) ?_ ?_
            rotate_left
            · intro w'
              go_simp
              with_reducible rfl
            rotate_left
            · simp only [Act.put, sA_, s0_, sS_, i64_w, i32_w]
              rfl
            refine done_ (done_of HT_.out (by kernel_rfl)) ?_
            have K0u := Aside0.mk (Bx.blw K0.out hHeld K0.out.lt)
            have K17u := Aside0.mk (Bx.blw K17.out hHeld K17.out.lt)
            have HBu := Aside0.mk (HBs.out.trans (below_to hHeld HBs.out.size))
            have HRu := Aside0.mk (Kd.C_below HRq.out hHeld)
            clear hHeld K0 K7 K17 HBs HRq
            generalize wq.drew = u at K0u K17u HBu HRu ⊢
            have p0 := K0u.out.cell 0 _ rfl
            have lt0 := K0u.out.lt
            go_wp2
            clear p0 lt0
            have J17 := Aside0.mk K17u.out.drew
            have HRv := Aside0.mk (Kd.C_drew HRu.out)
            refine start_ (n := 44) (S := (fun w' => Below u.drew.heap.size u.drew w')) (ds := []) (bm_ 44 0) (by kernel_rfl) rfl rfl (Below.refl _ _) (fun hHeld => ?_)
            refine with_tabW turns.tab31 turns.bits31 (fun HT_ HW_ => ?_)
            refine pure_ (i := 0) (N := some 180) (v := ?_) (a' := ?_) (bm_ 44 1) rfl rfl (any_of HT_.out (by kernel_rfl)) (fun _ _ _ h => h) (Or.inl ⟨by rfl, ?_⟩) ?_ ?_
            rotate_left
            · intro w'
              go_simp
              with_reducible rfl
            rotate_left
            · simp only [Act.put, sA_, s0_, sS_, i64_w, i32_w]
              rfl
            refine take_ (i := 1) (N := some 181) (v := ?_) (a' := ?_) (bm_ 44 3) rfl rfl (take_ofW HT_.out HW_.out (by kernel_rfl)) (fun _ _ _ h => h) (Or.inl ⟨by rfl, ?_⟩) hHeld ?_ ?_
            rotate_left
            · rintro w' hs
              have b_ := Bx.blw J17.out hs J17.out.lt; have c_0 := b_.cell 0 _ rfl; have c_1 := b_.cell 1 _ rfl; have c_2 := b_.cell 2 _ rfl; have c_3 := b_.cell 3 _ rfl; have c_4 := b_.cell 4 _ rfl; have c_5 := b_.cell 5 _ rfl; have c_6 := b_.cell 6 _ rfl; have c_7 := b_.cell 7 _ rfl; have c_8 := b_.cell 8 _ rfl; have c_9 := b_.cell 9 _ rfl; have c_10 := b_.cell 10 _ rfl; have c_11 := b_.cell 11 _ rfl; go_simp
              with_reducible rfl
            rotate_left
            · simp only [Act.put, sA_, s0_, sS_, i64_w, i32_w]
              rfl
            refine pure_ (i := 2) (N := some 182) (v := ?_) (a' := ?_) (bm_ 44 7) rfl rfl (any_of HT_.out (by kernel_rfl)) (fun _ _ _ h => h) (Or.inl ⟨by rfl, ?_⟩) ?_ ?_
            rotate_left
            · intro w'
              go_simp
              with_reducible rfl
            rotate_left
            · simp only [Act.put, sA_, s0_, sS_, i64_w, i32_w]
              rfl
            refine pure_ (i := 3) (N := some 183) (v := ?_) (a' := ?_) (bm_ 44 15) rfl rfl (any_of HT_.out (by kernel_rfl)) (fun _ _ _ h => h) (Or.inl ⟨by rfl, ?_⟩) ?_ ?_
            rotate_left
            · intro w'
              go_simp
              with_reducible rfl
            rotate_left
            · simp only [Act.put, sA_, s0_, sS_, i64_w, i32_w]
              rfl
            refine pure_ (i := 4) (N := some 184) (v := ?_) (a' := ?_) (bm_ 44 31) rfl rfl (any_of HT_.out (by kernel_rfl)) (fun _ _ _ h => h) (Or.inl ⟨by rfl, ?_⟩) ?_ ?_
            rotate_left
            · intro w'
              go_simp
              with_reducible rfl
            rotate_left
            · simp only [Act.put, sA_, s0_, sS_, i64_w, i32_w]
              rfl
            refine pure_ (i := 5) (N := some 185) (v := ?_) (a' := ?_) (bm_ 44 63) rfl rfl (any_of HT_.out (by kernel_rfl)) (fun _ _ _ h => h) (Or.inl ⟨by rfl, ?_⟩) ?_ ?_
            rotate_left
            · intro w'
              go_simp
              with_reducible rfl
            rotate_left
            · simp only [Act.put, sA_, s0_, sS_, i64_w, i32_w]
              rfl
            refine take_ (i := 6) (N := some 186) (v := ?_) (a' := ?_) (bm_ 44 127) rfl rfl (take_ofW HT_.out HW_.out (by kernel_rfl)) (fun _ _ _ h => h) (Or.inl ⟨by rfl, ?_⟩) hHeld ?_ ?_
            rotate_left
            · rintro w' hs
              have b_ := Bx.blw J17.out hs J17.out.lt; have c_0 := b_.cell 0 _ rfl; have c_1 := b_.cell 1 _ rfl; have c_2 := b_.cell 2 _ rfl; have c_3 := b_.cell 3 _ rfl; have c_4 := b_.cell 4 _ rfl; have c_5 := b_.cell 5 _ rfl; have c_6 := b_.cell 6 _ rfl; have c_7 := b_.cell 7 _ rfl; have c_8 := b_.cell 8 _ rfl; have c_9 := b_.cell 9 _ rfl; have c_10 := b_.cell 10 _ rfl; have c_11 := b_.cell 11 _ rfl; go_simp
              with_reducible rfl
            rotate_left
            · simp only [Act.put, sA_, s0_, sS_, i64_w, i32_w]
              rfl
            refine pure_ (i := 7) (N := some 187) (v := ?_) (a' := ?_) (bm_ 44 255) rfl rfl (any_of HT_.out (by kernel_rfl)) (fun _ _ _ h => h) (Or.inl ⟨by rfl, ?_⟩) ?_ ?_
            rotate_left
            · intro w'
              go_simp
              with_reducible rfl
            rotate_left
            · simp only [Act.put, sA_, s0_, sS_, i64_w, i32_w]
              rfl
            refine pure_ (i := 8) (N := some 188) (v := ?_) (a' := ?_) (bm_ 44 511) rfl rfl (any_of HT_.out (by kernel_rfl)) (fun _ _ _ h => h) (Or.inl ⟨by rfl, ?_⟩) ?_ ?_
            rotate_left
            · intro w'
              go_simp
              with_reducible rfl
            rotate_left
            · simp only [Act.put, sA_, s0_, sS_, i64_w, i32_w]
              rfl
            refine pure_ (i := 9) (N := some 189) (v := ?_) (a' := ?_) (bm_ 44 1023) rfl rfl (any_of HT_.out (by kernel_rfl)) (fun _ _ _ h => h) (Or.inl ⟨by rfl, ?_⟩) ?_ ?_
            rotate_left
            · intro w'
              go_simp
              with_reducible rfl
            rotate_left
            · simp only [Act.put, sA_, s0_, sS_, i64_w, i32_w]
              rfl
            refine pure_ (i := 10) (N := some 190) (v := ?_) (a' := ?_) (bm_ 44 2047) rfl rfl (any_of HT_.out (by kernel_rfl)) (fun _ _ _ h => h) (Or.inl ⟨by rfl, ?_⟩) ?_ ?_
            rotate_left
            · intro w'
              go_simp
              with_reducible rfl
            rotate_left
            · simp only [Act.put, sA_, s0_, sS_, i64_w, i32_w]
              rfl
            refine take_ (i := 11) (N := some 191) (v := ?_) (a' := ?_) (bm_ 44 4095) rfl rfl (take_ofW HT_.out HW_.out (by kernel_rfl)) (fun _ _ _ h => h) (Or.inl ⟨by rfl, ?_⟩) hHeld ?_ ?_
            rotate_left
            · rintro w' hs
              obtain ⟨ad_, e_, c_0, c_1, c_2, c_3, c_4, c_5, c_6, c_7, c_8, c_9, c_10, c_11⟩ := at_T59 (Kd.C_below HRv.out hs) (k : Int) (by omega) (by omega); rw [rd_T59_at HXK.out] at c_0 c_1 c_2 c_3 c_4 c_5 c_6 c_7 c_8 c_9 c_10 c_11; simp only [Int.toNat_natCast] at c_0 c_1 c_2 c_3 c_4 c_5 c_6 c_7 c_8 c_9 c_10 c_11; cases e_; go_simp
              with_reducible rfl
            rotate_left
            · simp only [Act.put, sA_, s0_, sS_, i64_w, i32_w]
              rfl
            refine pure_ (i := 12) (N := some 192) (v := ?_) (a' := ?_) (bm_ 44 8191) rfl rfl (any_of HT_.out (by kernel_rfl)) (fun _ _ _ h => h) (Or.inl ⟨by rfl, ?_⟩) ?_ ?_
            rotate_left
            · intro w'
              go_simp
              with_reducible rfl
            rotate_left
            · simp only [Act.put, sA_, s0_, sS_, i64_w, i32_w]
              rfl
            refine pure_ (i := 13) (N := some 193) (v := ?_) (a' := ?_) (bm_ 44 16383) rfl rfl (any_of HT_.out (by kernel_rfl)) (fun _ _ _ h => h) (Or.inl ⟨by rfl, ?_⟩) ?_ ?_
            rotate_left
            · intro w'
              go_simp
              with_reducible rfl
            rotate_left
            · simp only [Act.put, sA_, s0_, sS_, i64_w, i32_w]
              rfl
            refine pure_ (i := 14) (N := some 194) (v := ?_) (a' := ?_) (bm_ 44 32767) rfl rfl (any_of HT_.out (by kernel_rfl)) (fun _ _ _ h => h) (Or.inl ⟨by rfl, ?_⟩) ?_ ?_
            rotate_left
            · intro w'
              go_simp
              with_reducible rfl
            rotate_left
            · simp only [Act.put, sA_, s0_, sS_, i64_w, i32_w]
              rfl
            refine pure_ (i := 15) (N := some 195) (v := ?_) (a' := ?_) (bm_ 44 65535) rfl rfl (any_of HT_.out (by kernel_rfl)) (fun _ _ _ h => h) (Or.inl ⟨by rfl, ?_⟩) ?_ ?_
            rotate_left
            · intro w'
              go_simp
              with_reducible rfl
            rotate_left
            · simp only [Act.put, sA_, s0_, sS_, i64_w, i32_w]
              rfl
            refine take_ (i := 16) (N := some 196) (v := ?_) (a' := ?_) (bm_ 44 131071) rfl rfl (take_ofW HT_.out HW_.out (by kernel_rfl)) (fun _ _ _ h => h) (Or.inl ⟨by rfl, ?_⟩) hHeld ?_ ?_
            rotate_left
            · rintro w' hs
              have b_ := Bx.blw J17.out hs J17.out.lt; have c_0 := b_.cell 0 _ rfl; have c_1 := b_.cell 1 _ rfl; have c_2 := b_.cell 2 _ rfl; have c_3 := b_.cell 3 _ rfl; have c_4 := b_.cell 4 _ rfl; have c_5 := b_.cell 5 _ rfl; have c_6 := b_.cell 6 _ rfl; have c_7 := b_.cell 7 _ rfl; have c_8 := b_.cell 8 _ rfl; have c_9 := b_.cell 9 _ rfl; have c_10 := b_.cell 10 _ rfl; have c_11 := b_.cell 11 _ rfl; go_simp
              with_reducible rfl
            rotate_left
            · simp only [Act.put, sA_, s0_, sS_, i64_w, i32_w]
              rfl
            refine pure_ (i := 17) (N := some 197) (v := ?_) (a' := ?_) (bm_ 44 262143) rfl rfl (any_of HT_.out (by kernel_rfl)) (fun _ _ _ h => h) (Or.inl ⟨by rfl, ?_⟩) ?_ ?_
            rotate_left
            · intro w'
              go_simp
              with_reducible rfl
            rotate_left
            · simp only [Act.put, sA_, s0_, sS_, i64_w, i32_w]
              rfl
            refine pure_ (i := 18) (N := some 198) (v := ?_) (a' := ?_) (bm_ 44 524287) rfl rfl (any_of HT_.out (by kernel_rfl)) (fun _ _ _ h => h) (Or.inl ⟨by rfl, ?_⟩) ?_ ?_
            rotate_left
            · intro w'
              go_simp
              with_reducible rfl
            rotate_left
            · simp only [Act.put, sA_, s0_, sS_, i64_w, i32_w]
              rfl
            refine pure_ (i := 19) (N := some 199) (v := ?_) (a' := ?_) (bm_ 44 1048575) rfl rfl (any_of HT_.out (by kernel_rfl)) (fun _ _ _ h => h) (Or.inl ⟨by rfl, ?_⟩) ?_ ?_
            rotate_left
            · intro w'
              go_simp
              with_reducible rfl
            rotate_left
            · simp only [Act.put, sA_, s0_, sS_, i64_w, i32_w]
              rfl
            refine pure_ (i := 20) (N := some 200) (v := ?_) (a' := ?_) (bm_ 44 2097151) rfl rfl (any_of HT_.out (by kernel_rfl)) (fun _ _ _ h => h) (Or.inl ⟨by rfl, ?_⟩) ?_ ?_
            rotate_left
            · intro w'
              go_simp
              with_reducible rfl
            rotate_left
            · simp only [Act.put, sA_, s0_, sS_, i64_w, i32_w]
              rfl
            refine take_ (i := 21) (N := some 201) (v := ?_) (a' := ?_) (bm_ 44 4194303) rfl rfl (take_ofW HT_.out HW_.out (by kernel_rfl)) (fun _ _ _ h => h) (Or.inl ⟨by rfl, ?_⟩) hHeld ?_ ?_
            rotate_left
            · rintro w' hs
              obtain ⟨ad_, e_, c_0, c_1, c_2, c_3, c_4, c_5, c_6, c_7, c_8, c_9, c_10, c_11⟩ := at_T59 (Kd.C_below HRv.out hs) (k : Int) (by omega) (by omega); rw [rd_T59_at HXK.out] at c_0 c_1 c_2 c_3 c_4 c_5 c_6 c_7 c_8 c_9 c_10 c_11; simp only [Int.toNat_natCast] at c_0 c_1 c_2 c_3 c_4 c_5 c_6 c_7 c_8 c_9 c_10 c_11; cases e_; go_simp
              with_reducible rfl
            rotate_left
            · simp only [Act.put, sA_, s0_, sS_, i64_w, i32_w]
              rfl
            refine pure_ (i := 22) (N := some 202) (v := ?_) (a' := ?_) (bm_ 44 8388607) rfl rfl (any_of HT_.out (by kernel_rfl)) (fun _ _ _ h => h) (Or.inl ⟨by rfl, ?_⟩) ?_ ?_
            rotate_left
            · intro w'
              go_simp
              with_reducible rfl
            rotate_left
            · simp only [Act.put, sA_, s0_, sS_, i64_w, i32_w]
              rfl
            refine pure_ (i := 23) (N := some 203) (v := ?_) (a' := ?_) (bm_ 44 16777215) rfl rfl (any_of HT_.out (by kernel_rfl)) (fun _ _ _ h => h) (Or.inl ⟨by rfl, ?_⟩) ?_ ?_
            rotate_left
            · intro w'
              go_simp
              with_reducible rfl
            rotate_left
            · simp only [Act.put, sA_, s0_, sS_, i64_w, i32_w]
              rfl
            refine pure_ (i := 24) (N := some 204) (v := ?_) (a' := ?_) (bm_ 44 33554431) rfl rfl (any_of HT_.out (by kernel_rfl)) (fun _ _ _ h => h) (Or.inl ⟨by rfl, ?_⟩) ?_ ?_
            rotate_left
            · intro w'
              go_simp
              with_reducible rfl
            rotate_left
            · simp only [Act.put, sA_, s0_, sS_, i64_w, i32_w]
              rfl
            refine pure_ (i := 25) (N := some 205) (v := ?_) (a' := ?_) (bm_ 44 67108863) rfl rfl (any_of HT_.out (by kernel_rfl)) (fun _ _ _ h => h) (Or.inl ⟨by rfl, ?_⟩) ?_ ?_
            rotate_left
            · intro w'
              go_simp
              with_reducible rfl
            rotate_left
            · simp only [Act.put, sA_, s0_, sS_, i64_w, i32_w]
              rfl
            refine take_ (i := 26) (N := some 206) (v := ?_) (a' := ?_) (bm_ 44 134217727) rfl rfl (take_ofW HT_.out HW_.out (by kernel_rfl)) (fun _ _ _ h => h) (Or.inl ⟨by rfl, ?_⟩) hHeld ?_ ?_
            rotate_left
            · rintro w' hs
              have b_ := Bx.blw J17.out hs J17.out.lt; have c_0 := b_.cell 0 _ rfl; have c_1 := b_.cell 1 _ rfl; have c_2 := b_.cell 2 _ rfl; have c_3 := b_.cell 3 _ rfl; have c_4 := b_.cell 4 _ rfl; have c_5 := b_.cell 5 _ rfl; have c_6 := b_.cell 6 _ rfl; have c_7 := b_.cell 7 _ rfl; have c_8 := b_.cell 8 _ rfl; have c_9 := b_.cell 9 _ rfl; have c_10 := b_.cell 10 _ rfl; have c_11 := b_.cell 11 _ rfl; go_simp
              with_reducible rfl
            rotate_left
            · simp only [Act.put, sA_, s0_, sS_, i64_w, i32_w]
              rfl
            refine pure_ (i := 27) (N := some 207) (v := ?_) (a' := ?_) (bm_ 44 268435455) rfl rfl (any_of HT_.out (by kernel_rfl)) (fun _ _ _ h => h) (Or.inl ⟨by rfl, ?_⟩) ?_ ?_
            rotate_left
            · intro w'
              go_simp
              with_reducible rfl
            rotate_left
            · simp only [Act.put, sA_, s0_, sS_, i64_w, i32_w]
              rfl
            refine pure_ (i := 28) (N := some 208) (v := ?_) (a' := ?_) (bm_ 44 536870911) rfl rfl (any_of HT_.out (by kernel_rfl)) (fun _ _ _ h => h) (Or.inl ⟨by rfl, ?_⟩) ?_ ?_
            rotate_left
            · intro w'
              go_simp
              with_reducible rfl
            rotate_left
            · simp only [Act.put, sA_, s0_, sS_, i64_w, i32_w]
              rfl
            refine pure_ (i := 29) (N := some 209) (v := ?_) (a' := ?_) (bm_ 44 1073741823) rfl rfl (any_of HT_.out (by kernel_rfl)) (fun _ _ _ h => h) (Or.inl ⟨by rfl, ?_⟩) ?_ ?_
            rotate_left
            · intro w'
              go_simp
              with_reducible rfl
            rotate_left
            · simp only [Act.put, sA_, s0_, sS_, i64_w, i32_w]
              rfl
            refine pure_ (i := 30) (N := some 210) (v := ?_) (a' := ?_) (bm_ 44 2147483647) rfl rfl (any_of HT_.out (by kernel_rfl)) (fun _ _ _ h => h) (Or.inl ⟨by rfl, ?_⟩) ?_ ?_
            rotate_left
            · intro w'
              go_simp
              with_reducible rfl
            rotate_left
            · simp only [Act.put, sA_, s0_, sS_, i64_w, i32_w]
              rfl
            refine take_ (i := 31) (N := some 211) (v := ?_) (a' := ?_) (bm_ 44 4294967295) rfl rfl (take_ofW HT_.out HW_.out (by kernel_rfl)) (fun _ _ _ h => h) (Or.inl ⟨by rfl, ?_⟩) hHeld ?_ ?_
            rotate_left
            · rintro w' hs
              obtain ⟨ad_, e_, c_0, c_1, c_2, c_3, c_4, c_5, c_6, c_7, c_8, c_9, c_10, c_11⟩ := at_T59 (Kd.C_below HRv.out hs) (k : Int) (by omega) (by omega); rw [rd_T59_at HXK.out] at c_0 c_1 c_2 c_3 c_4 c_5 c_6 c_7 c_8 c_9 c_10 c_11; simp only [Int.toNat_natCast] at c_0 c_1 c_2 c_3 c_4 c_5 c_6 c_7 c_8 c_9 c_10 c_11; cases e_; go_simp
              with_reducible rfl
            rotate_left
            · simp only [Act.put, sA_, s0_, sS_, i64_w, i32_w]
              rfl
            refine pure_ (i := 32) (N := some 212) (v := ?_) (a' := ?_) (bm_ 44 8589934591) rfl rfl (any_of HT_.out (by kernel_rfl)) (fun _ _ _ h => h) (Or.inl ⟨by rfl, ?_⟩) ?_ ?_
            rotate_left
            · intro w'
              go_simp
              with_reducible rfl
            rotate_left
            · simp only [Act.put, sA_, s0_, sS_, i64_w, i32_w]
              rfl
            refine pure_ (i := 33) (N := some 213) (v := ?_) (a' := ?_) (bm_ 44 17179869183) rfl rfl (any_of HT_.out (by kernel_rfl)) (fun _ _ _ h => h) (Or.inl ⟨by rfl, ?_⟩) ?_ ?_
            rotate_left
            · intro w'
              go_simp
              with_reducible rfl
            rotate_left
            · simp only [Act.put, sA_, s0_, sS_, i64_w, i32_w]
              rfl
            refine pure_ (i := 34) (N := some 214) (v := ?_) (a' := ?_) (bm_ 44 34359738367) rfl rfl (any_of HT_.out (by kernel_rfl)) (fun _ _ _ h => h) (Or.inl ⟨by rfl, ?_⟩) ?_ ?_
            rotate_left
            · intro w'
              go_simp
              with_reducible rfl
            rotate_left
            · simp only [Act.put, sA_, s0_, sS_, i64_w, i32_w]
              rfl
            refine pure_ (i := 35) (N := some 215) (v := ?_) (a' := ?_) (bm_ 44 68719476735) rfl rfl (any_of HT_.out (by kernel_rfl)) (fun _ _ _ h => h) (Or.inl ⟨by rfl, ?_⟩) ?_ ?_
            rotate_left
            · intro w'
              go_simp
              with_reducible rfl
            rotate_left
            · simp only [Act.put, sA_, s0_, sS_, i64_w, i32_w]
              rfl
            refine take_ (i := 36) (N := some 216) (v := ?_) (a' := ?_) (bm_ 44 137438953471) rfl rfl (take_ofW HT_.out HW_.out (by kernel_rfl)) (fun _ _ _ h => h) (Or.inl ⟨by rfl, ?_⟩) hHeld ?_ ?_
            rotate_left
            · rintro w' hs
              have b_ := Bx.blw J17.out hs J17.out.lt; have c_0 := b_.cell 0 _ rfl; have c_1 := b_.cell 1 _ rfl; have c_2 := b_.cell 2 _ rfl; have c_3 := b_.cell 3 _ rfl; have c_4 := b_.cell 4 _ rfl; have c_5 := b_.cell 5 _ rfl; have c_6 := b_.cell 6 _ rfl; have c_7 := b_.cell 7 _ rfl; have c_8 := b_.cell 8 _ rfl; have c_9 := b_.cell 9 _ rfl; have c_10 := b_.cell 10 _ rfl; have c_11 := b_.cell 11 _ rfl; go_simp
              with_reducible rfl
            rotate_left
            · simp only [Act.put, sA_, s0_, sS_, i64_w, i32_w]
              rfl
            refine pure_ (i := 37) (N := some 217) (v := ?_) (a' := ?_) (bm_ 44 274877906943) rfl rfl (any_of HT_.out (by kernel_rfl)) (fun _ _ _ h => h) (Or.inl ⟨by rfl, ?_⟩) ?_ ?_
            rotate_left
            · intro w'
              go_simp
              with_reducible rfl
            rotate_left
            · simp only [Act.put, sA_, s0_, sS_, i64_w, i32_w]
              rfl
            refine pure_ (i := 38) (N := some 218) (v := ?_) (a' := ?_) (bm_ 44 549755813887) rfl rfl (any_of HT_.out (by kernel_rfl)) (fun _ _ _ h => h) (Or.inl ⟨by rfl, ?_⟩) ?_ ?_
            rotate_left
            · intro w'
              go_simp
              with_reducible rfl
            rotate_left
            · simp only [Act.put, sA_, s0_, sS_, i64_w, i32_w]
              rfl
            refine pure_ (i := 39) (N := some 219) (v := ?_) (a' := ?_) (bm_ 44 1099511627775) rfl rfl (any_of HT_.out (by kernel_rfl)) (fun _ _ _ h => h) (Or.inl ⟨by rfl, ?_⟩) ?_ ?_
            rotate_left
            · intro w'
              go_simp
              with_reducible rfl
            rotate_left
            · simp only [Act.put, sA_, s0_, sS_, i64_w, i32_w]
              rfl
            refine pure_ (i := 40) (N := some 220) (v := ?_) (a' := ?_) (bm_ 44 2199023255551) rfl rfl (any_of HT_.out (by kernel_rfl)) (fun _ _ _ h => h) (Or.inl ⟨by rfl, ?_⟩) ?_ ?_
            rotate_left
            · intro w'
              go_simp
              with_reducible rfl
            rotate_left
            · simp only [Act.put, sA_, s0_, sS_, i64_w, i32_w]
              rfl
            refine take_ (i := 41) (N := some 221) (v := ?_) (a' := ?_) (bm_ 44 4398046511103) rfl rfl (take_ofW HT_.out HW_.out (by kernel_rfl)) (fun _ _ _ h => h) (Or.inl ⟨by rfl, ?_⟩) hHeld ?_ ?_
            rotate_left
            · rintro w' hs
              obtain ⟨ad_, e_, c_0, c_1, c_2, c_3, c_4, c_5, c_6, c_7, c_8, c_9, c_10, c_11⟩ := at_T59 (Kd.C_below HRv.out hs) (k : Int) (by omega) (by omega); rw [rd_T59_at HXK.out] at c_0 c_1 c_2 c_3 c_4 c_5 c_6 c_7 c_8 c_9 c_10 c_11; simp only [Int.toNat_natCast] at c_0 c_1 c_2 c_3 c_4 c_5 c_6 c_7 c_8 c_9 c_10 c_11; cases e_; go_simp
              with_reducible rfl
            rotate_left
            · simp only [Act.put, sA_, s0_, sS_, i64_w, i32_w]
              rfl
            refine pure_ (i := 42) (N := some 222) (v := ?_) (a' := ?_) (bm_ 44 8796093022207) rfl rfl (any_of HT_.out (by kernel_rfl)) (fun _ _ _ h => h) (Or.inl ⟨by rfl, ?_⟩) ?_ ?_
            rotate_left
            · intro w'
              go_simp
              with_reducible rfl
            rotate_left
            · simp only [Act.put, sA_, s0_, sS_, i64_w, i32_w]
              rfl
            refine pure_ (i := 43) (N := some 223) (v := ?_) (a' := ?_) (bm_ 44 17592186044415) rfl rfl (any_of HT_.out (by kernel_rfl)) (fun _ _ _ h => h) (Or.inl ⟨by rfl, ?_⟩) ?_ ?_
            rotate_left
            · intro w'
              go_simp
              with_reducible rfl
            rotate_left
            · simp only [Act.put, sA_, s0_, sS_, i64_w, i32_w]
              rfl
            refine done_ (done_of HT_.out (by kernel_rfl)) ?_
            go_wp2
            go_roundw
            case rel => exact ⟨k + 1, by omega, by go_num, ⟨below_drew HBu.out⟩⟩
            case measure => simp [intOf]; omega
          · have hm : (k : Int).tmod 2 = 1 := by rw [Int.tmod_eq_emod_of_nonneg (Int.natCast_nonneg k)]; omega
            by_cases hal : lowS x.f0 = lowS n
            · skip
              have hz : M[k]? = some (⟨q.f0, x.f1, x.f2, x.f3, x.f4⟩ : S59) := by
                rw [HM.out, List.getElem?_map, puts_get hx, turn_odd n hpar x]
                exact congrArg some (by unfold turnP; rw [if_pos hal])
              rw [rd_T59_at hz] at d_0 d_1 d_2 d_3 d_4 d_5 d_6 d_7 d_8 d_9 d_10 d_11
              simp only [Int.toNat_natCast] at d_0 d_1 d_2 d_3 d_4 d_5 d_6 d_7 d_8 d_9 d_10 d_11
              clear hz
              have HAL := Aside0.mk hal
              clear hx hal
              go_wp2
              have K0' := Aside0.mk (X0j.out.alloc (.cells #[.string q.f0, .int .u16 x.f1, .int .u16 x.f2, .int .u32 x.f3, .string x.f4.f0, .string x.f4.f1, .string x.f4.f2, .int .u32 x.f4.f3.f0, .int .u32 x.f4.f3.f1, .int .u32 x.f4.f3.f2, .int .u32 x.f4.f3.f3, .int .u32 x.f4.f3.f4] 59))
              have K7' := Aside0.mk (X7j.out.alloc (.cells #[.string q.f0, .int .u16 x.f1, .int .u16 x.f2, .int .u32 x.f3, .string x.f4.f0, .string x.f4.f1, .string x.f4.f2, .int .u32 x.f4.f3.f0, .int .u32 x.f4.f3.f1, .int .u32 x.f4.f3.f2, .int .u32 x.f4.f3.f3, .int .u32 x.f4.f3.f4] 59))
              have K17' := Aside0.mk (Bx.new wr #[.string q.f0, .int .u16 x.f1, .int .u16 x.f2, .int .u32 x.f3, .string x.f4.f0, .string x.f4.f1, .string x.f4.f2, .int .u32 x.f4.f3.f0, .int .u32 x.f4.f3.f1, .int .u32 x.f4.f3.f2, .int .u32 x.f4.f3.f3, .int .u32 x.f4.f3.f4] 59)
              have HBs' := Aside0.mk (HBr.out.alloc HBr.out.size (.cells #[.string q.f0, .int .u16 x.f1, .int .u16 x.f2, .int .u32 x.f3, .string x.f4.f0, .string x.f4.f1, .string x.f4.f2, .int .u32 x.f4.f3.f0, .int .u32 x.f4.f3.f1, .int .u32 x.f4.f3.f2, .int .u32 x.f4.f3.f3, .int .u32 x.f4.f3.f4] 59))
              have HRq' := Aside0.mk (Kd.C_alloc (Kd.C_below HR10.out HBr.out) (.cells #[.string q.f0, .int .u16 x.f1, .int .u16 x.f2, .int .u32 x.f3, .string x.f4.f0, .string x.f4.f1, .string x.f4.f2, .int .u32 x.f4.f3.f0, .int .u32 x.f4.f3.f1, .int .u32 x.f4.f3.f2, .int .u32 x.f4.f3.f3, .int .u32 x.f4.f3.f4] 59))
              clear c_0 c_1 c_2 c_3 c_4 c_5 c_6 c_7 c_8 c_9 c_10 c_11 d_0 d_1 d_2 d_3 d_4 d_5 d_6 d_7 d_8 d_9 d_10 d_11 b2 y0 lt0 lt7 lt15 had1
              generalize wr.alloc (.cells #[.string q.f0, .int .u16 x.f1, .int .u16 x.f2, .int .u32 x.f3, .string x.f4.f0, .string x.f4.f1, .string x.f4.f2, .int .u32 x.f4.f3.f0, .int .u32 x.f4.f3.f1, .int .u32 x.f4.f3.f2, .int .u32 x.f4.f3.f3, .int .u32 x.f4.f3.f4] 59) = wq at K0' K7' K17' HBs' HRq' ⊢
              have K0 := Aside0.mk K0'.out.drew
              have K7 := Aside0.mk K7'.out.drew
              have K17 := Aside0.mk K17'.out.drew
              have HBs := Aside0.mk (below_drew HBs'.out)
              have HRq := Aside0.mk (Kd.C_drew HRq'.out)
              clear K0' K7' K17' HBs' HRq'
              refine start_ (n := 11) (S := (fun w' => Below wq.drew.heap.size wq.drew w')) (ds := []) (bm_ 11 0) (by kernel_rfl) rfl rfl (Below.refl _ _) (fun hHeld => ?_)
              refine with_tabW turns.tab29 turns.bits29 (fun HT_ HW_ => ?_)
              refine pure_ (i := 0) (N := some 167) (v := ?_) (a' := ?_) (bm_ 11 1) rfl rfl (any_of HT_.out (by kernel_rfl)) (fun _ _ _ h => h) (Or.inl ⟨by rfl, ?_⟩) ?_ ?_
              rotate_left
              · intro w'
                go_simp
                with_reducible rfl
              rotate_left
              · simp only [Act.put, sA_, s0_, sS_, i64_w, i32_w]
                rfl
              refine pure_ (i := 1) (N := some 168) (v := ?_) (a' := ?_) (bm_ 11 3) rfl rfl (any_of HT_.out (by kernel_rfl)) (fun _ _ _ h => h) (Or.inl ⟨by rfl, ?_⟩) ?_ ?_
              rotate_left
              · intro w'
                go_simp
                with_reducible rfl
              rotate_left
              · simp only [Act.put, sA_, s0_, sS_, i64_w, i32_w]
                rfl
              refine pure_ (i := 2) (N := some 169) (v := ?_) (a' := ?_) (bm_ 11 7) rfl rfl (any_of HT_.out (by kernel_rfl)) (fun _ _ _ h => h) (Or.inl ⟨by rfl, ?_⟩) ?_ ?_
              rotate_left
              · intro w'
                go_simp
                with_reducible rfl
              rotate_left
              · simp only [Act.put, sA_, s0_, sS_, i64_w, i32_w]
                rfl
              refine pure_ (i := 3) (N := some 170) (v := ?_) (a' := ?_) (bm_ 11 15) rfl rfl (any_of HT_.out (by kernel_rfl)) (fun _ _ _ h => h) (Or.inl ⟨by rfl, ?_⟩) ?_ ?_
              rotate_left
              · intro w'
                go_simp
                with_reducible rfl
              rotate_left
              · simp only [Act.put, sA_, s0_, sS_, i64_w, i32_w]
                rfl
              refine pure_ (i := 4) (N := some 171) (v := ?_) (a' := ?_) (bm_ 11 31) rfl rfl (any_of HT_.out (by kernel_rfl)) (fun _ _ _ h => h) (Or.inl ⟨by rfl, ?_⟩) ?_ ?_
              rotate_left
              · intro w'
                go_simp
                with_reducible rfl
              rotate_left
              · simp only [Act.put, sA_, s0_, sS_, i64_w, i32_w]
                rfl
              refine pure_ (i := 6) (N := some 173) (v := ?_) (a' := ?_) (bm_ 11 95) rfl rfl (any_of HT_.out (by kernel_rfl)) (fun _ _ _ h => h) (Or.inl ⟨by rfl, ?_⟩) ?_ ?_
              rotate_left
              · intro w'
                go_simp
                with_reducible rfl
              rotate_left
              · simp only [Act.put, sA_, s0_, sS_, i64_w, i32_w]
                rfl
              refine take_ (i := 7) (N := some 174) (v := ?_) (a' := ?_) (bm_ 11 223) rfl rfl (take_ofW HT_.out HW_.out (by kernel_rfl)) (fun _ _ _ h => h) (Or.inl ⟨by rfl, ?_⟩) hHeld ?_ ?_
              rotate_left
              · rintro w' hs
                have b_ := Bx.blw K7.out hs K7.out.lt; have c_0 := b_.cell 0 _ rfl; have c_1 := b_.cell 1 _ rfl; have c_2 := b_.cell 2 _ rfl; go_simp
                with_reducible rfl
              rotate_left
              · simp only [Act.put, sA_, s0_, sS_, i64_w, i32_w]
                rfl
              refine one_ (i := 5) (N := some 172) (bm_ 11 255) rfl rfl (one_of HT_.out (by kernel_rfl)) (by decide) (fun K hK => ?_)
              refine goes_ Try.func26 (by kernel_rfl) rfl #[.string x.f0] (by rfl) rfl rfl (by (try simp only [List.map_toArray, List.map_cons, List.map_nil]); first | done | rfl) ?_
              (with_reducible refine (hearsayref01_Fold.calls x.f0 (lowS n) _ (rfold_f (HS.out x (List.mem_of_getElem? HXK.out)) HAL.out)).mono ?_)
              rintro e u1 ⟨rfl, hbf⟩
              refine ⟨_, rfl, ?_⟩
              refine hK.out _ _ (hHeld.trans (below_to hbf hHeld.size)) (fun hHeld => ?_)
              clear hK K
              refine norm_ (a' := ?_) ?_ ?_
              rotate_left
              · show Act.put _ (some 172) _ = _
                simp only [Act.put, sA_, s0_, sS_, i64_w, i32_w]
                rfl
              refine one_ (i := 8) (N := some 175) (bm_ 11 511) rfl rfl (one_of HT_.out (by kernel_rfl)) (by decide) (fun K hK => ?_)
              refine goes_ Try.func26 (by kernel_rfl) rfl #[.string n] (by rfl) rfl rfl (by (try simp only [List.map_toArray, List.map_cons, List.map_nil]); first | done | rfl) ?_
              (with_reducible refine (hearsayref01_Fold.calls n (lowS n) _ (rfold_f HYS.out rfl)).mono ?_)
              rintro e u ⟨rfl, hbf⟩
              refine ⟨_, rfl, ?_⟩
              refine hK.out _ _ (hHeld.trans (below_to hbf hHeld.size)) (fun hHeld => ?_)
              clear hK K
              refine norm_ (a' := ?_) ?_ ?_
              rotate_left
              · show Act.put _ (some 175) _ = _
                simp only [Act.put, sA_, s0_, sS_, i64_w, i32_w]
                rfl
              refine pure_ (i := 9) (N := some 176) (v := ?_) (a' := ?_) (bm_ 11 1023) rfl rfl (any_of HT_.out (by kernel_rfl)) (fun _ _ _ h => h) (Or.inl ⟨by rfl, ?_⟩) ?_ ?_
              rotate_left
              · intro w'
                go_simp
                with_reducible rfl
              rotate_left
              · simp only [Act.put, sA_, s0_, sS_, i64_w, i32_w]
                rfl
              refine pure_ (i := 10) (N := some 177) (v := ?_) (a' := ?_) (bm_ 11 2047) rfl rfl (any_of HT_.out (by kernel_rfl)) (fun _ _ _ h => h) (Or.inl ⟨by rfl, ?_⟩) ?_ ?_
              rotate_left
              · intro w'
                go_simp
                with_reducible rfl
              rotate_left
              · simp only [Act.put, sA_, s0_, sS_, i64_w, i32_w]
                rfl
              refine done_ (done_of HT_.out (by kernel_rfl)) ?_
              have K0u := Aside0.mk (Bx.blw K0.out hHeld K0.out.lt)
              have K17u := Aside0.mk (Bx.blw K17.out hHeld K17.out.lt)
              have HBu := Aside0.mk (HBs.out.trans (below_to hHeld HBs.out.size))
              have HRu := Aside0.mk (Kd.C_below HRq.out hHeld)
              clear hHeld K0 K7 K17 HBs HRq
              have p0 := K0u.out.cell 0 _ rfl
              have lt0 := K0u.out.lt
              go_wp2
              clear p0 lt0
              have J17 := Aside0.mk K17u.out.drew
              have HRv := Aside0.mk (Kd.C_drew HRu.out)
              refine start_ (n := 44) (S := (fun w' => Below u.drew.heap.size u.drew w')) (ds := []) (bm_ 44 0) (by kernel_rfl) rfl rfl (Below.refl _ _) (fun hHeld => ?_)
              refine with_tabW turns.tab31 turns.bits31 (fun HT_ HW_ => ?_)
              refine pure_ (i := 0) (N := some 180) (v := ?_) (a' := ?_) (bm_ 44 1) rfl rfl (any_of HT_.out (by kernel_rfl)) (fun _ _ _ h => h) (Or.inl ⟨by rfl, ?_⟩) ?_ ?_
              rotate_left
              · intro w'
                go_simp
                with_reducible rfl
              rotate_left
              · simp only [Act.put, sA_, s0_, sS_, i64_w, i32_w]
                rfl
              refine take_ (i := 1) (N := some 181) (v := ?_) (a' := ?_) (bm_ 44 3) rfl rfl (take_ofW HT_.out HW_.out (by kernel_rfl)) (fun _ _ _ h => h) (Or.inl ⟨by rfl, ?_⟩) hHeld ?_ ?_
              rotate_left
              · rintro w' hs
                have b_ := Bx.blw J17.out hs J17.out.lt; have c_0 := b_.cell 0 _ rfl; have c_1 := b_.cell 1 _ rfl; have c_2 := b_.cell 2 _ rfl; have c_3 := b_.cell 3 _ rfl; have c_4 := b_.cell 4 _ rfl; have c_5 := b_.cell 5 _ rfl; have c_6 := b_.cell 6 _ rfl; have c_7 := b_.cell 7 _ rfl; have c_8 := b_.cell 8 _ rfl; have c_9 := b_.cell 9 _ rfl; have c_10 := b_.cell 10 _ rfl; have c_11 := b_.cell 11 _ rfl; go_simp
                with_reducible rfl
              rotate_left
              · simp only [Act.put, sA_, s0_, sS_, i64_w, i32_w]
                rfl
              refine pure_ (i := 2) (N := some 182) (v := ?_) (a' := ?_) (bm_ 44 7) rfl rfl (any_of HT_.out (by kernel_rfl)) (fun _ _ _ h => h) (Or.inl ⟨by rfl, ?_⟩) ?_ ?_
              rotate_left
              · intro w'
                go_simp
                with_reducible rfl
              rotate_left
              · simp only [Act.put, sA_, s0_, sS_, i64_w, i32_w]
                rfl
              refine pure_ (i := 3) (N := some 183) (v := ?_) (a' := ?_) (bm_ 44 15) rfl rfl (any_of HT_.out (by kernel_rfl)) (fun _ _ _ h => h) (Or.inl ⟨by rfl, ?_⟩) ?_ ?_
              rotate_left
              · intro w'
                go_simp
                with_reducible rfl
              rotate_left
              · simp only [Act.put, sA_, s0_, sS_, i64_w, i32_w]
                rfl
              refine pure_ (i := 4) (N := some 184) (v := ?_) (a' := ?_) (bm_ 44 31) rfl rfl (any_of HT_.out (by kernel_rfl)) (fun _ _ _ h => h) (Or.inl ⟨by rfl, ?_⟩) ?_ ?_
              rotate_left
              · intro w'
                go_simp
                with_reducible rfl
              rotate_left
              · simp only [Act.put, sA_, s0_, sS_, i64_w, i32_w]
                rfl
              refine pure_ (i := 5) (N := some 185) (v := ?_) (a' := ?_) (bm_ 44 63) rfl rfl (any_of HT_.out (by kernel_rfl)) (fun _ _ _ h => h) (Or.inl ⟨by rfl, ?_⟩) ?_ ?_
              rotate_left
              · intro w'
                go_simp
                with_reducible rfl
              rotate_left
              · simp only [Act.put, sA_, s0_, sS_, i64_w, i32_w]
                rfl
              refine take_ (i := 6) (N := some 186) (v := ?_) (a' := ?_) (bm_ 44 127) rfl rfl (take_ofW HT_.out HW_.out (by kernel_rfl)) (fun _ _ _ h => h) (Or.inl ⟨by rfl, ?_⟩) hHeld ?_ ?_
              rotate_left
              · rintro w' hs
                have b_ := Bx.blw J17.out hs J17.out.lt; have c_0 := b_.cell 0 _ rfl; have c_1 := b_.cell 1 _ rfl; have c_2 := b_.cell 2 _ rfl; have c_3 := b_.cell 3 _ rfl; have c_4 := b_.cell 4 _ rfl; have c_5 := b_.cell 5 _ rfl; have c_6 := b_.cell 6 _ rfl; have c_7 := b_.cell 7 _ rfl; have c_8 := b_.cell 8 _ rfl; have c_9 := b_.cell 9 _ rfl; have c_10 := b_.cell 10 _ rfl; have c_11 := b_.cell 11 _ rfl; go_simp
                with_reducible rfl
              rotate_left
              · simp only [Act.put, sA_, s0_, sS_, i64_w, i32_w]
                rfl
              refine pure_ (i := 7) (N := some 187) (v := ?_) (a' := ?_) (bm_ 44 255) rfl rfl (any_of HT_.out (by kernel_rfl)) (fun _ _ _ h => h) (Or.inl ⟨by rfl, ?_⟩) ?_ ?_
              rotate_left
              · intro w'
                go_simp
                with_reducible rfl
              rotate_left
              · simp only [Act.put, sA_, s0_, sS_, i64_w, i32_w]
                rfl
              refine pure_ (i := 8) (N := some 188) (v := ?_) (a' := ?_) (bm_ 44 511) rfl rfl (any_of HT_.out (by kernel_rfl)) (fun _ _ _ h => h) (Or.inl ⟨by rfl, ?_⟩) ?_ ?_
              rotate_left
              · intro w'
                go_simp
                with_reducible rfl
              rotate_left
              · simp only [Act.put, sA_, s0_, sS_, i64_w, i32_w]
                rfl
              refine pure_ (i := 9) (N := some 189) (v := ?_) (a' := ?_) (bm_ 44 1023) rfl rfl (any_of HT_.out (by kernel_rfl)) (fun _ _ _ h => h) (Or.inl ⟨by rfl, ?_⟩) ?_ ?_
              rotate_left
              · intro w'
                go_simp
                with_reducible rfl
              rotate_left
              · simp only [Act.put, sA_, s0_, sS_, i64_w, i32_w]
                rfl
              refine pure_ (i := 10) (N := some 190) (v := ?_) (a' := ?_) (bm_ 44 2047) rfl rfl (any_of HT_.out (by kernel_rfl)) (fun _ _ _ h => h) (Or.inl ⟨by rfl, ?_⟩) ?_ ?_
              rotate_left
              · intro w'
                go_simp
                with_reducible rfl
              rotate_left
              · simp only [Act.put, sA_, s0_, sS_, i64_w, i32_w]
                rfl
              refine take_ (i := 11) (N := some 191) (v := ?_) (a' := ?_) (bm_ 44 4095) rfl rfl (take_ofW HT_.out HW_.out (by kernel_rfl)) (fun _ _ _ h => h) (Or.inl ⟨by rfl, ?_⟩) hHeld ?_ ?_
              rotate_left
              · rintro w' hs
                obtain ⟨ad_, e_, c_0, c_1, c_2, c_3, c_4, c_5, c_6, c_7, c_8, c_9, c_10, c_11⟩ := at_T59 (Kd.C_below HRv.out hs) (k : Int) (by omega) (by omega); rw [rd_T59_at HXK.out] at c_0 c_1 c_2 c_3 c_4 c_5 c_6 c_7 c_8 c_9 c_10 c_11; simp only [Int.toNat_natCast] at c_0 c_1 c_2 c_3 c_4 c_5 c_6 c_7 c_8 c_9 c_10 c_11; cases e_; go_simp
                with_reducible rfl
              rotate_left
              · simp only [Act.put, sA_, s0_, sS_, i64_w, i32_w]
                rfl
              refine pure_ (i := 12) (N := some 192) (v := ?_) (a' := ?_) (bm_ 44 8191) rfl rfl (any_of HT_.out (by kernel_rfl)) (fun _ _ _ h => h) (Or.inl ⟨by rfl, ?_⟩) ?_ ?_
              rotate_left
              · intro w'
                go_simp
                with_reducible rfl
              rotate_left
              · simp only [Act.put, sA_, s0_, sS_, i64_w, i32_w]
                rfl
              refine pure_ (i := 13) (N := some 193) (v := ?_) (a' := ?_) (bm_ 44 16383) rfl rfl (any_of HT_.out (by kernel_rfl)) (fun _ _ _ h => h) (Or.inl ⟨by rfl, ?_⟩) ?_ ?_
              rotate_left
              · intro w'
                go_simp
                with_reducible rfl
              rotate_left
              · simp only [Act.put, sA_, s0_, sS_, i64_w, i32_w]
                rfl
              refine pure_ (i := 14) (N := some 194) (v := ?_) (a' := ?_) (bm_ 44 32767) rfl rfl (any_of HT_.out (by kernel_rfl)) (fun _ _ _ h => h) (Or.inl ⟨by rfl, ?_⟩) ?_ ?_
              rotate_left
              · intro w'
                go_simp
                with_reducible rfl
              rotate_left
              · simp only [Act.put, sA_, s0_, sS_, i64_w, i32_w]
                rfl
              refine pure_ (i := 15) (N := some 195) (v := ?_) (a' := ?_) (bm_ 44 65535) rfl rfl (any_of HT_.out (by kernel_rfl)) (fun _ _ _ h => h) (Or.inl ⟨by rfl, ?_⟩) ?_ ?_
              rotate_left
              · intro w'
                go_simp
                with_reducible rfl
              rotate_left
              · simp only [Act.put, sA_, s0_, sS_, i64_w, i32_w]
                rfl
              refine take_ (i := 16) (N := some 196) (v := ?_) (a' := ?_) (bm_ 44 131071) rfl rfl (take_ofW HT_.out HW_.out (by kernel_rfl)) (fun _ _ _ h => h) (Or.inl ⟨by rfl, ?_⟩) hHeld ?_ ?_
              rotate_left
              · rintro w' hs
                have b_ := Bx.blw J17.out hs J17.out.lt; have c_0 := b_.cell 0 _ rfl; have c_1 := b_.cell 1 _ rfl; have c_2 := b_.cell 2 _ rfl; have c_3 := b_.cell 3 _ rfl; have c_4 := b_.cell 4 _ rfl; have c_5 := b_.cell 5 _ rfl; have c_6 := b_.cell 6 _ rfl; have c_7 := b_.cell 7 _ rfl; have c_8 := b_.cell 8 _ rfl; have c_9 := b_.cell 9 _ rfl; have c_10 := b_.cell 10 _ rfl; have c_11 := b_.cell 11 _ rfl; go_simp
                with_reducible rfl
              rotate_left
              · simp only [Act.put, sA_, s0_, sS_, i64_w, i32_w]
                rfl
              refine pure_ (i := 17) (N := some 197) (v := ?_) (a' := ?_) (bm_ 44 262143) rfl rfl (any_of HT_.out (by kernel_rfl)) (fun _ _ _ h => h) (Or.inl ⟨by rfl, ?_⟩) ?_ ?_
              rotate_left
              · intro w'
                go_simp
                with_reducible rfl
              rotate_left
              · simp only [Act.put, sA_, s0_, sS_, i64_w, i32_w]
                rfl
              refine pure_ (i := 18) (N := some 198) (v := ?_) (a' := ?_) (bm_ 44 524287) rfl rfl (any_of HT_.out (by kernel_rfl)) (fun _ _ _ h => h) (Or.inl ⟨by rfl, ?_⟩) ?_ ?_
              rotate_left
              · intro w'
                go_simp
                with_reducible rfl
              rotate_left
              · simp only [Act.put, sA_, s0_, sS_, i64_w, i32_w]
                rfl
              refine pure_ (i := 19) (N := some 199) (v := ?_) (a' := ?_) (bm_ 44 1048575) rfl rfl (any_of HT_.out (by kernel_rfl)) (fun _ _ _ h => h) (Or.inl ⟨by rfl, ?_⟩) ?_ ?_
              rotate_left
              · intro w'
                go_simp
                with_reducible rfl
              rotate_left
              · simp only [Act.put, sA_, s0_, sS_, i64_w, i32_w]
                rfl
              refine pure_ (i := 20) (N := some 200) (v := ?_) (a' := ?_) (bm_ 44 2097151) rfl rfl (any_of HT_.out (by kernel_rfl)) (fun _ _ _ h => h) (Or.inl ⟨by rfl, ?_⟩) ?_ ?_
              rotate_left
              · intro w'
                go_simp
                with_reducible rfl
              rotate_left
              · simp only [Act.put, sA_, s0_, sS_, i64_w, i32_w]
                rfl
              refine take_ (i := 21) (N := some 201) (v := ?_) (a' := ?_) (bm_ 44 4194303) rfl rfl (take_ofW HT_.out HW_.out (by kernel_rfl)) (fun _ _ _ h => h) (Or.inl ⟨by rfl, ?_⟩) hHeld ?_ ?_
              rotate_left
              · rintro w' hs
                obtain ⟨ad_, e_, c_0, c_1, c_2, c_3, c_4, c_5, c_6, c_7, c_8, c_9, c_10, c_11⟩ := at_T59 (Kd.C_below HRv.out hs) (k : Int) (by omega) (by omega); rw [rd_T59_at HXK.out] at c_0 c_1 c_2 c_3 c_4 c_5 c_6 c_7 c_8 c_9 c_10 c_11; simp only [Int.toNat_natCast] at c_0 c_1 c_2 c_3 c_4 c_5 c_6 c_7 c_8 c_9 c_10 c_11; cases e_; go_simp
                with_reducible rfl
              rotate_left
              · simp only [Act.put, sA_, s0_, sS_, i64_w, i32_w]
                rfl
              refine pure_ (i := 22) (N := some 202) (v := ?_) (a' := ?_) (bm_ 44 8388607) rfl rfl (any_of HT_.out (by kernel_rfl)) (fun _ _ _ h => h) (Or.inl ⟨by rfl, ?_⟩) ?_ ?_
              rotate_left
              · intro w'
                go_simp
                with_reducible rfl
              rotate_left
              · simp only [Act.put, sA_, s0_, sS_, i64_w, i32_w]
                rfl
              refine pure_ (i := 23) (N := some 203) (v := ?_) (a' := ?_) (bm_ 44 16777215) rfl rfl (any_of HT_.out (by kernel_rfl)) (fun _ _ _ h => h) (Or.inl ⟨by rfl, ?_⟩) ?_ ?_
              rotate_left
              · intro w'
                go_simp
                with_reducible rfl
              rotate_left
              · simp only [Act.put, sA_, s0_, sS_, i64_w, i32_w]
                rfl
              refine pure_ (i := 24) (N := some 204) (v := ?_) (a' := ?_) (bm_ 44 33554431) rfl rfl (any_of HT_.out (by kernel_rfl)) (fun _ _ _ h => h) (Or.inl ⟨by rfl, ?_⟩) ?_ ?_
              rotate_left
              · intro w'
                go_simp
                with_reducible rfl
              rotate_left
              · simp only [Act.put, sA_, s0_, sS_, i64_w, i32_w]
                rfl
              refine pure_ (i := 25) (N := some 205) (v := ?_) (a' := ?_) (bm_ 44 67108863) rfl rfl (any_of HT_.out (by kernel_rfl)) (fun _ _ _ h => h) (Or.inl ⟨by rfl, ?_⟩) ?_ ?_
              rotate_left
              · intro w'
                go_simp
                with_reducible rfl
              rotate_left
              · simp only [Act.put, sA_, s0_, sS_, i64_w, i32_w]
                rfl
              refine take_ (i := 26) (N := some 206) (v := ?_) (a' := ?_) (bm_ 44 134217727) rfl rfl (take_ofW HT_.out HW_.out (by kernel_rfl)) (fun _ _ _ h => h) (Or.inl ⟨by rfl, ?_⟩) hHeld ?_ ?_
              rotate_left
              · rintro w' hs
                have b_ := Bx.blw J17.out hs J17.out.lt; have c_0 := b_.cell 0 _ rfl; have c_1 := b_.cell 1 _ rfl; have c_2 := b_.cell 2 _ rfl; have c_3 := b_.cell 3 _ rfl; have c_4 := b_.cell 4 _ rfl; have c_5 := b_.cell 5 _ rfl; have c_6 := b_.cell 6 _ rfl; have c_7 := b_.cell 7 _ rfl; have c_8 := b_.cell 8 _ rfl; have c_9 := b_.cell 9 _ rfl; have c_10 := b_.cell 10 _ rfl; have c_11 := b_.cell 11 _ rfl; go_simp
                with_reducible rfl
              rotate_left
              · simp only [Act.put, sA_, s0_, sS_, i64_w, i32_w]
                rfl
              refine pure_ (i := 27) (N := some 207) (v := ?_) (a' := ?_) (bm_ 44 268435455) rfl rfl (any_of HT_.out (by kernel_rfl)) (fun _ _ _ h => h) (Or.inl ⟨by rfl, ?_⟩) ?_ ?_
              rotate_left
              · intro w'
                go_simp
                with_reducible rfl
              rotate_left
              · simp only [Act.put, sA_, s0_, sS_, i64_w, i32_w]
                rfl
              refine pure_ (i := 28) (N := some 208) (v := ?_) (a' := ?_) (bm_ 44 536870911) rfl rfl (any_of HT_.out (by kernel_rfl)) (fun _ _ _ h => h) (Or.inl ⟨by rfl, ?_⟩) ?_ ?_
              rotate_left
              · intro w'
                go_simp
                with_reducible rfl
              rotate_left
              · simp only [Act.put, sA_, s0_, sS_, i64_w, i32_w]
                rfl
              refine pure_ (i := 29) (N := some 209) (v := ?_) (a' := ?_) (bm_ 44 1073741823) rfl rfl (any_of HT_.out (by kernel_rfl)) (fun _ _ _ h => h) (Or.inl ⟨by rfl, ?_⟩) ?_ ?_
              rotate_left
              · intro w'
                go_simp
                with_reducible rfl
              rotate_left
              · simp only [Act.put, sA_, s0_, sS_, i64_w, i32_w]
                rfl
              refine pure_ (i := 30) (N := some 210) (v := ?_) (a' := ?_) (bm_ 44 2147483647) rfl rfl (any_of HT_.out (by kernel_rfl)) (fun _ _ _ h => h) (Or.inl ⟨by rfl, ?_⟩) ?_ ?_
              rotate_left
              · intro w'
                go_simp
                with_reducible rfl
              rotate_left
              · simp only [Act.put, sA_, s0_, sS_, i64_w, i32_w]
                rfl
              refine take_ (i := 31) (N := some 211) (v := ?_) (a' := ?_) (bm_ 44 4294967295) rfl rfl (take_ofW HT_.out HW_.out (by kernel_rfl)) (fun _ _ _ h => h) (Or.inl ⟨by rfl, ?_⟩) hHeld ?_ ?_
              rotate_left
              · rintro w' hs
                obtain ⟨ad_, e_, c_0, c_1, c_2, c_3, c_4, c_5, c_6, c_7, c_8, c_9, c_10, c_11⟩ := at_T59 (Kd.C_below HRv.out hs) (k : Int) (by omega) (by omega); rw [rd_T59_at HXK.out] at c_0 c_1 c_2 c_3 c_4 c_5 c_6 c_7 c_8 c_9 c_10 c_11; simp only [Int.toNat_natCast] at c_0 c_1 c_2 c_3 c_4 c_5 c_6 c_7 c_8 c_9 c_10 c_11; cases e_; go_simp
                with_reducible rfl
              rotate_left
              · simp only [Act.put, sA_, s0_, sS_, i64_w, i32_w]
                rfl
              refine pure_ (i := 32) (N := some 212) (v := ?_) (a' := ?_) (bm_ 44 8589934591) rfl rfl (any_of HT_.out (by kernel_rfl)) (fun _ _ _ h => h) (Or.inl ⟨by rfl, ?_⟩) ?_ ?_
              rotate_left
              · intro w'
                go_simp
                with_reducible rfl
              rotate_left
              · simp only [Act.put, sA_, s0_, sS_, i64_w, i32_w]
                rfl
              refine pure_ (i := 33) (N := some 213) (v := ?_) (a' := ?_) (bm_ 44 17179869183) rfl rfl (any_of HT_.out (by kernel_rfl)) (fun _ _ _ h => h) (Or.inl ⟨by rfl, ?_⟩) ?_ ?_
              rotate_left
              · intro w'
                go_simp
                with_reducible rfl
              rotate_left
              · simp only [Act.put, sA_, s0_, sS_, i64_w, i32_w]
                rfl
              refine pure_ (i := 34) (N := some 214) (v := ?_) (a' := ?_) (bm_ 44 34359738367) rfl rfl (any_of HT_.out (by kernel_rfl)) (fun _ _ _ h => h) (Or.inl ⟨by rfl, ?_⟩) ?_ ?_
              rotate_left
              · intro w'
                go_simp
                with_reducible rfl
              rotate_left
              · simp only [Act.put, sA_, s0_, sS_, i64_w, i32_w]
                rfl
              refine pure_ (i := 35) (N := some 215) (v := ?_) (a' := ?_) (bm_ 44 68719476735) rfl rfl (any_of HT_.out (by kernel_rfl)) (fun _ _ _ h => h) (Or.inl ⟨by rfl, ?_⟩) ?_ ?_
              rotate_left
              · intro w'
                go_simp
                with_reducible rfl
              rotate_left
              · simp only [Act.put, sA_, s0_, sS_, i64_w, i32_w]
                rfl
              refine take_ (i := 36) (N := some 216) (v := ?_) (a' := ?_) (bm_ 44 137438953471) rfl rfl (take_ofW HT_.out HW_.out (by kernel_rfl)) (fun _ _ _ h => h) (Or.inl ⟨by rfl, ?_⟩) hHeld ?_ ?_
              rotate_left
              · rintro w' hs
                have b_ := Bx.blw J17.out hs J17.out.lt; have c_0 := b_.cell 0 _ rfl; have c_1 := b_.cell 1 _ rfl; have c_2 := b_.cell 2 _ rfl; have c_3 := b_.cell 3 _ rfl; have c_4 := b_.cell 4 _ rfl; have c_5 := b_.cell 5 _ rfl; have c_6 := b_.cell 6 _ rfl; have c_7 := b_.cell 7 _ rfl; have c_8 := b_.cell 8 _ rfl; have c_9 := b_.cell 9 _ rfl; have c_10 := b_.cell 10 _ rfl; have c_11 := b_.cell 11 _ rfl; go_simp
                with_reducible rfl
              rotate_left
              · simp only [Act.put, sA_, s0_, sS_, i64_w, i32_w]
                rfl
              refine pure_ (i := 37) (N := some 217) (v := ?_) (a' := ?_) (bm_ 44 274877906943) rfl rfl (any_of HT_.out (by kernel_rfl)) (fun _ _ _ h => h) (Or.inl ⟨by rfl, ?_⟩) ?_ ?_
              rotate_left
              · intro w'
                go_simp
                with_reducible rfl
              rotate_left
              · simp only [Act.put, sA_, s0_, sS_, i64_w, i32_w]
                rfl
              refine pure_ (i := 38) (N := some 218) (v := ?_) (a' := ?_) (bm_ 44 549755813887) rfl rfl (any_of HT_.out (by kernel_rfl)) (fun _ _ _ h => h) (Or.inl ⟨by rfl, ?_⟩) ?_ ?_
              rotate_left
              · intro w'
                go_simp
                with_reducible rfl
              rotate_left
              · simp only [Act.put, sA_, s0_, sS_, i64_w, i32_w]
                rfl
              refine pure_ (i := 39) (N := some 219) (v := ?_) (a' := ?_) (bm_ 44 1099511627775) rfl rfl (any_of HT_.out (by kernel_rfl)) (fun _ _ _ h => h) (Or.inl ⟨by rfl, ?_⟩) ?_ ?_
              rotate_left
              · intro w'
                go_simp
                with_reducible rfl
              rotate_left
              · simp only [Act.put, sA_, s0_, sS_, i64_w, i32_w]
                rfl
              refine pure_ (i := 40) (N := some 220) (v := ?_) (a' := ?_) (bm_ 44 2199023255551) rfl rfl (any_of HT_.out (by kernel_rfl)) (fun _ _ _ h => h) (Or.inl ⟨by rfl, ?_⟩) ?_ ?_
              rotate_left
              · intro w'
                go_simp
                with_reducible rfl
              rotate_left
              · simp only [Act.put, sA_, s0_, sS_, i64_w, i32_w]
                rfl
              refine take_ (i := 41) (N := some 221) (v := ?_) (a' := ?_) (bm_ 44 4398046511103) rfl rfl (take_ofW HT_.out HW_.out (by kernel_rfl)) (fun _ _ _ h => h) (Or.inl ⟨by rfl, ?_⟩) hHeld ?_ ?_
              rotate_left
              · rintro w' hs
                obtain ⟨ad_, e_, c_0, c_1, c_2, c_3, c_4, c_5, c_6, c_7, c_8, c_9, c_10, c_11⟩ := at_T59 (Kd.C_below HRv.out hs) (k : Int) (by omega) (by omega); rw [rd_T59_at HXK.out] at c_0 c_1 c_2 c_3 c_4 c_5 c_6 c_7 c_8 c_9 c_10 c_11; simp only [Int.toNat_natCast] at c_0 c_1 c_2 c_3 c_4 c_5 c_6 c_7 c_8 c_9 c_10 c_11; cases e_; go_simp
                with_reducible rfl
              rotate_left
              · simp only [Act.put, sA_, s0_, sS_, i64_w, i32_w]
                rfl
              refine pure_ (i := 42) (N := some 222) (v := ?_) (a' := ?_) (bm_ 44 8796093022207) rfl rfl (any_of HT_.out (by kernel_rfl)) (fun _ _ _ h => h) (Or.inl ⟨by rfl, ?_⟩) ?_ ?_
              rotate_left
              · intro w'
                go_simp
                with_reducible rfl
              rotate_left
              · simp only [Act.put, sA_, s0_, sS_, i64_w, i32_w]
                rfl
              refine pure_ (i := 43) (N := some 223) (v := ?_) (a' := ?_) (bm_ 44 17592186044415) rfl rfl (any_of HT_.out (by kernel_rfl)) (fun _ _ _ h => h) (Or.inl ⟨by rfl, ?_⟩) ?_ ?_
              rotate_left
              · intro w'
                go_simp
                with_reducible rfl
              rotate_left
              · simp only [Act.put, sA_, s0_, sS_, i64_w, i32_w]
                rfl
              refine done_ (done_of HT_.out (by kernel_rfl)) ?_
              go_wp2
              go_roundw
              case rel => exact ⟨k + 1, by omega, by go_num, ⟨below_drew HBu.out⟩⟩
              case measure => simp [intOf]; omega
            · skip
              have hz : M[k]? = some (⟨x.f0, x.f1, x.f2, x.f3, x.f4⟩ : S59) := by
                rw [HM.out, List.getElem?_map, puts_get hx, turn_odd n hpar x]
                exact congrArg some (by unfold turnP; rw [if_neg hal])
              rw [rd_T59_at hz] at d_0 d_1 d_2 d_3 d_4 d_5 d_6 d_7 d_8 d_9 d_10 d_11
              simp only [Int.toNat_natCast] at d_0 d_1 d_2 d_3 d_4 d_5 d_6 d_7 d_8 d_9 d_10 d_11
              clear hz
              have hnl : ((lowS x.f0).toList == (lowS n).toList) = false := by rw [beq_eq_false_iff_ne]; exact fun h => hal (lows_eq.1 h)
              clear hx
              go_wp2
              have K0' := Aside0.mk (X0j.out.alloc (.cells #[.string x.f0, .int .u16 x.f1, .int .u16 x.f2, .int .u32 x.f3, .string x.f4.f0, .string x.f4.f1, .string x.f4.f2, .int .u32 x.f4.f3.f0, .int .u32 x.f4.f3.f1, .int .u32 x.f4.f3.f2, .int .u32 x.f4.f3.f3, .int .u32 x.f4.f3.f4] 59))
              have K7' := Aside0.mk (X7j.out.alloc (.cells #[.string x.f0, .int .u16 x.f1, .int .u16 x.f2, .int .u32 x.f3, .string x.f4.f0, .string x.f4.f1, .string x.f4.f2, .int .u32 x.f4.f3.f0, .int .u32 x.f4.f3.f1, .int .u32 x.f4.f3.f2, .int .u32 x.f4.f3.f3, .int .u32 x.f4.f3.f4] 59))
              have K17' := Aside0.mk (Bx.new wr #[.string x.f0, .int .u16 x.f1, .int .u16 x.f2, .int .u32 x.f3, .string x.f4.f0, .string x.f4.f1, .string x.f4.f2, .int .u32 x.f4.f3.f0, .int .u32 x.f4.f3.f1, .int .u32 x.f4.f3.f2, .int .u32 x.f4.f3.f3, .int .u32 x.f4.f3.f4] 59)
              have HBs' := Aside0.mk (HBr.out.alloc HBr.out.size (.cells #[.string x.f0, .int .u16 x.f1, .int .u16 x.f2, .int .u32 x.f3, .string x.f4.f0, .string x.f4.f1, .string x.f4.f2, .int .u32 x.f4.f3.f0, .int .u32 x.f4.f3.f1, .int .u32 x.f4.f3.f2, .int .u32 x.f4.f3.f3, .int .u32 x.f4.f3.f4] 59))
              have HRq' := Aside0.mk (Kd.C_alloc (Kd.C_below HR10.out HBr.out) (.cells #[.string x.f0, .int .u16 x.f1, .int .u16 x.f2, .int .u32 x.f3, .string x.f4.f0, .string x.f4.f1, .string x.f4.f2, .int .u32 x.f4.f3.f0, .int .u32 x.f4.f3.f1, .int .u32 x.f4.f3.f2, .int .u32 x.f4.f3.f3, .int .u32 x.f4.f3.f4] 59))
              clear c_0 c_1 c_2 c_3 c_4 c_5 c_6 c_7 c_8 c_9 c_10 c_11 d_0 d_1 d_2 d_3 d_4 d_5 d_6 d_7 d_8 d_9 d_10 d_11 b2 y0 lt0 lt7 lt15 had1
              generalize wr.alloc (.cells #[.string x.f0, .int .u16 x.f1, .int .u16 x.f2, .int .u32 x.f3, .string x.f4.f0, .string x.f4.f1, .string x.f4.f2, .int .u32 x.f4.f3.f0, .int .u32 x.f4.f3.f1, .int .u32 x.f4.f3.f2, .int .u32 x.f4.f3.f3, .int .u32 x.f4.f3.f4] 59) = wq at K0' K7' K17' HBs' HRq' ⊢
              have K0 := Aside0.mk K0'.out.drew
              have K7 := Aside0.mk K7'.out.drew
              have K17 := Aside0.mk K17'.out.drew
              have HBs := Aside0.mk (below_drew HBs'.out)
              have HRq := Aside0.mk (Kd.C_drew HRq'.out)
              clear K0' K7' K17' HBs' HRq'
              refine start_ (n := 11) (S := (fun w' => Below wq.drew.heap.size wq.drew w')) (ds := []) (bm_ 11 0) (by kernel_rfl) rfl rfl (Below.refl _ _) (fun hHeld => ?_)
              refine with_tabW turns.tab29 turns.bits29 (fun HT_ HW_ => ?_)
              refine pure_ (i := 0) (N := some 167) (v := ?_) (a' := ?_) (bm_ 11 1) rfl rfl (any_of HT_.out (by kernel_rfl)) (fun _ _ _ h => h) (Or.inl ⟨by rfl, ?_⟩) ?_ ?_
              rotate_left
              · intro w'
                go_simp
                with_reducible rfl
              rotate_left
              · simp only [Act.put, sA_, s0_, sS_, i64_w, i32_w]
                rfl
              refine pure_ (i := 1) (N := some 168) (v := ?_) (a' := ?_) (bm_ 11 3) rfl rfl (any_of HT_.out (by kernel_rfl)) (fun _ _ _ h => h) (Or.inl ⟨by rfl, ?_⟩) ?_ ?_
              rotate_left
              · intro w'
                go_simp
                with_reducible rfl
              rotate_left
              · simp only [Act.put, sA_, s0_, sS_, i64_w, i32_w]
                rfl
              refine pure_ (i := 2) (N := some 169) (v := ?_) (a' := ?_) (bm_ 11 7) rfl rfl (any_of HT_.out (by kernel_rfl)) (fun _ _ _ h => h) (Or.inl ⟨by rfl, ?_⟩) ?_ ?_
              rotate_left
              · intro w'
                go_simp
                with_reducible rfl
              rotate_left
              · simp only [Act.put, sA_, s0_, sS_, i64_w, i32_w]
                rfl
              refine pure_ (i := 3) (N := some 170) (v := ?_) (a' := ?_) (bm_ 11 15) rfl rfl (any_of HT_.out (by kernel_rfl)) (fun _ _ _ h => h) (Or.inl ⟨by rfl, ?_⟩) ?_ ?_
              rotate_left
              · intro w'
                go_simp
                with_reducible rfl
              rotate_left
              · simp only [Act.put, sA_, s0_, sS_, i64_w, i32_w]
                rfl
              refine pure_ (i := 4) (N := some 171) (v := ?_) (a' := ?_) (bm_ 11 31) rfl rfl (any_of HT_.out (by kernel_rfl)) (fun _ _ _ h => h) (Or.inl ⟨by rfl, ?_⟩) ?_ ?_
              rotate_left
              · intro w'
                go_simp
                with_reducible rfl
              rotate_left
              · simp only [Act.put, sA_, s0_, sS_, i64_w, i32_w]
                rfl
              refine pure_ (i := 6) (N := some 173) (v := ?_) (a' := ?_) (bm_ 11 95) rfl rfl (any_of HT_.out (by kernel_rfl)) (fun _ _ _ h => h) (Or.inl ⟨by rfl, ?_⟩) ?_ ?_
              rotate_left
              · intro w'
                go_simp
                with_reducible rfl
              rotate_left
              · simp only [Act.put, sA_, s0_, sS_, i64_w, i32_w]
                rfl
              refine take_ (i := 7) (N := some 174) (v := ?_) (a' := ?_) (bm_ 11 223) rfl rfl (take_ofW HT_.out HW_.out (by kernel_rfl)) (fun _ _ _ h => h) (Or.inl ⟨by rfl, ?_⟩) hHeld ?_ ?_
              rotate_left
              · rintro w' hs
                have b_ := Bx.blw K7.out hs K7.out.lt; have c_0 := b_.cell 0 _ rfl; have c_1 := b_.cell 1 _ rfl; have c_2 := b_.cell 2 _ rfl; go_simp
                with_reducible rfl
              rotate_left
              · simp only [Act.put, sA_, s0_, sS_, i64_w, i32_w]
                rfl
              refine one_ (i := 5) (N := some 172) (bm_ 11 255) rfl rfl (one_of HT_.out (by kernel_rfl)) (by decide) (fun K hK => ?_)
              refine goes_ Try.func26 (by kernel_rfl) rfl #[.string x.f0] (by rfl) rfl rfl (by (try simp only [List.map_toArray, List.map_cons, List.map_nil]); first | done | rfl) ?_
              (with_reducible refine (hearsayref01_Fold.calls x.f0 (lowS x.f0) _ (rfold_f (HS.out x (List.mem_of_getElem? HXK.out)) rfl)).mono ?_)
              rintro e u1 ⟨rfl, hbf⟩
              refine ⟨_, rfl, ?_⟩
              refine hK.out _ _ (hHeld.trans (below_to hbf hHeld.size)) (fun hHeld => ?_)
              clear hK K
              refine norm_ (a' := ?_) ?_ ?_
              rotate_left
              · show Act.put _ (some 172) _ = _
                simp only [Act.put, sA_, s0_, sS_, i64_w, i32_w]
                rfl
              refine one_ (i := 8) (N := some 175) (bm_ 11 511) rfl rfl (one_of HT_.out (by kernel_rfl)) (by decide) (fun K hK => ?_)
              refine goes_ Try.func26 (by kernel_rfl) rfl #[.string n] (by rfl) rfl rfl (by (try simp only [List.map_toArray, List.map_cons, List.map_nil]); first | done | rfl) ?_
              (with_reducible refine (hearsayref01_Fold.calls n (lowS n) _ (rfold_f HYS.out rfl)).mono ?_)
              rintro e u ⟨rfl, hbf⟩
              refine ⟨_, rfl, ?_⟩
              refine hK.out _ _ (hHeld.trans (below_to hbf hHeld.size)) (fun hHeld => ?_)
              clear hK K
              refine norm_ (a' := ?_) ?_ ?_
              rotate_left
              · show Act.put _ (some 175) _ = _
                simp only [Act.put, sA_, s0_, sS_, i64_w, i32_w]
                rfl
              refine pure_ (i := 9) (N := some 176) (v := ?_) (a' := ?_) (bm_ 11 1023) rfl rfl (any_of HT_.out (by kernel_rfl)) (fun _ _ _ h => h) (Or.inl ⟨by rfl, ?_⟩) ?_ ?_
              rotate_left
              · intro w'
                go_simp
                with_reducible rfl
              rotate_left
              · simp only [Act.put, sA_, s0_, sS_, i64_w, i32_w]
                rfl
              refine pure_ (i := 10) (N := some 177) (v := ?_) (a' := ?_) (bm_ 11 2047) rfl rfl (any_of HT_.out (by kernel_rfl)) (fun _ _ _ h => h) (Or.inl ⟨by rfl, ?_⟩) ?_ ?_
              rotate_left
              · intro w'
                go_simp
                with_reducible rfl
              rotate_left
              · simp only [Act.put, sA_, s0_, sS_, i64_w, i32_w]
                rfl
              refine done_ (done_of HT_.out (by kernel_rfl)) ?_
              have K0u := Aside0.mk (Bx.blw K0.out hHeld K0.out.lt)
              have K17u := Aside0.mk (Bx.blw K17.out hHeld K17.out.lt)
              have HBu := Aside0.mk (HBs.out.trans (below_to hHeld HBs.out.size))
              have HRu := Aside0.mk (Kd.C_below HRq.out hHeld)
              clear hHeld K0 K7 K17 HBs HRq
              have p0 := K0u.out.cell 0 _ rfl
              have lt0 := K0u.out.lt
              go_wp2
              clear p0 lt0
              have J17 := Aside0.mk K17u.out.drew
              have HRv := Aside0.mk (Kd.C_drew HRu.out)
              refine start_ (n := 44) (S := (fun w' => Below u.drew.heap.size u.drew w')) (ds := []) (bm_ 44 0) (by kernel_rfl) rfl rfl (Below.refl _ _) (fun hHeld => ?_)
              refine with_tabW turns.tab31 turns.bits31 (fun HT_ HW_ => ?_)
              refine pure_ (i := 0) (N := some 180) (v := ?_) (a' := ?_) (bm_ 44 1) rfl rfl (any_of HT_.out (by kernel_rfl)) (fun _ _ _ h => h) (Or.inl ⟨by rfl, ?_⟩) ?_ ?_
              rotate_left
              · intro w'
                go_simp
                with_reducible rfl
              rotate_left
              · simp only [Act.put, sA_, s0_, sS_, i64_w, i32_w]
                rfl
              refine take_ (i := 1) (N := some 181) (v := ?_) (a' := ?_) (bm_ 44 3) rfl rfl (take_ofW HT_.out HW_.out (by kernel_rfl)) (fun _ _ _ h => h) (Or.inl ⟨by rfl, ?_⟩) hHeld ?_ ?_
              rotate_left
              · rintro w' hs
                have b_ := Bx.blw J17.out hs J17.out.lt; have c_0 := b_.cell 0 _ rfl; have c_1 := b_.cell 1 _ rfl; have c_2 := b_.cell 2 _ rfl; have c_3 := b_.cell 3 _ rfl; have c_4 := b_.cell 4 _ rfl; have c_5 := b_.cell 5 _ rfl; have c_6 := b_.cell 6 _ rfl; have c_7 := b_.cell 7 _ rfl; have c_8 := b_.cell 8 _ rfl; have c_9 := b_.cell 9 _ rfl; have c_10 := b_.cell 10 _ rfl; have c_11 := b_.cell 11 _ rfl; go_simp
                with_reducible rfl
              rotate_left
              · simp only [Act.put, sA_, s0_, sS_, i64_w, i32_w]
                rfl
              refine pure_ (i := 2) (N := some 182) (v := ?_) (a' := ?_) (bm_ 44 7) rfl rfl (any_of HT_.out (by kernel_rfl)) (fun _ _ _ h => h) (Or.inl ⟨by rfl, ?_⟩) ?_ ?_
              rotate_left
              · intro w'
                go_simp
                with_reducible rfl
              rotate_left
              · simp only [Act.put, sA_, s0_, sS_, i64_w, i32_w]
                rfl
              refine pure_ (i := 3) (N := some 183) (v := ?_) (a' := ?_) (bm_ 44 15) rfl rfl (any_of HT_.out (by kernel_rfl)) (fun _ _ _ h => h) (Or.inl ⟨by rfl, ?_⟩) ?_ ?_
              rotate_left
              · intro w'
                go_simp
                with_reducible rfl
              rotate_left
              · simp only [Act.put, sA_, s0_, sS_, i64_w, i32_w]
                rfl
              refine pure_ (i := 4) (N := some 184) (v := ?_) (a' := ?_) (bm_ 44 31) rfl rfl (any_of HT_.out (by kernel_rfl)) (fun _ _ _ h => h) (Or.inl ⟨by rfl, ?_⟩) ?_ ?_
              rotate_left
              · intro w'
                go_simp
                with_reducible rfl
              rotate_left
              · simp only [Act.put, sA_, s0_, sS_, i64_w, i32_w]
                rfl
              refine pure_ (i := 5) (N := some 185) (v := ?_) (a' := ?_) (bm_ 44 63) rfl rfl (any_of HT_.out (by kernel_rfl)) (fun _ _ _ h => h) (Or.inl ⟨by rfl, ?_⟩) ?_ ?_
              rotate_left
              · intro w'
                go_simp
                with_reducible rfl
              rotate_left
              · simp only [Act.put, sA_, s0_, sS_, i64_w, i32_w]
                rfl
              refine take_ (i := 6) (N := some 186) (v := ?_) (a' := ?_) (bm_ 44 127) rfl rfl (take_ofW HT_.out HW_.out (by kernel_rfl)) (fun _ _ _ h => h) (Or.inl ⟨by rfl, ?_⟩) hHeld ?_ ?_
              rotate_left
              · rintro w' hs
                have b_ := Bx.blw J17.out hs J17.out.lt; have c_0 := b_.cell 0 _ rfl; have c_1 := b_.cell 1 _ rfl; have c_2 := b_.cell 2 _ rfl; have c_3 := b_.cell 3 _ rfl; have c_4 := b_.cell 4 _ rfl; have c_5 := b_.cell 5 _ rfl; have c_6 := b_.cell 6 _ rfl; have c_7 := b_.cell 7 _ rfl; have c_8 := b_.cell 8 _ rfl; have c_9 := b_.cell 9 _ rfl; have c_10 := b_.cell 10 _ rfl; have c_11 := b_.cell 11 _ rfl; go_simp
                with_reducible rfl
              rotate_left
              · simp only [Act.put, sA_, s0_, sS_, i64_w, i32_w]
                rfl
              refine pure_ (i := 7) (N := some 187) (v := ?_) (a' := ?_) (bm_ 44 255) rfl rfl (any_of HT_.out (by kernel_rfl)) (fun _ _ _ h => h) (Or.inl ⟨by rfl, ?_⟩) ?_ ?_
              rotate_left
              · intro w'
                go_simp
                with_reducible rfl
              rotate_left
              · simp only [Act.put, sA_, s0_, sS_, i64_w, i32_w]
                rfl
              refine pure_ (i := 8) (N := some 188) (v := ?_) (a' := ?_) (bm_ 44 511) rfl rfl (any_of HT_.out (by kernel_rfl)) (fun _ _ _ h => h) (Or.inl ⟨by rfl, ?_⟩) ?_ ?_
              rotate_left
              · intro w'
                go_simp
                with_reducible rfl
              rotate_left
              · simp only [Act.put, sA_, s0_, sS_, i64_w, i32_w]
                rfl
              refine pure_ (i := 9) (N := some 189) (v := ?_) (a' := ?_) (bm_ 44 1023) rfl rfl (any_of HT_.out (by kernel_rfl)) (fun _ _ _ h => h) (Or.inl ⟨by rfl, ?_⟩) ?_ ?_
              rotate_left
              · intro w'
                go_simp
                with_reducible rfl
              rotate_left
              · simp only [Act.put, sA_, s0_, sS_, i64_w, i32_w]
                rfl
              refine pure_ (i := 10) (N := some 190) (v := ?_) (a' := ?_) (bm_ 44 2047) rfl rfl (any_of HT_.out (by kernel_rfl)) (fun _ _ _ h => h) (Or.inl ⟨by rfl, ?_⟩) ?_ ?_
              rotate_left
              · intro w'
                go_simp
                with_reducible rfl
              rotate_left
              · simp only [Act.put, sA_, s0_, sS_, i64_w, i32_w]
                rfl
              refine take_ (i := 11) (N := some 191) (v := ?_) (a' := ?_) (bm_ 44 4095) rfl rfl (take_ofW HT_.out HW_.out (by kernel_rfl)) (fun _ _ _ h => h) (Or.inl ⟨by rfl, ?_⟩) hHeld ?_ ?_
              rotate_left
              · rintro w' hs
                obtain ⟨ad_, e_, c_0, c_1, c_2, c_3, c_4, c_5, c_6, c_7, c_8, c_9, c_10, c_11⟩ := at_T59 (Kd.C_below HRv.out hs) (k : Int) (by omega) (by omega); rw [rd_T59_at HXK.out] at c_0 c_1 c_2 c_3 c_4 c_5 c_6 c_7 c_8 c_9 c_10 c_11; simp only [Int.toNat_natCast] at c_0 c_1 c_2 c_3 c_4 c_5 c_6 c_7 c_8 c_9 c_10 c_11; cases e_; go_simp
                with_reducible rfl
              rotate_left
              · simp only [Act.put, sA_, s0_, sS_, i64_w, i32_w]
                rfl
              refine pure_ (i := 12) (N := some 192) (v := ?_) (a' := ?_) (bm_ 44 8191) rfl rfl (any_of HT_.out (by kernel_rfl)) (fun _ _ _ h => h) (Or.inl ⟨by rfl, ?_⟩) ?_ ?_
              rotate_left
              · intro w'
                go_simp
                with_reducible rfl
              rotate_left
              · simp only [Act.put, sA_, s0_, sS_, i64_w, i32_w]
                rfl
              refine pure_ (i := 13) (N := some 193) (v := ?_) (a' := ?_) (bm_ 44 16383) rfl rfl (any_of HT_.out (by kernel_rfl)) (fun _ _ _ h => h) (Or.inl ⟨by rfl, ?_⟩) ?_ ?_
              rotate_left
              · intro w'
                go_simp
                with_reducible rfl
              rotate_left
              · simp only [Act.put, sA_, s0_, sS_, i64_w, i32_w]
                rfl
              refine pure_ (i := 14) (N := some 194) (v := ?_) (a' := ?_) (bm_ 44 32767) rfl rfl (any_of HT_.out (by kernel_rfl)) (fun _ _ _ h => h) (Or.inl ⟨by rfl, ?_⟩) ?_ ?_
              rotate_left
              · intro w'
                go_simp
                with_reducible rfl
              rotate_left
              · simp only [Act.put, sA_, s0_, sS_, i64_w, i32_w]
                rfl
              refine pure_ (i := 15) (N := some 195) (v := ?_) (a' := ?_) (bm_ 44 65535) rfl rfl (any_of HT_.out (by kernel_rfl)) (fun _ _ _ h => h) (Or.inl ⟨by rfl, ?_⟩) ?_ ?_
              rotate_left
              · intro w'
                go_simp
                with_reducible rfl
              rotate_left
              · simp only [Act.put, sA_, s0_, sS_, i64_w, i32_w]
                rfl
              refine take_ (i := 16) (N := some 196) (v := ?_) (a' := ?_) (bm_ 44 131071) rfl rfl (take_ofW HT_.out HW_.out (by kernel_rfl)) (fun _ _ _ h => h) (Or.inl ⟨by rfl, ?_⟩) hHeld ?_ ?_
              rotate_left
              · rintro w' hs
                have b_ := Bx.blw J17.out hs J17.out.lt; have c_0 := b_.cell 0 _ rfl; have c_1 := b_.cell 1 _ rfl; have c_2 := b_.cell 2 _ rfl; have c_3 := b_.cell 3 _ rfl; have c_4 := b_.cell 4 _ rfl; have c_5 := b_.cell 5 _ rfl; have c_6 := b_.cell 6 _ rfl; have c_7 := b_.cell 7 _ rfl; have c_8 := b_.cell 8 _ rfl; have c_9 := b_.cell 9 _ rfl; have c_10 := b_.cell 10 _ rfl; have c_11 := b_.cell 11 _ rfl; go_simp
                with_reducible rfl
              rotate_left
              · simp only [Act.put, sA_, s0_, sS_, i64_w, i32_w]
                rfl
              refine pure_ (i := 17) (N := some 197) (v := ?_) (a' := ?_) (bm_ 44 262143) rfl rfl (any_of HT_.out (by kernel_rfl)) (fun _ _ _ h => h) (Or.inl ⟨by rfl, ?_⟩) ?_ ?_
              rotate_left
              · intro w'
                go_simp
                with_reducible rfl
              rotate_left
              · simp only [Act.put, sA_, s0_, sS_, i64_w, i32_w]
                rfl
              refine pure_ (i := 18) (N := some 198) (v := ?_) (a' := ?_) (bm_ 44 524287) rfl rfl (any_of HT_.out (by kernel_rfl)) (fun _ _ _ h => h) (Or.inl ⟨by rfl, ?_⟩) ?_ ?_
              rotate_left
              · intro w'
                go_simp
                with_reducible rfl
              rotate_left
              · simp only [Act.put, sA_, s0_, sS_, i64_w, i32_w]
                rfl
              refine pure_ (i := 19) (N := some 199) (v := ?_) (a' := ?_) (bm_ 44 1048575) rfl rfl (any_of HT_.out (by kernel_rfl)) (fun _ _ _ h => h) (Or.inl ⟨by rfl, ?_⟩) ?_ ?_
              rotate_left
              · intro w'
                go_simp
                with_reducible rfl
              rotate_left
              · simp only [Act.put, sA_, s0_, sS_, i64_w, i32_w]
                rfl
              refine pure_ (i := 20) (N := some 200) (v := ?_) (a' := ?_) (bm_ 44 2097151) rfl rfl (any_of HT_.out (by kernel_rfl)) (fun _ _ _ h => h) (Or.inl ⟨by rfl, ?_⟩) ?_ ?_
              rotate_left
              · intro w'
                go_simp
                with_reducible rfl
              rotate_left
              · simp only [Act.put, sA_, s0_, sS_, i64_w, i32_w]
                rfl
              refine take_ (i := 21) (N := some 201) (v := ?_) (a' := ?_) (bm_ 44 4194303) rfl rfl (take_ofW HT_.out HW_.out (by kernel_rfl)) (fun _ _ _ h => h) (Or.inl ⟨by rfl, ?_⟩) hHeld ?_ ?_
              rotate_left
              · rintro w' hs
                obtain ⟨ad_, e_, c_0, c_1, c_2, c_3, c_4, c_5, c_6, c_7, c_8, c_9, c_10, c_11⟩ := at_T59 (Kd.C_below HRv.out hs) (k : Int) (by omega) (by omega); rw [rd_T59_at HXK.out] at c_0 c_1 c_2 c_3 c_4 c_5 c_6 c_7 c_8 c_9 c_10 c_11; simp only [Int.toNat_natCast] at c_0 c_1 c_2 c_3 c_4 c_5 c_6 c_7 c_8 c_9 c_10 c_11; cases e_; go_simp
                with_reducible rfl
              rotate_left
              · simp only [Act.put, sA_, s0_, sS_, i64_w, i32_w]
                rfl
              refine pure_ (i := 22) (N := some 202) (v := ?_) (a' := ?_) (bm_ 44 8388607) rfl rfl (any_of HT_.out (by kernel_rfl)) (fun _ _ _ h => h) (Or.inl ⟨by rfl, ?_⟩) ?_ ?_
              rotate_left
              · intro w'
                go_simp
                with_reducible rfl
              rotate_left
              · simp only [Act.put, sA_, s0_, sS_, i64_w, i32_w]
                rfl
              refine pure_ (i := 23) (N := some 203) (v := ?_) (a' := ?_) (bm_ 44 16777215) rfl rfl (any_of HT_.out (by kernel_rfl)) (fun _ _ _ h => h) (Or.inl ⟨by rfl, ?_⟩) ?_ ?_
              rotate_left
              · intro w'
                go_simp
                with_reducible rfl
              rotate_left
              · simp only [Act.put, sA_, s0_, sS_, i64_w, i32_w]
                rfl
              refine pure_ (i := 24) (N := some 204) (v := ?_) (a' := ?_) (bm_ 44 33554431) rfl rfl (any_of HT_.out (by kernel_rfl)) (fun _ _ _ h => h) (Or.inl ⟨by rfl, ?_⟩) ?_ ?_
              rotate_left
              · intro w'
                go_simp
                with_reducible rfl
              rotate_left
              · simp only [Act.put, sA_, s0_, sS_, i64_w, i32_w]
                rfl
              refine pure_ (i := 25) (N := some 205) (v := ?_) (a' := ?_) (bm_ 44 67108863) rfl rfl (any_of HT_.out (by kernel_rfl)) (fun _ _ _ h => h) (Or.inl ⟨by rfl, ?_⟩) ?_ ?_
              rotate_left
              · intro w'
                go_simp
                with_reducible rfl
              rotate_left
              · simp only [Act.put, sA_, s0_, sS_, i64_w, i32_w]
                rfl
              refine take_ (i := 26) (N := some 206) (v := ?_) (a' := ?_) (bm_ 44 134217727) rfl rfl (take_ofW HT_.out HW_.out (by kernel_rfl)) (fun _ _ _ h => h) (Or.inl ⟨by rfl, ?_⟩) hHeld ?_ ?_
              rotate_left
              · rintro w' hs
                have b_ := Bx.blw J17.out hs J17.out.lt; have c_0 := b_.cell 0 _ rfl; have c_1 := b_.cell 1 _ rfl; have c_2 := b_.cell 2 _ rfl; have c_3 := b_.cell 3 _ rfl; have c_4 := b_.cell 4 _ rfl; have c_5 := b_.cell 5 _ rfl; have c_6 := b_.cell 6 _ rfl; have c_7 := b_.cell 7 _ rfl; have c_8 := b_.cell 8 _ rfl; have c_9 := b_.cell 9 _ rfl; have c_10 := b_.cell 10 _ rfl; have c_11 := b_.cell 11 _ rfl; go_simp
                with_reducible rfl
              rotate_left
              · simp only [Act.put, sA_, s0_, sS_, i64_w, i32_w]
                rfl
              refine pure_ (i := 27) (N := some 207) (v := ?_) (a' := ?_) (bm_ 44 268435455) rfl rfl (any_of HT_.out (by kernel_rfl)) (fun _ _ _ h => h) (Or.inl ⟨by rfl, ?_⟩) ?_ ?_
              rotate_left
              · intro w'
                go_simp
                with_reducible rfl
              rotate_left
              · simp only [Act.put, sA_, s0_, sS_, i64_w, i32_w]
                rfl
              refine pure_ (i := 28) (N := some 208) (v := ?_) (a' := ?_) (bm_ 44 536870911) rfl rfl (any_of HT_.out (by kernel_rfl)) (fun _ _ _ h => h) (Or.inl ⟨by rfl, ?_⟩) ?_ ?_
              rotate_left
              · intro w'
                go_simp
                with_reducible rfl
              rotate_left
              · simp only [Act.put, sA_, s0_, sS_, i64_w, i32_w]
                rfl
              refine pure_ (i := 29) (N := some 209) (v := ?_) (a' := ?_) (bm_ 44 1073741823) rfl rfl (any_of HT_.out (by kernel_rfl)) (fun _ _ _ h => h) (Or.inl ⟨by rfl, ?_⟩) ?_ ?_
              rotate_left
              · intro w'
                go_simp
                with_reducible rfl
              rotate_left
              · simp only [Act.put, sA_, s0_, sS_, i64_w, i32_w]
                rfl
              refine pure_ (i := 30) (N := some 210) (v := ?_) (a' := ?_) (bm_ 44 2147483647) rfl rfl (any_of HT_.out (by kernel_rfl)) (fun _ _ _ h => h) (Or.inl ⟨by rfl, ?_⟩) ?_ ?_
              rotate_left
              · intro w'
                go_simp
                with_reducible rfl
              rotate_left
              · simp only [Act.put, sA_, s0_, sS_, i64_w, i32_w]
                rfl
              refine take_ (i := 31) (N := some 211) (v := ?_) (a' := ?_) (bm_ 44 4294967295) rfl rfl (take_ofW HT_.out HW_.out (by kernel_rfl)) (fun _ _ _ h => h) (Or.inl ⟨by rfl, ?_⟩) hHeld ?_ ?_
              rotate_left
              · rintro w' hs
                obtain ⟨ad_, e_, c_0, c_1, c_2, c_3, c_4, c_5, c_6, c_7, c_8, c_9, c_10, c_11⟩ := at_T59 (Kd.C_below HRv.out hs) (k : Int) (by omega) (by omega); rw [rd_T59_at HXK.out] at c_0 c_1 c_2 c_3 c_4 c_5 c_6 c_7 c_8 c_9 c_10 c_11; simp only [Int.toNat_natCast] at c_0 c_1 c_2 c_3 c_4 c_5 c_6 c_7 c_8 c_9 c_10 c_11; cases e_; go_simp
                with_reducible rfl
              rotate_left
              · simp only [Act.put, sA_, s0_, sS_, i64_w, i32_w]
                rfl
              refine pure_ (i := 32) (N := some 212) (v := ?_) (a' := ?_) (bm_ 44 8589934591) rfl rfl (any_of HT_.out (by kernel_rfl)) (fun _ _ _ h => h) (Or.inl ⟨by rfl, ?_⟩) ?_ ?_
              rotate_left
              · intro w'
                go_simp
                with_reducible rfl
              rotate_left
              · simp only [Act.put, sA_, s0_, sS_, i64_w, i32_w]
                rfl
              refine pure_ (i := 33) (N := some 213) (v := ?_) (a' := ?_) (bm_ 44 17179869183) rfl rfl (any_of HT_.out (by kernel_rfl)) (fun _ _ _ h => h) (Or.inl ⟨by rfl, ?_⟩) ?_ ?_
              rotate_left
              · intro w'
                go_simp
                with_reducible rfl
              rotate_left
              · simp only [Act.put, sA_, s0_, sS_, i64_w, i32_w]
                rfl
              refine pure_ (i := 34) (N := some 214) (v := ?_) (a' := ?_) (bm_ 44 34359738367) rfl rfl (any_of HT_.out (by kernel_rfl)) (fun _ _ _ h => h) (Or.inl ⟨by rfl, ?_⟩) ?_ ?_
              rotate_left
              · intro w'
                go_simp
                with_reducible rfl
              rotate_left
              · simp only [Act.put, sA_, s0_, sS_, i64_w, i32_w]
                rfl
              refine pure_ (i := 35) (N := some 215) (v := ?_) (a' := ?_) (bm_ 44 68719476735) rfl rfl (any_of HT_.out (by kernel_rfl)) (fun _ _ _ h => h) (Or.inl ⟨by rfl, ?_⟩) ?_ ?_
              rotate_left
              · intro w'
                go_simp
                with_reducible rfl
              rotate_left
              · simp only [Act.put, sA_, s0_, sS_, i64_w, i32_w]
                rfl
              refine take_ (i := 36) (N := some 216) (v := ?_) (a' := ?_) (bm_ 44 137438953471) rfl rfl (take_ofW HT_.out HW_.out (by kernel_rfl)) (fun _ _ _ h => h) (Or.inl ⟨by rfl, ?_⟩) hHeld ?_ ?_
              rotate_left
              · rintro w' hs
                have b_ := Bx.blw J17.out hs J17.out.lt; have c_0 := b_.cell 0 _ rfl; have c_1 := b_.cell 1 _ rfl; have c_2 := b_.cell 2 _ rfl; have c_3 := b_.cell 3 _ rfl; have c_4 := b_.cell 4 _ rfl; have c_5 := b_.cell 5 _ rfl; have c_6 := b_.cell 6 _ rfl; have c_7 := b_.cell 7 _ rfl; have c_8 := b_.cell 8 _ rfl; have c_9 := b_.cell 9 _ rfl; have c_10 := b_.cell 10 _ rfl; have c_11 := b_.cell 11 _ rfl; go_simp
                with_reducible rfl
              rotate_left
              · simp only [Act.put, sA_, s0_, sS_, i64_w, i32_w]
                rfl
              refine pure_ (i := 37) (N := some 217) (v := ?_) (a' := ?_) (bm_ 44 274877906943) rfl rfl (any_of HT_.out (by kernel_rfl)) (fun _ _ _ h => h) (Or.inl ⟨by rfl, ?_⟩) ?_ ?_
              rotate_left
              · intro w'
                go_simp
                with_reducible rfl
              rotate_left
              · simp only [Act.put, sA_, s0_, sS_, i64_w, i32_w]
                rfl
              refine pure_ (i := 38) (N := some 218) (v := ?_) (a' := ?_) (bm_ 44 549755813887) rfl rfl (any_of HT_.out (by kernel_rfl)) (fun _ _ _ h => h) (Or.inl ⟨by rfl, ?_⟩) ?_ ?_
              rotate_left
              · intro w'
                go_simp
                with_reducible rfl
              rotate_left
              · simp only [Act.put, sA_, s0_, sS_, i64_w, i32_w]
                rfl
              refine pure_ (i := 39) (N := some 219) (v := ?_) (a' := ?_) (bm_ 44 1099511627775) rfl rfl (any_of HT_.out (by kernel_rfl)) (fun _ _ _ h => h) (Or.inl ⟨by rfl, ?_⟩) ?_ ?_
              rotate_left
              · intro w'
                go_simp
                with_reducible rfl
              rotate_left
              · simp only [Act.put, sA_, s0_, sS_, i64_w, i32_w]
                rfl
              refine pure_ (i := 40) (N := some 220) (v := ?_) (a' := ?_) (bm_ 44 2199023255551) rfl rfl (any_of HT_.out (by kernel_rfl)) (fun _ _ _ h => h) (Or.inl ⟨by rfl, ?_⟩) ?_ ?_
              rotate_left
              · intro w'
                go_simp
                with_reducible rfl
              rotate_left
              · simp only [Act.put, sA_, s0_, sS_, i64_w, i32_w]
                rfl
              refine take_ (i := 41) (N := some 221) (v := ?_) (a' := ?_) (bm_ 44 4398046511103) rfl rfl (take_ofW HT_.out HW_.out (by kernel_rfl)) (fun _ _ _ h => h) (Or.inl ⟨by rfl, ?_⟩) hHeld ?_ ?_
              rotate_left
              · rintro w' hs
                obtain ⟨ad_, e_, c_0, c_1, c_2, c_3, c_4, c_5, c_6, c_7, c_8, c_9, c_10, c_11⟩ := at_T59 (Kd.C_below HRv.out hs) (k : Int) (by omega) (by omega); rw [rd_T59_at HXK.out] at c_0 c_1 c_2 c_3 c_4 c_5 c_6 c_7 c_8 c_9 c_10 c_11; simp only [Int.toNat_natCast] at c_0 c_1 c_2 c_3 c_4 c_5 c_6 c_7 c_8 c_9 c_10 c_11; cases e_; go_simp
                with_reducible rfl
              rotate_left
              · simp only [Act.put, sA_, s0_, sS_, i64_w, i32_w]
                rfl
              refine pure_ (i := 42) (N := some 222) (v := ?_) (a' := ?_) (bm_ 44 8796093022207) rfl rfl (any_of HT_.out (by kernel_rfl)) (fun _ _ _ h => h) (Or.inl ⟨by rfl, ?_⟩) ?_ ?_
              rotate_left
              · intro w'
                go_simp
                with_reducible rfl
              rotate_left
              · simp only [Act.put, sA_, s0_, sS_, i64_w, i32_w]
                rfl
              refine pure_ (i := 43) (N := some 223) (v := ?_) (a' := ?_) (bm_ 44 17592186044415) rfl rfl (any_of HT_.out (by kernel_rfl)) (fun _ _ _ h => h) (Or.inl ⟨by rfl, ?_⟩) ?_ ?_
              rotate_left
              · intro w'
                go_simp
                with_reducible rfl
              rotate_left
              · simp only [Act.put, sA_, s0_, sS_, i64_w, i32_w]
                rfl
              refine done_ (done_of HT_.out (by kernel_rfl)) ?_
              go_wp2
              go_roundw
              case rel => exact ⟨k + 1, by omega, by go_num, ⟨below_drew HBu.out⟩⟩
              case measure => simp [intOf]; omega
        · obtain rfl : k = l2.length := by omega
          have HB11 := Aside0.mk (HB10.out.trans (below_to HBr.out HB10.out.size))
          go_wp2_with (first | (go_at_call 15; refine (hearsaylaw25_asks.calls true _ asks_f).mono ?_; rintro e w12 ⟨rfl, hb12⟩; have HB12 := Aside0.mk (HB11.out.trans (below_to hb12 HB11.out.size)); clear hb12))
          go_ret
          exact ⟨rfl, HB12.out⟩
end Go.Proofs.Ytfcmphigmfdceaa.Print
