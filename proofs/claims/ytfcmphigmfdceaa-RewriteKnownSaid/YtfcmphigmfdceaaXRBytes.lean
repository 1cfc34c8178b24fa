/- hearsayref01.Bytes, walked: it answers what 'unesc' says of the text. -/
import Derived.Test.YtfcmphigmfdceaaXBytes
namespace Go.Proofs.Ytfcmphigmfdceaa.Print
open Go.RowKit Go.Proofs.YtfcmphigmfdceaaW.PrintWords Go.Proofs.YtfcmphigmfdceaaW.PrintLast Go.Proofs.YtfcmphigmfdceaaW.PrintMore
set_option linter.unusedVariables false
set_option linter.unusedSimpArgs false
def hearsayref01_Bytes.f (s : ByteArray) : Option (ByteArray × Int) := name_Bytes.f s
theorem digit29_calls (c : Int) (w : World) : Calls Try.prog 57 #[.int .u8 c] w fun e w' => e = .returned (.bool (isDig c)) ∧ w = w' := by
  unfold isDig
  by_cases h1 : 48 ≤ c
  · go_enter Try.func57, Try.ntmps57
    go_wp2
    go_ret
    exact ⟨by simp [h1], rfl⟩
  · go_enter Try.func57, Try.ntmps57
    go_wp2
    go_ret
    exact ⟨by simp [h1] <;> omega, rfl⟩
set_option maxHeartbeats 4000000 in
set_option maxRecDepth 100000 in
theorem hearsayref01_Bytes.calls (a0 : ByteArray) (r1 : ByteArray) (r2 : Int) (w : World) (h : hearsayref01_Bytes.f a0 = some (r1, r2)) :
    Calls Try.prog 49 #[.string a0] w fun e w' => e = .returned (.tuple #[.string r1, .int .i64 r2]) ∧ Below w.heap.size w w' := by
  unfold hearsayref01_Bytes.f name_Bytes.f at h
  by_cases hlen : a0.size < 140737488355328
  · rw [if_pos hlen] at h
    have H := Aside0.mk h
    clear h
    have HL := Aside0.mk hlen
    clear hlen
    have HB0 := Aside0.mk (Below.refl w.heap.size w)
    go_enter Try.func49, Try.ntmps49
    go_wp2
    go_loopw [4, 5] (fun v i wr => ∃ (k : Nat) (acc : List Int), i = .int .i64 k ∧ Aside0 (Inv a0 k acc) ∧ Aside0 (Kd.R (Kd.int .u8) 5 wr w.heap.size (fun _ => True) v acc) ∧ Aside0 (Below w.heap.size w wr)) (fun _ i _ => a0.size - (intOf i).toNat)
    case atStart => exact ⟨0, [], rfl, ⟨inv0 a0⟩, ⟨Kd.R_nil _ _ _ _ _⟩, HB0⟩
    case round =>
      obtain ⟨k, acc, rfl, HI, HO, HB⟩ := hrel
      have hkb : k ≤ 140737488355328 := by have := HI.out.1; have := HL.out; omega
      have hsb : a0.size ≤ 140737488355328 := by have := HL.out; omega
      by_cases hk : k < a0.size
      · have hx0 := bt_nat a0 k hk
        by_cases hc : bt a0 (k : Int) = 92
        · have hcb : ((bt a0 (k : Int)) != 92) = false := bne_eq_false_iff_eq.mpr hc
          by_cases he : k + 1 = a0.size
          · have heb : (((k : Int) + 1) == (a0.size : Int)) = true := beq_iff_eq.mpr (by omega)
            have h2 := H.out
            rw [inv_last HI.out hk hc he] at h2
            simp only [Option.some.injEq, Prod.mk.injEq] at h2
            obtain ⟨rfl, rfl⟩ := h2
            clear hc he
            go_wp2
            go_ret2
            exact ⟨by first | rfl | (simp; done) | (simp [*]; done), (by repeat (first | (with_reducible first | exact HB.out | apply below_alloc | apply pw_below_drewN | apply below_drew1) | exact HB.out))⟩
          · have heb : (((k : Int) + 1) == (a0.size : Int)) = false := beq_eq_false_iff_ne.mpr (by omega)
            have he1 : k + 1 < a0.size := by omega
            have hx1 := bt_nat a0 (k + 1) he1
            by_cases hd : digAt a0 ((k + 1 : Nat) : Int) = false
            · have HI' := Aside0.mk (inv_one HI.out hk hc he1 hd)
              have hd' : isDig (bt a0 ((k : Int) + 1)) = false := (digAt_eq he1).symm.trans hd
              clear hc he hd
              go_wp2_with (first | (go_at_call 57; refine (digit29_calls _ _).mono ?_; rintro e w2 ⟨rfl, rfl⟩) | ((with_reducible refine gate_builtin (b := .append) (xs := #[.tmp 34, .tmp 39]) rfl ?_); at_builtin; refine Kd.R_append (Kd.int .u8) (w0 := w) w.heap.size rfl (.tmp 34) (.tmp 39) 88 5 (.int .u8 0) 1 rfl Try.underlying88 infoByte rfl (by decide) (by omega) _ acc (bt a0 ((k + 1 : Nat) : Int)) [.int .u8 (bt a0 ((k + 1 : Nat) : Int))] (fun _ => True) (fun _ => False) rfl rfl ?aP (fun _ hk => hk.elim) ?aF ?aO ?aB ?aS ?aL ?_; (case aP => exact rfl); (case aB => exact (by repeat (first | (with_reducible first | exact HB.out | apply below_alloc | apply pw_below_drewN | apply below_drew1) | exact HB.out))); (case aF => exact (fun _ _ => trivial)); (case aO => exact (by (with_reducible repeat (first | apply Kd.R_alloc | apply Kd.R_drewN | apply Kd.R_drew)); exact HO.out)); (case aS => exact (below_size (by repeat (first | (with_reducible first | exact HB.out | apply below_alloc | apply pw_below_drewN | apply below_drew1) | exact HB.out)))); (case aL => exact (by have := HI.out.2.1; omega)); intro v1_ w1_ ho hb hg hat; have n0_ := Aside0.mk hb; have n1_ := Aside0.mk ho; clear HB HO; have HB := n0_; have HO := n1_; clear n0_ n1_; clear ho hb hg hat))
              go_roundw
              case rel => exact ⟨k + 2, acc ++ [bt a0 ((k + 1 : Nat) : Int)], by go_num, HI', ⟨by (with_reducible repeat (first | apply Kd.R_alloc | apply Kd.R_drewN | apply Kd.R_drew)); exact HO.out⟩, ⟨(by repeat (first | (with_reducible first | exact HB.out | apply below_alloc | apply pw_below_drewN | apply below_drew1) | exact HB.out))⟩⟩
              case measure => simp [intOf]; omega
            · simp only [Bool.not_eq_false] at hd
              have hd' : isDig (bt a0 ((k : Int) + 1)) = true := (digAt_eq he1).symm.trans hd
              by_cases he3 : k + 3 < a0.size
              · have he2 : k + 2 < a0.size := by omega
                have hx2 := bt_nat a0 (k + 2) he2
                have hx3 := bt_nat a0 (k + 3) he3
                have hge : decide ((a0.size : Int) ≤ (k : Int) + 3) = false := decide_eq_false (by omega)
                by_cases h2 : digAt a0 ((k + 2 : Nat) : Int) = false
                · have hh := H.out
                  rw [inv_bad HI.out hk hc he1 hd (Or.inl h2)] at hh
                  simp only [Option.some.injEq, Prod.mk.injEq] at hh
                  obtain ⟨rfl, rfl⟩ := hh
                  have h2' : isDig (bt a0 ((k : Int) + 2)) = false := (digAt_eq he2).symm.trans h2
                  clear hc he hd h2
                  go_wp2_with (first | (go_at_call 57; refine (digit29_calls _ _).mono ?_; rintro e w2 ⟨rfl, rfl⟩))
                  go_ret2
                  exact ⟨by first | rfl | (simp; done) | (simp [*]; done), (by repeat (first | (with_reducible first | exact HB.out | apply below_alloc | apply pw_below_drewN | apply below_drew1) | exact HB.out))⟩
                · simp only [Bool.not_eq_false] at h2
                  have h2' : isDig (bt a0 ((k : Int) + 2)) = true := (digAt_eq he2).symm.trans h2
                  by_cases h3 : digAt a0 ((k + 3 : Nat) : Int) = false
                  · have hh := H.out
                    rw [inv_bad HI.out hk hc he1 hd (Or.inr h3)] at hh
                    simp only [Option.some.injEq, Prod.mk.injEq] at hh
                    obtain ⟨rfl, rfl⟩ := hh
                    have h3' : isDig (bt a0 ((k : Int) + 3)) = false := (digAt_eq he3).symm.trans h3
                    clear hc he hd h2 h3
                    go_wp2_with (first | (go_at_call 57; refine (digit29_calls _ _).mono ?_; rintro e w2 ⟨rfl, rfl⟩))
                    go_ret2
                    exact ⟨by first | rfl | (simp; done) | (simp [*]; done), (by repeat (first | (with_reducible first | exact HB.out | apply below_alloc | apply pw_below_drewN | apply below_drew1) | exact HB.out))⟩
                  · simp only [Bool.not_eq_false] at h3
                    have h3' : isDig (bt a0 ((k : Int) + 3)) = true := (digAt_eq he3).symm.trans h3
                    have HT := Aside0.mk (inv_three HI.out hk hc hd h2 h3)
                    have g1 := dig_bounds he1 hd
                    have g2 := dig_bounds he2 h2
                    have g3 := dig_bounds he3 h3
                    clear hc he hd h2 h3
                    obtain ⟨g1a, g1b⟩ := g1
                    obtain ⟨g2a, g2b⟩ := g2
                    obtain ⟨g3a, g3b⟩ := g3
                    go_wp2_with (first | (go_at_call 57; refine (digit29_calls _ _).mono ?_; rintro e w2 ⟨rfl, rfl⟩))
                    have w1q : IntKind.i64.wrap ((k : Int) + 1) = (k : Int) + 1 := (i64_w _).trans (by unfold wrap64; omega)
                    have w2q : IntKind.i64.wrap ((k : Int) + 2) = (k : Int) + 2 := (i64_w _).trans (by unfold wrap64; omega)
                    have w3q : IntKind.i64.wrap ((k : Int) + 3) = (k : Int) + 3 := (i64_w _).trans (by unfold wrap64; omega)
                    have p1 := eq_true (show 0 ≤ (k : Int) + 1 by omega)
                    have p2 := eq_true (show 0 ≤ (k : Int) + 2 by omega)
                    have p3 := eq_true (show 0 ≤ (k : Int) + 3 by omega)
                    have q1 := eq_true (show (k : Int) + 1 < (a0.size : Int) by omega)
                    have q2 := eq_true (show (k : Int) + 2 < (a0.size : Int) by omega)
                    have q3 := eq_true (show (k : Int) + 3 < (a0.size : Int) by omega)
                    have n1 : ((k : Int) + 1).toNat = k + 1 := by omega
                    have n2 : ((k : Int) + 2).toNat = k + 2 := by omega
                    have n3 : ((k : Int) + 3).toNat = k + 3 := by omega
                    go_quiet (fail)
                    clear w1q w2q w3q p1 p2 p3 q1 q2 q3 n1 n2 n3
                    have hv : 100 * ((bt a0 ((k : Int) + 1) - 48) % 256) + 10 * ((bt a0 ((k : Int) + 2) - 48) % 256) + (bt a0 ((k : Int) + 3) - 48) % 256 = three a0 k := by
                      have e1 : ((k + 1 : Nat) : Int) = (k : Int) + 1 := by omega
                      have e2 : ((k + 2 : Nat) : Int) = (k : Int) + 2 := by omega
                      have e3 : ((k + 3 : Nat) : Int) = (k : Int) + 3 := by omega
                      unfold three
                      rw [e1] at g1a g1b ⊢; rw [e2] at g2a g2b ⊢; rw [e3] at g3a g3b ⊢
                      omega
                    have hv0 : 0 ≤ three a0 k := by unfold three; omega
                    rw [hv]
                    clear hv hx1 hx2 hx3 g1a g1b g2a g2b g3a g3b
                    by_cases hb : 255 < three a0 k
                    · have hh := H.out
                      rw [HT.out.1 hb] at hh
                      simp only [Option.some.injEq, Prod.mk.injEq] at hh
                      obtain ⟨rfl, rfl⟩ := hh
                      go_wp2
                      go_ret2
                      exact ⟨by first | rfl | (simp; done) | (simp [*]; done), (by repeat (first | (with_reducible first | exact HB.out | apply below_alloc | apply pw_below_drewN | apply below_drew1) | exact HB.out))⟩
                    · have HI' := Aside0.mk (HT.out.2 (by omega))
                      have hb' : three a0 k ≤ 255 := by omega
                      go_wp2_with (first | ((with_reducible refine gate_builtin (b := .append) (xs := #[.tmp 88, .tmp 91]) rfl ?_); at_builtin; refine Kd.R_append (Kd.int .u8) (w0 := w) w.heap.size rfl (.tmp 88) (.tmp 91) 88 5 (.int .u8 0) 1 rfl Try.underlying88 infoByte rfl (by decide) (by omega) _ acc (three a0 k) [.int .u8 (three a0 k)] (fun _ => True) (fun _ => False) rfl rfl ?aP (fun _ hk => hk.elim) ?aF ?aO ?aB ?aS ?aL ?_; (case aP => exact rfl); (case aB => exact (by repeat (first | (with_reducible first | exact HB.out | apply below_alloc | apply pw_below_drewN | apply below_drew1) | exact HB.out))); (case aF => exact (fun _ _ => trivial)); (case aO => exact (by (with_reducible repeat (first | apply Kd.R_alloc | apply Kd.R_drewN | apply Kd.R_drew)); exact HO.out)); (case aS => exact (below_size (by repeat (first | (with_reducible first | exact HB.out | apply below_alloc | apply pw_below_drewN | apply below_drew1) | exact HB.out)))); (case aL => exact (by have := HI.out.2.1; omega)); intro v1_ w1_ ho hb hg hat; have n0_ := Aside0.mk hb; have n1_ := Aside0.mk ho; clear HB HO; have HB := n0_; have HO := n1_; clear n0_ n1_; clear ho hb hg hat))
                      go_roundw
                      case rel => exact ⟨k + 4, acc ++ [three a0 k], by go_num, HI', ⟨by (with_reducible repeat (first | apply Kd.R_alloc | apply Kd.R_drewN | apply Kd.R_drew)); exact HO.out⟩, ⟨(by repeat (first | (with_reducible first | exact HB.out | apply below_alloc | apply pw_below_drewN | apply below_drew1) | exact HB.out))⟩⟩
                      case measure => simp [intOf]; omega
              · have hge : decide ((a0.size : Int) ≤ (k : Int) + 3) = true := decide_eq_true (by omega)
                have hh := H.out
                rw [inv_bad HI.out hk hc he1 hd (Or.inr (by simp [digAt]; omega))] at hh
                simp only [Option.some.injEq, Prod.mk.injEq] at hh
                obtain ⟨rfl, rfl⟩ := hh
                clear hc he hd
                go_wp2_with (first | (go_at_call 57; refine (digit29_calls _ _).mono ?_; rintro e w2 ⟨rfl, rfl⟩))
                go_ret2
                exact ⟨by first | rfl | (simp; done) | (simp [*]; done), (by repeat (first | (with_reducible first | exact HB.out | apply below_alloc | apply pw_below_drewN | apply below_drew1) | exact HB.out))⟩
        · have hcb : ((bt a0 (k : Int)) != 92) = true := bne_iff_ne.mpr hc
          have HI' := Aside0.mk (inv_plain HI.out hk hc)
          clear hc
          go_wp2_with (first | ((with_reducible refine gate_builtin (b := .append) (xs := #[.tmp 17, .tmp 21]) rfl ?_); at_builtin; refine Kd.R_append (Kd.int .u8) (w0 := w) w.heap.size rfl (.tmp 17) (.tmp 21) 88 5 (.int .u8 0) 1 rfl Try.underlying88 infoByte rfl (by decide) (by omega) _ acc (bt a0 (k : Int)) [.int .u8 (bt a0 (k : Int))] (fun _ => True) (fun _ => False) rfl rfl ?aP (fun _ hk => hk.elim) ?aF ?aO ?aB ?aS ?aL ?_; (case aP => exact rfl); (case aB => exact (by repeat (first | (with_reducible first | exact HB.out | apply below_alloc | apply pw_below_drewN | apply below_drew1) | exact HB.out))); (case aF => exact (fun _ _ => trivial)); (case aO => exact (by (with_reducible repeat (first | apply Kd.R_alloc | apply Kd.R_drewN | apply Kd.R_drew)); exact HO.out)); (case aS => exact (below_size (by repeat (first | (with_reducible first | exact HB.out | apply below_alloc | apply pw_below_drewN | apply below_drew1) | exact HB.out)))); (case aL => exact (by have := HI.out.2.1; omega)); intro v1_ w1_ ho hb hg hat; have n0_ := Aside0.mk hb; have n1_ := Aside0.mk ho; clear HB HO; have HB := n0_; have HO := n1_; clear n0_ n1_; clear ho hb hg hat))
          go_roundw
          case rel => exact ⟨k + 1, acc ++ [bt a0 (k : Int)], by go_num, HI', ⟨by (with_reducible repeat (first | apply Kd.R_alloc | apply Kd.R_drewN | apply Kd.R_drew)); exact HO.out⟩, ⟨(by repeat (first | (with_reducible first | exact HB.out | apply below_alloc | apply pw_below_drewN | apply below_drew1) | exact HB.out))⟩⟩
          case measure => simp [intOf]; omega
      · have hu := inv_end HI.out hk
        have h2 := H.out
        rw [hu] at h2
        simp only [Option.some.injEq, Prod.mk.injEq] at h2
        obtain ⟨rfl, rfl⟩ := h2
        have hcv := own_string (P := Try.prog) Try.underlying88 Try.underlying5 Try.underlying9 (Kd.own_of_R HO.out)
        clear hu
        go_wp2
        go_ret2
        exact ⟨by first | rfl | (simp; done) | (simp [*]; done), (by repeat (first | (with_reducible first | exact HB.out | apply below_alloc | apply pw_below_drewN | apply below_drew1) | exact HB.out))⟩
  · rw [if_neg hlen] at h; exact absurd h (by simp)

end Go.Proofs.Ytfcmphigmfdceaa.Print
