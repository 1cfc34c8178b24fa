/- heap.Push, heap.Pop and heap.Remove, walked. -/
import Derived.Test.YtihmblbnnhcdnaaXDown
namespace Go.Proofs.Ytihmblbnnhcdnaa.Print
open Go.RowKit Go.Maps Go.ChangeMaps Go.Proofs.YtihmblbnnhcdnaaW.PrintWords Go.Proofs.YtihmblbnnhcdnaaW.PrintLast Go.Proofs.YtihmblbnnhcdnaaW.PrintMore
set_option linter.unusedVariables false
set_option linter.unusedSimpArgs false
theorem at1_app {hs ys : Hs} {k : Nat} (h : k < hs.length) : at1 (hs ++ ys) k = at1 hs k := by unfold at1; rw [List.getElem?_append_left h]
theorem last_split {hs : Hs} {n : Nat} {x : Nat × One} (hl : hs.length = n + 1) (hx : hs[n]? = some x) : hs = hs.take n ++ [x] := by
  have h1 : hs.drop n = [x] := by
    rw [List.drop_eq_getElem_cons (by omega)]
    have := (List.getElem?_eq_some_iff.1 hx).2
    rw [this, List.drop_eq_nil_of_le (by omega)]
  rw [← h1, List.take_append_drop]
theorem HoS.of_perm {v : Value} {hs hs' : Hs} (h : hs'.Perm hs) {k : Nat} (hk : HoS v hs k) : HoS v hs' k := HoS.perm h.symm hk
set_option maxHeartbeats 8000000 in
set_option maxRecDepth 100000 in
theorem hpush_calls (w : World) (g : Nat) (t last : Int) (mp v : Value) (hs : Hs) (b : Nat) (o : One) (z : Int) (h : Rq w g t last mp v hs) (hH : Heap.IsH lessO hs.length (at1 hs)) (hb : w.heap[b]? = some (.cells (oneC o z) 66 (0, 0))) (hn : ∀ p ∈ hs, p.1 ≠ b) (hl : hs.length ≤ 900000) :
    Calls Try.prog 27 #[.iface 68 (.pointer (some ⟨g, 2, none⟩)), .iface 62 (.pointer (some ⟨b, 0, none⟩))] w fun e w' => ∃ v' hs', e = .returned (.tuple #[]) ∧ Rq w' g t last mp v' hs' ∧ hs'.Perm ((b, o) :: hs) ∧ Heap.IsH lessO hs'.length (at1 hs') ∧ (v'.ownBlock = v.ownBlock ∨ ∃ k, v'.ownBlock = some k ∧ w.heap.size ≤ k) ∧ Kp w w' (fun k => k = g ∨ k = b ∨ HoS v hs k) := by
  obtain ⟨N, hN⟩ : ∃ N, N = hs.length := ⟨_, rfl⟩
  have HP := Aside0.mk (rpush_calls w g t last mp v hs b o z h hb hn (by omega))
  have mp_ := mPush w ⟨g, 2, none⟩
  have HH := Aside0.mk hH
  have HNN := Aside0.mk hN
  have hN9 : N ≤ 900000 := by omega
  have HL := Aside0.mk hl
  clear h hH hb hn hN hl
  go_enter Try.func27, Try.ntmps27
  go_upto_region 1 with (first | (go_at_call 89; refine HP.out.mono ?_; rintro e w1 ⟨v1, rfl, h1_, h2_, h3_⟩; have HQ1 := Aside0.mk h1_; have HV1 := Aside0.mk h2_; have HK1 := Aside0.mk h3_; clear h1_ h2_ h3_ HP mp_))
  obtain ⟨A, c, rfl, hcl, hcm⟩ := HQ1.out.ho.form
  have hlen : (hs ++ [(b, o)]).length = N + 1 := by rw [HNN.out]; simp
  rw [hlen] at HQ1 HV1 hcl
  have ml := mLen w1 g A (N + 1) c HQ1.out.cell
  have HU : Aside0 (Calls Try.prog 40 #[.iface 68 (.pointer (some ⟨g, 2, none⟩)), .int .i64 N] w1 fun e w' => ∃ hs', e = .returned (.tuple #[]) ∧ Rq w' g t last mp (.slice A (N + 1) c) hs' ∧ hs'.Perm (hs ++ [(b, o)]) ∧ (∀ k, N + 1 ≤ k → hs'[k]? = (hs ++ [(b, o)])[k]?) ∧ Heap.IsH lessO (N + 1) (at1 hs') ∧ Kp w1 w' (HoS (.slice A (N + 1) c) (hs ++ [(b, o)]))) := by
    refine ⟨up_calls w1 g t last mp (.slice A (N + 1) c) (hs ++ [(b, o)]) (N + 1) N HQ1.out (by rw [hlen]; exact Nat.le_refl _) (by omega) (by rw [hlen]; omega) ⟨fun k h0 hk hne hpe => ?_, fun k h0 hk hpe _ => by omega⟩ (fun k h0 hk hpe => by omega)⟩
    rw [at1_app (by rw [← HNN.out]; omega), at1_app (by rw [← HNN.out]; omega)]
    exact HH.out k h0 (by rw [← HNN.out]; omega)
  go_wp2_with (first
    | (go_at_call 85; (with_reducible refine (len_calls' _ A (N + 1) c).mono ?_); rintro e w2 ⟨rfl, rfl⟩)
    | (go_at_call 40; refine HU.out.mono ?_; rintro e w3 ⟨hs3, rfl, h1_, h2_, _, h3_, h4_⟩; have HQ3 := Aside0.mk h1_; have HP3 := Aside0.mk h2_; have HH3 := Aside0.mk h3_; have HK3 := Aside0.mk h4_; clear h1_ h2_ h3_ h4_ HU))
  first | go_end0 | go_ret
  have hl3 : hs3.length = N + 1 := by rw [HP3.out.length_eq, hlen]
  refine ⟨_, hs3, rfl, HQ3.out, HP3.out.trans (List.perm_append_singleton _ _), by rw [hl3]; exact HH3.out, HV1.out, HK1.out.mono (fun k hk => ?_) |>.trans HK3.out (fun k hk hs_ => ?_)⟩
  · rcases hk with hk | hk | hk
    · exact Or.inl hk
    · exact Or.inr (Or.inl hk)
    · exact Or.inr (Or.inr (Or.inl hk))
  · rcases hs_ with hs_ | ⟨p, hp, rfl⟩
    · rcases HV1.out with h1 | ⟨k', h1, h2⟩
      · rw [h1] at hs_
        exact Or.inr (Or.inr (Or.inl hs_))
      · rw [h1] at hs_
        injection hs_ with hs_
        omega
    · rcases List.mem_append.1 hp with hp | hp
      · exact Or.inr (Or.inr (Or.inr ⟨p, hp, rfl⟩))
      · obtain rfl : p = (b, o) := by simpa using hp
        exact Or.inr (Or.inl rfl)
set_option maxHeartbeats 8000000 in
set_option maxRecDepth 100000 in
theorem hpop_calls (w : World) (g : Nat) (t last : Int) (mp v : Value) (hs : Hs) (b0 : Nat) (x0 : One) (h : Rq w g t last mp v hs) (hH : Heap.IsH lessO hs.length (at1 hs)) (h0 : hs[0]? = some (b0, x0)) (hl : hs.length ≤ 900000) :
    Calls Try.prog 31 #[.iface 68 (.pointer (some ⟨g, 2, none⟩))] w fun e w' => ∃ v' hs', e = .returned (.iface 62 (.pointer (some ⟨b0, 0, none⟩))) ∧ Rq w' g t last mp v' hs' ∧ ((b0, x0) :: hs').Perm hs ∧ Heap.IsH lessO hs'.length (at1 hs') ∧ w'.heap[b0]? = some (.cells (oneC x0 hs'.length) 66 (0, 0)) ∧ v'.ownBlock = v.ownBlock ∧ Kp w w' (fun k => k = g ∨ HoS v hs k) := by
  obtain ⟨A, c, rfl, hcl, hcm⟩ := h.ho.form
  have hlp : 0 < hs.length := (List.getElem?_eq_some_iff.1 h0).1
  obtain ⟨n, hn⟩ : ∃ n, hs.length = n + 1 := ⟨hs.length - 1, by omega⟩
  rw [hn] at h hH hcl ⊢
  obtain ⟨bn, xn, en⟩ := get_some (hs := hs) (k := n) (by omega)
  have hn9 : n ≤ 900000 := by omega
  have ml := mLen w g A (n + 1) c h.cell
  have ms := mSwap w g A (n + 1) c h.cell
  have HSW : Aside0 (Calls Try.prog 87 #[.slice A (n + 1) c, .int .i64 0, .int .i64 n] w fun e w' => e = .returned (.tuple #[]) ∧ Ho w' (.slice A (n + 1) c) (swapH hs 0 n (b0, x0) (bn, xn)) ∧ Kp w w' (HoS (.slice A (n + 1) c) hs)) := ⟨swap_calls w (.slice A (n + 1) c) hs 0 n b0 bn x0 xn h.ho h0 en (by omega)⟩
  have hsl : (swapH hs 0 n (b0, x0) (bn, xn)).length = n + 1 := by rw [swap_len, hn]
  have HDN : Aside0 (∀ W, Rq W g t last mp (.slice A (n + 1) c) (swapH hs 0 n (b0, x0) (bn, xn)) → Calls Try.prog 39 #[.iface 68 (.pointer (some ⟨g, 2, none⟩)), .int .i64 0, .int .i64 n] W fun e w' => ∃ hs' mv, e = .returned (.bool mv) ∧ Rq w' g t last mp (.slice A (n + 1) c) hs' ∧ hs'.Perm hs ∧ hs'[n]? = some (b0, x0) ∧ Heap.IsH lessO n (at1 hs') ∧ Kp W w' (HoS (.slice A (n + 1) c) hs)) := ⟨fun W hW => by
    have hole : Heap.Hole lessO n (at1 (swapH hs 0 n (b0, x0) (bn, xn))) 0 := by
      rw [at1_swap h0 en]
      refine ⟨fun k hk0 hkn hne hpe => ?_, fun k _ _ _ h => absurd h (by omega)⟩
      rw [Heap.swp_far _ hne (by omega), Heap.swp_far _ hpe (by omega)]
      exact hH k hk0 (by omega)
    refine (down_calls W g t last mp (.slice A (n + 1) c) _ n 0 hW (by rw [hsl]; omega) (Nat.zero_le _) (by rw [hsl]; omega) hole).mono ?_
    rintro e w' ⟨hs', mv, rfl, k1, k2, k3, k4, k5⟩
    refine ⟨hs', mv, rfl, k1, k2.trans (swap_perm h0 en), ?_, ?_, k5.mono (fun k hk => HoS.perm (swap_perm h0 en) hk)⟩
    · rw [k3 n (Nat.le_refl _)]
      unfold swapH
      rw [List.getElem?_set_self (by rw [List.length_set, hn]; omega)]
    · rcases k4 with ⟨_, rfl, k4⟩ | ⟨_, k4⟩
      · exact hole.full (fun h => absurd h (by omega)) k4
      · exact k4⟩
  have HQ := Aside0.mk h
  have HN := Aside0.mk hn
  clear h hH h0 en hsl hlp hn hl
  go_enter Try.func31, Try.ntmps31
  go_upto_region 3 with (first
    | (go_at_call 85; (with_reducible refine (len_calls' _ A (n + 1) c).mono ?_); rintro e w1 ⟨rfl, rfl⟩)
    | (go_at_call 87; refine HSW.out.mono ?_; rintro e w2 ⟨rfl, h1_, h2_⟩; have HQ2 := Aside0.mk (HQ.out.kept h1_ h2_); have HK2 := Aside0.mk h2_; clear h1_ h2_ HSW))
  clear ml ms
  go_upto_region 4 with (first | (go_at_call 39; refine (HDN.out _ HQ2.out).mono ?_; rintro e w3 ⟨hs3, mv, rfl, h1_, h2_, h3_, h4_, h5_⟩; have HQ3 := Aside0.mk h1_; have HP3 := Aside0.mk h2_; have HX3 := Aside0.mk h3_; have HH3 := Aside0.mk h4_; have HK3 := Aside0.mk h5_; clear h1_ h2_ h3_ h4_ h5_ HDN))
  have hl3 : hs3.length = n + 1 := by rw [HP3.out.length_eq, HN.out]
  have hsp := last_split hl3 HX3.out
  have hq4 := HQ3.out
  rw [hsp] at hq4
  have HPP := Aside0.mk (rpop_calls w3 g t last mp (.slice A (n + 1) c) (hs3.take n) b0 x0 hq4 (by rw [List.length_take]; omega))
  have HSP := Aside0.mk hsp
  have mp_ := mPop w3 ⟨g, 2, none⟩
  clear hsp hq4
  go_wp2_with (first | (go_at_call 88; refine HPP.out.mono ?_; rintro e w4 ⟨v4, rfl, h1_, h2_, h3_, h4_⟩; have HQ4 := Aside0.mk h1_; have HB4 := Aside0.mk h2_; have HV4 := Aside0.mk h3_; have HK4 := Aside0.mk h4_; clear h1_ h2_ h3_ h4_ HPP))
  go_ret
  have hl4 : (hs3.take n).length = n := by rw [List.length_take]; omega
  refine ⟨v4, hs3.take n, rfl, HQ4.out, ?_, ?_, HB4.out, HV4.out, ?_⟩
  · have h1 := HP3.out
    rw [HSP.out] at h1
    exact (List.perm_append_singleton _ _).symm.trans h1
  · rw [hl4]
    refine HH3.out.congr (fun k hk => ?_)
    have h1 := at1_app (hs := hs3.take n) (ys := [(b0, x0)]) (k := k) (by rw [hl4]; exact hk)
    rw [← HSP.out] at h1
    exact h1
  · exact ((HK2.out.mono (fun k hk => Or.inr hk)).trans HK3.out (fun k _ hk => Or.inr hk)).trans HK4.out (fun k _ hk => Or.inl hk)
end Go.Proofs.Ytihmblbnnhcdnaa.Print
