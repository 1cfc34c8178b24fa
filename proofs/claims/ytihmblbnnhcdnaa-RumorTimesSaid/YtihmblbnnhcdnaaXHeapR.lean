/- heap.Remove, walked. -/
import Derived.Test.YtihmblbnnhcdnaaXHeapC
namespace Go.Proofs.Ytihmblbnnhcdnaa.Print
open Go.RowKit Go.Maps Go.ChangeMaps Go.Proofs.YtihmblbnnhcdnaaW.PrintWords Go.Proofs.YtihmblbnnhcdnaaW.PrintLast Go.Proofs.YtihmblbnnhcdnaaW.PrintMore
set_option linter.unusedVariables false
set_option linter.unusedSimpArgs false
set_option maxHeartbeats 8000000 in
set_option maxRecDepth 100000 in
theorem hremove_calls (w : World) (g : Nat) (t last : Int) (mp v : Value) (hs : Hs) (i b : Nat) (x : One) (h : Rq w g t last mp v hs) (hH : Heap.IsH lessO hs.length (at1 hs)) (hi : hs[i]? = some (b, x)) (hl : hs.length ≤ 900000) :
    Calls Try.prog 26 #[.iface 68 (.pointer (some ⟨g, 2, none⟩)), .int .i64 i] w fun e w' => ∃ v' hs', e = .returned (.iface 62 (.pointer (some ⟨b, 0, none⟩))) ∧ Rq w' g t last mp v' hs' ∧ ((b, x) :: hs').Perm hs ∧ Heap.IsH lessO hs'.length (at1 hs') ∧ w'.heap[b]? = some (.cells (oneC x hs'.length) 66 (0, 0)) ∧ v'.ownBlock = v.ownBlock ∧ Kp w w' (fun k => k = g ∨ HoS v hs k) := by
  obtain ⟨A, c, rfl, hcl, hcm⟩ := h.ho.form
  have hil : i < hs.length := (List.getElem?_eq_some_iff.1 hi).1
  obtain ⟨n, hn⟩ : ∃ n, hs.length = n + 1 := ⟨hs.length - 1, by omega⟩
  rw [hn] at h hH hcl ⊢
  have hn9 : n ≤ 900000 := by omega
  have hin : i ≤ n := by omega
  have ml := mLen w g A (n + 1) c h.cell
  by_cases hne : n = i
  · subst hne
    have HQ3 := Aside0.mk h
    have HX3 := Aside0.mk hi
    have HH3 := Aside0.mk (hH.less (Nat.le_succ n))
    have HP3 := Aside0.mk (List.Perm.refl hs)
    have HK3 : Aside0 (Kp w w (HoS (.slice A (n + 1) c) hs)) := ⟨Kp.of (Below.refl _ _)⟩
    have HN := Aside0.mk hn
    clear h hH hi hn hl hil
    go_enter Try.func26, Try.ntmps26
    go_upto_region 6 with (first | (go_at_call 85; (with_reducible refine (len_calls' _ A (n + 1) c).mono ?_); rintro e w1 ⟨rfl, rfl⟩))
    clear ml
    have hl3 : hs.length = n + 1 := by rw [HP3.out.length_eq, HN.out]
    have hsp := last_split hl3 HX3.out
    have hq4 := HQ3.out
    rw [hsp] at hq4
    have HPP := Aside0.mk (rpop_calls w1 g t last mp (.slice A (n + 1) c) (hs.take n) b x hq4 (by rw [List.length_take]; omega))
    have HSP := Aside0.mk hsp
    have mp_ := mPop w1 ⟨g, 2, none⟩
    clear hsp hq4
    go_wp2_with (first | (go_at_call 88; refine HPP.out.mono ?_; rintro e w6 ⟨v4, rfl, h1_, h2_, h3_, h4_⟩; have HQ4 := Aside0.mk h1_; have HB4 := Aside0.mk h2_; have HV4 := Aside0.mk h3_; have HK4 := Aside0.mk h4_; clear h1_ h2_ h3_ h4_ HPP))
    go_ret
    have hl4 : (hs.take n).length = n := by rw [List.length_take]; omega
    refine ⟨v4, hs.take n, rfl, HQ4.out, ?_, ?_, HB4.out, HV4.out, ?_⟩
    · exact (List.perm_append_singleton _ _).symm.trans (by first | (rw [← HSP.out]; exact HP3.out) | rw [← HSP.out])
    · rw [hl4]
      refine HH3.out.congr (fun k hk => ?_)
      have h1 := at1_app (hs := hs.take n) (ys := [(b, x)]) (k := k) (by rw [hl4]; exact hk)
      rw [← HSP.out] at h1
      exact h1
    · exact (HK3.out.mono (fun k hk => Or.inr hk)).trans HK4.out (fun k _ hk => Or.inl hk)
  · have hneI : ¬ (n : Int) = (i : Int) := by omega
    obtain ⟨bn, xn, en⟩ := get_some (hs := hs) (k := n) (by omega)
    have ms := mSwap w g A (n + 1) c h.cell
    have HSW : Aside0 (Calls Try.prog 87 #[.slice A (n + 1) c, .int .i64 i, .int .i64 n] w fun e w' => e = .returned (.tuple #[]) ∧ Ho w' (.slice A (n + 1) c) (swapH hs i n (b, x) (bn, xn)) ∧ Kp w w' (HoS (.slice A (n + 1) c) hs)) := ⟨swap_calls w (.slice A (n + 1) c) hs i n b bn x xn h.ho hi en (by omega)⟩
    have hsl : (swapH hs i n (b, x) (bn, xn)).length = n + 1 := by rw [swap_len, hn]
    have HOL : Aside0 (Heap.Hole lessO n (at1 (swapH hs i n (b, x) (bn, xn))) i) := by
      rw [at1_swap hi en]
      have hole := Heap.IsH.hole lessO_pre hH i (by omega)
      refine ⟨⟨fun k hk0 hkn h1 h2 => ?_, fun k hk0 hkn h1 h2 => ?_⟩⟩
      · rw [Heap.swp_far _ h1 (by omega), Heap.swp_far _ h2 (by omega)]
        exact hole.rest k hk0 (by omega) h1 h2
      · rw [Heap.swp_far _ (by omega) (by omega), Heap.swp_far _ (by omega) (by omega)]
        exact hole.over k hk0 (by omega) h1 h2
    have HDN := Aside0.mk (fun W (hW : Rq W g t last mp (.slice A (n + 1) c) (swapH hs i n (b, x) (bn, xn))) => down_calls W g t last mp (.slice A (n + 1) c) _ n i hW (by rw [hsl]; omega) hin (by rw [hsl]; omega) HOL.out)
    have HUP := Aside0.mk (fun W (hW : Rq W g t last mp (.slice A (n + 1) c) (swapH hs i n (b, x) (bn, xn))) (hk : Heap.Kids lessO n (at1 (swapH hs i n (b, x) (bn, xn))) i) => up_calls W g t last mp (.slice A (n + 1) c) _ n i hW (by rw [hsl]; omega) (by omega) (by rw [hsl]; omega) HOL.out hk)
    have HX1 : Aside0 ((swapH hs i n (b, x) (bn, xn))[n]? = some (b, x)) := by
      refine ⟨?_⟩
      unfold swapH
      rw [List.getElem?_set_self (by rw [List.length_set, hn]; omega)]
    have HSP1 := Aside0.mk (swap_perm hi en)
    have HQ := Aside0.mk h
    have HN := Aside0.mk hn
    clear h hH hi en hsl hn hl hil HOL
    generalize swapH hs i n (b, x) (bn, xn) = hs1 at HSW HDN HUP HX1 HSP1
    go_enter Try.func26, Try.ntmps26
    go_upto_region 4 with (first
      | (go_at_call 85; (with_reducible refine (len_calls' _ A (n + 1) c).mono ?_); rintro e w1 ⟨rfl, rfl⟩)
      | (go_at_call 87; refine HSW.out.mono ?_; rintro e w2 ⟨rfl, h1_, h2_⟩; have HQ2 := Aside0.mk (HQ.out.kept h1_ h2_); have HK2 := Aside0.mk h2_; clear h1_ h2_ HSW))
    clear ml ms
    have HDC := Aside0.mk (HDN.out _ HQ2.out)
    clear HDN
    go_wp2_with (go_at_call 39; refine stop_ ?_)
    refine StopAt.mk ?_
    refine HDC.out.mono ?_
    rintro e w3 ⟨hs3, mv, rfl, h1_, h2_, h3_, h4_, h5_⟩
    have HQ3 := Aside0.mk h1_
    have HX3 := Aside0.mk ((h3_ n (Nat.le_refl _)).trans HX1.out)
    have HP3 := Aside0.mk (h2_.trans HSP1.out)
    have HK3 := Aside0.mk (HK2.out.trans h5_ (fun k _ hk => HoS.perm HSP1.out hk))
    clear h1_ h2_ h3_ h5_ HDC
    rcases h4_ with ⟨rfl, rfl, hkids⟩ | ⟨rfl, hfull⟩
    · have HUC := Aside0.mk (HUP.out _ HQ3.out hkids)
      clear HUP hkids
      go_upto_region 6 with (first | (go_at_call 40; refine HUC.out.mono ?_; rintro e w4 ⟨hs4, rfl, h1_, h2_, h3_, h4_, h5_⟩; have HQ4' := Aside0.mk h1_; have HX4 := Aside0.mk ((h3_ n (Nat.le_refl _)).trans HX3.out); have HP4 := Aside0.mk (h2_.trans HP3.out); have HH4 := Aside0.mk h4_; have HK4' := Aside0.mk (HK3.out.trans h5_ (fun k _ hk => HoS.perm HP3.out hk)); clear h1_ h2_ h3_ h4_ h5_ HUC))
      clear HQ3 HX3 HP3 HK3
      have hl3 : hs4.length = n + 1 := by rw [HP4.out.length_eq, HN.out]
      have hsp := last_split hl3 HX4.out
      have hq4 := HQ4'.out
      rw [hsp] at hq4
      have HPP := Aside0.mk (rpop_calls w4 g t last mp (.slice A (n + 1) c) (hs4.take n) b x hq4 (by rw [List.length_take]; omega))
      have HSP := Aside0.mk hsp
      have mp_ := mPop w4 ⟨g, 2, none⟩
      clear hsp hq4
      go_wp2_with (first | (go_at_call 88; refine HPP.out.mono ?_; rintro e w6 ⟨v4, rfl, h1_, h2_, h3_, h4_⟩; have HQ4 := Aside0.mk h1_; have HB4 := Aside0.mk h2_; have HV4 := Aside0.mk h3_; have HK4 := Aside0.mk h4_; clear h1_ h2_ h3_ h4_ HPP))
      go_ret
      have hl4 : (hs4.take n).length = n := by rw [List.length_take]; omega
      refine ⟨v4, hs4.take n, rfl, HQ4.out, ?_, ?_, HB4.out, HV4.out, ?_⟩
      · exact (List.perm_append_singleton _ _).symm.trans (by first | (rw [← HSP.out]; exact HP4.out) | rw [← HSP.out])
      · rw [hl4]
        refine HH4.out.congr (fun k hk => ?_)
        have h1 := at1_app (hs := hs4.take n) (ys := [(b, x)]) (k := k) (by rw [hl4]; exact hk)
        rw [← HSP.out] at h1
        exact h1
      · exact (HK4'.out.mono (fun k hk => Or.inr hk)).trans HK4.out (fun k _ hk => Or.inl hk)
    · have HH3 := Aside0.mk hfull
      clear hfull HUP
      go_upto_region 6 with (fail)
      have hl3 : hs3.length = n + 1 := by rw [HP3.out.length_eq, HN.out]
      have hsp := last_split hl3 HX3.out
      have hq4 := HQ3.out
      rw [hsp] at hq4
      have HPP := Aside0.mk (rpop_calls w3 g t last mp (.slice A (n + 1) c) (hs3.take n) b x hq4 (by rw [List.length_take]; omega))
      have HSP := Aside0.mk hsp
      have mp_ := mPop w3 ⟨g, 2, none⟩
      clear hsp hq4
      go_wp2_with (first | (go_at_call 88; refine HPP.out.mono ?_; rintro e w6 ⟨v4, rfl, h1_, h2_, h3_, h4_⟩; have HQ4 := Aside0.mk h1_; have HB4 := Aside0.mk h2_; have HV4 := Aside0.mk h3_; have HK4 := Aside0.mk h4_; clear h1_ h2_ h3_ h4_ HPP))
      go_ret
      have hl4 : (hs3.take n).length = n := by rw [List.length_take]; omega
      refine ⟨v4, hs3.take n, rfl, HQ4.out, ?_, ?_, HB4.out, HV4.out, ?_⟩
      · exact (List.perm_append_singleton _ _).symm.trans (by first | (rw [← HSP.out]; exact HP3.out) | rw [← HSP.out])
      · rw [hl4]
        refine HH3.out.congr (fun k hk => ?_)
        have h1 := at1_app (hs := hs3.take n) (ys := [(b, x)]) (k := k) (by rw [hl4]; exact hk)
        rw [← HSP.out] at h1
        exact h1
      · exact (HK3.out.mono (fun k hk => Or.inr hk)).trans HK4.out (fun k _ hk => Or.inl hk)
end Go.Proofs.Ytihmblbnnhcdnaa.Print
