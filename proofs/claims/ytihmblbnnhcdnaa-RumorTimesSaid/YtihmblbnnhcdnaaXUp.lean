/- heap.up, walked. -/
import Derived.Test.YtihmblbnnhcdnaaXPopPush
namespace Go.Proofs.Ytihmblbnnhcdnaa.Print
open Go.RowKit Go.Maps Go.ChangeMaps Go.Proofs.YtihmblbnnhcdnaaW.PrintWords Go.Proofs.YtihmblbnnhcdnaaW.PrintLast Go.Proofs.YtihmblbnnhcdnaaW.PrintMore
set_option linter.unusedVariables false
set_option linter.unusedSimpArgs false
def o0 : One := ⟨z33, 0, 0⟩
/-- the rumor at a place -/
def at1 (hs : Hs) (k : Nat) : One := ((hs[k]?).map (·.2)).getD o0
theorem at1_of {hs : Hs} {k b : Nat} {o : One} (h : hs[k]? = some (b, o)) : at1 hs k = o := by unfold at1; rw [h]; rfl
theorem at1_swap {hs : Hs} {i j : Nat} {x y : Nat × One} (hi : hs[i]? = some x) (hj : hs[j]? = some y) : at1 (swapH hs i j x y) = Heap.swp (at1 hs) i j := by
  funext k
  have hil : i < hs.length := (List.getElem?_eq_some_iff.1 hi).1
  have hjl : j < hs.length := (List.getElem?_eq_some_iff.1 hj).1
  unfold swapH Heap.swp at1
  by_cases hkj : k = j
  · subst hkj
    rw [List.getElem?_set_self (by rw [List.length_set]; exact hjl)]
    by_cases hki : k = i
    · subst hki
      rw [if_pos rfl, hi]
    · rw [if_neg hki, if_pos rfl, hi]
  · rw [List.getElem?_set_ne (by omega)]
    by_cases hki : k = i
    · subst hki
      rw [List.getElem?_set_self hil, if_pos rfl, hj]
    · rw [List.getElem?_set_ne (by omega), if_neg hki, if_neg hkj]
theorem swap_tail {hs : Hs} {i j n : Nat} {x y : Nat × One} (hi : i < n) (hj : j < n) (k : Nat) (hk : n ≤ k) : (swapH hs i j x y)[k]? = hs[k]? := by
  unfold swapH
  rw [List.getElem?_set_ne (by omega), List.getElem?_set_ne (by omega)]
theorem HoS.perm {v : Value} {hs hs' : Hs} (h : hs'.Perm hs) {k : Nat} (hk : HoS v hs' k) : HoS v hs k := by
  rcases hk with hk | ⟨p, hp, e⟩
  · exact Or.inl hk
  · exact Or.inr ⟨p, h.mem_iff.1 hp, e⟩
theorem Rq.kept {w w' : World} {g : Nat} {t last : Int} {mp v : Value} {hs hs' : Hs} (h : Rq w g t last mp v hs) (h' : Ho w' v hs') (k : Kp w w' (HoS v hs)) : Rq w' g t last mp v hs' :=
  ⟨(k.block g (blk_lt h.box) (fun hk => h.apart hk rfl)).trans h.box, h'⟩
theorem get_some {hs : Hs} {k : Nat} (h : k < hs.length) : ∃ b o, hs[k]? = some (b, o) := ⟨(hs[k]'h).1, (hs[k]'h).2, List.getElem?_eq_getElem h⟩
theorem half (j : Nat) (h : 0 < j) : Int.tdiv ((j : Int) - 1) 2 = (((j - 1) / 2 : Nat) : Int) := by
  have e : (j : Int) - 1 = ((j - 1 : Nat) : Int) := by omega
  rw [e]
  exact (Int.ofNat_tdiv (j - 1) 2).symm
theorem wrapN {n : Nat} (h : n ≤ 9223372036854775807) : wrap64 (n : Int) = (n : Int) := by unfold wrap64; omega
set_option maxHeartbeats 8000000 in
set_option maxRecDepth 100000 in
theorem up_calls (w : World) (g : Nat) (t last : Int) (mp v : Value) (hs : Hs) (n j0 : Nat) (h : Rq w g t last mp v hs) (hn : n ≤ hs.length) (hj : j0 < n) (hl : hs.length ≤ 1000000) (hh : Heap.Hole lessO n (at1 hs) j0) (hk : Heap.Kids lessO n (at1 hs) j0) :
    Calls Try.prog 40 #[.iface 68 (.pointer (some ⟨g, 2, none⟩)), .int .i64 j0] w fun e w' => ∃ hs', e = .returned (.tuple #[]) ∧ Rq w' g t last mp v hs' ∧ hs'.Perm hs ∧ (∀ k, n ≤ k → hs'[k]? = hs[k]?) ∧ Heap.IsH lessO n (at1 hs') ∧ Kp w w' (HoS v hs) := by
  obtain ⟨A, c, rfl, hcl, hcm⟩ := h.ho.form
  obtain ⟨N, hN⟩ : ∃ N, N = hs.length := ⟨_, rfl⟩
  rw [← hN] at h hcl ⊢
  have H0 := Aside0.mk (And.intro h (And.intro hh hk))
  have HNN := Aside0.mk hN
  have hNl : N ≤ 1000000 := by omega
  have hnN : n ≤ N := by omega
  clear h hh hk hN hn hl
  go_enter Try.func40, Try.ntmps40
  go_wp2
  go_loopw [1] (fun u wr => ∃ (j : Nat) (hc : Hs), j < n ∧ u = .int .i64 j ∧ Aside0 (Rq wr g t last mp (.slice A N c) hc ∧ hc.Perm hs ∧ (∀ k, n ≤ k → hc[k]? = hs[k]?) ∧ Heap.Hole lessO n (at1 hc) j ∧ Heap.Kids lessO n (at1 hc) j ∧ Kp w wr (HoS (.slice A N c) hs))) (fun u _ => (intOf u).toNat)
  case atStart => exact ⟨j0, hs, hj, rfl, ⟨H0.out.1, List.Perm.refl _, fun _ _ => rfl, H0.out.2.1, H0.out.2.2, Kp.of (Below.refl _ _)⟩⟩
  case round =>
    clear H0
    obtain ⟨j, hc, hjn, rfl, HR⟩ := hrel
    have hlen : hc.length = N := by rw [HNN.out]; exact HR.out.2.1.length_eq
    by_cases hj0 : j = 0
    · subst hj0
      go_wp2
      go_end0
      exact ⟨hc, rfl, HR.out.1, HR.out.2.1, HR.out.2.2.1, HR.out.2.2.2.1.full (fun h => absurd h (by omega)) HR.out.2.2.2.2.1, HR.out.2.2.2.2.2⟩
    · obtain ⟨p, hp⟩ : ∃ p, p = (j - 1) / 2 := ⟨_, rfl⟩
      have hpl : p < j := by omega
      have hpj : ¬ (p : Int) = (j : Int) := by omega
      have HP := Aside0.mk hp
      have hwp : wrap64 (p : Int) = (p : Int) := wrapN (by omega)
      obtain ⟨bj, oj, ej⟩ := get_some (hs := hc) (k := j) (by omega)
      obtain ⟨bp, op, ep⟩ := get_some (hs := hc) (k := p) (by omega)
      have hl6 : hc.length ≤ 1000000 := by omega
      have hj1 : 0 < j := by omega
      have hpn : p < n := by omega
      have HM : Aside0 ((intOf (Value.int .i64 p)).toNat < (intOf (Value.int .i64 j)).toNat) := ⟨by show p < j; exact hpl⟩
      have hcell := HR.out.1.cell
      have ml := mLess wr g A N c hcell
      have hq := half j hj1
      rw [← hp] at hq
      clear hp
      cases hle : lessO oj op with
      | false =>
        go_wp2_with (first | (go_at_call 86; (with_reducible refine (less_calls wr (.slice A N c) hc j p bj bp oj op HR.out.1.ho ej ep hl6).mono ?_); rintro e w2 ⟨rfl, hb_⟩; rw [hle]; have HB2 := Aside0.mk hb_; clear hb_))
        go_end0
        refine ⟨hc, rfl, HR.out.1.below HB2.out, HR.out.2.1, HR.out.2.2.1, HR.out.2.2.2.1.full (fun h => ?_) HR.out.2.2.2.2.1, HR.out.2.2.2.2.2.trans (Kp.of (S := fun _ => False) HB2.out) (fun _ _ h => h.elim)⟩
        rw [← HP.out, at1_of ej, at1_of ep]
        exact hle
      | true =>
        go_wp2_with (first
          | (go_at_call 86; (with_reducible refine (less_calls wr (.slice A N c) hc j p bj bp oj op HR.out.1.ho ej ep hl6).mono ?_); rintro e w2 ⟨rfl, hb_⟩; rw [hle]; have HB2 := Aside0.mk hb_; have ms := mSwap w2 g A N c (HR.out.1.below hb_).cell; clear hb_ ml)
          | (go_at_call 87; (with_reducible refine (swap_calls w2 (.slice A N c) hc p j bp bj op oj (HR.out.1.ho.below HB2.out) ep ej hl6).mono ?_); rintro e w3 ⟨rfl, hh_, hk_⟩; have HH3 := Aside0.mk hh_; have HK3 := Aside0.mk hk_; clear hh_ hk_))
        go_roundw
        case rel =>
          have hup := Heap.up_step lessO_pre hjn hj1 HR.out.2.2.2.1 HR.out.2.2.2.2.1 (by rw [← HP.out, at1_of ej, at1_of ep]; exact hle)
          rw [← HP.out] at hup
          refine ⟨p, swapH hc p j (bp, op) (bj, oj), hpn, rfl, ⟨(HR.out.1.below HB2.out).kept HH3.out HK3.out, (swap_perm ep ej).trans HR.out.2.1, fun k hk => (swap_tail (n := n) hpn hjn k hk).trans (HR.out.2.2.1 k hk), ?_, ?_, (HR.out.2.2.2.2.2.trans (Kp.of (S := fun _ => False) HB2.out) (fun _ _ h => h.elim)).trans HK3.out (fun k _ hk => HoS.perm HR.out.2.1 hk)⟩⟩
          · rw [at1_swap ep ej]; exact hup.1
          · rw [at1_swap ep ej]; exact hup.2
        case measure => exact HM.out
end Go.Proofs.Ytihmblbnnhcdnaa.Print
