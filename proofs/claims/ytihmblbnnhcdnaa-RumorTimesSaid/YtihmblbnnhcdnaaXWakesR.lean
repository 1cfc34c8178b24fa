/- The known rumors, walked; no queue has no rumors, walked. -/
import Derived.Test.YtihmblbnnhcdnaaXAdd
import Derived.Test.YtihmblbnnhcdnaaXTake
import Derived.Test.YtihmblbnnhcdnaaXLeft
namespace Go.Proofs.Ytihmblbnnhcdnaa.Print
open Go.RowKit Go.Maps Go.ChangeMaps Go.Proofs.YtihmblbnnhcdnaaW.PrintWords Go.Proofs.YtihmblbnnhcdnaaW.PrintLast Go.Proofs.YtihmblbnnhcdnaaW.PrintMore
set_option linter.unusedVariables false
set_option linter.unusedSimpArgs false
theorem Tk.qw {w W : World} {g mb n : Nat} {t last : Int} {v vc : Value} {hs rest : Hs} (h : Tk w W g mb n t last v vc hs rest [] []) : Qw W g mb n t last vc rest := by
  have hm := h.map
  have hn := h.adn
  have hw := h.wf
  rw [List.append_nil, List.append_nil] at hm hn hw
  exact ⟨h.rq, h.isH, hm, hn, hw⟩
def wr1 : Mem := ⟨5, 1, 0, ⟨#[]⟩⟩
def wr2 : Mem := ⟨6, 0, 0, ⟨#[]⟩⟩
theorem wk_first {hs ps rest : Hs} {x1 x2 : Nat × One} (hp : hs.Perm [x2, x1]) (hlt : lessO x2.2 x1.2 = true) (h1 : (ps ++ rest).Perm hs) (h2 : ∀ a ∈ ps, ∀ b ∈ rest, lessO b.2 a.2 = false) (h3 : ps.length = 1) : ps = [x2] ∧ rest = [x1] := by
  have h4 := h1.trans hp
  have hl := h4.length_eq
  rw [List.length_append, h3] at hl
  obtain ⟨p, rfl⟩ := List.length_eq_one_iff.1 h3
  obtain ⟨q, rfl⟩ := List.length_eq_one_iff.1 (show rest.length = 1 by simp only [List.length_cons, List.length_nil] at hl; omega)
  have hpm : p ∈ [x2, x1] := h4.mem_iff.1 (by simp)
  have e : p = x2 ∨ p = x1 := by simpa using hpm
  rcases e with rfl | rfl
  · exact ⟨rfl, List.perm_singleton.1 (List.Perm.cons_inv h4)⟩
  · have h5 : ([q] : Hs).Perm [x2] := List.Perm.cons_inv (h4.trans (List.Perm.swap _ _ _))
    have e := List.perm_singleton.1 h5
    injection e with e _
    subst e
    have := h2 p (by simp) q (by simp)
    rw [hlt] at this
    cases this
theorem mayA : mayM wr1 = true := by decide
theorem mayB : mayM wr2 = true := by decide
set_option maxRecDepth 100000 in
theorem wkA1 (W : World) (g mb : Nat) (hQ : Qw W g mb 0 2 0 (.slice none 0 0) []) : Calls Try.prog 10 #[.pointer (some ⟨g, 0, none⟩), .agg #[.int .u32 5, .int .u32 1, .int .u8 0, .string ⟨#[]⟩]] W fun e w' => ∃ v' bo, e = .returned (.tuple #[.bool true, .int .i64 0]) ∧ Qw w' g mb 1 2 1 v' [(bo, ⟨wr1, 0, 1⟩)] ∧ W.heap.size ≤ bo ∧ (∀ k, v'.ownBlock = some k → W.heap.size ≤ k) ∧ Kp W w' (fun k => k = g ∨ k = mb) := by
  have h := addq_new W g mb 0 2 0 _ [] wr1 hQ mayA (fun p hp => by cases hp) (by decide) (by decide) (by omega) (by simp) (by omega)
  refine Calls.mono (show Calls Try.prog 10 #[.pointer (some ⟨g, 0, none⟩), .agg #[.int .u32 5, .int .u32 1, .int .u8 0, .string ⟨#[]⟩]] W _ from h) ?_
  rintro e w' ⟨v', bo, hs', e1, e2, e3, e4, e5, e6⟩
  have e7 := List.perm_singleton.1 e3
  subst e7
  refine ⟨v', bo, e1, e2, e4, fun k hk => ?_, e6.mono (fun k hk => ?_)⟩
  · rcases e5 with e5 | ⟨k', e5, hle⟩
    · rw [e5] at hk; cases hk
    · rw [e5] at hk; injection hk with hk; omega
  · rcases hk with hk | hk | hk
    · exact Or.inl hk
    · exact Or.inr hk
    · rcases hk with hk | ⟨p, hp, _⟩
      · cases hk
      · cases hp
set_option maxRecDepth 100000 in
theorem wkA2 (W : World) (g mb b1 : Nat) (v : Value) (hQ : Qw W g mb 1 2 1 v [(b1, ⟨wr1, 0, 1⟩)]) : Calls Try.prog 10 #[.pointer (some ⟨g, 0, none⟩), .agg #[.int .u32 6, .int .u32 0, .int .u8 0, .string ⟨#[]⟩]] W fun e w' => ∃ v' bo hs', e = .returned (.tuple #[.bool true, .int .i64 0]) ∧ Qw w' g mb 2 2 2 v' hs' ∧ hs'.Perm [(bo, ⟨wr2, 0, 2⟩), (b1, ⟨wr1, 0, 1⟩)] ∧ W.heap.size ≤ bo ∧ (v'.ownBlock = v.ownBlock ∨ ∃ k, v'.ownBlock = some k ∧ W.heap.size ≤ k) ∧ Kp W w' (fun k => k = g ∨ k = mb ∨ HoS v [(b1, ⟨wr1, 0, 1⟩)] k) := by
  have h := addq_new W g mb 1 2 1 _ [(b1, ⟨wr1, 0, 1⟩)] wr2 hQ mayB (fun p hp => by
    obtain rfl : p = (b1, ⟨wr1, 0, 1⟩) := by simpa using hp
    show (5 : Int) ≠ 6
    decide) (by decide) (by decide) (by omega) (by simp) (by omega)
  refine Calls.mono (show Calls Try.prog 10 #[.pointer (some ⟨g, 0, none⟩), .agg #[.int .u32 6, .int .u32 0, .int .u8 0, .string ⟨#[]⟩]] W _ from h) ?_
  rintro e w' ⟨v', bo, hs', e1, e2, e3, e4, e5, e6⟩
  exact ⟨v', bo, hs', e1, e2, e3, e4, e5, e6⟩
set_option maxRecDepth 100000 in
theorem wkT (W : World) (g mb b1 b2 : Nat) (v : Value) (hs : Hs) (hQ : Qw W g mb 2 2 2 v hs) (hp : hs.Perm [(b2, ⟨wr2, 0, 2⟩), (b1, ⟨wr1, 0, 1⟩)]) : Calls Try.prog 13 #[.pointer (some ⟨g, 0, none⟩), .int .i64 1] W fun e w' => ∃ r c v' hs', e = .returned (.slice (some ⟨r, 0, none⟩) 1 c) ∧ w'.cell? ⟨r, 0, none⟩ = some (.int .u32 6) ∧ Qw w' g mb 2 2 2 v' hs' ∧ hs'.Perm [(b1, ⟨wr1, 0, 1⟩), (b2, ⟨wr2, 1, 2⟩)] ∧ Kp W w' (fun k => k = g ∨ k = mb ∨ HoS v hs k) := by
  have hl : hs.length = 2 := hp.length_eq
  refine (takeq_calls W g mb 2 2 2 v hs 1 hQ (by omega) (fun p hp' => ?_) (by omega)).mono ?_
  · have := hp.mem_iff.1 hp'
    have e : p = (b2, ⟨wr2, 0, 2⟩) ∨ p = (b1, ⟨wr1, 0, 1⟩) := by simpa using this
    rcases e with rfl | rfl <;> exact ⟨by show (0 : Int) ≤ 0; decide, by show (0 : Int) < 2; decide⟩
  · rintro e w' ⟨A, c, v', hs', ps, rest, e1, e2, e3, e4, _, e6, e7, e8, _⟩
    have hps : ps.length = 1 := by rw [e7, hl]; rfl
    obtain ⟨rfl, rfl⟩ := wk_first hp (by show lessO ⟨wr2, 0, 2⟩ ⟨wr1, 0, 1⟩ = true; decide) e4 e6 hps
    obtain ⟨r, cap, e9, _, _, _⟩ := Kd.R_form e2 (by simp)
    obtain ⟨A', c', e10, _, hC⟩ := Kd.R_reads e2
    injection e9 with e11 _ _
    subst e11
    injection e10 with e12 _ _
    subst e12
    obtain ⟨ad, ea, c0, _⟩ := at_T33 hC 0 (by omega) (by simp)
    injection ea with ea
    subst ea
    refine ⟨r, c, v', hs', e1, ?_, e3.qw, e8, e3.kp⟩
    exact c0
theorem own_ge {n m : Nat} {v v' : Value} (hv : ∀ k, v.ownBlock = some k → n ≤ k) (h : v'.ownBlock = v.ownBlock ∨ ∃ k, v'.ownBlock = some k ∧ m ≤ k) (hm : n ≤ m) : ∀ k, v'.ownBlock = some k → n ≤ k := by
  intro k hk
  rcases h with e | ⟨k', e, hle⟩
  · rw [e] at hk; exact hv k hk
  · rw [e] at hk; injection hk with hk; omega
theorem hos_ge {n g mb : Nat} {v : Value} {hs : Hs} (hg : n ≤ g ∧ n ≤ mb) (hv : ∀ k, v.ownBlock = some k → n ≤ k) (hb : ∀ p ∈ hs, n ≤ p.1) : ∀ k, (k = g ∨ k = mb ∨ HoS v hs k) → n ≤ k := by
  rintro k (rfl | rfl | hk | ⟨p, hp, rfl⟩)
  · exact hg.1
  · exact hg.2
  · exact hv k hk
  · exact hb p hp
theorem Qw.below {w w' : World} {g mb n : Nat} {t last : Int} {v : Value} {hs : Hs} (h : Qw w g mb n t last v hs) (hb : Below w.heap.size w w') : Qw w' g mb n t last v hs := by
  obtain ⟨f, hp, hf⟩ := h.map
  exact ⟨h.rq.below hb, h.heap, ⟨f, hp.below hb, hf⟩, h.addr, h.wf⟩
theorem wkL6 (W : World) (g mb b1 b2 : Nat) (v : Value) (hs : Hs) (hQ : Qw W g mb 2 2 2 v hs) (hp : hs.Perm [(b1, ⟨wr1, 0, 1⟩), (b2, ⟨wr2, 1, 2⟩)]) : Calls Try.prog 18 #[.pointer (some ⟨g, 0, none⟩), .int .u32 6] W fun e w' => e = .returned (.int .i64 1) ∧ Below W.heap.size W w' :=
  left_some W g mb 2 2 2 v hs 6 b2 ⟨wr2, 1, 2⟩ hQ (by omega) (by omega) (hp.mem_iff.2 (by simp)) rfl (wrapN (n := 1) (by omega))
theorem wkL5 (W : World) (g mb b1 b2 : Nat) (v : Value) (hs : Hs) (hQ : Qw W g mb 2 2 2 v hs) (hp : hs.Perm [(b1, ⟨wr1, 0, 1⟩), (b2, ⟨wr2, 1, 2⟩)]) : Calls Try.prog 18 #[.pointer (some ⟨g, 0, none⟩), .int .u32 5] W fun e w' => e = .returned (.int .i64 2) ∧ Below W.heap.size W w' :=
  left_some W g mb 2 2 2 v hs 5 b1 ⟨wr1, 0, 1⟩ hQ (by omega) (by omega) (hp.mem_iff.2 (by simp)) rfl (wrapN (n := 2) (by omega))
set_option maxHeartbeats 8000000 in
set_option maxRecDepth 100000 in
theorem wakesR_true (w : World) : Calls Try.prog 7 #[] w fun e w' => e = .returned (.bool true) ∧ Below w.heap.size w w' := by
  go_enter Try.func7, Try.ntmps7
  go_upto_region 2 with (first | (go_at_call 8; (with_reducible refine (newq_calls _ 2 (by omega) (by omega)).mono ?_); rintro e w1 ⟨g, mb, rfl, h1_, h2_, h3_, h4_⟩; have HQ1 := Aside0.mk h1_; have HG := Aside0.mk (And.intro h2_ h3_); have HB1 := Aside0.mk h4_; clear h1_ h2_ h3_ h4_))
  go_upto_region 3 with (first | (go_at_call 10; (with_reducible refine (wkA1 _ g mb HQ1.out).mono ?_); rintro e w2 ⟨v2, b1, rfl, h1_, h2_, h3_, h4_⟩; have HQ2 := Aside0.mk h1_; have HN1 := Aside0.mk (Nat.le_trans HB1.out.size h2_); have HV2 := Aside0.mk (fun k hk => Nat.le_trans HB1.out.size (h3_ k hk)); have HB2 := Aside0.mk (HB1.out.trans (h4_.below HB1.out.size (fun k hk => by rcases hk with rfl | rfl; exact HG.out.1; exact HG.out.2))); clear h1_ h2_ h3_ h4_ HQ1))
  go_upto_region 4 with (first | (go_at_call 10; (with_reducible refine (wkA2 _ g mb b1 v2 HQ2.out).mono ?_); rintro e w3 ⟨v3, b2, hs3, rfl, h1_, h2_, h3_, h4_, h5_⟩; have HQ3 := Aside0.mk h1_; have HP3 := Aside0.mk h2_; have HN2 := Aside0.mk (Nat.le_trans HB2.out.size h3_); have HV3 := Aside0.mk (own_ge HV2.out h4_ HB2.out.size); have HB3 := Aside0.mk (HB2.out.trans (h5_.below HB2.out.size (hos_ge HG.out HV2.out (fun p hp => by have e := List.mem_singleton.1 hp; rw [e]; exact HN1.out)))); clear h1_ h2_ h3_ h4_ h5_ HQ2))
  go_upto_region 5 with (first | (go_at_call 13; (with_reducible refine (wkT _ g mb b1 b2 v3 hs3 HQ3.out HP3.out).mono ?_); rintro e w4 ⟨r, c, v4, hs4, rfl, h1_, h2_, h3_, h4_⟩; have HC4 := Aside0.mk h1_; have HQ4 := Aside0.mk h2_; have HP4 := Aside0.mk h3_; have HB4 := Aside0.mk (HB3.out.trans (h4_.below HB3.out.size (hos_ge HG.out HV3.out (fun p hp => by have e := HP3.out.mem_iff.1 hp; simp only [List.mem_cons, List.not_mem_nil, or_false] at e; rcases e with e | e; rw [e]; exact HN2.out; rw [e]; exact HN1.out)))); clear h1_ h2_ h3_ h4_ HQ3))
  have c4_ := HC4.out
  go_wp2_with (first
    | (go_at_call 18; (with_reducible refine (wkL6 _ g mb b1 b2 v4 hs4 HQ4.out HP4.out).mono ?_); rintro e w5 ⟨rfl, h1_⟩; have HB5 := Aside0.mk (below_step HB4.out h1_); have HQ5 := Aside0.mk (HQ4.out.below h1_); clear h1_)
    | (go_at_call 18; (with_reducible refine (wkL5 _ g mb b1 b2 v4 hs4 HQ5.out HP4.out).mono ?_); rintro e w6 ⟨rfl, h1_⟩; have HB6 := Aside0.mk (below_step HB5.out h1_); clear h1_))
  go_ret
  exact ⟨rfl, HB6.out⟩
set_option maxHeartbeats 8000000 in
set_option maxRecDepth 100000 in
theorem rnil_law (w : World) (m : Mem) (n : Int) : Calls Try.prog 4 #[.agg #[.int .u32 m.f0, .int .u32 m.f1, .int .u8 m.f2, .string m.f3], .int .i64 n] w fun e w' => e = .returned (.bool true) ∧ Below w.heap.size w w' := by
  have HB0 := Aside0.mk (Below.refl w.heap.size w)
  have HM0 := Aside0.mk (blk_new w (.cells #[.int .u32 m.f0, .int .u32 m.f1, .int .u8 m.f2, .string m.f3] 33))
  go_enter Try.func4, Try.ntmps4
  go_upto_region 3 with (first | (go_at_call 10; (with_reducible refine (addq_nil _ m).mono ?_); rintro e w1 ⟨rfl, h1_⟩; have HB1 := Aside0.mk (below_step (below_alloc HB0.out (.cells #[.int .u32 m.f0, .int .u32 m.f1, .int .u8 m.f2, .string m.f3] 33)) h1_); have HM1 := Aside0.mk (blk_below HM0.out h1_); clear h1_))
  have c0_ : w1.cell? ⟨w.heap.size, 0, none⟩ = some (.int .u32 m.f0) := (blk_cell HM1.out 0).trans rfl
  go_wp2_with (first
    | (go_at_call 13; (with_reducible refine (takeq_nil _ n).mono ?_); rintro e w2 ⟨rfl, h1_⟩; subst h1_)
    | (go_at_call 16; (with_reducible refine (listq_nil _).mono ?_); rintro e w3 ⟨rfl, h1_⟩; subst h1_)
    | (go_at_call 18; (with_reducible refine (left_nil _ m.f0).mono ?_); rintro e w4 ⟨rfl, h1_⟩; subst h1_)
    | (go_at_call 15; (with_reducible refine (copyq_nil _).mono ?_); rintro e w5 ⟨rfl, h1_⟩; subst h1_)
    | (go_at_call 7; (with_reducible refine (wakesR_true _).mono ?_); rintro e w6 ⟨rfl, h1_⟩; have HB6 := Aside0.mk (below_step HB1.out h1_); clear h1_))
  go_ret
  exact ⟨rfl, HB6.out⟩
end Go.Proofs.Ytihmblbnnhcdnaa.Print
