/- Some texts of the proof in one: XListQ, XQsP, XQsC, XRfP, XRPut, XRefM, XRAdd, XRListR, XRTake, XOpensM, Eq33, F12, XPlaysB. -/
import Derived.Test.YtihmblbnnhcdnaaXCopyQ
import Derived.Test.YtihmblbnnhcdnaaXWakesR
import Derived.Test.YtihmblbnnhcdnaaXCkP
import Derived.Test.YtihmblbnnhcdnaaF28
import Derived.Test.YtihmblbnnhcdnaaF29
import Derived.Test.YtihmblbnnhcdnaaXOpens
import Derived.Test.YtihmblbnnhcdnaaXMem
import Derived.Test.YtihmblbnnhcdnaaKinds
section
/- A queue's List, walked. -/
namespace Go.Proofs.Ytihmblbnnhcdnaa.Print
open Go.RowKit Go.Maps Go.ChangeMaps Go.Proofs.YtihmblbnnhcdnaaW.PrintWords Go.Proofs.YtihmblbnnhcdnaaW.PrintLast Go.Proofs.YtihmblbnnhcdnaaW.PrintMore
set_option linter.unusedVariables false
set_option linter.unusedSimpArgs false
set_option maxHeartbeats 8000000 in
set_option maxRecDepth 100000 in
theorem listq_calls (w : World) (g mb n : Nat) (t last : Int) (v : Value) (hs : Hs) (h : Qw w g mb n t last v hs) (hl : hs.length ≤ 900000) (hsb : ∀ p ∈ hs, 0 ≤ p.2.sent ∧ p.2.sent < t) (ht : t ≤ 64) :
    Calls Try.prog 16 #[.pointer (some ⟨g, 0, none⟩)] w fun e w' => ∃ (A : Option Addr) (c : Nat) (ps : Hs), e = .returned (.slice A ps.length c) ∧ Kd.R k33 33 w' w.heap.size (fun _ => True) (.slice A ps.length c) (ps.map (·.2.m)) ∧ (ps.map (·.2)).Perm (hs.map (·.2)) ∧ ps.Pairwise (fun a b => lessO b.2 a.2 = false) ∧ Below w.heap.size w w' := by
  have HC := Aside0.mk (copyq_calls w g mb n t last v hs h hl)
  have HLL := Aside0.mk hl
  have HSB := Aside0.mk hsb
  have HT := Aside0.mk ht
  clear h hl hsb ht
  go_enter Try.func16, Try.ntmps16
  go_upto_region 2 with (first | (go_at_call 15; refine HC.out.mono ?_; rintro e w1 ⟨g', mb', v', hs', rfl, h1_, h2_, h3_, h4_, h5_, h6_, h7_⟩; have HQ1 := Aside0.mk h1_; have HM1 := Aside0.mk h2_; have HG1 := Aside0.mk (And.intro h3_ h4_); have HF1 := Aside0.mk (And.intro h5_ h6_); have HB1 := Aside0.mk h7_; clear h1_ h2_ h3_ h4_ h5_ h6_ h7_ HC))
  obtain ⟨A, c, rfl, hcl, hcm⟩ := HQ1.out.rq.ho.form
  have hc1 := HQ1.out.rq.cell
  have hlen : hs'.length = hs.length := by
    have h1 := congrArg List.length HM1.out
    rw [List.length_map, List.length_map] at h1
    exact h1
  have hl9 := HLL.out
  have HTK := Aside0.mk (takeq_calls w1 g' mb' hs.length t last (.slice A hs'.length c) hs' hs'.length HQ1.out (by omega) (fun p hp => by
    have h1 : p.2 ∈ hs.map (·.2) := by rw [← HM1.out]; exact List.mem_map.2 ⟨p, hp, rfl⟩
    obtain ⟨q, hq, e⟩ := List.mem_map.1 h1
    rw [← e]
    exact HSB.out q hq) HT.out)
  clear hlen hl9
  go_wp2_with (first | (go_at_call 13; (with_reducible refine HTK.out.mono ?_); rintro e w2 ⟨A2, c2, v2, hs2, ps, rest, rfl, h1_, h2_, h3_, h4_, _, h5_, _, _⟩; have HR2 := Aside0.mk h1_; have HT2 := Aside0.mk h2_; have HP2 := Aside0.mk h3_; have HS2 := Aside0.mk h4_; have HN2 := Aside0.mk h5_; clear h1_ h2_ h3_ h4_ h5_ HTK))
  go_ret
  have hn2 := HN2.out
  have hps : ps.length = hs'.length := by rw [hn2]; simp
  have hrest : rest = [] := by
    have h1 := HP2.out.length_eq
    rw [List.length_append] at h1
    exact List.eq_nil_of_length_eq_zero (by omega)
  have hp2 := HP2.out
  rw [hrest, List.append_nil] at hp2
  refine ⟨A2, c2, ps, rfl, Kd.R_lower HR2.out HB1.out.size, ?_, HS2.out, HB1.out.trans (HT2.out.kp.below HB1.out.size (hos_ge HG1.out HF1.out.2 HF1.out.1))⟩
  rw [← HM1.out]
  exact hp2.map _
end Go.Proofs.Ytihmblbnnhcdnaa.Print
end
section
/- A queue as the list in the order in which its rumors would be taken: what Add, Take, List and Left tell of it (plain). -/
namespace Go.Proofs.Ytihmblbnnhcdnaa.Print
open Go.RowKit Go.Maps Go.ChangeMaps Go.Proofs.YtihmblbnnhcdnaaW.PrintWords Go.Proofs.YtihmblbnnhcdnaaW.PrintLast Go.Proofs.YtihmblbnnhcdnaaW.PrintMore
set_option linter.unusedVariables false
set_option linter.unusedSimpArgs false
def Srt (L : List One) : Prop := L.Pairwise (fun a b => lessO a b = true)
/-- put at its place -/
def insO (x : One) : List One → List One
  | [] => [x]
  | y :: r => if lessO y x = true then y :: insO x r else x :: y :: r
def idxO (x : One) : List One → Nat
  | [] => 0
  | y :: r => if lessO y x = true then idxO x r + 1 else 0
theorem ins_idx (x : One) : ∀ L, insO x L = L.take (idxO x L) ++ [x] ++ L.drop (idxO x L)
  | [] => rfl
  | y :: r => by
    unfold insO idxO
    split
    · rw [ins_idx x r]; simp
    · simp
theorem idxO_le (x : One) : ∀ L, idxO x L ≤ L.length
  | [] => Nat.le_refl _
  | y :: r => by
    unfold idxO
    have := idxO_le x r
    split
    · simp only [List.length_cons]; omega
    · omega
theorem idxO_at (x : One) : ∀ (L : List One) (k : Nat) (y : One), L[k]? = some y → k ≤ idxO x L → (lessO y x = true → k < idxO x L) ∧ (lessO y x = false → k = idxO x L)
  | [], k, y, h, _ => by simp at h
  | z :: r, 0, y, h, _ => by
    have e : z = y := by simpa using h
    subst e
    unfold idxO
    constructor
    · intro h; rw [if_pos h]; omega
    · intro h; rw [if_neg (by simp [h])]
  | z :: r, k + 1, y, h, hk => by
    unfold idxO at hk ⊢
    by_cases hz : lessO z x = true
    · rw [if_pos hz] at hk ⊢
      have := idxO_at x r k y (by simpa using h) (by omega)
      exact ⟨fun h => by have := this.1 h; omega, fun h => by rw [this.2 h]⟩
    · rw [if_neg hz] at hk
      omega
theorem ins_perm (x : One) : ∀ L, (insO x L).Perm (x :: L)
  | [] => List.Perm.refl _
  | y :: r => by
    unfold insO
    split
    · exact (List.Perm.cons y (ins_perm x r)).trans (List.Perm.swap _ _ _)
    · exact List.Perm.refl _
theorem lessO_trans {a b c : One} (h1 : lessO a b = true) (h2 : lessO b c = true) : lessO a c = true := by
  unfold lessO at *
  split at h1 <;> split at h2 <;> split <;> simp at * <;> omega
theorem lessO_tot {a b : One} (h : lessO a b = false) (hne : a.tm ≠ b.tm) : lessO b a = true := by
  unfold lessO at *
  split at h <;> split <;> simp at * <;> omega
theorem ins_srt {x : One} : ∀ {L : List One}, Srt L → (∀ y ∈ L, y.tm ≠ x.tm) → Srt (insO x L)
  | [], _, _ => by unfold insO Srt; simp
  | y :: r, h, hne => by
    obtain ⟨h1, h2⟩ := List.pairwise_cons.1 h
    unfold insO
    by_cases hl : lessO y x = true
    · rw [if_pos hl]
      refine List.pairwise_cons.2 ⟨fun z hz => ?_, ins_srt h2 (fun z hz => hne z (List.mem_cons_of_mem _ hz))⟩
      rcases List.mem_cons.1 ((ins_perm x r).mem_iff.1 hz) with rfl | hz
      · exact hl
      · exact h1 z hz
    · rw [if_neg hl]
      have hx : lessO x y = true := lessO_tot (by simpa using hl) (hne y (by simp))
      refine List.pairwise_cons.2 ⟨fun z hz => ?_, h⟩
      rcases List.mem_cons.1 hz with rfl | hz
      · exact hx
      · exact lessO_trans hx (h1 z hz)
/-- those that were taken are put back, once more sent -/
def puts (t : Int) : List One → List One → List One
  | [], R => R
  | x :: r, R => puts t r (if x.sent + 1 < t then insO (sentO x) R else R)
def backL (t : Int) (ps : List One) : List One := ps.filterMap (fun x => if x.sent + 1 < t then some (sentO x) else none)
theorem puts_snoc (t : Int) (x : One) : ∀ ps R, puts t (ps ++ [x]) R = if x.sent + 1 < t then insO (sentO x) (puts t ps R) else puts t ps R
  | [], R => rfl
  | y :: r, R => by
    show puts t (r ++ [x]) _ = _
    rw [puts_snoc t x r]
    rfl
theorem puts_perm (t : Int) : ∀ ps R, (puts t ps R).Perm (R ++ backL t ps)
  | [], R => by simp [puts, backL]
  | x :: r, R => by
    unfold puts
    refine (puts_perm t r _).trans ?_
    unfold backL
    by_cases h : x.sent + 1 < t
    · rw [if_pos h, List.filterMap_cons_some (by rw [if_pos h])]
      refine (List.Perm.append_right _ (ins_perm _ _)).trans ?_
      exact List.perm_middle.symm
    · rw [if_neg h, List.filterMap_cons_none (by rw [if_neg h])]
theorem back_tm (t : Int) (ps : List One) : ∀ y ∈ backL t ps, ∃ x ∈ ps, y = sentO x ∧ x.sent + 1 < t := by
  intro y hy
  obtain ⟨x, hx, e⟩ := List.mem_filterMap.1 hy
  by_cases h : x.sent + 1 < t
  · rw [if_pos h] at e
    exact ⟨x, hx, (Option.some.inj e).symm, h⟩
  · rw [if_neg h] at e; cases e
theorem puts_srt (t : Int) : ∀ (ps R : List One), Srt R → ((ps ++ R).map (·.tm)).Nodup → Srt (puts t ps R)
  | [], R, h, _ => h
  | x :: r, R, h, hn => by
    unfold puts
    have hn' : ((r ++ x :: R).map (·.tm)).Nodup := ((List.perm_middle (a := x) (l₁ := r) (l₂ := R)).map (·.tm)).nodup_iff.2 hn
    by_cases hs : x.sent + 1 < t
    · rw [if_pos hs]
      refine puts_srt t r _ (ins_srt h (fun y hy e => ?_)) ?_
      · rw [List.cons_append, List.map_cons, List.nodup_cons] at hn
        exact hn.1 (List.mem_map.2 ⟨y, List.mem_append_right _ hy, e⟩)
      · have h1 : ((r ++ insO (sentO x) R).map (·.tm)).Perm ((r ++ x :: R).map (·.tm)) := by
          rw [List.map_append, List.map_append]
          exact List.Perm.append_left _ ((ins_perm (sentO x) R).map (·.tm))
        exact h1.nodup_iff.2 hn'
    · rw [if_neg hs]
      refine puts_srt t r _ h ?_
      rw [List.cons_append, List.map_cons, List.nodup_cons] at hn
      exact hn.2
/-- what an Add tells: whether, the error, the list, the last time -/
def findA (L : List One) (a : Int) : Option One := L.find? (fun x => x.m.f0 == a)
def outA (L : List One) (a : Int) : List One := L.filter (fun x => x.m.f0 != a)
def addL (L : List One) (nx : Int) (m : Mem) : Bool × Int × List One × Int :=
  if mayM m = false then (false, 170, L, nx) else
  match findA L m.f0 with
  | some y => if cmpM m y.m ≤ 0 then (false, 0, L, nx) else (true, 0, ⟨m, 0, nx + 1⟩ :: outA L m.f0, nx + 1)
  | none => (true, 0, ⟨m, 0, nx + 1⟩ :: L, nx + 1)
def takeN (L : List One) (n : Int) : Nat := min n.toNat L.length
def takeL (t : Int) (L : List One) (n : Int) : List One := puts t (L.take (takeN L n)) (L.drop (takeN L n))
def leftL (t : Int) (L : List One) (a : Int) : Int := match findA L a with | some x => t - x.sent | none => 0
/-- a list of rumors that a queue may have -/
structure Al (t last : Int) (L : List One) : Prop where
  srt : Srt L
  adr : (L.map (·.m.f0)).Nodup
  tnd : (L.map (·.tm)).Nodup
  tms : ∀ x ∈ L, x.tm ≤ last
  snt : ∀ x ∈ L, 0 ≤ x.sent ∧ x.sent < t
  may : ∀ x ∈ L, mayM x.m = true
  wf : ∀ x ∈ L, 0 ≤ x.m.f0 ∧ x.m.f0 ≤ 4294967295
theorem Al.nil (t last : Int) : Al t last [] := ⟨by simp [Srt], by simp, by simp, by simp, by simp, by simp, by simp⟩
theorem find_mem {L : List One} {a : Int} {x : One} (h : findA L a = some x) : x ∈ L ∧ x.m.f0 = a := by
  unfold findA at h
  exact ⟨List.mem_of_find?_eq_some h, by simpa using List.find?_some h⟩
theorem find_none {L : List One} {a : Int} (h : findA L a = none) : ∀ x ∈ L, x.m.f0 ≠ a := by
  unfold findA at h
  intro x hx
  have := List.find?_eq_none.1 h x hx
  simpa using this
theorem find_of {L : List One} (hn : (L.map (·.m.f0)).Nodup) {x : One} (hx : x ∈ L) : findA L x.m.f0 = some x := by
  induction L with
  | nil => cases hx
  | cons y r ih =>
    rw [List.map_cons, List.nodup_cons] at hn
    unfold findA
    rcases List.mem_cons.1 hx with rfl | hx
    · rw [List.find?_cons_of_pos (by simp)]
    · have : y.m.f0 ≠ x.m.f0 := fun e => hn.1 (List.mem_map.2 ⟨x, hx, e.symm⟩)
      rw [List.find?_cons_of_neg (by simpa using this)]
      exact ih hn.2 hx
theorem out_none {L : List One} {a : Int} (h : findA L a = none) : outA L a = L := by
  unfold outA
  rw [List.filter_eq_self]
  intro x hx
  have := find_none h x hx
  simpa using this
theorem out_perm {L : List One} (hn : (L.map (·.m.f0)).Nodup) {x : One} (hx : x ∈ L) : (x :: outA L x.m.f0).Perm L := by
  induction L with
  | nil => cases hx
  | cons y r ih =>
    rw [List.map_cons, List.nodup_cons] at hn
    unfold outA
    rcases List.mem_cons.1 hx with rfl | hx
    · rw [List.filter_cons_of_neg (by simp), List.filter_eq_self.2]
      intro z hz
      have : x.m.f0 ≠ z.m.f0 := fun e => hn.1 (List.mem_map.2 ⟨z, hz, e.symm⟩)
      simp
      omega
    · have : y.m.f0 ≠ x.m.f0 := fun e => hn.1 (List.mem_map.2 ⟨x, hx, e.symm⟩)
      rw [List.filter_cons_of_pos (by simpa using this)]
      exact (List.Perm.swap _ _ _).trans (List.Perm.cons y (ih hn.2 hx))
theorem Al.len {t last : Int} {L : List One} (h : Al t last L) : True := trivial
theorem head_srt {L : List One} {x : One} (h : Srt L) (hs : ∀ y ∈ L, 0 ≤ y.sent) (ht : ∀ y ∈ L, y.tm < x.tm) (h0 : x.sent = 0) : Srt (x :: L) := by
  refine List.pairwise_cons.2 ⟨fun y hy => ?_, h⟩
  have h1 := hs y hy
  have h2 := ht y hy
  unfold lessO
  rw [h0]
  split
  · simp at *; omega
  · simp at *; omega
theorem Al.sub {t last : Int} {L L' : List One} (h : Al t last L) (hs : L'.Sublist L) : Al t last L' :=
  ⟨h.srt.sublist hs, h.adr.sublist (hs.map _), h.tnd.sublist (hs.map _), fun x hx => h.tms x (hs.subset hx), fun x hx => h.snt x (hs.subset hx), fun x hx => h.may x (hs.subset hx), fun x hx => h.wf x (hs.subset hx)⟩
theorem Al.cons {t last : Int} {L : List One} {m : Mem} (h : Al t last L) (hno : ∀ x ∈ L, x.m.f0 ≠ m.f0) (hm : mayM m = true) (ht : 1 ≤ t) (h0 : 0 ≤ m.f0 ∧ m.f0 ≤ 4294967295) : Al t (last + 1) (⟨m, 0, last + 1⟩ :: L) := by
  refine ⟨head_srt h.srt (fun y hy => (h.snt y hy).1) (fun y hy => by have := h.tms y hy; show y.tm < last + 1; omega) rfl, ?_, ?_, fun x hx => ?_, fun x hx => ?_, fun x hx => ?_, fun x hx => ?_⟩
  · rw [List.map_cons, List.nodup_cons]
    exact ⟨fun hx => by obtain ⟨y, hy, e⟩ := List.mem_map.1 hx; exact hno y hy e, h.adr⟩
  · rw [List.map_cons, List.nodup_cons]
    exact ⟨fun hx => by obtain ⟨y, hy, e⟩ := List.mem_map.1 hx; have := h.tms y hy; simp only at e; omega, h.tnd⟩
  · rcases List.mem_cons.1 hx with rfl | hx
    · exact Int.le_refl _
    · have := h.tms x hx; omega
  · rcases List.mem_cons.1 hx with rfl | hx
    · exact ⟨Int.le_refl _, by show (0 : Int) < t; omega⟩
    · exact h.snt x hx
  · rcases List.mem_cons.1 hx with rfl | hx
    · exact hm
    · exact h.may x hx
  · rcases List.mem_cons.1 hx with rfl | hx
    · exact h0
    · exact h.wf x hx
theorem out_sub (L : List One) (a : Int) : (outA L a).Sublist L := List.filter_sublist
theorem out_no (L : List One) (a : Int) : ∀ x ∈ outA L a, x.m.f0 ≠ a := fun x hx => by
  unfold outA at hx
  have := (List.mem_filter.1 hx).2
  simpa using this
theorem Al.add {t last : Int} {L : List One} (h : Al t last L) (m : Mem) (ht : 1 ≤ t) (h0 : 0 ≤ m.f0 ∧ m.f0 ≤ 4294967295) : Al t (addL L last m).2.2.2 (addL L last m).2.2.1 := by
  unfold addL
  by_cases hm : mayM m = false
  · rw [if_pos hm]; exact h
  · rw [if_neg hm]
    have hm' : mayM m = true := by simpa using hm
    cases hf : findA L m.f0 with
    | none => exact h.cons (find_none hf) hm' ht h0
    | some y =>
      simp only
      by_cases hc : cmpM m y.m ≤ 0
      · rw [if_pos hc]; exact h
      · rw [if_neg hc]
        exact (h.sub (out_sub L m.f0)).cons (out_no L m.f0) hm' ht h0
theorem add_len {t last : Int} {L : List One} (m : Mem) : (addL L last m).2.2.1.length ≤ L.length + 1 ∧ last ≤ (addL L last m).2.2.2 ∧ (addL L last m).2.2.2 ≤ last + 1 := by
  unfold addL
  split
  · exact ⟨by simp, by simp, by simp; omega⟩
  · split
    · split
      · exact ⟨by simp, by simp, by simp; omega⟩
      · refine ⟨?_, by simp; omega, by simp⟩
        simp only [List.length_cons]
        have := (out_sub L m.f0).length_le
        omega
    · exact ⟨by simp, by simp; omega, by simp⟩
theorem Al.take {t last : Int} {L : List One} (h : Al t last L) (n : Int) : Al t last (takeL t L n) := by
  have hsp : L.take (takeN L n) ++ L.drop (takeN L n) = L := List.take_append_drop _ _
  have hp := puts_perm t (L.take (takeN L n)) (L.drop (takeN L n))
  have hpm : ∀ {β : Type} (f : One → β), (∀ x, f (sentO x) = f x) → ∀ ps : List One, ((backL t ps).map f).Sublist (ps.map f) := by
    intro β f hf ps
    induction ps with
    | nil => simp [backL]
    | cons x r ih =>
      unfold backL
      by_cases hx : x.sent + 1 < t
      · rw [List.filterMap_cons_some (by rw [if_pos hx]), List.map_cons, List.map_cons, hf]
        exact List.Sublist.cons_cons _ ih
      · rw [List.filterMap_cons_none (by rw [if_neg hx]), List.map_cons]
        exact List.Sublist.cons _ ih
  have hnd : ∀ {β : Type} (f : One → β), (∀ x, f (sentO x) = f x) → (L.map f).Nodup → ((takeL t L n).map f).Nodup := by
    intro β f hf hn
    refine ((hp.map f).nodup_iff).2 ?_
    rw [List.map_append]
    have h1 : (L.map f).Perm ((L.drop (takeN L n)).map f ++ (L.take (takeN L n)).map f) := by
      conv => lhs; rw [← hsp, List.map_append]
      exact List.perm_append_comm
    exact (h1.nodup_iff.1 hn).sublist (List.Sublist.append (List.Sublist.refl _) (hpm f hf _))
  have hmem : ∀ x ∈ takeL t L n, x ∈ L ∨ ∃ y ∈ L, x = sentO y ∧ y.sent + 1 < t := by
    intro x hx
    rcases List.mem_append.1 (hp.mem_iff.1 hx) with hx | hx
    · exact Or.inl (List.mem_of_mem_drop hx)
    · obtain ⟨y, hy, e⟩ := back_tm t _ x hx
      exact Or.inr ⟨y, List.mem_of_mem_take hy, e⟩
  refine ⟨puts_srt t _ _ (h.srt.sublist (List.drop_sublist _ _)) (by rw [hsp]; exact h.tnd), hnd _ (fun _ => rfl) h.adr, hnd _ (fun _ => rfl) h.tnd, fun x hx => ?_, fun x hx => ?_, fun x hx => ?_, fun x hx => ?_⟩
  · rcases hmem x hx with hx | ⟨y, hy, rfl, _⟩
    · exact h.tms x hx
    · exact h.tms y hy
  · rcases hmem x hx with hx | ⟨y, hy, rfl, hs⟩
    · exact h.snt x hx
    · have := h.snt y hy
      show 0 ≤ y.sent + 1 ∧ y.sent + 1 < t
      omega
  · rcases hmem x hx with hx | ⟨y, hy, rfl, _⟩
    · exact h.may x hx
    · exact h.may y hy
  · rcases hmem x hx with hx | ⟨y, hy, rfl, _⟩
    · exact h.wf x hx
    · exact h.wf y hy
theorem take_len (t : Int) (L : List One) (n : Int) : (takeL t L n).length ≤ L.length := by
  have hp := (puts_perm t (L.take (takeN L n)) (L.drop (takeN L n))).length_eq
  have h1 : (backL t (L.take (takeN L n))).length ≤ (L.take (takeN L n)).length := List.length_filterMap_le _ _
  have h2 : (L.take (takeN L n) ++ L.drop (takeN L n)).length = L.length := by rw [List.take_append_drop]
  rw [List.length_append] at hp h2
  unfold takeL
  omega
/-- the first ones, in order, of whatever order they lie in -/
theorem firsts {L : List One} : ∀ {ps rest : List One}, Srt L → (ps ++ rest).Perm L → ps.Pairwise (fun a b => lessO b a = false) → (∀ a ∈ ps, ∀ b ∈ rest, lessO b a = false) → L.take ps.length = ps ∧ rest.Perm (L.drop ps.length) := by
  induction L with
  | nil =>
    intro ps rest _ hp _ _
    have := hp.length_eq
    rw [List.length_append] at this
    obtain rfl : ps = [] := List.eq_nil_of_length_eq_zero (by simp at this; simp [this])
    simpa using hp
  | cons x L ih =>
    intro ps rest hs hp h1 h2
    cases ps with
    | nil => simpa using hp
    | cons a ps =>
      obtain ⟨s1, s2⟩ := List.pairwise_cons.1 hs
      obtain ⟨p1, p2⟩ := List.pairwise_cons.1 h1
      have e : a = x := by
        by_cases e : a = x
        · exact e
        · have ha : a ∈ x :: L := hp.mem_iff.1 (by simp)
          have hx : x ∈ a :: ps ++ rest := hp.mem_iff.2 (by simp)
          have hl : lessO x a = true := s1 a (by rcases List.mem_cons.1 ha with h | h; exact absurd h e; exact h)
          have hx' : x ∈ ps ∨ x ∈ rest := by
            rcases List.mem_append.1 hx with h | h
            · rcases List.mem_cons.1 h with h | h
              · exact absurd h.symm e
              · exact Or.inl h
            · exact Or.inr h
          rcases hx' with hx' | hx'
          · rw [p1 x hx'] at hl; cases hl
          · rw [h2 a (by simp) x hx'] at hl; cases hl
      subst e
      have hp' : (ps ++ rest).Perm L := List.Perm.cons_inv hp
      obtain ⟨h3, h4⟩ := ih s2 hp' p2 (fun b hb => h2 b (by simp [hb]))
      exact ⟨by simp [h3], by simpa using h4⟩
end Go.Proofs.Ytihmblbnnhcdnaa.Print
end
section
/- A queue's calls, told of the list in the order in which its rumors would be taken. -/
namespace Go.Proofs.Ytihmblbnnhcdnaa.Print
open Go.RowKit Go.Maps Go.ChangeMaps Go.Proofs.YtihmblbnnhcdnaaW.PrintWords Go.Proofs.YtihmblbnnhcdnaaW.PrintLast Go.Proofs.YtihmblbnnhcdnaaW.PrintMore
set_option linter.unusedVariables false
set_option linter.unusedSimpArgs false
/-- a queue in memory whose rumors would be taken in the order of L -/
structure Qs (w : World) (g mb : Nat) (t last : Int) (v : Value) (hs : Hs) (L : List One) : Prop where
  qw : ∃ n : Nat, (n : Int) ≤ last ∧ Qw w g mb n t last v hs
  perm : L.Perm (hs.map (·.2))
  al : Al t last L
  t1 : 1 ≤ t ∧ t ≤ 64
  len : (L.length : Int) ≤ last
/-- the blocks of a queue -/
def QB (g mb : Nat) (v : Value) (hs : Hs) (k : Nat) : Prop := k = g ∨ k = mb ∨ HoS v hs k
theorem Qs.below {w w' : World} {g mb : Nat} {t last : Int} {v : Value} {hs : Hs} {L : List One} (h : Qs w g mb t last v hs L) (hb : Below w.heap.size w w') : Qs w' g mb t last v hs L := by
  obtain ⟨n, hn, hq⟩ := h.qw
  exact ⟨⟨n, hn, hq.below hb⟩, h.perm, h.al, h.t1, h.len⟩
theorem Qs.lt {w : World} {g mb : Nat} {t last : Int} {v : Value} {hs : Hs} {L : List One} (h : Qs w g mb t last v hs L) {k : Nat} (hk : QB g mb v hs k) : k < w.heap.size := by
  obtain ⟨n, hn, hq⟩ := h.qw
  rcases hk with rfl | rfl | hk
  · exact blk_lt hq.rq.box
  · obtain ⟨f, hp, _⟩ := hq.map; exact hp.lt
  · exact hq.rq.ho.lt hk
/-- the blocks of a queue are of its own types, or a map -/
theorem Qs.typ {w : World} {g mb : Nat} {t last : Int} {v : Value} {hs : Hs} {L : List One} (h : Qs w g mb t last v hs L) {k : Nat} (hk : QB g mb v hs k) {cs : Array Value} {tt : TypeId} (hc : w.heap[k]? = some (.cells cs tt (0, 0))) : tt = 57 ∨ tt = 62 ∨ tt = 66 := by
  obtain ⟨n, hn, hq⟩ := h.qw
  have inj : ∀ {cs' tt'}, w.heap[k]? = some (.cells cs' tt' (0, 0)) → tt = tt' := fun h' => by
    rw [hc] at h'
    injection h' with h'
    injection h'
  rcases hk with rfl | rfl | hk | ⟨p, hp, rfl⟩
  · exact Or.inl (inj hq.rq.box)
  · obtain ⟨f, hp, _⟩ := hq.map
    exact absurd rfl (hp.ne hc)
  · obtain ⟨cells, hc'⟩ := Kd.R_typed hq.rq.ho.row k hk
    exact Or.inr (Or.inl (inj hc'))
  · obtain ⟨i, hi, e⟩ := List.getElem_of_mem hp
    exact Or.inr (Or.inr (inj (hq.rq.ho.one i p.1 p.2 (by rw [List.getElem?_eq_getElem hi, e]))))
theorem Qs.kp {w w' : World} {g mb : Nat} {t last : Int} {v : Value} {hs : Hs} {L : List One} {S : Nat → Prop} (h : Qs w g mb t last v hs L) (hk : Kp w w' S) (hS : ∀ k, QB g mb v hs k → ¬ S k) : Qs w' g mb t last v hs L := by
  obtain ⟨n, hn, hq⟩ := h.qw
  obtain ⟨f, hp, hf⟩ := hq.map
  exact ⟨⟨n, hn, ⟨⟨(hk.block g (blk_lt hq.rq.box) (hS g (Or.inl rfl))).trans hq.rq.box, hq.rq.ho.kept hk (fun k hk' => hS k (Or.inr (Or.inr hk')))⟩, hq.heap, ⟨f, hp.kp hk (hS mb (Or.inr (Or.inl rfl))), hf⟩, hq.addr, hq.wf⟩⟩, h.perm, h.al, h.t1, h.len⟩
theorem newq_s (w : World) (t : Int) (h0 : 1 ≤ t) (h1 : t ≤ 64) : Calls Try.prog 8 #[.int .i64 t] w fun e w' => ∃ g mb v hs, e = .returned (.tuple #[.pointer (some ⟨g, 0, none⟩), .int .i64 0]) ∧ Qs w' g mb t 0 v hs [] ∧ (∀ k, QB g mb v hs k → w.heap.size ≤ k) ∧ Below w.heap.size w w' := by
  refine (newq_calls w t h0 h1).mono ?_
  rintro e w' ⟨g, mb, rfl, hq, h2, h3, h4⟩
  refine ⟨g, mb, _, _, rfl, ⟨⟨0, by simp, hq⟩, by simp, Al.nil _ _, ⟨h0, h1⟩, by simp⟩, fun k hk => ?_, h4⟩
  rcases hk with rfl | rfl | hk | ⟨p, hp, _⟩
  · exact h2
  · exact h3
  · cases hk
  · cases hp
set_option maxRecDepth 100000 in
theorem newq_bad (w : World) (t : Int) (h : t < 1 ∨ 64 < t) : Calls Try.prog 8 #[.int .i64 t] w fun e w' => e = .returned (.tuple #[.pointer none, .int .i64 1]) ∧ Below w.heap.size w w' := by
  go_enter Try.func8, Try.ntmps8
  rcases h with h | h
  · have ht1 : t < 1 := h
    go_wp2
    refine bodyPost_ret (results_tmp2 rfl _ _ _) rfl ?_
    exact ⟨rfl, Below.refl _ _⟩
  · have ht1 : ¬ t < 1 := by omega
    have ht2 : t > 64 := h
    go_wp2
    refine bodyPost_ret (results_tmp2 rfl _ _ _) rfl ?_
    exact ⟨rfl, Below.refl _ _⟩
theorem own_new {w : World} {v v' : Value} {hs hs' : Hs} {g mb : Nat} (h1 : v'.ownBlock = v.ownBlock ∨ ∃ k, v'.ownBlock = some k ∧ w.heap.size ≤ k) (h2 : ∀ p ∈ hs', (∃ q ∈ hs, q.1 = p.1) ∨ w.heap.size ≤ p.1) : ∀ k, QB g mb v' hs' k → QB g mb v hs k ∨ w.heap.size ≤ k := by
  rintro k (hk | hk | hk | ⟨p, hp, rfl⟩)
  · exact Or.inl (Or.inl hk)
  · exact Or.inl (Or.inr (Or.inl hk))
  · rcases h1 with e | ⟨k', e, hle⟩
    · exact Or.inl (Or.inr (Or.inr (Or.inl (by rw [← e]; exact hk))))
    · rw [e] at hk; injection hk with hk; exact Or.inr (by omega)
  · rcases h2 p hp with ⟨q, hq, e⟩ | h
    · exact Or.inl (Or.inr (Or.inr (Or.inr ⟨q, hq, e⟩)))
    · exact Or.inr h
theorem Qs.inn {w : World} {g mb : Nat} {t last : Int} {v : Value} {hs : Hs} {L : List One} (h : Qs w g mb t last v hs L) {x : One} : x ∈ L ↔ ∃ b, (b, x) ∈ hs := by
  rw [h.perm.mem_iff, List.mem_map]
  exact ⟨fun ⟨p, hp, e⟩ => ⟨p.1, by rw [← e]; exact hp⟩, fun ⟨b, hb⟩ => ⟨(b, x), hb, rfl⟩⟩
theorem Qs.hlen {w : World} {g mb : Nat} {t last : Int} {v : Value} {hs : Hs} {L : List One} (h : Qs w g mb t last v hs L) : L.length = hs.length := by have := h.perm.length_eq; rwa [List.length_map] at this
theorem addq_s (w : World) (g mb : Nat) (t last : Int) (v : Value) (hs : Hs) (L : List One) (m : Mem) (h : Qs w g mb t last v hs L) (h0 : 0 ≤ m.f0 ∧ m.f0 ≤ 4294967295) (hl : last ≤ 800000) :
    Calls Try.prog 10 #[.pointer (some ⟨g, 0, none⟩), .agg #[.int .u32 m.f0, .int .u32 m.f1, .int .u8 m.f2, .string m.f3]] w fun e w' => ∃ v' hs', e = .returned (.tuple #[.bool (addL L last m).1, .int .i64 (addL L last m).2.1]) ∧ Qs w' g mb t (addL L last m).2.2.2 v' hs' (addL L last m).2.2.1 ∧ Kp w w' (QB g mb v hs) ∧ ∀ k, QB g mb v' hs' k → QB g mb v hs k ∨ w.heap.size ≤ k := by
  obtain ⟨n, hn, hq⟩ := h.qw
  have hal := h.al.add m h.t1.1 h0
  have hlen := h.len
  have hhl := h.hlen
  cases hm : mayM m with
  | false =>
    have e : addL L last m = (false, 170, L, last) := by unfold addL; rw [if_pos hm]
    rw [e]
    exact (addq_bad w g mb n t last v hs m hq hm).mono (fun e w' hh => ⟨v, hs, hh.1, h.below hh.2, Kp.of hh.2, fun k hk => Or.inl hk⟩)
  | true =>
    cases hf : findA L m.f0 with
    | none =>
      have e : addL L last m = (true, 0, ⟨m, 0, last + 1⟩ :: L, last + 1) := by unfold addL; rw [if_neg (by simp [hm]), hf]
      rw [e] at hal ⊢
      refine (addq_new w g mb n t last v hs m hq hm (fun p hp e' => find_none hf p.2 (h.inn.2 ⟨p.1, hp⟩) e') h0.1 h0.2 (by omega) (by omega) ⟨by omega, by omega⟩).mono ?_
      rintro e w' ⟨v', bo, hs', rfl, h1, h2, h3, h4, h5⟩
      refine ⟨v', hs', rfl, ⟨⟨n + 1, by show ((n + 1 : Nat) : Int) ≤ last + 1; omega, h1⟩, ?_, hal, h.t1, by show ((L.length + 1 : Nat) : Int) ≤ last + 1; omega⟩, h5, own_new h4 (fun p hp => ?_)⟩
      · exact (List.Perm.cons _ h.perm).trans ((h2.map (fun p : Nat × One => p.2)).symm)
      · rcases List.mem_cons.1 (h2.mem_iff.1 hp) with rfl | hp
        · exact Or.inr h3
        · exact Or.inl ⟨p, hp, rfl⟩
    | some y =>
      obtain ⟨hy, hya⟩ := find_mem hf
      obtain ⟨b0, hb0⟩ := h.inn.1 hy
      by_cases hc : cmpM m y.m ≤ 0
      · have e : addL L last m = (false, 0, L, last) := by unfold addL; rw [if_neg (by simp [hm]), hf]; simp only; rw [if_pos hc]
        rw [e]
        exact (addq_weak w g mb n t last v hs m hq hm b0 y hb0 hya h0.1 h0.2 hc).mono (fun e w' hh => ⟨v, hs, hh.1, h.below hh.2, Kp.of hh.2, fun k hk => Or.inl hk⟩)
      · have e : addL L last m = (true, 0, ⟨m, 0, last + 1⟩ :: outA L m.f0, last + 1) := by unfold addL; rw [if_neg (by simp [hm]), hf]; simp only; rw [if_neg hc]
        rw [e] at hal ⊢
        refine (addq_over w g mb n t last v hs m hq hm b0 y hb0 hya h0.1 h0.2 hc (by omega) (by omega) ⟨by omega, by omega⟩).mono ?_
        rintro e w' ⟨v', bo, hs', hr, rfl, h1, h2, h2', h3, h4, h5⟩
        have ho := out_perm h.al.adr hy
        rw [hya] at ho
        refine ⟨v', hs', rfl, ⟨⟨n + 1, by show ((n + 1 : Nat) : Int) ≤ last + 1; omega, h1⟩, ?_, hal, h.t1, ?_⟩, h5, own_new h4 (fun p hp => ?_)⟩
        · refine (List.Perm.cons _ ?_).trans ((h2.map (fun p : Nat × One => p.2)).symm)
          have h6 : (y :: outA L m.f0).Perm (y :: hr.map (·.2)) := ho.trans (h.perm.trans ((h2'.map (·.2)).symm))
          exact List.Perm.cons_inv h6
        · have := (out_sub L m.f0).length_le
          show (((outA L m.f0).length + 1 : Nat) : Int) ≤ last + 1
          omega
        · rcases List.mem_cons.1 (h2.mem_iff.1 hp) with rfl | hp
          · exact Or.inr h3
          · exact Or.inl ⟨p, h2'.mem_iff.1 (List.mem_cons_of_mem _ hp), rfl⟩
theorem again_map (t : Int) (ps : Hs) : (again t ps).map (·.2) = backL t (ps.map (·.2)) := by
  induction ps with
  | nil => rfl
  | cons p r ih =>
    unfold again backL at *
    rw [List.map_cons]
    by_cases h : p.2.sent + 1 < t
    · rw [List.filterMap_cons_some (by rw [if_pos h]), List.filterMap_cons_some (by rw [if_pos h]), List.map_cons, ih]
    · rw [List.filterMap_cons_none (by rw [if_neg h]), List.filterMap_cons_none (by rw [if_neg h]), ih]
theorem Qs.snt {w : World} {g mb : Nat} {t last : Int} {v : Value} {hs : Hs} {L : List One} (h : Qs w g mb t last v hs L) : ∀ p ∈ hs, 0 ≤ p.2.sent ∧ p.2.sent < t := fun p hp => h.al.snt p.2 (h.inn.2 ⟨p.1, hp⟩)
theorem takeq_s (w : World) (g mb : Nat) (t last : Int) (v : Value) (hs : Hs) (L : List One) (kk : Int) (h : Qs w g mb t last v hs L) (hl : last ≤ 800000) :
    Calls Try.prog 13 #[.pointer (some ⟨g, 0, none⟩), .int .i64 kk] w fun e w' => ∃ A c v' hs', e = .returned (.slice A (takeN L kk) c) ∧ Kd.R k33 33 w' w.heap.size (fun _ => True) (.slice A (takeN L kk) c) ((L.take (takeN L kk)).map (·.m)) ∧ Qs w' g mb t last v' hs' (takeL t L kk) ∧ Kp w w' (QB g mb v hs) ∧ ∀ k, QB g mb v' hs' k → QB g mb v hs k ∨ w.heap.size ≤ k := by
  obtain ⟨n, hn, hq⟩ := h.qw
  have hlen := h.len
  have hhl := h.hlen
  refine (takeq_calls w g mb n t last v hs kk hq (by omega) h.snt h.t1.2).mono ?_
  rintro e w' ⟨A, c, v', hs', ps, rest, rfl, h1, h2, h3, h4, h5, h6, h7, h8⟩
  have hN : ps.length = takeN L kk := by unfold takeN; rw [h6, hhl]
  have hp : (ps.map (·.2) ++ rest.map (·.2)).Perm L := by
    rw [← List.map_append]
    exact (h3.map (·.2)).trans h.perm.symm
  obtain ⟨f1, f2⟩ := firsts h.al.srt hp (List.pairwise_map.2 h4) (fun a ha b hb => by
    obtain ⟨p, hp, rfl⟩ := List.mem_map.1 ha
    obtain ⟨q, hq, rfl⟩ := List.mem_map.1 hb
    exact h5 p hp q hq)
  rw [List.length_map, hN] at f1 f2
  refine ⟨A, c, v', hs', by rw [hN], ?_, ⟨⟨n, hn, h2.qw⟩, ?_, h.al.take kk, h.t1, by have := take_len t L kk; omega⟩, h2.kp, own_new h8 (fun p hp => ?_)⟩
  · rw [f1, List.map_map, ← hN]; exact h1
  · refine (puts_perm t _ _).trans ?_
    refine List.Perm.trans ?_ ((h7.map (fun p : Nat × One => p.2)).symm)
    rw [List.map_append, again_map, f1]
    exact List.Perm.append_right _ f2.symm
  · exact Or.inl (h2.sub p (by rw [List.append_nil, List.append_nil]; exact hp))
theorem copyq_s (w : World) (g mb : Nat) (t last : Int) (v : Value) (hs : Hs) (L : List One) (h : Qs w g mb t last v hs L) (hl : last ≤ 800000) :
    Calls Try.prog 15 #[.pointer (some ⟨g, 0, none⟩)] w fun e w' => ∃ g' mb' v' hs', e = .returned (.pointer (some ⟨g', 0, none⟩)) ∧ Qs w' g' mb' t last v' hs' L ∧ (∀ k, QB g' mb' v' hs' k → w.heap.size ≤ k) ∧ Below w.heap.size w w' := by
  obtain ⟨n, hn, hq⟩ := h.qw
  have hlen := h.len
  have hhl := h.hlen
  refine (copyq_calls w g mb n t last v hs hq (by omega)).mono ?_
  rintro e w' ⟨g', mb', v', hs', rfl, h1, h2, h3, h4, h5, h6, h7⟩
  exact ⟨g', mb', v', hs', rfl, ⟨⟨_, by omega, h1⟩, by rw [h2]; exact h.perm, h.al, h.t1, h.len⟩, hos_ge ⟨h3, h4⟩ h6 h5, h7⟩
theorem listq_s (w : World) (g mb : Nat) (t last : Int) (v : Value) (hs : Hs) (L : List One) (h : Qs w g mb t last v hs L) (hl : last ≤ 800000) :
    Calls Try.prog 16 #[.pointer (some ⟨g, 0, none⟩)] w fun e w' => ∃ A c, e = .returned (.slice A L.length c) ∧ Kd.R k33 33 w' w.heap.size (fun _ => True) (.slice A L.length c) (L.map (·.m)) ∧ Below w.heap.size w w' := by
  obtain ⟨n, hn, hq⟩ := h.qw
  have hlen := h.len
  have hhl := h.hlen
  refine (listq_calls w g mb n t last v hs hq (by omega) h.snt h.t1.2).mono ?_
  rintro e w' ⟨A, c, ps, rfl, h1, h2, h3, h4⟩
  have hp : (ps.map (fun p : Nat × One => p.2) ++ []).Perm L := by
    rw [List.append_nil]
    exact h2.trans h.perm.symm
  obtain ⟨f1, _⟩ := firsts h.al.srt hp (List.pairwise_map.2 h3) (fun a ha b hb => by cases hb)
  have hN : ps.length = L.length := by have := hp.length_eq; rwa [List.append_nil, List.length_map] at this
  rw [List.length_map, hN, List.take_length] at f1
  refine ⟨A, c, by rw [hN], ?_, h4⟩
  rw [f1, List.map_map, List.length_map]
  exact h1
theorem leftq_s (w : World) (g mb : Nat) (t last : Int) (v : Value) (hs : Hs) (L : List One) (a : Int) (h : Qs w g mb t last v hs L) (h0 : 0 ≤ a ∧ a ≤ 4294967295) :
    Calls Try.prog 18 #[.pointer (some ⟨g, 0, none⟩), .int .u32 a] w fun e w' => e = .returned (.int .i64 (leftL t L a)) ∧ Below w.heap.size w w' := by
  obtain ⟨n, hn, hq⟩ := h.qw
  unfold leftL
  cases hf : findA L a with
  | none => exact left_none w g mb n t last v hs a hq h0.1 h0.2 (fun p hp e => find_none hf p.2 (h.inn.2 ⟨p.1, hp⟩) e)
  | some x =>
    obtain ⟨hx, hxa⟩ := find_mem hf
    obtain ⟨b, hb⟩ := h.inn.1 hx
    have h1 := h.al.snt x hx
    have h2 := h.t1
    exact left_some w g mb n t last v hs a b x hq h0.1 h0.2 hb hxa (by unfold wrap64; omega)
end Go.Proofs.Ytihmblbnnhcdnaa.Print
end
section
/- The document's queue in memory: its box, its row of rumors; New and Left, walked. -/
namespace Go.Proofs.Ytihmblbnnhcdnaa.Print
open Go.RowKit Go.Maps Go.ChangeMaps Go.Proofs.YtihmblbnnhcdnaaW.PrintWords Go.Proofs.YtihmblbnnhcdnaaW.PrintLast Go.Proofs.YtihmblbnnhcdnaaW.PrintMore
set_option linter.unusedVariables false
set_option linter.unusedSimpArgs false
def oC (x : One) : List Value := [.int .u32 x.m.f0, .int .u32 x.m.f1, .int .u8 x.m.f2, .string x.m.f3, .int .i64 x.sent, .int .i64 x.tm]
def zO : One := ⟨z33, 0, 0⟩
def kO : Kd One := Kd.iso (Kd.pair k33 (Kd.pair (Kd.int .i64) (Kd.int .i64))) (fun x : One => (x.m, x.sent, x.tm))
theorem kO_open {w : World} {x : One} {cs : List Value} (h : kO.K w x cs) : cs = oC x := by
  obtain ⟨_, _, rfl, h1, ⟨_, _, rfl, rfl, rfl⟩⟩ := h
  obtain rfl := k33_open h1
  exact rfl
theorem kO_openM {w : World} {base : Nat} {ok : Nat → Prop} {x : One} {cs : List Value} (h : kO.M w base ok x cs) : cs = oC x := by
  obtain ⟨_, _, rfl, h1, ⟨_, _, rfl, rfl, rfl⟩⟩ := h
  obtain rfl := k33_openM h1
  exact rfl
theorem kO_mk (w : World) (x : One) : kO.K w x (oC x) := ⟨_, [.int .i64 x.sent, .int .i64 x.tm], rfl, k33_mk w x.m, ⟨[.int .i64 x.sent], [.int .i64 x.tm], rfl, rfl, rfl⟩⟩
theorem kO_mkM (w : World) (base : Nat) (ok : Nat → Prop) (x : One) : kO.M w base ok x (oC x) := ⟨_, [.int .i64 x.sent, .int .i64 x.tm], rfl, k33_mkM w base ok x.m, ⟨[.int .i64 x.sent], [.int .i64 x.tm], rfl, rfl, rfl⟩⟩
theorem infoO : (Try.prog.info? 72).map (fun i => (i.zero, i.size, i.bytes)) = some (some (.agg #[.int .u32 0, .int .u32 0, .int .u8 0, .string ⟨#[]⟩, .int .i64 0, .int .i64 0]), 6, 48) := by kernel_rfl
theorem one_RepsO (W : World) (base : Nat) (ok : Nat → Prop) (x : One) : Reps (kO.M W base ok) 6 [x] (oC x) := ⟨rfl, fun j p hj => by
  have hj0 : j = 0 := by have := (List.getElem?_eq_some_iff.1 hj).1; simp at this; omega
  subst hj0
  have e : x = p := by simpa using hj
  subst e
  exact kO_mkM _ _ _ x⟩
theorem RO_kp {W W' : World} {base : Nat} {v : Value} {xs : List One} {S : Nat → Prop} (h : kO.R 72 W base (fun _ => True) v xs) (hk : Kp W W' S) (hS : ∀ k, v.ownBlock = some k → ¬ S k) : kO.R 72 W' base (fun _ => True) v xs := by
  have h1 : kO.R 72 W base (fun k => v.ownBlock = some k) v xs := ⟨fun k hk => hk, h.2.imp_ (fun _ _ hp => hp)⟩
  exact Kd.R_mono (Kd.R_step h1 (fun k ho hlt => hk.block k hlt (hS k ho))) (fun _ _ => trivial)
theorem RO_typed {W : World} {base : Nat} {v : Value} {xs : List One} (h : kO.R 72 W base (fun _ => True) v xs) {k : Nat} (hk : v.ownBlock = some k) : base ≤ k ∧ ∃ cells, W.heap[k]? = some (.cells cells 72 (0, 0)) := ⟨Kd.R_base h k hk, Kd.R_typed h k hk⟩
theorem getDO {xs : List One} {i : Nat} {x : One} (h : xs[i]? = some x) : xs.getD ((i : Int)).toNat zO = x := by
  rw [Int.toNat_natCast, List.getD_eq_getElem?_getD, h]; rfl
/-- a rumor in a row, read -/
theorem CO_at {w : World} {A : Option Addr} {n : Nat} {xs : List One} (h : kO.C w A n xs) {i : Nat} {x : One} (hi : xs[i]? = some x) : ∃ ad, A = some ad ∧ w.cell? (ad.add (i * 6)) = some (.int .u32 x.m.f0) ∧ w.cell? ⟨(ad.add (i * 6)).block, (ad.add (i * 6)).off + 1, none⟩ = some (.int .u32 x.m.f1) ∧ w.cell? ⟨(ad.add (i * 6)).block, (ad.add (i * 6)).off + 2, none⟩ = some (.int .u8 x.m.f2) ∧ w.cell? ⟨(ad.add (i * 6)).block, (ad.add (i * 6)).off + 3, none⟩ = some (.string x.m.f3) ∧ w.cell? ⟨(ad.add (i * 6)).block, (ad.add (i * 6)).off + 4, none⟩ = some (.int .i64 x.sent) ∧ w.cell? ⟨(ad.add (i * 6)).block, (ad.add (i * 6)).off + 5, none⟩ = some (.int .i64 x.tm) := by
  have hil : i < xs.length := (List.getElem?_eq_some_iff.1 hi).1
  have hn : xs.length = n := h.1
  obtain ⟨ad, c, e, _, hK, hc0⟩ := Kd.C_get h zO (i : Int) (by omega) (by omega)
  rw [getDO hi] at hK
  rw [Int.toNat_natCast] at hc0
  have hc : ∀ j u, c[j]? = some u → w.cell? (ad.add (i * 6 + j)) = some u := hc0
  obtain rfl := kO_open hK
  exact ⟨ad, e, hc 0 _ rfl, by rw [← add_field _ _ 1 (by omega)]; exact hc 1 _ rfl, by rw [← add_field _ _ 2 (by omega)]; exact hc 2 _ rfl, by rw [← add_field _ _ 3 (by omega)]; exact hc 3 _ rfl, by rw [← add_field _ _ 4 (by omega)]; exact hc 4 _ rfl, by rw [← add_field _ _ 5 (by omega)]; exact hc 5 _ rfl⟩
/-- the document's queue at block h -/
structure Rf (w : World) (h : Nat) (t nx : Int) (p : Option Addr) (c : Nat) (L : List One) : Prop where
  box : w.heap[h]? = some (.cells #[.int .i64 t, .slice p L.length c, .int .i64 nx] 60 (0, 0))
  row : kO.R 72 w 0 (fun _ => True) (.slice p L.length c) L
/-- its blocks -/
def RB (h : Nat) (p : Option Addr) (k : Nat) : Prop := k = h ∨ ∃ a, p = some a ∧ a.block = k
theorem own_of_slice {p : Option Addr} {n c j : Nat} (h : (Value.slice p n c).ownBlock = some j) : ∃ a, p = some a ∧ a.block = j := by
  cases p with
  | none => simp [Value.ownBlock] at h
  | some a => exact ⟨a, rfl, by simpa [Value.ownBlock] using h⟩
theorem slice_own {p : Option Addr} {n c j : Nat} (h : ∃ a, p = some a ∧ a.block = j) : (Value.slice p n c).ownBlock = some j := by
  obtain ⟨a, rfl, rfl⟩ := h
  simp [Value.ownBlock]
variable {w w' : World} {h : Nat} {t nx : Int} {p : Option Addr} {c : Nat} {L : List One}
theorem Rf.below (k : Rf w h t nx p c L) (hb : Below w.heap.size w w') : Rf w' h t nx p c L := ⟨blk_below k.box hb, Kd.R_below k.row hb⟩
theorem Rf.cap (k : Rf w h t nx p c L) : L.length ≤ c ∧ c ≤ 9223372036854775807 := by
  obtain ⟨h1, h2, _⟩ := Kd.R_reads' k.row
  obtain ⟨inner, _, h3⟩ := Kd.R_own k.row
  rcases h3 with ⟨h3, h4⟩ | ⟨g, cap, cur, h3, _, _, h5, h6, _⟩
  · injection h3 with _ _ h3
    omega
  · injection h3 with _ _ h3
    unfold maxLen at h6
    omega
theorem Rf.lt (k : Rf w h t nx p c L) {j : Nat} (hj : RB h p j) : j < w.heap.size := by
  rcases hj with rfl | hj
  · exact blk_lt k.box
  · exact Kd.R_lt k.row j (slice_own hj)
theorem Rf.typ (k : Rf w h t nx p c L) {j : Nat} (hj : RB h p j) : ∃ cells tt, w.heap[j]? = some (.cells cells tt (0, 0)) ∧ (tt = 60 ∨ tt = 72) := by
  rcases hj with rfl | hj
  · exact ⟨_, _, k.box, Or.inl rfl⟩
  · obtain ⟨cells, hc⟩ := Kd.R_typed k.row j (slice_own hj)
    exact ⟨_, _, hc, Or.inr rfl⟩
theorem Rf.ne (k : Rf w h t nx p c L) {j : Nat} (hj : ∃ a, p = some a ∧ a.block = j) : h ≠ j := by
  obtain ⟨cells, hc⟩ := Kd.R_typed k.row j (slice_own hj)
  exact blk_ne k.box hc (by decide)
theorem Rf.kp {S : Nat → Prop} (k : Rf w h t nx p c L) (hk : Kp w w' S) (hS : ∀ j, RB h p j → ¬ S j) : Rf w' h t nx p c L :=
  ⟨(hk.block h (blk_lt k.box) (hS h (Or.inl rfl))).trans k.box, RO_kp k.row hk (fun j hj => hS j (Or.inr (own_of_slice hj)))⟩
theorem Rf.at (k : Rf w h t nx p c L) {i : Nat} {x : One} (hi : L[i]? = some x) : ∃ r, p = some ⟨r, 0, none⟩ ∧ w.cell? ⟨r, i * 6, none⟩ = some (.int .u32 x.m.f0) ∧ w.cell? ⟨r, i * 6 + 1, none⟩ = some (.int .u32 x.m.f1) ∧ w.cell? ⟨r, i * 6 + 2, none⟩ = some (.int .u8 x.m.f2) ∧ w.cell? ⟨r, i * 6 + 3, none⟩ = some (.string x.m.f3) ∧ w.cell? ⟨r, i * 6 + 4, none⟩ = some (.int .i64 x.sent) ∧ w.cell? ⟨r, i * 6 + 5, none⟩ = some (.int .i64 x.tm) := by
  have hil : i < L.length := (List.getElem?_eq_some_iff.1 hi).1
  obtain ⟨r, cap, e, _, _, _⟩ := Kd.R_form k.row (by omega)
  injection e with e1 _ _
  subst e1
  obtain ⟨_, _, hC⟩ := Kd.R_reads' k.row
  obtain ⟨ad, e, h0, h1, h2, h3, h4, h5⟩ := CO_at hC hi
  injection e with e
  subst e
  have e2 : (⟨r, 0, none⟩ : Addr).add (i * 6) = ⟨r, i * 6, none⟩ := by simp [Addr.add]; exact fun h => h.symm
  rw [e2] at h0 h1 h2 h3 h4 h5
  exact ⟨r, rfl, h0, h1, h2, h3, h4, h5⟩
/-- the row from a place on, read -/
theorem cutQ (A : Option Addr) (n c k : Nat) (hk : k ≤ n) :
    ∃ A' : Option Addr, (∀ W : World, (Instr.slice 58 (.slice A n c) (some (.int .i64 (k : Int))) none none).run Try.prog W = .ok (.slice A' (n - k) (c - k)) W) ∧
      ∀ (w : World) (xs : List One), n ≤ c → kO.C w A n xs → kO.C w A' (n - k) (xs.drop k) := by
  refine ⟨if c = k then A else A.map (·.add (k * 6)), fun W => ?_, fun w xs hc h => ?_⟩
  · have hu := Try.underlying58
    have hel : Try.prog.elem 58 = 72 := by simp [Program.elem, hu]
    have hu' : Try.prog.underlying 58 = some (.slice (Try.prog.elem 58)) := by rw [hel]; exact hu
    obtain ⟨i0, hi, hzz⟩ := Option.map_eq_some_iff.1 infoO
    simp only [Prod.mk.injEq] at hzz
    rw [run_slice_l W _ A n c hu' .i64 (k : Int) (Int.natCast_nonneg _) (by omega), hel]
    simp [sizeOf, typeInfo, hi, hzz.2.1, sliced, Result.andThen]
  · have hl : xs.length = n := h.1
    subst hl
    have h2 := Kd.C_drop (m := k) h hk hc
    rw [List.length_drop] at h2
    exact h2
set_option maxRecDepth 100000 in
theorem rnew_calls (w : World) (t : Int) (h0 : 1 ≤ t) (h1 : t ≤ 64) : Calls Try.prog 9 #[.int .i64 t] w fun e w' => ∃ h, e = .returned (.pointer (some ⟨h, 0, none⟩)) ∧ Rf w' h t 0 none 0 [] ∧ w.heap.size ≤ h ∧ Below w.heap.size w w' := by
  have ht1 : ¬ t < 1 := by omega
  have ht2 : ¬ t > 64 := by omega
  go_enter Try.func9, Try.ntmps9
  go_wp2
  go_ret
  exact ⟨w.heap.size, rfl, ⟨blk_new w _, Kd.R_nil _ _ _ _ _⟩, Nat.le_refl _, below_alloc (Below.refl _ _) _⟩
set_option maxRecDepth 100000 in
theorem rnew_bad (w : World) (t : Int) (h : t < 1 ∨ 64 < t) : Calls Try.prog 9 #[.int .i64 t] w fun e w' => e = .returned (.pointer none) ∧ Below w.heap.size w w' := by
  go_enter Try.func9, Try.ntmps9
  rcases h with h | h
  · have ht1 : t < 1 := h
    go_wp2
    go_ret
    exact ⟨rfl, Below.refl _ _⟩
  · have ht1 : ¬ t < 1 := by omega
    have ht2 : t > 64 := h
    go_wp2
    go_ret
    exact ⟨rfl, Below.refl _ _⟩
theorem leftL_step {t : Int} {L : List One} {a : Int} {i : Nat} {x : One} (hn : (L.map (·.m.f0)).Nodup) (hi : L[i]? = some x) (hx : x.m.f0 = a) : leftL t L a = t - x.sent := by
  unfold leftL
  rw [← hx, find_of hn (List.mem_of_getElem? hi)]
theorem leftL_none {t : Int} {L : List One} {a : Int} (h : ∀ (j : Nat) (x : One), j < L.length → L[j]? = some x → x.m.f0 ≠ a) : leftL t L a = 0 := by
  unfold leftL
  have e : findA L a = none := by
    unfold findA
    rw [List.find?_eq_none]
    intro x hx
    obtain ⟨j, hj, e⟩ := List.getElem_of_mem hx
    have := h j x hj (by rw [List.getElem?_eq_getElem hj, e])
    simpa using this
  rw [e]
set_option maxHeartbeats 8000000 in
set_option maxRecDepth 100000 in
theorem rleft_calls (w : World) (h : Nat) (t nx : Int) (p : Option Addr) (c : Nat) (L : List One) (a : Int) (hR : Rf w h t nx p c L) (hA : Al t nx L) (ht : t ≤ 64) (hl : L.length ≤ 900000) :
    Calls Try.prog 19 #[.pointer (some ⟨h, 0, none⟩), .int .u32 a] w fun e w' => e = .returned (.int .i64 (leftL t L a)) ∧ Below w.heap.size w w' := by
  obtain ⟨q, hq⟩ : ∃ q, q = leftL t L a := ⟨_, rfl⟩
  rw [← hq]
  have HQ := Aside0.mk hq
  have HR := Aside0.mk hR
  have HA := Aside0.mk hA
  have hcell : w.cell? ⟨h, 1, none⟩ = some (.slice p L.length c) := (blk_cell hR.box 1).trans rfl
  have hc0 : w.cell? ⟨h, 0, none⟩ = some (.int .i64 t) := (blk_cell hR.box 0).trans rfl
  clear hq hR hA
  go_enter Try.func19, Try.ntmps19
  go_wp2
  go_loopw [5] (fun i wr => ∃ k : Nat, k ≤ L.length ∧ i = .int .i64 k ∧ wr = w ∧ Aside0 (∀ (j : Nat) (x : One), j < k → L[j]? = some x → x.m.f0 ≠ a)) (fun i _ => L.length - (intOf i).toNat)
  case atStart => exact ⟨0, Nat.zero_le _, rfl, rfl, ⟨fun j x hj => absurd hj (by omega)⟩⟩
  case round =>
    obtain ⟨k, hk, rfl, rfl, HN⟩ := hrel
    by_cases hlt : (k : Int) < (L.length : Int)
    · have HLT := Aside0.mk (show k < L.length by omega)
      obtain ⟨y, hy⟩ : ∃ y, L[k]? = some y := ⟨L[k]'(by omega), List.getElem?_eq_getElem (by omega)⟩
      obtain ⟨r, rfl, c0, _, _, _, c4, _⟩ := HR.out.at hy
      have hk0 : 0 ≤ (k : Int) := by omega
      have HY := Aside0.mk hy
      clear hy
      by_cases he : y.m.f0 = a
      · have heq : (y.m.f0 == a) = true := by simpa using he
        have h1 := HA.out.snt y (List.mem_of_getElem? HY.out)
        have hw : wrap64 (t - y.sent) = t - y.sent := by unfold wrap64; omega
        have HG := Aside0.mk (HQ.out.trans (leftL_step HA.out.adr HY.out he))
        clear he h1
        go_wp2
        repeat (go_quiet (fail); try go_wp2)
        go_ret
        exact ⟨by show Ending.returned (.int .i64 (wrap64 (t - y.sent))) = _; rw [hw, HG.out], by repeat (first | exact Below.refl _ _ | apply pw_below_drewN)⟩
      · have heq : (y.m.f0 == a) = false := by simpa using he
        have HE := Aside0.mk he
        clear he
        go_wp2
        go_roundw
        case rel => exact ⟨k + 1, by have := HLT.out; omega, by go_num, by trivial, ⟨fun j x hj hx => by
          rcases Nat.lt_or_ge j k with h' | h'
          · exact HN.out j x h' hx
          · obtain rfl : j = k := by omega
            rw [HY.out] at hx
            injection hx with hx
            subst hx
            exact HE.out⟩⟩
        case measure => have := HLT.out; simp [intOf, wrap64]; omega
    · have e : k = L.length := by omega
      subst e
      have HG := Aside0.mk (HQ.out.trans (leftL_none HN.out))
      go_wp2
      go_ret
      exact ⟨by rw [HG.out]; rfl, Below.refl _ _⟩
end Go.Proofs.Ytihmblbnnhcdnaa.Print
end
section
/- The document's put, walked. -/
namespace Go.Proofs.Ytihmblbnnhcdnaa.Print
open Go.RowKit Go.Maps Go.ChangeMaps Go.Proofs.YtihmblbnnhcdnaaW.PrintWords Go.Proofs.YtihmblbnnhcdnaaW.PrintLast Go.Proofs.YtihmblbnnhcdnaaW.PrintMore
set_option linter.unusedVariables false
set_option linter.unusedSimpArgs false
theorem kO_ty {q : Nat} (h : q ∈ 72 :: kO.E) : q ≠ 60 := by
  have e : q = 72 := by simpa [kO, Kd.iso, Kd.pair, Kd.int, Kd.scalar, k33, Kd.string] using h
  rw [e]
  decide
theorem own_far' {W : World} {u v : Value} {j : Nat} (hat : v.ownBlock = u.ownBlock ∨ ∃ b, v.ownBlock = some b ∧ W.heap.size ≤ b) (h1 : some j ≠ u.ownBlock) (h2 : j < W.heap.size) : some j ≠ v.ownBlock := by
  rcases hat with e | ⟨b, e, hb⟩
  · rw [e]; exact h1
  · rw [e]
    intro he
    injection he with he
    omega
theorem own_frame' {w W : World} {p : Option Addr} {n c : Nat} {v : Value} (hat : v.ownBlock = (Value.slice p n c).ownBlock ∨ ∃ b, v.ownBlock = some b ∧ W.heap.size ≤ b) (hs : w.heap.size ≤ W.heap.size) : ∀ j, v.ownBlock = some j → (∃ a, p = some a ∧ a.block = j) ∨ w.heap.size ≤ j := by
  intro j hj
  rcases hat with e | ⟨b, e, hb⟩
  · rw [e] at hj; exact Or.inl (own_of_slice hj)
  · rw [e] at hj
    injection hj with hj
    exact Or.inr (by omega)
theorem own_pb' {w W W' : World} {p p' : Option Addr} {n c n' c' : Nat} {u : Value} {h : Nat} (h1 : u.ownBlock = (Value.slice p n c).ownBlock ∨ ∃ b, u.ownBlock = some b ∧ W.heap.size ≤ b) (h2 : (Value.slice p' n' c').ownBlock = u.ownBlock ∨ ∃ b, (Value.slice p' n' c').ownBlock = some b ∧ W'.heap.size ≤ b) (hs : w.heap.size ≤ W.heap.size) (hs' : w.heap.size ≤ W'.heap.size) : ∀ j, RB h p' j → RB h p j ∨ w.heap.size ≤ j := by
  rintro j (rfl | hj)
  · exact Or.inl (Or.inl rfl)
  · have hj := slice_own (n := n') (c := c') hj
    rcases h2 with e | ⟨b, e, hb⟩
    · rw [e] at hj; exact (own_frame' h1 hs j hj).elim (fun h => Or.inl (Or.inr h)) Or.inr
    · rw [e] at hj
      injection hj with hj
      exact Or.inr (by omega)
set_option maxHeartbeats 20000000 in
set_option maxRecDepth 100000 in
theorem rput_calls (w : World) (h : Nat) (t nx : Int) (p : Option Addr) (c : Nat) (L : List One) (x : One) (hR : Rf w h t nx p c L) (hl : L.length ≤ 900000) :
    Calls Try.prog 30 #[.pointer (some ⟨h, 0, none⟩), .agg #[.int .u32 x.m.f0, .int .u32 x.m.f1, .int .u8 x.m.f2, .string x.m.f3, .int .i64 x.sent, .int .i64 x.tm]] w fun e w' => ∃ p' c', e = .returned (.tuple #[]) ∧ Rf w' h t nx p' c' (insO x L) ∧ Kp w w' (RB h p) ∧ ∀ j, RB h p' j → RB h p j ∨ w.heap.size ≤ j := by
  have hu72 := Try.underlying72
  have HB1 := Aside0.mk (below_alloc (Below.refl w.heap.size w) (.cells #[.int .u32 x.m.f0, .int .u32 x.m.f1, .int .u8 x.m.f2, .string x.m.f3, .int .i64 x.sent, .int .i64 x.tm] 72))
  have HM1 := Aside0.mk (blk_new w (.cells #[.int .u32 x.m.f0, .int .u32 x.m.f1, .int .u8 x.m.f2, .string x.m.f3, .int .i64 x.sent, .int .i64 x.tm] 72))
  have HR1 := Aside0.mk (hR.below HB1.out)
  have HL9 := Aside0.mk hl
  have HCAP := Aside0.mk hR.cap
  have HXL := Aside0.mk (idxO_le x L)
  have HHP : Aside0 (∀ n c', some h ≠ (Value.slice p n c').ownBlock) := ⟨fun n c' e => hR.ne (own_of_slice e.symm) rfl⟩
  have HPW : Aside0 (∀ n c' j, (Value.slice p n c').ownBlock = some j → j < w.heap.size) := ⟨fun n c' j hj => hR.lt (Or.inr (own_of_slice hj))⟩
  clear hR
  go_enter Try.func30, Try.ntmps30
  go_upto_region 1 with (fail)
  have HBX : Aside0 (w.heap.size = w.heap.size) := ⟨rfl⟩
  generalize hw1 : w.alloc (.cells #[.int .u32 x.m.f0, .int .u32 x.m.f1, .int .u8 x.m.f2, .string x.m.f3, .int .i64 x.sent, .int .i64 x.tm] 72) = w1 at HB1 HM1 HR1 ⊢
  generalize hbx : w.heap.size = bx at HM1 ⊢
  clear hw1 HBX
  have HBX := Aside0.mk hbx
  clear hbx
  have hcell : w1.cell? ⟨h, 1, none⟩ = some (.slice p L.length c) := (blk_cell HR1.out.box 1).trans rfl
  have x4_ : w1.cell? ⟨bx, 4, none⟩ = some (.int .i64 x.sent) := (blk_cell HM1.out 4).trans rfl
  have x5_ : w1.cell? ⟨bx, 5, none⟩ = some (.int .i64 x.tm) := (blk_cell HM1.out 5).trans rfl
  go_wp2
  go_loopw [4] (fun i wr => ∃ k : Nat, k ≤ idxO x L ∧ i = .int .i64 k ∧ Drawn0 w1 wr) (fun i _ => L.length - (intOf i).toNat)
  case atStart => exact ⟨0, Nat.zero_le _, rfl, Drawn0.refl _⟩
  case round =>
    obtain ⟨k, hk, rfl, ⟨nq0, rfl⟩⟩ := hrel
    have HKX := Aside0.mk hk
    have hkl' := HXL.out
    have HKL := Aside0.mk (show k ≤ L.length by omega)
    have HMP : Aside0 (some bx ≠ (Value.slice p k c).ownBlock) := ⟨fun e => by have := HPW.out _ _ _ e.symm; rw [HBX.out] at this; omega⟩
    have HRP : Aside0 (∀ j, w1.heap.size ≤ j → some j ≠ (Value.slice p k c).ownBlock) := ⟨fun j hj he => by have h1 := HPW.out _ _ _ he.symm; have h2 := HB1.out.size; omega⟩
    have HHP := Aside0.mk (HHP.out k c)
    clear HPW
    by_cases hlt : (k : Int) < (L.length : Int)
    · have HLT := Aside0.mk (show k < L.length by omega)
      obtain ⟨y, hy⟩ : ∃ y, L[k]? = some y := ⟨L[k]'(by omega), List.getElem?_eq_getElem (by omega)⟩
      obtain ⟨r, hpr, c0, _, _, _, c4, c5⟩ := HR1.out.at hy
      have HAT0 := Aside0.mk (idxO_at x L k y hy hk)
      have hk0 : 0 ≤ (k : Int) := by omega
      clear hy hk hkl'
      by_cases hlo : lessO y x = true
      · have HKK := Aside0.mk (HAT0.out.1 hlo)
        subst hpr
        have hcs : (y.sent < x.sent) ∨ (decide (y.sent < x.sent) = false ∧ (y.sent == x.sent) = true ∧ y.tm > x.tm) := by
          unfold lessO at hlo
          split at hlo <;> simp at *  <;> omega
        clear hlo HAT0
        rcases hcs with hs1 | ⟨hs1, hs2, hs3⟩
        all_goals (
          go_wp2
          go_big_quiet (fail)
          go_wp2
          go_roundw
          case rel => exact ⟨k + 1, by have := HKK.out; omega, by go_num, by repeat (first | exact Drawn0.refl _ | apply Drawn0.step)⟩
          case measure => have := HLT.out; simp [intOf, wrap64]; omega)
      · have HKI := Aside0.mk (HAT0.out.2 (by simpa using hlo))
        have hcs : (decide (y.sent < x.sent) = false ∧ (y.sent == x.sent) = false) ∨ (decide (y.sent < x.sent) = false ∧ (y.sent == x.sent) = true ∧ decide (x.tm < y.tm) = false) := by
          unfold lessO at hlo
          split at hlo <;> simp at * <;> omega
        have hlt' : k < L.length := HLT.out
        clear hlo HAT0
        subst hpr
        rcases hcs with ⟨hs1, hs2⟩ | ⟨hs1, hs2, hs3⟩
        all_goals (
          go_wp2
          go_big_quiet (fail)
          go_upto_region 4 with (fail)
          have hnq := pw_below_drewN (pw_below_drewN (Below.refl w1.heap.size w1) nq0) nq
          generalize (w1.drewN nq0).drewN nq = wq at hnq ⊢
          have HRq := Aside0.mk (HR1.out.below hnq)
          have HMq := Aside0.mk (blk_below HM1.out hnq)
          have HBq := Aside0.mk (below_step HB1.out hnq)
          have HRP := Aside0.mk (fun j hj => HRP.out j (Nat.le_trans hnq.size hj))
          clear hnq c0 c4 c5 hk0 hlt hcell HR1 HM1 HB1 x4_ x5_
          generalize hpq : (some (⟨r, 0, none⟩ : Addr)) = p at HRq HHP HMP HRP ⊢
          have HPQ := Aside0.mk hpq
          clear hpq
          have hcell : wq.cell? ⟨h, 1, none⟩ = some (.slice p L.length c) := (blk_cell HRq.out.box 1).trans rfl
          obtain ⟨A', hcut, hcutC⟩ := cutQ p L.length c k HKL.out
          have HCD : Aside0 (kO.C wq A' (L.length - k) (L.drop k)) := ⟨hcutC _ L HCAP.out.1 (Kd.R_reads' HRq.out.row).2.2⟩
          have hkc_ : k ≤ c := Nat.le_trans HKL.out HCAP.out.1
          have hcm_ : c ≤ 9223372036854775807 := HCAP.out.2
          have hkl_ : k ≤ L.length := HKL.out
          clear hcutC
          go_wp2_with ((with_reducible refine gate_dst (N := 60) rfl ?_); refine stop_ ?_)
          refine StopAt.mk ?_
          refine Kd.R_append_rows kO (w0 := w) w.heap.size ?hg (.const (.slice none 0 0)) (.tmp 59) 58 72 (.agg #[.int .u32 0, .int .u32 0, .int .u8 0, .string ⟨#[]⟩, .int .i64 0, .int .i64 0]) 48 ?ho Try.underlying58 infoO rfl (by decide) (by omega) (.slice none 0 0) [] (L.drop k) A' (L.length - k) (c - k) (fun j => wq.heap.size ≤ j) (fun _ => False) ?h1 ?h2 (Kd.R_nil _ _ _ _ _) HCD.out (fun _ _ h => h) (fun _ h => h.elim) (fun _ h => h) HBq.out HBq.out.size (by have := HL9.out; simp only [List.length_nil]; omega) ?_
          case hg => rfl
          case ho => rfl
          case h1 => rfl
          case h2 => rfl
          intro v60 w3 hr1_ hb1_ hg1_ ha1_
          have HR3 : Aside0 (kO.R 72 w3 w.heap.size (fun j => wq.heap.size ≤ j) v60 (L.drop k)) := ⟨hr1_⟩
          obtain ⟨A1, c1, e1_, hle1_, hC1_⟩ := Kd.R_reads HR3.out
          subst e1_
          have hg3 : Below wq.heap.size wq w3 := ⟨hg1_.os, hg1_.tape, hg1_.output, hg1_.size, fun i hi => hg1_.block i hi (by simp [Value.ownBlock])⟩
          have HV3 := Aside0.mk (blk_below HRq.out.box hg3)
          have HW3 := Aside0.mk (Kd.R_below HRq.out.row hg3)
          have HM3 := Aside0.mk (blk_below HMq.out hg3)
          have HF3 : Aside0 (Kp w w3 (RB h p)) := ⟨Kp.of hb1_⟩
          clear hr1_ hb1_ hg1_ ha1_ hle1_ hC1_ hg3
          try go_wp2
          have hbd := below_drew1 (Below.refl w3.heap.size w3)
          have HV8 := Aside0.mk (blk_below HV3.out hbd)
          have HW8 := Aside0.mk (Kd.R_below HW3.out hbd)
          have HM8 := Aside0.mk (blk_below HM3.out hbd)
          have HR8 := Aside0.mk (Kd.R_below HR3.out hbd)
          have HF8 := Aside0.mk (HF3.out.trans (Kp.of (S := fun _ => False) hbd) (fun _ _ h => h.elim))
          clear HV3 HW3 HM3 HR3 HF3 hbd hcell HCD HRq HMq
          refine start_ (n := 15) (S := (fun w' => w'.cell? ⟨h, 1, none⟩ = some (.slice p L.length c) ∧ w'.cell? ⟨bx, 0, none⟩ = some (.int .u32 x.m.f0) ∧ w'.cell? ⟨bx, 1, none⟩ = some (.int .u32 x.m.f1) ∧ w'.cell? ⟨bx, 2, none⟩ = some (.int .u8 x.m.f2) ∧ w'.cell? ⟨bx, 3, none⟩ = some (.string x.m.f3) ∧ w'.cell? ⟨bx, 4, none⟩ = some (.int .i64 x.sent) ∧ w'.cell? ⟨bx, 5, none⟩ = some (.int .i64 x.tm))) (ds := [14]) #[false, false, false, false, false, false, false, false, false, false, false, false, false, false, false] (by kernel_rfl) rfl rfl ⟨(blk_cell HV8.out 1).trans rfl, (blk_cell HM8.out 0).trans rfl, (blk_cell HM8.out 1).trans rfl, (blk_cell HM8.out 2).trans rfl, (blk_cell HM8.out 3).trans rfl, (blk_cell HM8.out 4).trans rfl, (blk_cell HM8.out 5).trans rfl⟩ (fun hHeld => ?_)
          generalize w3.drew = wd at HV8 HW8 HM8 HR8 HF8 hHeld ⊢
          refine pure_ (i := 0) (N := some 61) (v := ?_) (a' := ?_) #[true, false, false, false, false, false, false, false, false, false, false, false, false, false, false] rfl rfl (by kernel_rfl) (fun _ _ _ h => h) (Or.inl ⟨by rfl, ?_⟩) ?_ ?_
          rotate_left
          · intro w'
            go_simp
            with_reducible rfl
          rotate_left
          · simp only [Act.put, List.setIfInBounds_toArray, List.set_cons_zero, List.set_cons_succ, i64_w, i32_w]
            rfl
          refine pure_ (i := 1) (N := some 62) (v := ?_) (a' := ?_) #[true, true, false, false, false, false, false, false, false, false, false, false, false, false, false] rfl rfl (by kernel_rfl) (fun _ _ _ h => h) (Or.inl ⟨by rfl, ?_⟩) ?_ ?_
          rotate_left
          · intro w'
            go_simp
            with_reducible rfl
          rotate_left
          · simp only [Act.put, List.setIfInBounds_toArray, List.set_cons_zero, List.set_cons_succ, i64_w, i32_w]
            rfl
          refine pure_ (i := 2) (N := some 63) (v := ?_) (a' := ?_) #[true, true, true, false, false, false, false, false, false, false, false, false, false, false, false] rfl rfl (by kernel_rfl) (fun _ _ _ h => h) (Or.inl ⟨by rfl, ?_⟩) ?_ ?_
          rotate_left
          · intro w'
            go_simp
            with_reducible rfl
          rotate_left
          · simp only [Act.put, List.setIfInBounds_toArray, List.set_cons_zero, List.set_cons_succ, i64_w, i32_w]
            rfl
          refine pure_ (i := 3) (N := some 64) (v := ?_) (a' := ?_) #[true, true, true, true, false, false, false, false, false, false, false, false, false, false, false] rfl rfl (by kernel_rfl) (fun _ _ _ h => h) (Or.inl ⟨by rfl, ?_⟩) ?_ ?_
          rotate_left
          · intro w'
            go_simp
            with_reducible rfl
          rotate_left
          · simp only [Act.put, List.setIfInBounds_toArray, List.set_cons_zero, List.set_cons_succ, i64_w, i32_w]
            rfl
          refine take_ (i := 4) (N := some 65) (v := ?_) (a' := ?_) #[true, true, true, true, true, false, false, false, false, false, false, false, false, false, false] rfl rfl (by kernel_rfl) (fun _ _ _ h => h) (Or.inl ⟨by rfl, ?_⟩) hHeld ?_ ?_
          rotate_left
          · rintro w' ⟨h0_, h1_, h2_, h3_, h4_, h5_, h6_⟩
            go_simp
            with_reducible rfl
          rotate_left
          · simp only [Act.put, List.setIfInBounds_toArray, List.set_cons_zero, List.set_cons_succ, i64_w, i32_w]
            rfl
          refine pure_ (i := 5) (N := some 66) (v := ?_) (a' := ?_) #[true, true, true, true, true, true, false, false, false, false, false, false, false, false, false] rfl rfl (by kernel_rfl) (fun _ _ _ h => h) (Or.inl ⟨by rfl, ?_⟩) ?_ ?_
          rotate_left
          · intro w'
            go_simp
            with_reducible rfl
          rotate_left
          · simp only [Act.put, List.setIfInBounds_toArray, List.set_cons_zero, List.set_cons_succ, i64_w, i32_w]
            rfl
          refine pure_ (i := 6) (N := some 67) (v := ?_) (a' := ?_) #[true, true, true, true, true, true, true, false, false, false, false, false, false, false, false] rfl rfl (by kernel_rfl) (fun _ _ _ h => h) (Or.inl ⟨by rfl, ?_⟩) ?_ ?_
          rotate_left
          · intro w'
            go_simp
            with_reducible rfl
          rotate_left
          · simp only [Act.put, List.setIfInBounds_toArray, List.set_cons_zero, List.set_cons_succ, i64_w, i32_w]
            rfl
          refine take_ (i := 7) (N := some 68) (v := ?_) (a' := ?_) #[true, true, true, true, true, true, true, true, false, false, false, false, false, false, false] rfl rfl (by kernel_rfl) (fun _ _ _ h => h) (Or.inl ⟨by rfl, ?_⟩) hHeld ?_ ?_
          rotate_left
          · rintro w' ⟨h0_, h1_, h2_, h3_, h4_, h5_, h6_⟩
            go_simp
            with_reducible rfl
          rotate_left
          · simp only [Act.put, List.setIfInBounds_toArray, List.set_cons_zero, List.set_cons_succ, i64_w, i32_w]
            rfl
          refine pure_ (i := 10) (N := some 71) (v := ?_) (a' := ?_) #[true, true, true, true, true, true, true, true, false, false, true, false, false, false, false] rfl rfl (by kernel_rfl) (fun _ _ _ h => h) (Or.inl ⟨by rfl, ?_⟩) ?_ ?_
          rotate_left
          · intro w'
            go_simp
            with_reducible rfl
          rotate_left
          · simp only [Act.put, List.setIfInBounds_toArray, List.set_cons_zero, List.set_cons_succ, i64_w, i32_w]
            rfl
          refine one_ (i := 8) (N := some 69) #[true, true, true, true, true, true, true, true, true, false, true, false, false, false, false] rfl rfl (by kernel_rfl) (by decide) (fun K hK => ?_)
          refine Kd.R_lit_step kO 0 72 ?hg (N := 69) ?hd (w0 := wd) (xs := [x]) (inner := oC x) (ok := fun _ => True) (okp := fun _ => True) ?hr ?hp (fun _ hk => hk) trivial (Below.refl 0 wd) (Nat.zero_le _) (by simp) ?_; (case hd => rfl); (case hg => rfl); (case hr => first | (unfold oC; go_simp; done) | (unfold oC; go_simp; rfl)); (case hp => exact one_RepsO _ _ _ x)
          intro v69 w4 ho_ _ hg_ _
          obtain ⟨A69, c69, e69, _, hC69⟩ := Kd.R_reads ho_
          have HC69 := Aside0.mk hC69
          have HV9 := Aside0.mk (blk_grown HV8.out hg_ (by simp))
          have HW9 := Aside0.mk (Kd.R_grown HW8.out hg_ (fun _ _ => by simp))
          have HM9 := Aside0.mk (blk_grown HM8.out hg_ (by simp))
          have HR9 := Aside0.mk (Kd.R_grown HR8.out hg_ (fun _ _ => by simp))
          have HF9 := Aside0.mk (HF8.out.trans (Kp.grown (S := fun _ => False) hg_ (fun k hk => by cases hk)) (fun _ _ h => h.elim))
          have HS9 := Aside0.mk (hg_.size)
          subst e69
          clear ho_ hg_ hC69
          refine hK.out _ _ ⟨(blk_cell HV9.out 1).trans rfl, (blk_cell HM9.out 0).trans rfl, (blk_cell HM9.out 1).trans rfl, (blk_cell HM9.out 2).trans rfl, (blk_cell HM9.out 3).trans rfl, (blk_cell HM9.out 4).trans rfl, (blk_cell HM9.out 5).trans rfl⟩ (fun hHeld => ?_)
          clear hK K
          refine norm_ (a' := ?_) ?_ ?_
          rotate_left
          · show Act.put _ (some 69) _ = _
            simp only [Act.put, List.setIfInBounds_toArray, List.set_cons_zero, List.set_cons_succ, i64_w, i32_w]
            rfl
          refine one_ (i := 9) (N := some 70) #[true, true, true, true, true, true, true, true, true, true, true, false, false, false, false] rfl rfl (by kernel_rfl) (by decide) (fun K hK => ?_)
          refine Kd.R_append_rows_step kO (w0 := w4) 0 ?hg (.tmp 67) (.tmp 69) 58 72 (.agg #[.int .u32 0, .int .u32 0, .int .u8 0, .string ⟨#[]⟩, .int .i64 0, .int .i64 0]) 48 ?ho Try.underlying58 infoO rfl (by decide) (by omega) (.slice p k c) (L.take k) [x] A69 1 c69 (fun _ => True) (fun _ => False) ?h1 ?h2 (Kd.R_take HW9.out HKL.out) HC69.out (fun _ _ h => h) (fun _ h => h.elim) (fun _ _ => trivial) (Below.refl _ _) (Nat.zero_le _) (by rw [List.length_take]; have := HL9.out; omega) ?_; (case hg => rfl); (case ho => rfl); (case h1 => rfl); (case h2 => rfl)
          intro v70 w5 ho_ _ hg_ hat_
          have HR70 := Aside0.mk ho_
          have HV10 := Aside0.mk (blk_grown HV9.out hg_ HHP.out)
          have HM10 := Aside0.mk (blk_grown HM9.out hg_ HMP.out)
          have HR10 := Aside0.mk (Kd.R_grown HR9.out hg_ (fun j hj => HRP.out j hj))
          have HF10 := Aside0.mk (HF9.out.trans (Kp.grown (S := fun j => ∃ a, p = some a ∧ a.block = j) hg_ (fun j hj => own_of_slice hj)) (fun j _ hj => Or.inr hj))
          have HAT := Aside0.mk hat_
          have HS10 := Aside0.mk (hg_.size)
          clear ho_ hg_ hat_
          refine hK.out _ _ ⟨(blk_cell HV10.out 1).trans rfl, (blk_cell HM10.out 0).trans rfl, (blk_cell HM10.out 1).trans rfl, (blk_cell HM10.out 2).trans rfl, (blk_cell HM10.out 3).trans rfl, (blk_cell HM10.out 4).trans rfl, (blk_cell HM10.out 5).trans rfl⟩ (fun hHeld => ?_)
          clear hK K
          refine norm_ (a' := ?_) ?_ ?_
          rotate_left
          · show Act.put _ (some 70) _ = _
            simp only [Act.put, List.setIfInBounds_toArray, List.set_cons_zero, List.set_cons_succ, i64_w, i32_w]
            rfl
          refine one_ (i := 11) (N := some 72) #[true, true, true, true, true, true, true, true, true, true, true, true, false, false, false] rfl rfl (by kernel_rfl) (by decide) (fun K hK => ?_)
          refine Kd.R_append_rows_step kO (w0 := w5) 0 ?hg (.tmp 70) (.tmp 71) 58 72 (.agg #[.int .u32 0, .int .u32 0, .int .u8 0, .string ⟨#[]⟩, .int .i64 0, .int .i64 0]) 48 ?ho Try.underlying58 infoO rfl (by decide) (by omega) v70 (L.take k ++ [x]) (L.drop k) A1 (L.length - k) c1 (fun _ => True) (fun _ => False) ?h1 ?h2 HR70.out (by have h_ := (Kd.R_reads' HR10.out).2.2; rw [List.length_drop] at h_; exact h_) (fun _ _ h => h) (fun _ h => h.elim) (fun _ _ => trivial) (Below.refl _ _) (Nat.zero_le _) (by rw [List.length_append, List.length_take]; have := HL9.out; have := HKL.out; simp only [List.length_cons, List.length_nil]; omega) ?_; (case hg => rfl); (case ho => rfl); (case h1 => rfl); (case h2 => rfl)
          intro v72 w6 ho_ _ hg_ hat_
          obtain ⟨A72, c72, e72, _, _⟩ := Kd.R_reads ho_
          subst e72
          have HR72 := Aside0.mk ho_
          have HNB := Aside0.mk (own_far' HAT.out HHP.out (show h < w4.heap.size from blk_lt HV9.out))
          have HNM := Aside0.mk (own_far' HAT.out HMP.out (show bx < w4.heap.size from blk_lt HM9.out))
          have hgk_ := hg_
          have HV11 := Aside0.mk (blk_grown HV10.out hg_ HNB.out)
          have HF11 := Aside0.mk (HF10.out.trans (Kp.grown (S := fun j => (∃ a, p = some a ∧ a.block = j) ∨ w.heap.size ≤ j) hg_ (own_frame' HAT.out (Nat.le_trans HF8.out.size HS9.out))) (fun j hj hj' => hj'.elim Or.inr (fun h => by omega)))
          have HNB2 := Aside0.mk (own_far' hat_ HNB.out (blk_lt HV10.out))
          have HPB := Aside0.mk (own_pb' (h := h) (p := p) HAT.out hat_ (Nat.le_trans HF8.out.size HS9.out) (Nat.le_trans (Nat.le_trans HF8.out.size HS9.out) HS10.out))
          clear ho_ hg_ hat_
          refine hK.out _ _ ⟨(blk_cell HV11.out 1).trans rfl, (blk_cell (blk_grown HM10.out hgk_ HNM.out) 0).trans rfl, (blk_cell (blk_grown HM10.out hgk_ HNM.out) 1).trans rfl, (blk_cell (blk_grown HM10.out hgk_ HNM.out) 2).trans rfl, (blk_cell (blk_grown HM10.out hgk_ HNM.out) 3).trans rfl, (blk_cell (blk_grown HM10.out hgk_ HNM.out) 4).trans rfl, (blk_cell (blk_grown HM10.out hgk_ HNM.out) 5).trans rfl⟩ (fun hHeld => ?_)
          clear hK K
          refine norm_ (a' := ?_) ?_ ?_
          rotate_left
          · show Act.put _ (some 72) _ = _
            simp only [Act.put, List.setIfInBounds_toArray, List.set_cons_zero, List.set_cons_succ, i64_w, i32_w]
            rfl
          refine pure_ (i := 12) (N := some 73) (v := ?_) (a' := ?_) #[true, true, true, true, true, true, true, true, true, true, true, true, true, false, false] rfl rfl (by kernel_rfl) (fun _ _ _ h => h) (Or.inl ⟨by rfl, ?_⟩) ?_ ?_
          rotate_left
          · intro w'
            go_simp
            with_reducible rfl
          rotate_left
          · simp only [Act.put, List.setIfInBounds_toArray, List.set_cons_zero, List.set_cons_succ, i64_w, i32_w]
            rfl
          refine pure_ (i := 13) (N := some 74) (v := ?_) (a' := ?_) #[true, true, true, true, true, true, true, true, true, true, true, true, true, true, false] rfl rfl (by kernel_rfl) (fun _ _ _ h => h) (Or.inl ⟨by rfl, ?_⟩) ?_ ?_
          rotate_left
          · intro w'
            go_simp
            with_reducible rfl
          rotate_left
          · simp only [Act.put, List.setIfInBounds_toArray, List.set_cons_zero, List.set_cons_succ, i64_w, i32_w]
            rfl
          refine last_ (i := 14) (N := none) #[true, true, true, true, true, true, true, true, true, true, true, true, true, true, true] rfl rfl (by kernel_rfl) (by decide) (fun K hK => ?_)
          have hb_c := (blk_cell HV11.out 1).trans rfl
          have hb_f := blk_frozen HV11.out 1
          refine skip_ (w1 := w6.setCell ⟨h, 1, none⟩ (.slice A72 (L.take k ++ [x] ++ L.drop k).length c72)) (by rfl) rfl ?_ ?_
          · go_simp
            try with_reducible rfl
          refine hK.out _ _ ?_
          clear hK K
          refine done_ (by kernel_rfl) ?_
          try go_wp2
          go_end0
          rw [ins_idx, ← HKI.out]
          rw [HPQ.out]
          refine ⟨A72, c72, rfl, ⟨?_, ?_⟩, ?_, HPB.out⟩
          · exact blk_put HV11.out 1 _ rfl
          · exact Kd.R_set HR72.out HV11.out (fun q hq => kO_ty hq) 1 _
          · exact HF11.out.set h 1 _ (fun _ => Or.inl rfl))
    · have HKI := Aside0.mk (show k = idxO x L by omega)
      have hdf : decide ((k : Int) < (L.length : Int)) = false := decide_eq_false hlt
      have hdn : decide (k < L.length) = false := decide_eq_false (by omega)
      have hdp : (k < L.length) = False := eq_false (by omega)
      clear hk hkl' hlt
      go_wp2
      go_big_quiet (fail)
      go_upto_region 4 with (fail)
      have hnq := pw_below_drewN (pw_below_drewN (Below.refl w1.heap.size w1) nq0) nq
      generalize (w1.drewN nq0).drewN nq = wq at hnq ⊢
      have HRq := Aside0.mk (HR1.out.below hnq)
      have HMq := Aside0.mk (blk_below HM1.out hnq)
      have HBq := Aside0.mk (below_step HB1.out hnq)
      have HRP := Aside0.mk (fun j hj => HRP.out j (Nat.le_trans hnq.size hj))
      clear hnq  hcell HR1 HM1 HB1 x4_ x5_
      have hcell : wq.cell? ⟨h, 1, none⟩ = some (.slice p L.length c) := (blk_cell HRq.out.box 1).trans rfl
      obtain ⟨A', hcut, hcutC⟩ := cutQ p L.length c k HKL.out
      have HCD : Aside0 (kO.C wq A' (L.length - k) (L.drop k)) := ⟨hcutC _ L HCAP.out.1 (Kd.R_reads' HRq.out.row).2.2⟩
      have hkc_ : k ≤ c := Nat.le_trans HKL.out HCAP.out.1
      have hcm_ : c ≤ 9223372036854775807 := HCAP.out.2
      have hkl_ : k ≤ L.length := HKL.out
      clear hcutC
      go_wp2_with ((with_reducible refine gate_dst (N := 60) rfl ?_); refine stop_ ?_)
      refine StopAt.mk ?_
      refine Kd.R_append_rows kO (w0 := w) w.heap.size ?hg (.const (.slice none 0 0)) (.tmp 59) 58 72 (.agg #[.int .u32 0, .int .u32 0, .int .u8 0, .string ⟨#[]⟩, .int .i64 0, .int .i64 0]) 48 ?ho Try.underlying58 infoO rfl (by decide) (by omega) (.slice none 0 0) [] (L.drop k) A' (L.length - k) (c - k) (fun j => wq.heap.size ≤ j) (fun _ => False) ?h1 ?h2 (Kd.R_nil _ _ _ _ _) HCD.out (fun _ _ h => h) (fun _ h => h.elim) (fun _ h => h) HBq.out HBq.out.size (by have := HL9.out; simp only [List.length_nil]; omega) ?_
      case hg => rfl
      case ho => rfl
      case h1 => rfl
      case h2 => rfl
      intro v60 w3 hr1_ hb1_ hg1_ ha1_
      have HR3 : Aside0 (kO.R 72 w3 w.heap.size (fun j => wq.heap.size ≤ j) v60 (L.drop k)) := ⟨hr1_⟩
      obtain ⟨A1, c1, e1_, hle1_, hC1_⟩ := Kd.R_reads HR3.out
      subst e1_
      have hg3 : Below wq.heap.size wq w3 := ⟨hg1_.os, hg1_.tape, hg1_.output, hg1_.size, fun i hi => hg1_.block i hi (by simp [Value.ownBlock])⟩
      have HV3 := Aside0.mk (blk_below HRq.out.box hg3)
      have HW3 := Aside0.mk (Kd.R_below HRq.out.row hg3)
      have HM3 := Aside0.mk (blk_below HMq.out hg3)
      have HF3 : Aside0 (Kp w w3 (RB h p)) := ⟨Kp.of hb1_⟩
      clear hr1_ hb1_ hg1_ ha1_ hle1_ hC1_ hg3
      try go_wp2
      have hbd := below_drew1 (Below.refl w3.heap.size w3)
      have HV8 := Aside0.mk (blk_below HV3.out hbd)
      have HW8 := Aside0.mk (Kd.R_below HW3.out hbd)
      have HM8 := Aside0.mk (blk_below HM3.out hbd)
      have HR8 := Aside0.mk (Kd.R_below HR3.out hbd)
      have HF8 := Aside0.mk (HF3.out.trans (Kp.of (S := fun _ => False) hbd) (fun _ _ h => h.elim))
      clear HV3 HW3 HM3 HR3 HF3 hbd hcell HCD HRq HMq
      refine start_ (n := 15) (S := (fun w' => w'.cell? ⟨h, 1, none⟩ = some (.slice p L.length c) ∧ w'.cell? ⟨bx, 0, none⟩ = some (.int .u32 x.m.f0) ∧ w'.cell? ⟨bx, 1, none⟩ = some (.int .u32 x.m.f1) ∧ w'.cell? ⟨bx, 2, none⟩ = some (.int .u8 x.m.f2) ∧ w'.cell? ⟨bx, 3, none⟩ = some (.string x.m.f3) ∧ w'.cell? ⟨bx, 4, none⟩ = some (.int .i64 x.sent) ∧ w'.cell? ⟨bx, 5, none⟩ = some (.int .i64 x.tm))) (ds := [14]) #[false, false, false, false, false, false, false, false, false, false, false, false, false, false, false] (by kernel_rfl) rfl rfl ⟨(blk_cell HV8.out 1).trans rfl, (blk_cell HM8.out 0).trans rfl, (blk_cell HM8.out 1).trans rfl, (blk_cell HM8.out 2).trans rfl, (blk_cell HM8.out 3).trans rfl, (blk_cell HM8.out 4).trans rfl, (blk_cell HM8.out 5).trans rfl⟩ (fun hHeld => ?_)
      generalize w3.drew = wd at HV8 HW8 HM8 HR8 HF8 hHeld ⊢
      refine pure_ (i := 0) (N := some 61) (v := ?_) (a' := ?_) #[true, false, false, false, false, false, false, false, false, false, false, false, false, false, false] rfl rfl (by kernel_rfl) (fun _ _ _ h => h) (Or.inl ⟨by rfl, ?_⟩) ?_ ?_
      rotate_left
      · intro w'
        go_simp
        with_reducible rfl
      rotate_left
      · simp only [Act.put, List.setIfInBounds_toArray, List.set_cons_zero, List.set_cons_succ, i64_w, i32_w]
        rfl
      refine pure_ (i := 1) (N := some 62) (v := ?_) (a' := ?_) #[true, true, false, false, false, false, false, false, false, false, false, false, false, false, false] rfl rfl (by kernel_rfl) (fun _ _ _ h => h) (Or.inl ⟨by rfl, ?_⟩) ?_ ?_
      rotate_left
      · intro w'
        go_simp
        with_reducible rfl
      rotate_left
      · simp only [Act.put, List.setIfInBounds_toArray, List.set_cons_zero, List.set_cons_succ, i64_w, i32_w]
        rfl
      refine pure_ (i := 2) (N := some 63) (v := ?_) (a' := ?_) #[true, true, true, false, false, false, false, false, false, false, false, false, false, false, false] rfl rfl (by kernel_rfl) (fun _ _ _ h => h) (Or.inl ⟨by rfl, ?_⟩) ?_ ?_
      rotate_left
      · intro w'
        go_simp
        with_reducible rfl
      rotate_left
      · simp only [Act.put, List.setIfInBounds_toArray, List.set_cons_zero, List.set_cons_succ, i64_w, i32_w]
        rfl
      refine pure_ (i := 3) (N := some 64) (v := ?_) (a' := ?_) #[true, true, true, true, false, false, false, false, false, false, false, false, false, false, false] rfl rfl (by kernel_rfl) (fun _ _ _ h => h) (Or.inl ⟨by rfl, ?_⟩) ?_ ?_
      rotate_left
      · intro w'
        go_simp
        with_reducible rfl
      rotate_left
      · simp only [Act.put, List.setIfInBounds_toArray, List.set_cons_zero, List.set_cons_succ, i64_w, i32_w]
        rfl
      refine take_ (i := 4) (N := some 65) (v := ?_) (a' := ?_) #[true, true, true, true, true, false, false, false, false, false, false, false, false, false, false] rfl rfl (by kernel_rfl) (fun _ _ _ h => h) (Or.inl ⟨by rfl, ?_⟩) hHeld ?_ ?_
      rotate_left
      · rintro w' ⟨h0_, h1_, h2_, h3_, h4_, h5_, h6_⟩
        go_simp
        with_reducible rfl
      rotate_left
      · simp only [Act.put, List.setIfInBounds_toArray, List.set_cons_zero, List.set_cons_succ, i64_w, i32_w]
        rfl
      refine pure_ (i := 5) (N := some 66) (v := ?_) (a' := ?_) #[true, true, true, true, true, true, false, false, false, false, false, false, false, false, false] rfl rfl (by kernel_rfl) (fun _ _ _ h => h) (Or.inl ⟨by rfl, ?_⟩) ?_ ?_
      rotate_left
      · intro w'
        go_simp
        with_reducible rfl
      rotate_left
      · simp only [Act.put, List.setIfInBounds_toArray, List.set_cons_zero, List.set_cons_succ, i64_w, i32_w]
        rfl
      refine pure_ (i := 6) (N := some 67) (v := ?_) (a' := ?_) #[true, true, true, true, true, true, true, false, false, false, false, false, false, false, false] rfl rfl (by kernel_rfl) (fun _ _ _ h => h) (Or.inl ⟨by rfl, ?_⟩) ?_ ?_
      rotate_left
      · intro w'
        go_simp
        with_reducible rfl
      rotate_left
      · simp only [Act.put, List.setIfInBounds_toArray, List.set_cons_zero, List.set_cons_succ, i64_w, i32_w]
        rfl
      refine take_ (i := 7) (N := some 68) (v := ?_) (a' := ?_) #[true, true, true, true, true, true, true, true, false, false, false, false, false, false, false] rfl rfl (by kernel_rfl) (fun _ _ _ h => h) (Or.inl ⟨by rfl, ?_⟩) hHeld ?_ ?_
      rotate_left
      · rintro w' ⟨h0_, h1_, h2_, h3_, h4_, h5_, h6_⟩
        go_simp
        with_reducible rfl
      rotate_left
      · simp only [Act.put, List.setIfInBounds_toArray, List.set_cons_zero, List.set_cons_succ, i64_w, i32_w]
        rfl
      refine pure_ (i := 10) (N := some 71) (v := ?_) (a' := ?_) #[true, true, true, true, true, true, true, true, false, false, true, false, false, false, false] rfl rfl (by kernel_rfl) (fun _ _ _ h => h) (Or.inl ⟨by rfl, ?_⟩) ?_ ?_
      rotate_left
      · intro w'
        go_simp
        with_reducible rfl
      rotate_left
      · simp only [Act.put, List.setIfInBounds_toArray, List.set_cons_zero, List.set_cons_succ, i64_w, i32_w]
        rfl
      refine one_ (i := 8) (N := some 69) #[true, true, true, true, true, true, true, true, true, false, true, false, false, false, false] rfl rfl (by kernel_rfl) (by decide) (fun K hK => ?_)
      refine Kd.R_lit_step kO 0 72 ?hg (N := 69) ?hd (w0 := wd) (xs := [x]) (inner := oC x) (ok := fun _ => True) (okp := fun _ => True) ?hr ?hp (fun _ hk => hk) trivial (Below.refl 0 wd) (Nat.zero_le _) (by simp) ?_; (case hd => rfl); (case hg => rfl); (case hr => first | (unfold oC; go_simp; done) | (unfold oC; go_simp; rfl)); (case hp => exact one_RepsO _ _ _ x)
      intro v69 w4 ho_ _ hg_ _
      obtain ⟨A69, c69, e69, _, hC69⟩ := Kd.R_reads ho_
      have HC69 := Aside0.mk hC69
      have HV9 := Aside0.mk (blk_grown HV8.out hg_ (by simp))
      have HW9 := Aside0.mk (Kd.R_grown HW8.out hg_ (fun _ _ => by simp))
      have HM9 := Aside0.mk (blk_grown HM8.out hg_ (by simp))
      have HR9 := Aside0.mk (Kd.R_grown HR8.out hg_ (fun _ _ => by simp))
      have HF9 := Aside0.mk (HF8.out.trans (Kp.grown (S := fun _ => False) hg_ (fun k hk => by cases hk)) (fun _ _ h => h.elim))
      have HS9 := Aside0.mk (hg_.size)
      subst e69
      clear ho_ hg_ hC69
      refine hK.out _ _ ⟨(blk_cell HV9.out 1).trans rfl, (blk_cell HM9.out 0).trans rfl, (blk_cell HM9.out 1).trans rfl, (blk_cell HM9.out 2).trans rfl, (blk_cell HM9.out 3).trans rfl, (blk_cell HM9.out 4).trans rfl, (blk_cell HM9.out 5).trans rfl⟩ (fun hHeld => ?_)
      clear hK K
      refine norm_ (a' := ?_) ?_ ?_
      rotate_left
      · show Act.put _ (some 69) _ = _
        simp only [Act.put, List.setIfInBounds_toArray, List.set_cons_zero, List.set_cons_succ, i64_w, i32_w]
        rfl
      refine one_ (i := 9) (N := some 70) #[true, true, true, true, true, true, true, true, true, true, true, false, false, false, false] rfl rfl (by kernel_rfl) (by decide) (fun K hK => ?_)
      refine Kd.R_append_rows_step kO (w0 := w4) 0 ?hg (.tmp 67) (.tmp 69) 58 72 (.agg #[.int .u32 0, .int .u32 0, .int .u8 0, .string ⟨#[]⟩, .int .i64 0, .int .i64 0]) 48 ?ho Try.underlying58 infoO rfl (by decide) (by omega) (.slice p k c) (L.take k) [x] A69 1 c69 (fun _ => True) (fun _ => False) ?h1 ?h2 (Kd.R_take HW9.out HKL.out) HC69.out (fun _ _ h => h) (fun _ h => h.elim) (fun _ _ => trivial) (Below.refl _ _) (Nat.zero_le _) (by rw [List.length_take]; have := HL9.out; omega) ?_; (case hg => rfl); (case ho => rfl); (case h1 => rfl); (case h2 => rfl)
      intro v70 w5 ho_ _ hg_ hat_
      have HR70 := Aside0.mk ho_
      have HV10 := Aside0.mk (blk_grown HV9.out hg_ HHP.out)
      have HM10 := Aside0.mk (blk_grown HM9.out hg_ HMP.out)
      have HR10 := Aside0.mk (Kd.R_grown HR9.out hg_ (fun j hj => HRP.out j hj))
      have HF10 := Aside0.mk (HF9.out.trans (Kp.grown (S := fun j => ∃ a, p = some a ∧ a.block = j) hg_ (fun j hj => own_of_slice hj)) (fun j _ hj => Or.inr hj))
      have HAT := Aside0.mk hat_
      have HS10 := Aside0.mk (hg_.size)
      clear ho_ hg_ hat_
      refine hK.out _ _ ⟨(blk_cell HV10.out 1).trans rfl, (blk_cell HM10.out 0).trans rfl, (blk_cell HM10.out 1).trans rfl, (blk_cell HM10.out 2).trans rfl, (blk_cell HM10.out 3).trans rfl, (blk_cell HM10.out 4).trans rfl, (blk_cell HM10.out 5).trans rfl⟩ (fun hHeld => ?_)
      clear hK K
      refine norm_ (a' := ?_) ?_ ?_
      rotate_left
      · show Act.put _ (some 70) _ = _
        simp only [Act.put, List.setIfInBounds_toArray, List.set_cons_zero, List.set_cons_succ, i64_w, i32_w]
        rfl
      refine one_ (i := 11) (N := some 72) #[true, true, true, true, true, true, true, true, true, true, true, true, false, false, false] rfl rfl (by kernel_rfl) (by decide) (fun K hK => ?_)
      refine Kd.R_append_rows_step kO (w0 := w5) 0 ?hg (.tmp 70) (.tmp 71) 58 72 (.agg #[.int .u32 0, .int .u32 0, .int .u8 0, .string ⟨#[]⟩, .int .i64 0, .int .i64 0]) 48 ?ho Try.underlying58 infoO rfl (by decide) (by omega) v70 (L.take k ++ [x]) (L.drop k) A1 (L.length - k) c1 (fun _ => True) (fun _ => False) ?h1 ?h2 HR70.out (by have h_ := (Kd.R_reads' HR10.out).2.2; rw [List.length_drop] at h_; exact h_) (fun _ _ h => h) (fun _ h => h.elim) (fun _ _ => trivial) (Below.refl _ _) (Nat.zero_le _) (by rw [List.length_append, List.length_take]; have := HL9.out; have := HKL.out; simp only [List.length_cons, List.length_nil]; omega) ?_; (case hg => rfl); (case ho => rfl); (case h1 => rfl); (case h2 => rfl)
      intro v72 w6 ho_ _ hg_ hat_
      obtain ⟨A72, c72, e72, _, _⟩ := Kd.R_reads ho_
      subst e72
      have HR72 := Aside0.mk ho_
      have HNB := Aside0.mk (own_far' HAT.out HHP.out (show h < w4.heap.size from blk_lt HV9.out))
      have HNM := Aside0.mk (own_far' HAT.out HMP.out (show bx < w4.heap.size from blk_lt HM9.out))
      have hgk_ := hg_
      have HV11 := Aside0.mk (blk_grown HV10.out hg_ HNB.out)
      have HF11 := Aside0.mk (HF10.out.trans (Kp.grown (S := fun j => (∃ a, p = some a ∧ a.block = j) ∨ w.heap.size ≤ j) hg_ (own_frame' HAT.out (Nat.le_trans HF8.out.size HS9.out))) (fun j hj hj' => hj'.elim Or.inr (fun h => by omega)))
      have HNB2 := Aside0.mk (own_far' hat_ HNB.out (blk_lt HV10.out))
      have HPB := Aside0.mk (own_pb' (h := h) (p := p) HAT.out hat_ (Nat.le_trans HF8.out.size HS9.out) (Nat.le_trans (Nat.le_trans HF8.out.size HS9.out) HS10.out))
      clear ho_ hg_ hat_
      refine hK.out _ _ ⟨(blk_cell HV11.out 1).trans rfl, (blk_cell (blk_grown HM10.out hgk_ HNM.out) 0).trans rfl, (blk_cell (blk_grown HM10.out hgk_ HNM.out) 1).trans rfl, (blk_cell (blk_grown HM10.out hgk_ HNM.out) 2).trans rfl, (blk_cell (blk_grown HM10.out hgk_ HNM.out) 3).trans rfl, (blk_cell (blk_grown HM10.out hgk_ HNM.out) 4).trans rfl, (blk_cell (blk_grown HM10.out hgk_ HNM.out) 5).trans rfl⟩ (fun hHeld => ?_)
      clear hK K
      refine norm_ (a' := ?_) ?_ ?_
      rotate_left
      · show Act.put _ (some 72) _ = _
        simp only [Act.put, List.setIfInBounds_toArray, List.set_cons_zero, List.set_cons_succ, i64_w, i32_w]
        rfl
      refine pure_ (i := 12) (N := some 73) (v := ?_) (a' := ?_) #[true, true, true, true, true, true, true, true, true, true, true, true, true, false, false] rfl rfl (by kernel_rfl) (fun _ _ _ h => h) (Or.inl ⟨by rfl, ?_⟩) ?_ ?_
      rotate_left
      · intro w'
        go_simp
        with_reducible rfl
      rotate_left
      · simp only [Act.put, List.setIfInBounds_toArray, List.set_cons_zero, List.set_cons_succ, i64_w, i32_w]
        rfl
      refine pure_ (i := 13) (N := some 74) (v := ?_) (a' := ?_) #[true, true, true, true, true, true, true, true, true, true, true, true, true, true, false] rfl rfl (by kernel_rfl) (fun _ _ _ h => h) (Or.inl ⟨by rfl, ?_⟩) ?_ ?_
      rotate_left
      · intro w'
        go_simp
        with_reducible rfl
      rotate_left
      · simp only [Act.put, List.setIfInBounds_toArray, List.set_cons_zero, List.set_cons_succ, i64_w, i32_w]
        rfl
      refine last_ (i := 14) (N := none) #[true, true, true, true, true, true, true, true, true, true, true, true, true, true, true] rfl rfl (by kernel_rfl) (by decide) (fun K hK => ?_)
      have hb_c := (blk_cell HV11.out 1).trans rfl
      have hb_f := blk_frozen HV11.out 1
      refine skip_ (w1 := w6.setCell ⟨h, 1, none⟩ (.slice A72 (L.take k ++ [x] ++ L.drop k).length c72)) (by rfl) rfl ?_ ?_
      · go_simp
        try with_reducible rfl
      refine hK.out _ _ ?_
      clear hK K
      refine done_ (by kernel_rfl) ?_
      try go_wp2
      go_end0
      rw [ins_idx, ← HKI.out]
      refine ⟨A72, c72, rfl, ⟨?_, ?_⟩, ?_, HPB.out⟩
      · exact blk_put HV11.out 1 _ rfl
      · exact Kd.R_set HR72.out HV11.out (fun q hq => kO_ty hq) 1 _
      · exact HF11.out.set h 1 _ (fun _ => Or.inl rfl)
end Go.Proofs.Ytihmblbnnhcdnaa.Print
end
section
/- The document's answer for one member, and for which of two is stronger: the program's own. -/
namespace Go.Proofs.Ytihmblbnnhcdnaa.Print
open Go.RowKit Go.Proofs.YtihmblbnnhcdnaaW.PrintWords Go.Proofs.YtihmblbnnhcdnaaW.PrintLast Go.Proofs.YtihmblbnnhcdnaaW.PrintMore
set_option linter.unusedVariables false
set_option linter.unusedSimpArgs false
theorem may_f (x : Mem) : hearsayref17_May.f x.f0 x.f1 x.f2 x.f3 = some (mayM x) := by
  unfold hearsayref17_May.f mayM
  by_cases h1 : x.f2 ≤ 3
  · by_cases h2 : x.f3.size ≤ 400
    · have h2' : (x.f3.size : Int) ≤ 400 := by omega
      simp [h1, h2, h2']
    · have h2' : ¬ (x.f3.size : Int) ≤ 400 := by omega
      simp [h1, h2, h2']
  · simp [h1]
theorem w64 {n : Int} (h0 : -9223372036854775808 ≤ n) (h1 : n ≤ 9223372036854775807) : wrap64 n = n := by
  unfold wrap64
  omega
def cS (a b : List UInt8) : Int := if Op.bytesLess a b = true then -1 else if Op.bytesLess b a = true then 1 else 0
theorem bt_nat (s : ByteArray) (i : Nat) (h : i < s.size) : bt s (i : Int) = ((s[i]'h).toNat : Int) := by
  unfold bt
  rw [dif_pos (by simpa using h)]
  rfl
theorem toL_len (s : ByteArray) : s.toList.length = s.size := by rw [ByteArray.toList_eq]; rfl
theorem toL_get (s : ByteArray) (i : Nat) (h : i < s.size) : s.toList[i]'(by rw [toL_len]; exact h) = s[i]'h := by
  have e := ByteArray.toList_eq s
  simp only [e]
  rfl
theorem toL_drop (s : ByteArray) (i : Nat) (h : i < s.size) : s.toList.drop i = s[i]'h :: s.toList.drop (i + 1) := by
  rw [List.drop_eq_getElem_cons (by rw [toL_len]; exact h), toL_get s i h]
theorem cS_eq (a : UInt8) (x y : List UInt8) : cS (a :: x) (a :: y) = cS x y := by
  have h0 : ¬ a < a := by rw [UInt8.lt_iff_toNat_lt]; omega
  unfold cS
  simp only [Op.bytesLess]
  simp [h0]
theorem cS_lt (a b : UInt8) (x y : List UInt8) (h : a.toNat < b.toNat) : cS (a :: x) (b :: y) = -1 := by
  unfold cS
  simp only [Op.bytesLess]
  have h1 : a < b := UInt8.lt_iff_toNat_lt.2 h
  simp [h1]
theorem cS_gt (a b : UInt8) (x y : List UInt8) (h : b.toNat < a.toNat) : cS (a :: x) (b :: y) = 1 := by
  unfold cS
  simp only [Op.bytesLess]
  have h1 : b < a := UInt8.lt_iff_toNat_lt.2 h
  have h2 : ¬ a < b := by rw [UInt8.lt_iff_toNat_lt]; omega
  have h3 : ¬ a = b := fun e => by rw [e] at h; omega
  simp [h1, h2, h3]
theorem rcmp_l0 (x y : Mem) (hx : x.f3.size ≤ 9223372036854775807) (d : Nat) : ∀ i : Nat, x.f3.size - i ≤ d → i ≤ x.f3.size → i ≤ y.f3.size →
    Ev (fun k => hearsayref17_Cmp.l0 k (i : Int) x.f0 x.f1 x.f2 x.f3 y.f0 y.f1 y.f2 y.f3) (cS (x.f3.toList.drop i) (y.f3.toList.drop i)) := by
  induction d with
  | zero =>
    intro i hd hi hj
    have hie : i = x.f3.size := by omega
    refine Ev.step (fun k => by simp only [hearsayref17_Cmp.l0]; rw [if_neg (by omega)]) ?_
    rw [List.drop_of_length_le (by rw [toL_len]; omega)]
    by_cases he : x.f3.size = y.f3.size
    · rw [List.drop_of_length_le (by rw [toL_len]; omega)]
      refine Ev.step (f := fun _ => some (cS [] [])) (fun k => ?_) (Ev.now _)
      simp only [hearsayref17_Cmp.j1]
      rw [if_neg (by simp), if_pos (by omega)]
      rfl
    · rw [toL_drop y.f3 i (by omega)]
      refine Ev.step (f := fun _ => some (cS [] (y.f3[i]'(by omega) :: y.f3.toList.drop (i + 1)))) (fun k => ?_) (Ev.now _)
      simp only [hearsayref17_Cmp.j1]
      rw [if_neg (by simp), if_neg (by omega), if_pos (by omega)]
      rfl
  | succ d ih =>
    intro i hd hi hj
    by_cases hlt : i < x.f3.size
    · rw [toL_drop x.f3 i hlt]
      by_cases hly : i < y.f3.size
      · have hdy : decide ((i : Int) < (y.f3.size : Int)) = true := decide_eq_true (by omega)
        refine Ev.step (fun k => by simp only [hearsayref17_Cmp.l0]; rw [if_pos (by omega), hdy]) ?_
        rw [toL_drop y.f3 i hly]
        by_cases he : x.f3[i] = y.f3[i]
        · have := ih (i + 1) (by omega) (by omega) (by omega)
          rw [he, cS_eq]
          refine Ev.step (fun k => ?_) this
          simp only [hearsayref17_Cmp.j1]
          rw [if_pos trivial, if_pos (by omega), if_pos (by omega), if_pos (by omega), bt_nat _ _ hlt, bt_nat _ _ hly, he, if_pos rfl]
          rw [show wrap64 ((i : Int) + 1) = ((i + 1 : Nat) : Int) by rw [w64 (by omega) (by omega)]; omega]
        · have hne : x.f3[i].toNat ≠ y.f3[i].toNat := fun e => he (UInt8.toNat_inj.1 e)
          by_cases hll : x.f3[i].toNat < y.f3[i].toNat
          · rw [cS_lt _ _ _ _ hll]
            refine Ev.step (f := fun _ => some (-1)) (fun k => ?_) (Ev.now _)
            simp only [hearsayref17_Cmp.j1]
            rw [if_pos trivial, if_pos (by omega), if_pos (by omega), if_pos (by omega), bt_nat _ _ hlt, bt_nat _ _ hly, if_neg (by omega), if_pos (by omega)]
          · rw [cS_gt _ _ _ _ (by omega)]
            refine Ev.step (f := fun _ => some 1) (fun k => ?_) (Ev.now _)
            simp only [hearsayref17_Cmp.j1]
            rw [if_pos trivial, if_pos (by omega), if_pos (by omega), if_pos (by omega), bt_nat _ _ hlt, bt_nat _ _ hly, if_neg (by omega), if_neg (by omega)]
      · have hdy : decide ((i : Int) < (y.f3.size : Int)) = false := decide_eq_false (by omega)
        refine Ev.step (fun k => by simp only [hearsayref17_Cmp.l0]; rw [if_pos (by omega), hdy]) ?_
        rw [List.drop_of_length_le (l := y.f3.toList) (by rw [toL_len]; omega)]
        refine Ev.step (f := fun _ => some (cS (x.f3[i] :: x.f3.toList.drop (i + 1)) [])) (fun k => ?_) (Ev.now _)
        simp only [hearsayref17_Cmp.j1]
        rw [if_neg (by simp), if_neg (by omega), if_neg (by omega)]
        rfl
    · exact ih i (by omega) hi hj
theorem rcmp_f (x y : Mem) (hx : x.f3.size ≤ 9223372036854775807) : Ev (fun k => hearsayref17_Cmp.f k x.f0 x.f1 x.f2 x.f3 y.f0 y.f1 y.f2 y.f3) (cmpM x y) := by
  unfold hearsayref17_Cmp.f cmpM
  by_cases h1 : x.f1 = y.f1
  · simp only [if_pos h1]
    by_cases h2 : x.f2 = y.f2
    · simp only [if_pos h2]
      have := rcmp_l0 x y hx x.f3.size 0 (by omega) (by omega) (by omega)
      simpa [cS] using this
    · simp only [if_neg h2]
      by_cases h3 : x.f2 < y.f2
      · simp only [if_pos h3]; exact Ev.now _
      · simp only [if_neg h3, if_pos (show x.f2 > y.f2 by omega)]; exact Ev.now _
  · simp only [if_neg h1]
    by_cases h3 : x.f1 < y.f1
    · simp only [if_pos h3]; exact Ev.now _
    · simp only [if_neg h3, if_pos (show x.f1 > y.f1 by omega)]; exact Ev.now _
end Go.Proofs.Ytihmblbnnhcdnaa.Print
end
section
/- The document's Add, walked. -/
namespace Go.Proofs.Ytihmblbnnhcdnaa.Print
open Go.RowKit Go.Maps Go.ChangeMaps Go.Proofs.YtihmblbnnhcdnaaW.PrintWords Go.Proofs.YtihmblbnnhcdnaaW.PrintLast Go.Proofs.YtihmblbnnhcdnaaW.PrintMore
set_option linter.unusedVariables false
set_option linter.unusedSimpArgs false
theorem outA_push {L : List One} {k : Nat} {y : One} (h : L[k]? = some y) (a : Int) : outA (L.take (k + 1)) a = outA (L.take k) a ++ (if y.m.f0 = a then [] else [y]) := by
  unfold outA
  rw [List.take_add_one, h, List.filter_append]
  congr 1
  by_cases e : y.m.f0 = a
  · rw [if_pos e]; simp [e]
  · rw [if_neg e]; simp [e]
theorem one_CO (W : World) (x : One) : kO.C (W.alloc (.cells #[.int .u32 x.m.f0, .int .u32 x.m.f1, .int .u8 x.m.f2, .string x.m.f3, .int .i64 x.sent, .int .i64 x.tm] 72)) (some ⟨W.heap.size, 0, none⟩) 1 [x] := by
  refine ⟨rfl, by simp, fun _ => ⟨⟨W.heap.size, 0, none⟩, rfl, fun j p hj => ?_⟩⟩
  have hj0 : j = 0 := by have := (List.getElem?_eq_some_iff.1 hj).1; simp at this; omega
  subst hj0
  have e : x = p := by simpa using hj
  subst e
  refine ⟨oC x, rfl, kO_mk _ x, fun i u hu => ?_⟩
  have h1 := blk_cell (blk_new W (.cells #[.int .u32 x.m.f0, .int .u32 x.m.f1, .int .u8 x.m.f2, .string x.m.f3, .int .i64 x.sent, .int .i64 x.tm] 72)) i
  have e2 : (⟨W.heap.size, 0, none⟩ : Addr).add (0 * kO.sz + i) = ⟨W.heap.size, i, none⟩ := by
    have : 0 * kO.sz + i = i := by omega
    rw [this]
    simp [Addr.add]
    exact fun h => h.symm
  rw [e2, h1]
  have e3 : (#[.int .u32 x.m.f0, .int .u32 x.m.f1, .int .u8 x.m.f2, .string x.m.f3, .int .i64 x.sent, .int .i64 x.tm] : Array Value)[i]? = (oC x)[i]? := by unfold oC; simp
  rw [e3]
  exact hu
theorem ins_head {x : One} {L : List One} (h0 : x.sent = 0) (hs : ∀ y ∈ L, 0 ≤ y.sent) (ht : ∀ y ∈ L, y.tm < x.tm) : insO x L = x :: L := by
  cases L with
  | nil => rfl
  | cons y r =>
    have h1 := hs y (by simp)
    have h2 := ht y (by simp)
    unfold insO
    rw [if_neg]
    unfold lessO
    rw [h0]
    split <;> simp at * <;> omega
theorem addL_weak {L : List One} {nx : Int} {m : Mem} {y : One} (hn : (L.map (·.m.f0)).Nodup) (hm : mayM m = true) (hy : y ∈ L) (he : y.m.f0 = m.f0) (hc : cmpM m y.m ≤ 0) : addL L nx m = (false, 0, L, nx) := by
  have hf := find_of hn hy
  rw [he] at hf
  unfold addL
  rw [if_neg (by simp [hm]), hf]
  simp only
  rw [if_pos hc]
theorem addL_put {L : List One} {nx : Int} {m : Mem} (hm : mayM m = true) (h : ∀ (j : Nat) (x : One), j < L.length → L[j]? = some x → x.m.f0 = m.f0 → ¬ cmpM m x.m ≤ 0) : addL L nx m = (true, 0, ⟨m, 0, nx + 1⟩ :: outA L m.f0, nx + 1) := by
  unfold addL
  rw [if_neg (by simp [hm])]
  cases hf : findA L m.f0 with
  | none => simp only; rw [out_none hf]
  | some y =>
    obtain ⟨hy, he⟩ := find_mem hf
    obtain ⟨j, hj, e⟩ := List.getElem_of_mem hy
    simp only
    rw [if_neg (h j y hj (by rw [List.getElem?_eq_getElem hj, e]) he)]
set_option maxHeartbeats 20000000 in
set_option maxRecDepth 100000 in
theorem radd_bad (w : World) (h : Nat) (m : Mem) (hm : mayM m = false) :
    Calls Try.prog 11 #[.pointer (some ⟨h, 0, none⟩), .agg #[.int .u32 m.f0, .int .u32 m.f1, .int .u8 m.f2, .string m.f3]] w fun e w' => e = .returned (.tuple #[.bool false, .int .i64 170]) ∧ Below w.heap.size w w' := by
  have hu33 := Try.underlying33
  have hmf := may_f m
  rw [hm] at hmf
  have HMF := Aside0.mk hmf
  clear hmf
  go_enter Try.func11, Try.ntmps11
  go_wp2_with (first | (go_at_call 28; (with_reducible refine (hearsayref17_May.calls m.f0 m.f1 m.f2 m.f3 false _ HMF.out).mono ?_); rintro e w2 ⟨rfl, hb⟩; have HB2 := Aside0.mk (below_step (below_alloc (Below.refl w.heap.size w) _) hb); clear hb))
  refine bodyPost_ret (results_tmp2 rfl _ _ _) rfl ?_
  exact ⟨rfl, HB2.out⟩
set_option maxHeartbeats 20000000 in
set_option maxRecDepth 100000 in
theorem radd_good (w : World) (h : Nat) (t nx : Int) (p : Option Addr) (c : Nat) (L : List One) (m : Mem) (hR : Rf w h t nx p c L) (hA : Al t nx L) (hl : L.length ≤ 800000) (hx : 0 ≤ nx ∧ nx ≤ 1000000000) (hs : m.f3.size ≤ 9223372036854775807) (hm : mayM m = true) :
    Calls Try.prog 11 #[.pointer (some ⟨h, 0, none⟩), .agg #[.int .u32 m.f0, .int .u32 m.f1, .int .u8 m.f2, .string m.f3]] w fun e w' => ∃ p' c', e = .returned (.tuple #[.bool (addL L nx m).1, .int .i64 (addL L nx m).2.1]) ∧ Rf w' h t (addL L nx m).2.2.2 p' c' (addL L nx m).2.2.1 ∧ Kp w w' (RB h p) ∧ ∀ j, RB h p' j → RB h p j ∨ w.heap.size ≤ j := by
  have hu33 := Try.underlying33
  have hu72 := Try.underlying72
  have hmf := may_f m
  rw [hm] at hmf
  have HMF := Aside0.mk hmf
  have HR := Aside0.mk hR
  have HA := Aside0.mk hA
  have HS := Aside0.mk hs
  have HX := Aside0.mk hx
  have HMM := Aside0.mk hm
  have HLL := Aside0.mk hl
  obtain ⟨qq, hqq⟩ : ∃ qq, qq = addL L nx m := ⟨_, rfl⟩
  rw [← hqq]
  have HQ := Aside0.mk hqq
  clear hmf hR hA hs hx hm hqq
  go_enter Try.func11, Try.ntmps11
  go_upto_region 3 with (first | (go_at_call 28; (with_reducible refine (hearsayref17_May.calls m.f0 m.f1 m.f2 m.f3 true _ HMF.out).mono ?_); rintro e w2 ⟨rfl, hb⟩; have HB2 := Aside0.mk (below_step (below_alloc (Below.refl w.heap.size w) _) hb); have HM2 := Aside0.mk (blk_below (blk_new w _) hb); have HR2 := Aside0.mk (HR.out.below HB2.out); clear hb))
  generalize hbm : w.heap.size = bm at HM2 ⊢
  have HBM := Aside0.mk hbm
  clear hbm
  go_wp2
  go_loopw [6, 7] (fun v6 i wr => ∃ (k : Nat) (A : Option Addr) (ca : Nat), k ≤ L.length ∧ v6 = .slice A (outA (L.take k) m.f0).length ca ∧ i = .int .i64 k ∧ Aside0 (kO.R 72 wr w2.heap.size (fun _ => True) (.slice A (outA (L.take k) m.f0).length ca) (outA (L.take k) m.f0)) ∧ Aside0 (Below w2.heap.size w2 wr) ∧ Aside0 (∀ (j : Nat) (x : One), j < k → L[j]? = some x → x.m.f0 = m.f0 → 0 < cmpM m x.m)) (fun _ i _ => L.length - (intOf i).toNat)
  case atStart => exact ⟨0, none, 0, Nat.zero_le _, rfl, rfl, ⟨Kd.R_nil _ _ _ _ _⟩, ⟨Below.refl _ _⟩, ⟨fun j x hj => absurd hj (by omega)⟩⟩
  case round =>
    obtain ⟨k, A, ca, hk, rfl, rfl, HAR, HB, HN⟩ := hrel
    have HRr := Aside0.mk (HR2.out.below HB.out)
    have HMr := Aside0.mk (blk_below HM2.out HB.out)
    have hcell : wr.cell? ⟨h, 1, none⟩ = some (.slice p L.length c) := (blk_cell HRr.out.box 1).trans rfl
    have m0_ : wr.cell? ⟨bm, 0, none⟩ = some (.int .u32 m.f0) := (blk_cell HMr.out 0).trans rfl
    by_cases hlt : (k : Int) < (L.length : Int)
    · have HLT := Aside0.mk (show k < L.length by omega)
      have HOL := Aside0.mk (show (outA (L.take k) m.f0).length ≤ 800000 by have := (out_sub (L.take k) m.f0).length_le; rw [List.length_take] at this; omega)
      obtain ⟨y, hy⟩ : ∃ y, L[k]? = some y := ⟨L[k]'(by omega), List.getElem?_eq_getElem (by omega)⟩
      obtain ⟨r, rfl, c0, c1, c2, c3, c4, c5⟩ := HRr.out.at hy
      have hk0 : 0 ≤ (k : Int) := by omega
      have HOP := Aside0.mk (outA_push hy m.f0)
      have HY := Aside0.mk hy
      clear hy
      by_cases he : y.m.f0 = m.f0
      · have hne : (y.m.f0 != m.f0) = false := by simpa using he
        have HE := Aside0.mk he
        have HOE := Aside0.mk (show outA (L.take (k + 1)) m.f0 = outA (L.take k) m.f0 by rw [HOP.out, if_pos he, List.append_nil])
        clear he
        go_upto_region 7 with (fail)
        go_big_quiet (fail)
        go_upto_region 9 with (fail)
        have hnq0 := pw_below_drewN (Below.refl wr.heap.size wr) nq
        generalize wr.drewN nq = wq at hnq0 ⊢
        have hnq := below_drew1 hnq0
        have HRq := Aside0.mk (HRr.out.below hnq)
        have HMq := Aside0.mk (blk_below HMr.out hnq)
        have HBq := Aside0.mk (below_step HB.out hnq)
        have HAq := Aside0.mk (Kd.R_below HAR.out hnq)
        clear hnq hnq0 hcell m0_ c0 c1 c2 c3 c4 c5 HAR HB HRr HMr
        obtain ⟨r', hr', d0_, d1_, d2_, d3_, _, _⟩ := HRq.out.at HY.out
        injection hr' with hr'
        injection hr' with hr' _
        subst hr'
        obtain ⟨kc, hkc⟩ := rcmp_f m y.m HS.out
        have HCM0 : Aside0 (hearsayref17_Cmp.f kc m.f0 m.f1 m.f2 m.f3 y.m.f0 y.m.f1 y.m.f2 y.m.f3 = some (cmpM m y.m)) := ⟨hkc kc (Nat.le_refl _)⟩
        obtain ⟨q, hq⟩ : ∃ q, q = cmpM m y.m := ⟨_, rfl⟩
        have HCM : Aside0 (hearsayref17_Cmp.f kc m.f0 m.f1 m.f2 m.f3 y.m.f0 y.m.f1 y.m.f2 y.m.f3 = some q) := ⟨by rw [hq]; exact HCM0.out⟩
        have HQC := Aside0.mk hq
        clear hq hkc HCM0
        refine start_ (n := 11) (S := (fun w' => w'.cell? ⟨bm, 0, none⟩ = some (.int .u32 m.f0) ∧ w'.cell? ⟨bm, 1, none⟩ = some (.int .u32 m.f1) ∧ w'.cell? ⟨bm, 2, none⟩ = some (.int .u8 m.f2) ∧ w'.cell? ⟨bm, 3, none⟩ = some (.string m.f3) ∧ w'.cell? ⟨h, 1, none⟩ = some (.slice (some ⟨r, 0, none⟩) L.length c) ∧ w'.cell? ⟨r, k * 6, none⟩ = some (.int .u32 y.m.f0) ∧ w'.cell? ⟨r, k * 6 + 1, none⟩ = some (.int .u32 y.m.f1) ∧ w'.cell? ⟨r, k * 6 + 2, none⟩ = some (.int .u8 y.m.f2) ∧ w'.cell? ⟨r, k * 6 + 3, none⟩ = some (.string y.m.f3))) (ds := [9]) #[false, false, false, false, false, false, false, false, false, false, false] (by kernel_rfl) rfl rfl ⟨(blk_cell HMq.out 0).trans rfl, (blk_cell HMq.out 1).trans rfl, (blk_cell HMq.out 2).trans rfl, (blk_cell HMq.out 3).trans rfl, (blk_cell HRq.out.box 1).trans rfl, d0_, d1_, d2_, d3_⟩ (fun hHeld => ?_)
        generalize wq.drew = wd at HBq HAq HRq HMq d0_ d1_ d2_ d3_ hHeld ⊢
        refine take_ (i := 0) (N := some 42) (v := ?_) (a' := ?_) #[true, false, false, false, false, false, false, false, false, false, false] rfl rfl (by kernel_rfl) (fun _ _ _ h => h) (Or.inl ⟨by rfl, ?_⟩) hHeld ?_ ?_
        rotate_left
        · rintro w' ⟨h0_, h1_, h2_, h3_, h4_, h5_, h6_, h7_, h8_⟩
          go_simp
          with_reducible rfl
        rotate_left
        · simp only [Act.put, List.setIfInBounds_toArray, List.set_cons_zero, List.set_cons_succ, i64_w, i32_w]
          rfl
        refine pure_ (i := 1) (N := some 43) (v := ?_) (a' := ?_) #[true, true, false, false, false, false, false, false, false, false, false] rfl rfl (by kernel_rfl) (fun _ _ _ h => h) (Or.inl ⟨by rfl, ?_⟩) ?_ ?_
        rotate_left
        · intro w'
          go_simp
          with_reducible rfl
        rotate_left
        · simp only [Act.put, List.setIfInBounds_toArray, List.set_cons_zero, List.set_cons_succ, i64_w, i32_w]
          rfl
        refine pure_ (i := 2) (N := some 44) (v := ?_) (a' := ?_) #[true, true, true, false, false, false, false, false, false, false, false] rfl rfl (by kernel_rfl) (fun _ _ _ h => h) (Or.inl ⟨by rfl, ?_⟩) ?_ ?_
        rotate_left
        · intro w'
          go_simp
          with_reducible rfl
        rotate_left
        · simp only [Act.put, List.setIfInBounds_toArray, List.set_cons_zero, List.set_cons_succ, i64_w, i32_w]
          rfl
        refine pure_ (i := 3) (N := some 45) (v := ?_) (a' := ?_) #[true, true, true, true, false, false, false, false, false, false, false] rfl rfl (by kernel_rfl) (fun _ _ _ h => h) (Or.inl ⟨by rfl, ?_⟩) ?_ ?_
        rotate_left
        · intro w'
          go_simp
          with_reducible rfl
        rotate_left
        · simp only [Act.put, List.setIfInBounds_toArray, List.set_cons_zero, List.set_cons_succ, i64_w, i32_w]
          rfl
        refine take_ (i := 4) (N := some 46) (v := ?_) (a' := ?_) #[true, true, true, true, true, false, false, false, false, false, false] rfl rfl (by kernel_rfl) (fun _ _ _ h => h) (Or.inl ⟨by rfl, ?_⟩) hHeld ?_ ?_
        rotate_left
        · rintro w' ⟨h0_, h1_, h2_, h3_, h4_, h5_, h6_, h7_, h8_⟩
          go_simp
          with_reducible rfl
        rotate_left
        · simp only [Act.put, List.setIfInBounds_toArray, List.set_cons_zero, List.set_cons_succ, i64_w, i32_w]
          rfl
        refine pure_ (i := 5) (N := some 47) (v := ?_) (a' := ?_) #[true, true, true, true, true, true, false, false, false, false, false] rfl rfl (by kernel_rfl) (fun _ _ _ h => h) (Or.inl ⟨by rfl, ?_⟩) ?_ ?_
        rotate_left
        · intro w'
          go_simp
          with_reducible rfl
        rotate_left
        · simp only [Act.put, List.setIfInBounds_toArray, List.set_cons_zero, List.set_cons_succ, i64_w, i32_w]
          rfl
        refine pure_ (i := 6) (N := some 48) (v := ?_) (a' := ?_) #[true, true, true, true, true, true, true, false, false, false, false] rfl rfl (by kernel_rfl) (fun _ _ _ h => h) (Or.inl ⟨by rfl, ?_⟩) ?_ ?_
        rotate_left
        · intro w'
          go_simp
          with_reducible rfl
        rotate_left
        · simp only [Act.put, List.setIfInBounds_toArray, List.set_cons_zero, List.set_cons_succ, i64_w, i32_w]
          rfl
        refine pure_ (i := 7) (N := some 49) (v := ?_) (a' := ?_) #[true, true, true, true, true, true, true, true, false, false, false] rfl rfl (by kernel_rfl) (fun _ _ _ h => h) (Or.inl ⟨by rfl, ?_⟩) ?_ ?_
        rotate_left
        · intro w'
          go_simp
          with_reducible rfl
        rotate_left
        · simp only [Act.put, List.setIfInBounds_toArray, List.set_cons_zero, List.set_cons_succ, i64_w, i32_w]
          rfl
        refine take_ (i := 8) (N := some 50) (v := ?_) (a' := ?_) #[true, true, true, true, true, true, true, true, true, false, false] rfl rfl (by kernel_rfl) (fun _ _ _ h => h) (Or.inl ⟨by rfl, ?_⟩) hHeld ?_ ?_
        rotate_left
        · rintro w' ⟨h0_, h1_, h2_, h3_, h4_, h5_, h6_, h7_, h8_⟩
          go_simp
          with_reducible rfl
        rotate_left
        · simp only [Act.put, List.setIfInBounds_toArray, List.set_cons_zero, List.set_cons_succ, i64_w, i32_w]
          rfl
        refine last_ (i := 9) (N := some 51) #[true, true, true, true, true, true, true, true, true, true, false] rfl rfl (by kernel_rfl) (by decide) (fun K hK => ?_)
        refine goes_ Try.func29 (by kernel_rfl) rfl #[.agg #[.int .u32 m.f0, .int .u32 m.f1, .int .u8 m.f2, .string m.f3], .agg #[.int .u32 y.m.f0, .int .u32 y.m.f1, .int .u8 y.m.f2, .string y.m.f3]] (by rfl) rfl rfl (by (try simp only [List.map_toArray, List.map_cons, List.map_nil]); first | done | rfl) ?_
        (with_reducible refine (hearsayref17_Cmp.calls kc m.f0 m.f1 m.f2 m.f3 y.m.f0 y.m.f1 y.m.f2 y.m.f3 q _ HCM.out).mono ?_)
        rintro e_ w8 ⟨rfl, hb8⟩
        have HB8 := Aside0.mk (below_step HBq.out hb8)
        have HA8 := Aside0.mk (Kd.R_below HAq.out hb8)
        clear hb8
        refine ⟨_, rfl, ?_⟩
        refine hK.out _ _ ?_
        clear hK K
        refine norm_ (a' := ?_) ?_ ?_
        rotate_left
        · show Act.put _ (some 51) _ = _
          simp only [Act.put, List.setIfInBounds_toArray, List.set_cons_zero, List.set_cons_succ, i64_w, i32_w]
          rfl
        refine pure_ (i := 10) (N := some 52) (v := ?_) (a' := ?_) #[true, true, true, true, true, true, true, true, true, true, true] rfl rfl (by kernel_rfl) (fun _ _ _ h => h) (Or.inl ⟨by rfl, ?_⟩) ?_ ?_
        rotate_left
        · intro w'
          go_simp
          with_reducible rfl
        rotate_left
        · simp only [Act.put, List.setIfInBounds_toArray, List.set_cons_zero, List.set_cons_succ, i64_w, i32_w]
          rfl
        refine done_ (by kernel_rfl) ?_
        by_cases hq0 : q ≤ 0
        · go_wp2
          refine bodyPost_ret (results_tmp2 rfl _ _ _) rfl ?_
          have e1 := HQ.out.trans (addL_weak HA.out.adr HMM.out (List.mem_of_getElem? HY.out) HE.out (by rw [← HQC.out]; exact hq0))
          subst e1
          have hb := below_step HB2.out HB8.out
          exact ⟨rfl, _, ⟨_, HR.out.below hb⟩, Kp.of hb, fun j hj => Or.inl hj⟩
        · have HAE := HA8
          have HBE := HB8
          have HNN : Aside0 (∀ (j : Nat) (x : One), j < k + 1 → L[j]? = some x → x.m.f0 = m.f0 → 0 < cmpM m x.m) := ⟨fun j x hj hx he => by
            rcases Nat.lt_or_ge j k with h' | h'
            · exact HN.out j x h' hx he
            · obtain rfl : j = k := by omega
              rw [HY.out] at hx
              injection hx with hx
              subst hx
              have := HQC.out
              omega⟩
          go_wp2
          go_roundw
          case rel => exact ⟨k + 1, A, ca, by have := HLT.out; omega, by rw [HOE.out]; first | done | simp, by go_num, ⟨by rw [HOE.out]; exact HAE.out⟩, HBE, ⟨HNN.out⟩⟩
          case measure => have := HLT.out; simp [intOf, wrap64]; omega
      · have hne : (y.m.f0 != m.f0) = true := by simpa using he
        have HE := Aside0.mk he
        have HOE := Aside0.mk (show outA (L.take (k + 1)) m.f0 = outA (L.take k) m.f0 ++ [y] by rw [HOP.out, if_neg he])
        clear he
        go_upto_region 7 with (fail)
        go_big_quiet (fail)
        go_upto_region 8 with (fail)
        have hnq := (pw_below_drewN (Below.refl wr.heap.size wr) nq)
        have HRq := Aside0.mk (HRr.out.below hnq)
        have HBq := Aside0.mk (below_step HB.out hnq)
        have HAq := Aside0.mk (Kd.R_below HAR.out hnq)
        clear hnq hcell m0_ c0 c1 c2 c3 c4 c5 HAR HB HRr HMr
        generalize wr.drewN nq = wq at HRq HBq HAq ⊢
        have hcell : wq.cell? ⟨h, 1, none⟩ = some (.slice (some ⟨r, 0, none⟩) L.length c) := (blk_cell HRq.out.box 1).trans rfl
        obtain ⟨r', hr', d0_, d1_, d2_, d3_, d4_, d5_⟩ := HRq.out.at HY.out
        injection hr' with hr'
        injection hr' with hr' _
        subst hr'
        have HBA := Aside0.mk (below_alloc HBq.out (.cells #[.int .u32 y.m.f0, .int .u32 y.m.f1, .int .u8 y.m.f2, .string y.m.f3, .int .i64 y.sent, .int .i64 y.tm] 72))
        go_wp2_with ((with_reducible refine gate_dst (N := 41) rfl ?_); refine stop_ ?_)
        refine StopAt.mk ?_
        refine Kd.R_append_rows kO (w0 := w2) w2.heap.size ?hg (.tmp 32) (.tmp 40) 58 72 (.agg #[.int .u32 0, .int .u32 0, .int .u8 0, .string ⟨#[]⟩, .int .i64 0, .int .i64 0]) 48 ?ho Try.underlying58 infoO rfl (by decide) (by omega) (.slice A (outA (L.take k) m.f0).length ca) (outA (L.take k) m.f0) [y] (some ⟨wq.heap.size, 0, none⟩) 1 1 (fun _ => True) (fun _ => False) ?h1 ?h2 (Kd.R_alloc HAq.out _) (one_CO wq y) (fun _ _ h => h) (fun _ h => h.elim) (fun _ _ => trivial) HBA.out HBA.out.size (by have := HOL.out; omega) ?_
        case hg => rfl
        case ho => rfl
        case h1 => rfl
        case h2 => rfl
        intro v41 w3 hr1_ hb1_ hg1_ ha1_
        obtain ⟨A', ca', rfl⟩ := Kd.R_slice hr1_
        have HA3 := Aside0.mk hr1_
        have HB3 := Aside0.mk hb1_
        clear hr1_ hb1_ hg1_ ha1_
        have HNN : Aside0 (∀ (j : Nat) (x : One), j < k + 1 → L[j]? = some x → x.m.f0 = m.f0 → 0 < cmpM m x.m) := ⟨fun j x hj hx he => by
          rcases Nat.lt_or_ge j k with h' | h'
          · exact HN.out j x h' hx he
          · obtain rfl : j = k := by omega
            rw [HY.out] at hx
            injection hx with hx
            subst hx
            exact absurd he HE.out⟩
        go_wp2
        go_roundw
        case rel => exact ⟨k + 1, A', ca', by have := HLT.out; omega, by rw [HOE.out]; first | done | simp, by go_num, ⟨by rw [HOE.out]; exact HA3.out⟩, HB3, HNN⟩
        case measure => have := HLT.out; simp [intOf, wrap64]; omega
    · obtain rfl : k = L.length := by omega
      have HQ2 := Aside0.mk (HQ.out.trans (addL_put HMM.out (fun j x hj hx he => by have := HN.out j x hj hx he; omega)))
      rw [List.take_length] at HAR
      have e0 : (outA (L.take L.length) m.f0).length = (outA L m.f0).length := by rw [List.take_length]
      rw [e0]
      have HOL := Aside0.mk (show (outA L m.f0).length ≤ 900000 by have := (out_sub L m.f0).length_le; omega)
      have hw_ : wrap64 (nx + 1) = nx + 1 := by have := HX.out; unfold wrap64; omega
      have hf1 := blk_frozen HRr.out.box 1
      have hf2 := blk_frozen HRr.out.box 2
      clear e0 m0_ HN HQ
      go_upto_region 12 with (fail)
      have HR3 : Aside0 (Rf (wr.setCell ⟨h, 1, none⟩ (.slice A (outA L m.f0).length ca)) h t nx A ca (outA L m.f0)) := ⟨⟨blk_put HRr.out.box 1 _ rfl, Kd.R_lower (Kd.R_set HAR.out HRr.out.box (fun q hq => kO_ty hq) 1 _) (Nat.zero_le _)⟩⟩
      have HM3 : Aside0 ((wr.setCell ⟨h, 1, none⟩ (.slice A (outA L m.f0).length ca)).heap[bm]? = some (.cells #[.int .u32 m.f0, .int .u32 m.f1, .int .u8 m.f2, .string m.f3] 33 (0, 0))) := ⟨blk_far HMr.out (blk_ne HMr.out HRr.out.box (by decide)) _⟩
      have hB := HB2.out
      have HB3 : Aside0 (Kp w (wr.setCell ⟨h, 1, none⟩ (.slice A (outA L m.f0).length ca)) (fun k => k = h)) := ⟨(Kp.of (below_step HB2.out HB.out)).set h 1 _ (fun _ => rfl)⟩
      have HAO : Aside0 (∀ j, (∃ a, A = some a ∧ a.block = j) → w.heap.size ≤ j) := ⟨fun j hj => by have := Kd.R_base HAR.out j (slice_own hj); have := hB.size; omega⟩
      clear hB hcell hf1 hf2 HAR HB HRr HMr hlt
      generalize wr.setCell ⟨h, 1, none⟩ (.slice A (outA L m.f0).length ca) = w3 at HR3 HM3 HB3 ⊢
      have hc2 : w3.cell? ⟨h, 2, none⟩ = some (.int .i64 nx) := (blk_cell HR3.out.box 2).trans rfl
      have hf2 := blk_frozen HR3.out.box 2
      go_upto_region 13 with (fail)
      have HR4 : Aside0 (Rf (w3.setCell ⟨h, 2, none⟩ (.int .i64 (nx + 1))) h t (nx + 1) A ca (outA L m.f0)) := ⟨⟨blk_put HR3.out.box 2 _ rfl, Kd.R_set HR3.out.row HR3.out.box (fun q hq => kO_ty hq) 2 _⟩⟩
      have HM4 : Aside0 ((w3.setCell ⟨h, 2, none⟩ (.int .i64 (nx + 1))).heap[bm]? = some (.cells #[.int .u32 m.f0, .int .u32 m.f1, .int .u8 m.f2, .string m.f3] 33 (0, 0))) := ⟨blk_far HM3.out (blk_ne HM3.out HR3.out.box (by decide)) _⟩
      have HB4 : Aside0 (Kp w (w3.setCell ⟨h, 2, none⟩ (.int .i64 (nx + 1))) (fun k => k = h)) := ⟨HB3.out.set h 2 _ (fun _ => rfl)⟩
      clear HR3 HM3 HB3 hc2 hf2
      generalize w3.setCell ⟨h, 2, none⟩ (.int .i64 (nx + 1)) = w4 at HR4 HM4 HB4 ⊢
      have hbd := below_drew1 (Below.refl w4.heap.size w4)
      have HR5 := Aside0.mk (HR4.out.below hbd)
      have HM5 := Aside0.mk (blk_below HM4.out hbd)
      have HB5 := Aside0.mk (HB4.out.trans (Kp.of (S := fun _ => False) hbd) (fun _ _ h => h.elim))
      clear hbd HR4 HM4 HB4
      refine start_ (n := 8) (S := (fun w' => w'.cell? ⟨bm, 0, none⟩ = some (.int .u32 m.f0) ∧ w'.cell? ⟨bm, 1, none⟩ = some (.int .u32 m.f1) ∧ w'.cell? ⟨bm, 2, none⟩ = some (.int .u8 m.f2) ∧ w'.cell? ⟨bm, 3, none⟩ = some (.string m.f3) ∧ w'.cell? ⟨h, 2, none⟩ = some (.int .i64 (nx + 1)))) (ds := [7]) #[false, false, false, false, false, false, false, false] (by kernel_rfl) rfl rfl ⟨(blk_cell HM5.out 0).trans rfl, (blk_cell HM5.out 1).trans rfl, (blk_cell HM5.out 2).trans rfl, (blk_cell HM5.out 3).trans rfl, (blk_cell HR5.out.box 2).trans rfl⟩ (fun hHeld => ?_)
      generalize w4.drew = wd at HR5 HM5 HB5 hHeld ⊢
      refine pure_ (i := 0) (N := some 65) (v := ?_) (a' := ?_) #[true, false, false, false, false, false, false, false] rfl rfl (by kernel_rfl) (fun _ _ _ h => h) (Or.inl ⟨by rfl, ?_⟩) ?_ ?_
      rotate_left
      · intro w'
        go_simp
        with_reducible rfl
      rotate_left
      · simp only [Act.put, List.setIfInBounds_toArray, List.set_cons_zero, List.set_cons_succ, i64_w, i32_w]
        rfl
      refine take_ (i := 1) (N := some 66) (v := ?_) (a' := ?_) #[true, true, false, false, false, false, false, false] rfl rfl (by kernel_rfl) (fun _ _ _ h => h) (Or.inl ⟨by rfl, ?_⟩) hHeld ?_ ?_
      rotate_left
      · rintro w' ⟨h0_, h1_, h2_, h3_, h4_⟩
        go_simp
        with_reducible rfl
      rotate_left
      · simp only [Act.put, List.setIfInBounds_toArray, List.set_cons_zero, List.set_cons_succ, i64_w, i32_w]
        rfl
      refine pure_ (i := 2) (N := some 67) (v := ?_) (a' := ?_) #[true, true, true, false, false, false, false, false] rfl rfl (by kernel_rfl) (fun _ _ _ h => h) (Or.inl ⟨by rfl, ?_⟩) ?_ ?_
      rotate_left
      · intro w'
        go_simp
        with_reducible rfl
      rotate_left
      · simp only [Act.put, List.setIfInBounds_toArray, List.set_cons_zero, List.set_cons_succ, i64_w, i32_w]
        rfl
      refine pure_ (i := 3) (N := some 68) (v := ?_) (a' := ?_) #[true, true, true, true, false, false, false, false] rfl rfl (by kernel_rfl) (fun _ _ _ h => h) (Or.inl ⟨by rfl, ?_⟩) ?_ ?_
      rotate_left
      · intro w'
        go_simp
        with_reducible rfl
      rotate_left
      · simp only [Act.put, List.setIfInBounds_toArray, List.set_cons_zero, List.set_cons_succ, i64_w, i32_w]
        rfl
      refine pure_ (i := 4) (N := some 69) (v := ?_) (a' := ?_) #[true, true, true, true, true, false, false, false] rfl rfl (by kernel_rfl) (fun _ _ _ h => h) (Or.inl ⟨by rfl, ?_⟩) ?_ ?_
      rotate_left
      · intro w'
        go_simp
        with_reducible rfl
      rotate_left
      · simp only [Act.put, List.setIfInBounds_toArray, List.set_cons_zero, List.set_cons_succ, i64_w, i32_w]
        rfl
      refine take_ (i := 5) (N := some 70) (v := ?_) (a' := ?_) #[true, true, true, true, true, true, false, false] rfl rfl (by kernel_rfl) (fun _ _ _ h => h) (Or.inl ⟨by rfl, ?_⟩) hHeld ?_ ?_
      rotate_left
      · rintro w' ⟨h0_, h1_, h2_, h3_, h4_⟩
        go_simp
        with_reducible rfl
      rotate_left
      · simp only [Act.put, List.setIfInBounds_toArray, List.set_cons_zero, List.set_cons_succ, i64_w, i32_w]
        rfl
      refine pure_ (i := 6) (N := some 71) (v := ?_) (a' := ?_) #[true, true, true, true, true, true, true, false] rfl rfl (by kernel_rfl) (fun _ _ _ h => h) (Or.inl ⟨by rfl, ?_⟩) ?_ ?_
      rotate_left
      · intro w'
        go_simp
        with_reducible rfl
      rotate_left
      · simp only [Act.put, List.setIfInBounds_toArray, List.set_cons_zero, List.set_cons_succ, i64_w, i32_w]
        rfl
      refine last_ (i := 7) (N := some 72) #[true, true, true, true, true, true, true, true] rfl rfl (by kernel_rfl) (by decide) (fun K hK => ?_)
      refine goes_ Try.func30 (by kernel_rfl) rfl #[.pointer (some ⟨h, 0, none⟩), .agg #[.int .u32 m.f0, .int .u32 m.f1, .int .u8 m.f2, .string m.f3, .int .i64 0, .int .i64 (nx + 1)]] (by rfl) rfl rfl (by (try simp only [List.map_toArray, List.map_cons, List.map_nil]); first | done | rfl) ?_
      refine (rput_calls wd h t (nx + 1) A ca (outA L m.f0) ⟨m, 0, nx + 1⟩ HR5.out HOL.out).mono ?_
      rintro e_ w6 ⟨p6, c6, rfl, h1_, h2_, h3_⟩
      have HR6 := Aside0.mk h1_
      have HK6 := Aside0.mk h2_
      have HP6 := Aside0.mk h3_
      clear h1_ h2_ h3_
      refine ⟨_, rfl, ?_⟩
      refine hK.out _ _ ?_
      clear hK K
      refine norm_ (a' := ?_) ?_ ?_
      rotate_left
      · show Act.put _ (some 72) _ = _
        simp only [Act.put, List.setIfInBounds_toArray, List.set_cons_zero, List.set_cons_succ, i64_w, i32_w]
        rfl
      refine done_ (by kernel_rfl) ?_
      try go_wp2
      refine bodyPost_ret (results_tmp2 rfl _ _ _) rfl ?_
      have e1 := HQ2.out
      subst e1
      have hi := ins_head (x := ⟨m, 0, nx + 1⟩) (L := outA L m.f0) rfl (fun y hy => (HA.out.snt y ((out_sub L m.f0).subset hy)).1) (fun y hy => by have := HA.out.tms y ((out_sub L m.f0).subset hy); show y.tm < nx + 1; omega)
      have h6 := HR6.out
      rw [hi] at h6
      refine ⟨p6, c6, rfl, h6, (HB5.out.trans HK6.out (fun k hk hk' => ?_)).mono (fun k hk => Or.inl hk), fun j hj => ?_⟩
      · rcases hk' with hk' | hk'
        · exact hk'
        · have := HAO.out k hk'; omega
      · rcases HP6.out j hj with (hj | hj) | hj
        · exact Or.inl (Or.inl hj)
        · exact Or.inr (HAO.out j hj)
        · have := HB5.out.size; exact Or.inr (by omega)
theorem radd_calls (w : World) (h : Nat) (t nx : Int) (p : Option Addr) (c : Nat) (L : List One) (m : Mem) (hR : Rf w h t nx p c L) (hA : Al t nx L) (hl : L.length ≤ 800000) (hx : 0 ≤ nx ∧ nx ≤ 1000000000) (hs : m.f3.size ≤ 9223372036854775807) :
    Calls Try.prog 11 #[.pointer (some ⟨h, 0, none⟩), .agg #[.int .u32 m.f0, .int .u32 m.f1, .int .u8 m.f2, .string m.f3]] w fun e w' => ∃ p' c', e = .returned (.tuple #[.bool (addL L nx m).1, .int .i64 (addL L nx m).2.1]) ∧ Rf w' h t (addL L nx m).2.2.2 p' c' (addL L nx m).2.2.1 ∧ Kp w w' (RB h p) ∧ ∀ j, RB h p' j → RB h p j ∨ w.heap.size ≤ j := by
  cases hm : mayM m with
  | false =>
    have e : addL L nx m = (false, 170, L, nx) := by unfold addL; rw [if_pos hm]
    rw [e]
    exact (radd_bad w h m hm).mono (fun e w' hh => ⟨p, c, hh.1, hR.below hh.2, Kp.of hh.2, fun j hj => Or.inl hj⟩)
  | true => exact radd_good w h t nx p c L m hR hA hl hx hs hm
end Go.Proofs.Ytihmblbnnhcdnaa.Print
end
section
/- The document's List, walked. -/
namespace Go.Proofs.Ytihmblbnnhcdnaa.Print
open Go.RowKit Go.Maps Go.ChangeMaps Go.Proofs.YtihmblbnnhcdnaaW.PrintWords Go.Proofs.YtihmblbnnhcdnaaW.PrintLast Go.Proofs.YtihmblbnnhcdnaaW.PrintMore
set_option linter.unusedVariables false
set_option linter.unusedSimpArgs false
theorem one_CM' (W : World) (x : Mem) : Kd.C k33 (W.alloc (.cells #[.int .u32 x.f0, .int .u32 x.f1, .int .u8 x.f2, .string x.f3] 33)) (some ⟨W.heap.size, 0, none⟩) 1 [x] := by
  refine ⟨rfl, by simp, fun _ => ⟨⟨W.heap.size, 0, none⟩, rfl, fun j p hj => ?_⟩⟩
  have hj0 : j = 0 := by have := (List.getElem?_eq_some_iff.1 hj).1; simp at this; omega
  subst hj0
  have e : x = p := by simpa using hj
  subst e
  refine ⟨_, rfl, k33_mk _ x, fun i u hu => ?_⟩
  have h1 := blk_cell (blk_new W (.cells #[.int .u32 x.f0, .int .u32 x.f1, .int .u8 x.f2, .string x.f3] 33)) i
  have e2 : (⟨W.heap.size, 0, none⟩ : Addr).add (0 * k33.sz + i) = ⟨W.heap.size, i, none⟩ := by
    have : 0 * k33.sz + i = i := by omega
    rw [this]
    simp [Addr.add]
    exact fun h => h.symm
  rw [e2, h1]
  have e3 : (#[.int .u32 x.f0, .int .u32 x.f1, .int .u8 x.f2, .string x.f3] : Array Value)[i]? = ([.int .u32 x.f0, .int .u32 x.f1, .int .u8 x.f2, .string x.f3] : List Value)[i]? := by simp
  rw [e3]
  exact hu
theorem map_push {L : List One} {k : Nat} {y : One} (h : L[k]? = some y) : (L.take (k + 1)).map (·.m) = (L.take k).map (·.m) ++ [y.m] := by rw [List.take_add_one, h, List.map_append]; rfl
set_option maxHeartbeats 8000000 in
set_option maxRecDepth 100000 in
theorem rlist_calls (w : World) (h : Nat) (t nx : Int) (p : Option Addr) (c : Nat) (L : List One) (hR : Rf w h t nx p c L) (hl : L.length ≤ 800000) : Calls Try.prog 17 #[.pointer (some ⟨h, 0, none⟩)] w fun e w' =>
    ∃ A ca, e = .returned (.slice A L.length ca) ∧ Kd.R k33 33 w' w.heap.size (fun _ => True) (.slice A L.length ca) (L.map (·.m)) ∧ Below w.heap.size w w' := by
  have hu33 := Try.underlying33
  have HR := Aside0.mk hR
  clear hR
  go_enter Try.func17, Try.ntmps17
  go_wp2
  go_loopw [3, 4] (fun v i wr => ∃ (k : Nat) (A : Option Addr) (ca : Nat), k ≤ L.length ∧ v = .slice A k ca ∧ i = .int .i64 k ∧ Aside0 (Kd.R k33 33 wr w.heap.size (fun _ => True) (.slice A k ca) ((L.take k).map (·.m))) ∧ Aside0 (Below w.heap.size w wr)) (fun _ i _ => L.length - (intOf i).toNat)
  case atStart => exact ⟨0, none, 0, Nat.zero_le _, rfl, rfl, ⟨Kd.R_nil _ _ _ _ _⟩, ⟨Below.refl _ _⟩⟩
  case round =>
    obtain ⟨k, A, ca, hk, rfl, rfl, HA, HB⟩ := hrel
    have HRr := Aside0.mk (HR.out.below HB.out)
    have hcell : wr.cell? ⟨h, 1, none⟩ = some (.slice p L.length c) := (blk_cell HRr.out.box 1).trans rfl
    by_cases hlt : (k : Int) < (L.length : Int)
    · have HLT := Aside0.mk (show k < L.length by omega)
      obtain ⟨y, hy⟩ : ∃ y, L[k]? = some y := ⟨L[k]'(by omega), List.getElem?_eq_getElem (by omega)⟩
      obtain ⟨r, rfl, c0, c1, c2, c3, _, _⟩ := HRr.out.at hy
      have hk0 : 0 ≤ (k : Int) := by omega
      have HP := Aside0.mk (map_push hy)
      have HBA := Aside0.mk (below_alloc HB.out (.cells #[.int .u32 y.m.f0, .int .u32 y.m.f1, .int .u8 y.m.f2, .string y.m.f3] 33))
      clear hy
      go_wp2_with ((with_reducible refine gate_dst (N := 24) rfl ?_); refine stop_ ?_)
      refine StopAt.mk ?_
      refine Kd.R_append_rows k33 (w0 := w) w.heap.size ?hg (.tmp 14) (.tmp 23) 39 33 (.agg #[.int .u32 0, .int .u32 0, .int .u8 0, .string ⟨#[]⟩]) 32 ?ho Try.underlying39 info33 rfl (by decide) (by omega) (.slice A k ca) ((L.take k).map (·.m)) [y.m] (some ⟨wr.heap.size, 0, none⟩) 1 1 (fun _ => True) (fun _ => False) ?h1 ?h2 (Kd.R_alloc HA.out _) (one_CM' wr y.m) (fun _ _ h => h) (fun _ h => h.elim) (fun _ _ => trivial) HBA.out HBA.out.size (by rw [List.length_map, List.length_take]; have := HLT.out; omega) ?_
      case hg => rfl
      case ho => rfl
      case h1 => rfl
      case h2 => rfl
      intro v1 w3 hr1_ hb1_ hg1_ ha1_
      obtain ⟨A', ca', rfl⟩ := Kd.R_slice hr1_
      have HR1 := Aside0.mk hr1_
      have HB3 := Aside0.mk hb1_
      have e1 : ((L.take k).map (·.m) ++ [y.m]).length = k + 1 := by simp; have := HLT.out; omega
      rw [e1] at HR1 ⊢
      clear hr1_ hb1_ hg1_ ha1_ e1
      go_wp2
      go_roundw
      case rel => exact ⟨k + 1, A', ca', by have := HLT.out; omega, rfl, by go_num, ⟨by rw [HP.out]; exact HR1.out⟩, HB3⟩
      case measure => have := HLT.out; simp [intOf, wrap64]; omega
    · obtain rfl : k = L.length := by omega
      rw [List.take_length] at HA
      go_wp2
      go_ret
      exact ⟨A, ca, rfl, HA.out, HB.out⟩
end Go.Proofs.Ytihmblbnnhcdnaa.Print
end
section
/- The document's Take, walked. -/
namespace Go.Proofs.Ytihmblbnnhcdnaa.Print
open Go.RowKit Go.Maps Go.ChangeMaps Go.Proofs.YtihmblbnnhcdnaaW.PrintWords Go.Proofs.YtihmblbnnhcdnaaW.PrintLast Go.Proofs.YtihmblbnnhcdnaaW.PrintMore
set_option linter.unusedVariables false
set_option linter.unusedSimpArgs false
theorem puts_push (t : Int) {L : List One} {k : Nat} {y : One} (h : L[k]? = some y) (R : List One) : puts t (L.take (k + 1)) R = if y.sent + 1 < t then insO (sentO y) (puts t (L.take k) R) else puts t (L.take k) R := by
  rw [List.take_add_one, h]
  exact puts_snoc t y _ R
theorem puts_len (t : Int) (ps R : List One) : (puts t ps R).length ≤ R.length + ps.length := by
  rw [(puts_perm t ps R).length_eq, List.length_append]
  have : (backL t ps).length ≤ ps.length := List.length_filterMap_le _ _
  omega
theorem takeN_all {L : List One} {kk : Int} (h : (L.length : Int) < kk) : takeN L kk = L.length := by unfold takeN; omega
theorem take_none {t : Int} {L : List One} {kk : Int} (h : takeN L kk = 0) : takeL t L kk = L := by unfold takeL; rw [h]; rfl
theorem add0_ (r n : Nat) : (⟨r, 0, none⟩ : Addr).add n = ⟨r, n, none⟩ := by simp [Addr.add]; exact fun h => h.symm
theorem put6 {w : World} {g : Nat} {a b c d e f : Value} (h : w.heap[g]? = some (.cells #[a, b, c, d, e, f] 72 (0, 0))) (y : One) :
    ((((((w.setCell ⟨g, 0, none⟩ (.int .u32 y.m.f0)).setCell ⟨g, 1, none⟩ (.int .u32 y.m.f1)).setCell ⟨g, 2, none⟩ (.int .u8 y.m.f2)).setCell ⟨g, 3, none⟩ (.string y.m.f3)).setCell ⟨g, 4, none⟩ (.int .i64 y.sent)).setCell ⟨g, 5, none⟩ (.int .i64 y.tm)).heap[g]? = some (.cells #[.int .u32 y.m.f0, .int .u32 y.m.f1, .int .u8 y.m.f2, .string y.m.f3, .int .i64 y.sent, .int .i64 y.tm] 72 (0, 0)) :=
  blk_put (blk_put (blk_put (blk_put (blk_put (blk_put h 0 _ rfl) 1 _ rfl) 2 _ rfl) 3 _ rfl) 4 _ rfl) 5 _ rfl
set_option maxHeartbeats 40000000 in
set_option maxRecDepth 100000 in
theorem rtake_calls (w : World) (h : Nat) (t nx : Int) (p : Option Addr) (c : Nat) (L : List One) (kk : Int) (hR : Rf w h t nx p c L) (hl : L.length ≤ 400000) (hsn : ∀ x ∈ L, 0 ≤ x.sent ∧ x.sent < t) (ht : t ≤ 64) : Calls Try.prog 14 #[.pointer (some ⟨h, 0, none⟩), .int .i64 kk] w fun e w' =>
    ∃ A ca p' c', e = .returned (.slice A (takeN L kk) ca) ∧ Kd.R k33 33 w' w.heap.size (fun _ => True) (.slice A (takeN L kk) ca) ((L.take (takeN L kk)).map (·.m)) ∧ Rf w' h t nx p' c' (takeL t L kk) ∧ Kp w w' (RB h p) ∧ ∀ j, RB h p' j → RB h p j ∨ w.heap.size ≤ j := by
  have hu33 := Try.underlying33
  have hu72 := Try.underlying72
  have HR := Aside0.mk hR
  have HSN := Aside0.mk hsn
  have HT := Aside0.mk ht
  have HLL := Aside0.mk hl
  have hcell : w.cell? ⟨h, 1, none⟩ = some (.slice p L.length c) := (blk_cell hR.box 1).trans rfl
  have HCAP := Aside0.mk hR.cap
  clear hR hsn ht
  obtain ⟨k, hkd⟩ : ∃ k, k = takeN L kk := ⟨_, rfl⟩
  obtain ⟨LT, hLT⟩ : ∃ LT, LT = takeL t L kk := ⟨_, rfl⟩
  rw [← hkd, ← hLT]
  have HLT' := Aside0.mk hLT
  have HKD := Aside0.mk hkd
  clear hLT
  have hk0 : 0 ≤ (k : Int) := by omega
  by_cases hk1 : (k : Int) < 1
  · obtain rfl : k = 0 := by omega
    have hz : kk < 1 ∨ ((L.length : Int) < kk ∧ L.length = 0) := by unfold takeN at hkd; omega
    have HTN := Aside0.mk (HLT'.out.trans (take_none HKD.out.symm))
    go_enter Try.func14, Try.ntmps14
    clear hkd
    rcases hz with hz | ⟨hz1, hz2⟩
    · by_cases hz3 : kk > (L.length : Int)
      · omega
      · go_wp2
        go_ret
        first | exact ⟨none, 0, rfl, Kd.R_nil _ _ _ _ _, ⟨p, ⟨c, by rw [HTN.out]; exact HR.out⟩, Kp.of (Below.refl _ _), fun j hj => Or.inl hj⟩⟩ | exact ⟨none, ⟨0, rfl, Kd.R_nil _ _ _ _ _⟩, p, ⟨c, by rw [HTN.out]; exact HR.out⟩, Kp.of (Below.refl _ _), fun j hj => Or.inl hj⟩ | exact ⟨none, 0, p, c, rfl, Kd.R_nil _ _ _ _ _, by rw [HTN.out]; exact HR.out, Kp.of (Below.refl _ _), fun j hj => Or.inl hj⟩
    · have hz3 : kk > (L.length : Int) := hz1
      have hz4 : ((L.length : Nat) : Int) < 1 := by omega
      go_wp2
      go_ret
      first | exact ⟨none, 0, rfl, Kd.R_nil _ _ _ _ _, ⟨p, ⟨c, by rw [HTN.out]; exact HR.out⟩, Kp.of (Below.refl _ _), fun j hj => Or.inl hj⟩⟩ | exact ⟨none, ⟨0, rfl, Kd.R_nil _ _ _ _ _⟩, p, ⟨c, by rw [HTN.out]; exact HR.out⟩, Kp.of (Below.refl _ _), fun j hj => Or.inl hj⟩ | exact ⟨none, 0, p, c, rfl, Kd.R_nil _ _ _ _ _, by rw [HTN.out]; exact HR.out, Kp.of (Below.refl _ _), fun j hj => Or.inl hj⟩
  · have HKL := Aside0.mk (show k ≤ L.length by unfold takeN at hkd; omega)
    have hs : (kk > (L.length : Int) ∧ k = L.length ∧ ¬ (L.length : Int) < 1) ∨ (¬ kk > (L.length : Int) ∧ kk = (k : Int) ∧ ¬ kk < 1) := by unfold takeN at hkd; omega
    have hkl_ : k ≤ L.length := HKL.out
    have hkc_ : k ≤ c := Nat.le_trans HKL.out HCAP.out.1
    have hcm_ : c ≤ 9223372036854775807 := HCAP.out.2
    obtain ⟨A', hcut, hcutC⟩ := cutQ p L.length c k HKL.out
    have HCD0 := hcutC _ L HCAP.out.1 (Kd.R_reads' HR.out.row).2.2
    obtain ⟨D, hD⟩ : ∃ D, D = L.drop k := ⟨_, rfl⟩
    rw [show L.length - k = D.length by rw [hD, List.length_drop], ← hD] at HCD0
    rw [show L.length - k = D.length by rw [hD, List.length_drop]] at hcut
    have HCD := Aside0.mk HCD0
    have HD := Aside0.mk hD
    have HDL := Aside0.mk (show D.length ≤ 400000 by rw [hD, List.length_drop]; omega)
    clear HCD0 hD
    have HCT : Aside0 (kO.C w p k (L.take k)) := ⟨by
      have h1 := Kd.C_take (Kd.R_reads' HR.out.row).2.2 HKL.out
      rw [show (L.take k).length = k by rw [List.length_take]; omega] at h1
      exact h1⟩
    clear hcutC hkd
    go_enter Try.func14, Try.ntmps14
    rcases hs with ⟨hs1, hs2, hs3⟩ | ⟨hs1, hs2, hs3⟩
    · go_upto_region 6 with (fail)
      have hLk : Value.int IntKind.i64 ((L.length : Nat) : Int) = Value.int IntKind.i64 (k : Int) := by rw [hs2]
      simp only [hLk]
      clear hLk hs1 hs2 hs3
      go_wp2_with ((with_reducible refine gate_dst (N := 30) rfl ?_); refine stop_ ?_)
      refine StopAt.mk ?_
      refine Kd.R_append_rows kO (w0 := w) w.heap.size ?hg (.const (.slice none 0 0)) (.tmp 29) 58 72 (.agg #[.int .u32 0, .int .u32 0, .int .u8 0, .string ⟨#[]⟩, .int .i64 0, .int .i64 0]) 48 ?ho Try.underlying58 infoO rfl (by decide) (by omega) (.slice none 0 0) [] (L.take k) p k c (fun _ => True) (fun _ => False) ?h1 ?h2 (Kd.R_nil _ _ _ _ _) HCT.out (fun _ _ h => h) (fun _ h => h.elim) (fun _ _ => trivial) (Below.refl _ _) (Nat.le_refl _) (by have := HLL.out; have := HKL.out; simp only [List.length_nil]; omega) ?_
      case hg => rfl
      case ho => rfl
      case h1 => rfl
      case h2 => rfl
      intro v30 w1 hr1_ hb1_ hg1_ ha1_
      clear hg1_ ha1_
      have HF1 : Aside0 (kO.R 72 w1 w.heap.size (fun _ => True) v30 (L.take k)) := ⟨hr1_⟩
      obtain ⟨A1, c1, e1_⟩ := Kd.R_slice HF1.out
      rw [show (L.take k).length = k by rw [List.length_take]; have := HKL.out; omega] at e1_
      subst e1_
      have HB1 := Aside0.mk hb1_
      have hcell1 : w1.cell? ⟨h, 1, none⟩ = some (.slice p L.length c) := (blk_cell (HR.out.below hb1_).box 1).trans rfl
      have hfz1 := blk_frozen (HR.out.below hb1_).box 1
      have HCD1 := Aside0.mk (Kd.C_below HCD.out hb1_)
      clear hr1_ hb1_ hcell
      go_upto_region 7 with (fail)
      go_wp2_with ((with_reducible refine gate_dst (N := 38) rfl ?_); refine stop_ ?_)
      refine StopAt.mk ?_
      refine Kd.R_append_rows kO (w0 := w) w.heap.size ?hg (.const (.slice none 0 0)) (.tmp 37) 58 72 (.agg #[.int .u32 0, .int .u32 0, .int .u8 0, .string ⟨#[]⟩, .int .i64 0, .int .i64 0]) 48 ?ho Try.underlying58 infoO rfl (by decide) (by omega) (.slice none 0 0) [] D A' D.length (c - k) (fun j => w1.heap.size ≤ j) (fun _ => False) ?h1 ?h2 (Kd.R_nil _ _ _ _ _) HCD1.out (fun _ _ h => h) (fun _ h => h.elim) (fun _ h => h) HB1.out HB1.out.size (by have := HDL.out; simp only [List.length_nil]; omega) ?_
      case hg => rfl
      case ho => rfl
      case h1 => rfl
      case h2 => rfl
      intro v38 w2 hr2_ hb2_ hg2_ ha2_
      clear ha2_
      have HR2r : Aside0 (kO.R 72 w2 w.heap.size (fun j => w1.heap.size ≤ j) v38 D) := ⟨hr2_⟩
      obtain ⟨A2, c2, e2_⟩ := Kd.R_slice HR2r.out
      subst e2_
      have hg2 : Below w1.heap.size w1 w2 := ⟨hg2_.os, hg2_.tape, hg2_.output, hg2_.size, fun i hi => hg2_.block i hi (by simp [Value.ownBlock])⟩
      have HBX2 := Aside0.mk (HR.out.below hb2_).box
      have HF2 := Aside0.mk (Kd.R_below HF1.out hg2)
      have HNE : Aside0 (∀ j, (∃ a, A1 = some a ∧ a.block = j) → ¬ RB h A2 j) := ⟨fun j hj hj' => by
        have h1 := Kd.R_lt HF1.out j (slice_own hj)
        rcases hj' with rfl | hj'
        · obtain ⟨cells, hc⟩ := Kd.R_typed HF2.out j (slice_own hj)
          exact blk_ne hc HBX2.out (by decide) rfl
        · have h2 := HR2r.out.1 j (slice_own hj')
          omega⟩
      have HB2 := Aside0.mk hb2_
      have hcell2 : w2.cell? ⟨h, 1, none⟩ = some (.slice p L.length c) := (blk_cell HBX2.out 1).trans rfl
      have hfz2 := blk_frozen HBX2.out 1
      clear hr2_ hb2_ hg2_ hg2 hcell1 hfz1 HCD1 HF1 hcut
      go_upto_region 8 with (fail)
      have HR3 : Aside0 (Rf (w2.setCell ⟨h, 1, none⟩ (.slice A2 D.length c2)) h t nx A2 c2 D) := ⟨⟨blk_put HBX2.out 1 _ rfl, Kd.R_lower (Kd.R_mono (Kd.R_set HR2r.out HBX2.out (fun q hq => kO_ty hq) 1 _) (fun _ _ => trivial)) (Nat.zero_le _)⟩⟩
      have HF3 := Aside0.mk (Kd.R_set HF2.out HBX2.out (fun q hq => kO_ty hq) 1 (.slice A2 D.length c2))
      have HK3 : Aside0 (Kp w (w2.setCell ⟨h, 1, none⟩ (.slice A2 D.length c2)) (fun k => k = h)) := ⟨(Kp.of HB2.out).set h 1 _ (fun _ => rfl)⟩
      have HP3 : Aside0 (∀ j, RB h A2 j → j = h ∨ w.heap.size ≤ j) := ⟨fun j hj => by
        rcases hj with rfl | hj
        · exact Or.inl rfl
        · exact Or.inr (Kd.R_base HR2r.out j (slice_own hj))⟩
      clear hcell2 hfz2 HBX2 HF2 HR2r HB2
      generalize w2.setCell ⟨h, 1, none⟩ (.slice A2 D.length c2) = w3 at HR3 HF3 HK3 ⊢
      go_wp2
      go_loopw [5, 7, 8] (fun v5 v7 _ wr => ∃ (i : Nat) (A5 : Option Addr) (c5 : Nat) (p' : Option Addr) (c' : Nat), i ≤ k ∧ v5 = .slice A5 i c5 ∧ v7 = .int .i64 i ∧ Aside0 (Kd.R k33 33 wr w.heap.size (fun _ => True) (.slice A5 i c5) ((L.take i).map (·.m))) ∧ Aside0 (Rf wr h t nx p' c' (puts t (L.take i) D)) ∧ Aside0 (kO.R 72 wr w.heap.size (fun _ => True) (.slice A1 k c1) (L.take k)) ∧ Aside0 (Kp w wr (fun k => k = h)) ∧ Aside0 (∀ j, RB h p' j → j = h ∨ w.heap.size ≤ j) ∧ Aside0 (∀ j, (∃ a, A1 = some a ∧ a.block = j) → ¬ RB h p' j)) (fun _ v7 _ _ => k - (intOf v7).toNat)
      case atStart => exact ⟨0, none, 0, A2, c2, Nat.zero_le _, rfl, rfl, ⟨Kd.R_nil _ _ _ _ _⟩, HR3, HF3, HK3, HP3, HNE⟩
      case round =>
        clear HR3 HF3 HK3 HP3 HNE
        obtain ⟨i, A5, c5, p', c', hi, rfl, rfl, H5, HQ, HF, HK, HP, HN⟩ := hrel
        by_cases hlt : (i : Int) < ((k : Nat) : Int)
        · have HLT := Aside0.mk (show i < k by omega)
          obtain ⟨y, hy⟩ : ∃ y, L[i]? = some y := ⟨L[i]'(by have := HKL.out; omega), List.getElem?_eq_getElem (by have := HKL.out; omega)⟩
          have hyt : (L.take k)[i]? = some y := by rw [List.getElem?_take, if_pos HLT.out]; exact hy
          obtain ⟨r, cap, er, _, _, _⟩ := Kd.R_form HF.out (by have := (List.getElem?_eq_some_iff.1 hyt).1; omega)
          injection er with er hx1_ hx2_
          clear hx1_ hx2_
          subst er
          obtain ⟨ad, e, c0, c1', c2', c3', c4', c5'⟩ := CO_at (Kd.R_reads' HF.out).2.2 hyt
          injection e with e
          subst e
          rw [add0_] at c0 c1' c2' c3' c4' c5'
          replace c1' : wr.cell? ⟨r, i * 6 + 1, none⟩ = some (.int .u32 y.m.f1) := c1'
          replace c2' : wr.cell? ⟨r, i * 6 + 2, none⟩ = some (.int .u8 y.m.f2) := c2'
          replace c3' : wr.cell? ⟨r, i * 6 + 3, none⟩ = some (.string y.m.f3) := c3'
          replace c4' : wr.cell? ⟨r, i * 6 + 4, none⟩ = some (.int .i64 y.sent) := c4'
          replace c5' : wr.cell? ⟨r, i * 6 + 5, none⟩ = some (.int .i64 y.tm) := c5'
          have hi0 : 0 ≤ (i : Int) := by omega
          have hikl : i < L.length := by have := HKL.out; have := HLT.out; omega
          have HY := Aside0.mk hy
          have HSY := Aside0.mk (HSN.out y (List.mem_of_getElem? hy))
          clear hy hyt
          go_wp2_with ((with_reducible refine gate_dst (N := 8) rfl ?_); refine stop_ ?_)
          refine StopAt.mk ?_
          refine box_event (N := 8) (cs := #[.int .u32 0, .int .u32 0, .int .u8 0, .string ⟨#[]⟩, .int .i64 0, .int .i64 0]) (t := 72) rfl rfl ?hr ?_
          case hr => first | (go_simp; done) | (go_simp; rfl)
          intro bx hbx w4 hb4 hbe4
          have z0_ : w4.cell? ⟨bx, 0, none⟩ = some (.int .u32 0) := (blk_cell hb4 0).trans rfl
          have f0_ := blk_frozen hb4 0
          have z1_ : w4.cell? ⟨bx, 1, none⟩ = some (.int .u32 0) := (blk_cell hb4 1).trans rfl
          have f1_ := blk_frozen hb4 1
          have z2_ : w4.cell? ⟨bx, 2, none⟩ = some (.int .u8 0) := (blk_cell hb4 2).trans rfl
          have f2_ := blk_frozen hb4 2
          have z3_ : w4.cell? ⟨bx, 3, none⟩ = some (.string ⟨#[]⟩) := (blk_cell hb4 3).trans rfl
          have f3_ := blk_frozen hb4 3
          have z4_ : w4.cell? ⟨bx, 4, none⟩ = some (.int .i64 0) := (blk_cell hb4 4).trans rfl
          have f4_ := blk_frozen hb4 4
          have z5_ : w4.cell? ⟨bx, 5, none⟩ = some (.int .i64 0) := (blk_cell hb4 5).trans rfl
          have f5_ := blk_frozen hb4 5
          have hbl := blk_lt hb4
          have HB4 := Aside0.mk hb4
          have HE4 := Aside0.mk hbe4
          have HBX := Aside0.mk hbx
          clear hb4 hbe4 hbx c0 c1' c2' c3' c4' c5'
          go_upto_region 12 with (fail)
          have HB5 := Aside0.mk (put6 HB4.out y)
          have hk5 : Kp w4 ((((((w4.setCell ⟨bx, 0, none⟩ (.int .u32 y.m.f0)).setCell ⟨bx, 1, none⟩ (.int .u32 y.m.f1)).setCell ⟨bx, 2, none⟩ (.int .u8 y.m.f2)).setCell ⟨bx, 3, none⟩ (.string y.m.f3)).setCell ⟨bx, 4, none⟩ (.int .i64 y.sent)).setCell ⟨bx, 5, none⟩ (.int .i64 y.tm)) (fun k => k = bx) := ((((((Kp.of (S := fun k => k = bx) (Below.refl w4.heap.size w4)).set bx 0 _ (fun _ => rfl)).set bx 1 _ (fun _ => rfl)).set bx 2 _ (fun _ => rfl)).set bx 3 _ (fun _ => rfl)).set bx 4 _ (fun _ => rfl)).set bx 5 _ (fun _ => rfl)
          have HE5 : Aside0 (Below wr.heap.size wr ((((((w4.setCell ⟨bx, 0, none⟩ (.int .u32 y.m.f0)).setCell ⟨bx, 1, none⟩ (.int .u32 y.m.f1)).setCell ⟨bx, 2, none⟩ (.int .u8 y.m.f2)).setCell ⟨bx, 3, none⟩ (.string y.m.f3)).setCell ⟨bx, 4, none⟩ (.int .i64 y.sent)).setCell ⟨bx, 5, none⟩ (.int .i64 y.tm))) := ⟨HE4.out.trans (hk5.below HE4.out.size (fun k hk => by rw [hk, HBX.out]; exact Nat.le_refl _))⟩
          clear hk5 z0_ z1_ z2_ z3_ z4_ z5_ f0_ f1_ f2_ f3_ f4_ f5_ hbl HB4 HE4
          generalize ((((((w4.setCell ⟨bx, 0, none⟩ (.int .u32 y.m.f0)).setCell ⟨bx, 1, none⟩ (.int .u32 y.m.f1)).setCell ⟨bx, 2, none⟩ (.int .u8 y.m.f2)).setCell ⟨bx, 3, none⟩ (.string y.m.f3)).setCell ⟨bx, 4, none⟩ (.int .i64 y.sent)).setCell ⟨bx, 5, none⟩ (.int .i64 y.tm)) = w5 at HB5 HE5 ⊢
          have d0_ : w5.cell? ⟨bx, 0, none⟩ = some (.int .u32 y.m.f0) := (blk_cell HB5.out 0).trans rfl
          have d1_ : w5.cell? ⟨bx, 1, none⟩ = some (.int .u32 y.m.f1) := (blk_cell HB5.out 1).trans rfl
          have d2_ : w5.cell? ⟨bx, 2, none⟩ = some (.int .u8 y.m.f2) := (blk_cell HB5.out 2).trans rfl
          have d3_ : w5.cell? ⟨bx, 3, none⟩ = some (.string y.m.f3) := (blk_cell HB5.out 3).trans rfl
          have HBA := Aside0.mk (below_alloc (Below.refl w5.heap.size w5) (.cells #[.int .u32 y.m.f0, .int .u32 y.m.f1, .int .u8 y.m.f2, .string y.m.f3] 33))
          go_wp2_with ((with_reducible refine gate_dst (N := 55) rfl ?_); refine stop_ ?_)
          refine StopAt.mk ?_
          refine Kd.R_append_rows k33 (w0 := w5.alloc (.cells #[.int .u32 y.m.f0, .int .u32 y.m.f1, .int .u8 y.m.f2, .string y.m.f3] 33)) w.heap.size ?hg (.tmp 51) (.tmp 54) 39 33 (.agg #[.int .u32 0, .int .u32 0, .int .u8 0, .string ⟨#[]⟩]) 32 ?ho Try.underlying39 info33 rfl (by decide) (by omega) (.slice A5 i c5) ((L.take i).map (·.m)) [y.m] (some ⟨w5.heap.size, 0, none⟩) 1 1 (fun _ => True) (fun _ => False) ?h1 ?h2 (Kd.R_alloc (Kd.R_below H5.out HE5.out) _) (one_CM' w5 y.m) (fun _ _ h => h) (fun _ h => h.elim) (fun _ _ => trivial) (Below.refl _ _) (Nat.le_trans HK.out.size (Nat.le_trans HE5.out.size HBA.out.size)) (by rw [List.length_map, List.length_take]; have := HLL.out; omega) ?_
          case hg => rfl
          case ho => rfl
          case h1 => rfl
          case h2 => rfl
          intro v55 w6 hr6_ hb6_ hg6_ ha6_
          clear ha6_
          obtain ⟨A6, c6, rfl⟩ := Kd.R_slice hr6_
          have e6 : ((L.take i).map (·.m) ++ [y.m]).length = i + 1 := by simp; have := HLT.out; have := HKL.out; omega
          have HG6 : Aside0 (w5.grownBy w6 ((Value.slice A5 i c5).ownBlock)) := ⟨(World.grownBy.andThen (World.grownBy_alloc w5 _ _) hg6_ (fun k hk => Or.inr hk))⟩
          rw [e6] at hr6_ ⊢
          have H6 : Aside0 (Kd.R k33 33 w6 w.heap.size (fun _ => True) (.slice A6 (i + 1) c6) ((L.take (i + 1)).map (·.m))) := ⟨by rw [map_push HY.out]; exact hr6_⟩
          have HT5 := Aside0.mk (fun k hk => Kd.R_typed (Kd.R_below H5.out HE5.out) k hk)
          have HKG : Aside0 (Kp w5 w6 (fun k => (Value.slice A5 i c5).ownBlock = some k)) := ⟨Kp.grown HG6.out (fun k hk => hk)⟩
          have HB6 := Aside0.mk (blk_grown' HB5.out HG6.out (fun e => by obtain ⟨cells, hc⟩ := HT5.out bx e.symm; exact blk_ne HB5.out hc (by decide) rfl))
          have HQ6 := Aside0.mk ((HQ.out.below HE5.out).kp HKG.out (fun j hj hj' => by
            obtain ⟨cells, hc⟩ := HT5.out j hj'
            obtain ⟨cells', tt, hc', h1⟩ := (HQ.out.below HE5.out).typ hj
            rw [hc] at hc'
            injection hc' with hc'
            injection hc' with _ hc'
            rcases h1 with h1 | h1 <;> rw [h1] at hc' <;> exact absurd hc' (by decide)))
          have HF6 := Aside0.mk (RO_kp (Kd.R_below HF.out HE5.out) HKG.out (fun j hj hj' => by
            obtain ⟨cells, hc⟩ := HT5.out j hj'
            obtain ⟨cells', hc'⟩ := Kd.R_typed (Kd.R_below HF.out HE5.out) j hj
            exact blk_ne hc hc' (by decide) rfl))
          have HK6 : Aside0 (Kp w w6 (fun k => k = h)) := ⟨(HK.out.trans (Kp.of (S := fun _ => False) HE5.out) (fun _ _ h => h.elim)).trans HKG.out (fun j hj hj' => by
            have := Kd.R_base H5.out j hj'
            omega)⟩
          have HXL : Aside0 (wr.heap.size ≤ bx) := ⟨by rw [HBX.out]; exact Nat.le_refl _⟩
          have HPB : Aside0 (¬ RB h p' bx) := ⟨fun hj => by have := HQ.out.lt hj; have := HXL.out; omega⟩
          have HFB : Aside0 (∀ j, (∃ a, (some ⟨r, 0, none⟩ : Option Addr) = some a ∧ a.block = j) → j ≠ bx) := ⟨fun j hj e => by have := Kd.R_lt HF.out j (slice_own hj); have := HXL.out; omega⟩
          have H5B : Aside0 (∀ j, (Value.slice A6 (i + 1) c6).ownBlock = some j → j ≠ bx) := ⟨fun j hj e => by obtain ⟨cells, hc⟩ := Kd.R_typed H6.out j hj; rw [e] at hc; exact blk_ne HB6.out hc (by decide) rfl⟩
          have HWX : Aside0 (w.heap.size ≤ bx) := ⟨Nat.le_trans HK.out.size HXL.out⟩
          clear hr6_ hb6_ hg6_ e6 d0_ d1_ d2_ d3_ HB5 HE5 HBA HG6 HT5 HKG H5 HQ HF HK HBX HXL
          have d4_ : w6.cell? ⟨bx, 4, none⟩ = some (.int .i64 y.sent) := (blk_cell HB6.out 4).trans rfl
          have f4_ := blk_frozen HB6.out 4
          have hw_ : wrap64 (y.sent + 1) = y.sent + 1 := by have := HSY.out; have := HT.out; unfold wrap64; omega
          go_upto_region 14 with (fail)
          clear d4_ f4_ hw_
          have hk7 : Kp w6 (w6.setCell ⟨bx, 4, none⟩ (.int .i64 (y.sent + 1))) (fun k => k = bx) := (Kp.of (Below.refl _ _)).set bx 4 _ (fun _ => rfl)
          have HB7 : Aside0 ((w6.setCell ⟨bx, 4, none⟩ (.int .i64 (y.sent + 1))).heap[bx]? = some (.cells #[.int .u32 y.m.f0, .int .u32 y.m.f1, .int .u8 y.m.f2, .string y.m.f3, .int .i64 (y.sent + 1), .int .i64 y.tm] 72 (0, 0))) := ⟨blk_put HB6.out 4 _ rfl⟩
          have HQ7 := Aside0.mk (HQ6.out.kp hk7 (fun j hj e => HPB.out (e ▸ hj)))
          have HF7 := Aside0.mk (RO_kp HF6.out hk7 (fun j hj e => HFB.out j (own_of_slice hj) e))
          have H7 := Aside0.mk (RM_kp H6.out hk7 (fun j hj e => H5B.out j hj e))
          have HK7 : Aside0 (Kp w (w6.setCell ⟨bx, 4, none⟩ (.int .i64 (y.sent + 1))) (fun k => k = h)) := ⟨HK6.out.trans hk7 (fun j hj e => by have := HWX.out; omega)⟩
          clear hk7 HB6 HQ6 HF6 H6 HK6 HFB H5B
          generalize w6.setCell ⟨bx, 4, none⟩ (.int .i64 (y.sent + 1)) = w7 at HB7 HQ7 HF7 H7 HK7 ⊢
          have d4_ : w7.cell? ⟨bx, 4, none⟩ = some (.int .i64 (y.sent + 1)) := (blk_cell HB7.out 4).trans rfl
          have e0_ : w7.cell? ⟨h, 0, none⟩ = some (.int .i64 t) := (blk_cell HQ7.out.box 0).trans rfl
          by_cases hst : y.sent + 1 < t
          · have HPU := Aside0.mk (puts_push t HY.out D)
            have HLQ := Aside0.mk (show (puts t (L.take i) D).length ≤ 900000 by have := puts_len t (L.take i) D; have := HDL.out; have := HLL.out; rw [List.length_take] at *; omega)
            go_wp2
            go_big_quiet (fail)
            go_upto_region 15 with (fail)
            have hnq := pw_below_drewN (Below.refl w7.heap.size w7) nq
            have HB8 := Aside0.mk (blk_below HB7.out hnq)
            have HQ8 := Aside0.mk (HQ7.out.below hnq)
            have HF8 := Aside0.mk (Kd.R_below HF7.out hnq)
            have H8 := Aside0.mk (Kd.R_below H7.out hnq)
            have HK8 := Aside0.mk (HK7.out.trans (Kp.of (S := fun _ => False) hnq) (fun _ _ h => h.elim))
            have HST := Aside0.mk hst
            clear hnq HB7 HQ7 HF7 H7 HK7 d4_ e0_ hst
            generalize w7.drewN nq = w8 at HB8 HQ8 HF8 H8 HK8 ⊢
            have d0_ : w8.cell? ⟨bx, 0, none⟩ = some (.int .u32 y.m.f0) := (blk_cell HB8.out 0).trans rfl
            have d1_ : w8.cell? ⟨bx, 1, none⟩ = some (.int .u32 y.m.f1) := (blk_cell HB8.out 1).trans rfl
            have d2_ : w8.cell? ⟨bx, 2, none⟩ = some (.int .u8 y.m.f2) := (blk_cell HB8.out 2).trans rfl
            have d3_ : w8.cell? ⟨bx, 3, none⟩ = some (.string y.m.f3) := (blk_cell HB8.out 3).trans rfl
            have d4_ : w8.cell? ⟨bx, 4, none⟩ = some (.int .i64 (y.sent + 1)) := (blk_cell HB8.out 4).trans rfl
            have d5_ : w8.cell? ⟨bx, 5, none⟩ = some (.int .i64 y.tm) := (blk_cell HB8.out 5).trans rfl
            have HPC := Aside0.mk (rput_calls w8 h t nx p' c' (puts t (L.take i) D) (sentO y) HQ8.out HLQ.out)
            go_wp2_with (first | (go_at_call 30; refine HPC.out.mono ?_; rintro e w9 ⟨p9, c9, rfl, h1_, h2_, h3_⟩; have HQ9 := Aside0.mk h1_; have HK9 := Aside0.mk h2_; have HP9 := Aside0.mk h3_; clear h1_ h2_ h3_ HPC d0_ d1_ d2_ d3_ d4_ d5_))
            go_roundw
            case rel =>
              refine ⟨i + 1, A6, c6, p9, c9, by have := HLT.out; omega, rfl, by go_num, ⟨RM_kp H8.out HK9.out (fun j hj hj' => by
                obtain ⟨cells, hc⟩ := Kd.R_typed H8.out j hj
                obtain ⟨cells', tt, hc', h1⟩ := HQ8.out.typ hj'
                rw [hc] at hc'
                injection hc' with hc'
                injection hc' with _ hc'
                rcases h1 with h1 | h1 <;> rw [h1] at hc' <;> exact absurd hc' (by decide))⟩, ⟨by rw [HPU.out, if_pos HST.out]; exact HQ9.out⟩, ⟨RO_kp HF8.out HK9.out (fun j hj hj' => HN.out j (own_of_slice hj) hj')⟩, ⟨HK8.out.trans HK9.out (fun j hj hj' => by
                rcases HP.out j hj' with e | e
                · exact e
                · omega)⟩, ⟨fun j hj => by
                rcases HP9.out j hj with hj | hj
                · exact HP.out j hj
                · exact Or.inr (Nat.le_trans HK8.out.size hj)⟩, ⟨fun j hj hj' => by
                rcases HP9.out j hj' with h1 | h1
                · exact HN.out j hj h1
                · have := Kd.R_lt HF8.out j (slice_own hj); omega⟩⟩
            case measure => have := HLT.out; simp [intOf, wrap64]; omega
          · have HPU := Aside0.mk (puts_push t HY.out D)
            have hdst : decide (y.sent + 1 < t) = false := decide_eq_false hst
            go_wp2
            go_big_quiet (fail)
            have hnq := pw_below_drewN (Below.refl w7.heap.size w7) nq
            have HQ8 := Aside0.mk (HQ7.out.below hnq)
            have HF8 := Aside0.mk (Kd.R_below HF7.out hnq)
            have H8 := Aside0.mk (Kd.R_below H7.out hnq)
            have HK8 := Aside0.mk (HK7.out.trans (Kp.of (S := fun _ => False) hnq) (fun _ _ h => h.elim))
            have HST := Aside0.mk hst
            clear hnq HB7 HQ7 HF7 H7 HK7 d4_ e0_
            go_wp2
            go_roundw
            case rel =>
              refine ⟨i + 1, A6, c6, p', c', by have := HLT.out; omega, rfl, by go_num, H8, ⟨by rw [HPU.out, if_neg (by have := HST.out; omega)]; exact HQ8.out⟩, HF8, HK8, HP, HN⟩
            case measure => have := HLT.out; simp [intOf, wrap64]; omega
        · obtain rfl : k = i := by omega
          go_wp2
          go_ret
          have hq := HQ.out
          have e9 : LT = puts t (L.take k) D := by rw [HLT'.out, HD.out]; unfold takeL; rw [← HKD.out]
          rw [← e9] at hq
          have h5 := H5.out
          rw [List.map_take] at h5
          first | exact ⟨A5, c5, p', c', rfl, H5.out, hq, HK.out.mono (fun k hk => Or.inl hk), fun j hj => (HP.out j hj).imp Or.inl id⟩ | exact ⟨A5, c5, p', c', rfl, h5, hq, HK.out.mono (fun k hk => Or.inl hk), fun j hj => (HP.out j hj).imp Or.inl id⟩ | exact ⟨A5, ⟨c5, rfl, h5⟩, p', ⟨c', hq⟩, HK.out.mono (fun k hk => Or.inl hk), fun j hj => (HP.out j hj).imp Or.inl id⟩ | exact ⟨A5, c5, rfl, h5, p', ⟨c', hq⟩, HK.out.mono (fun k hk => Or.inl hk), fun j hj => (HP.out j hj).imp Or.inl id⟩
    · subst hs2
      go_upto_region 6 with (fail)
      clear hs1 hs3
      go_wp2_with ((with_reducible refine gate_dst (N := 30) rfl ?_); refine stop_ ?_)
      refine StopAt.mk ?_
      refine Kd.R_append_rows kO (w0 := w) w.heap.size ?hg (.const (.slice none 0 0)) (.tmp 29) 58 72 (.agg #[.int .u32 0, .int .u32 0, .int .u8 0, .string ⟨#[]⟩, .int .i64 0, .int .i64 0]) 48 ?ho Try.underlying58 infoO rfl (by decide) (by omega) (.slice none 0 0) [] (L.take k) p k c (fun _ => True) (fun _ => False) ?h1 ?h2 (Kd.R_nil _ _ _ _ _) HCT.out (fun _ _ h => h) (fun _ h => h.elim) (fun _ _ => trivial) (Below.refl _ _) (Nat.le_refl _) (by have := HLL.out; have := HKL.out; simp only [List.length_nil]; omega) ?_
      case hg => rfl
      case ho => rfl
      case h1 => rfl
      case h2 => rfl
      intro v30 w1 hr1_ hb1_ hg1_ ha1_
      clear hg1_ ha1_
      have HF1 : Aside0 (kO.R 72 w1 w.heap.size (fun _ => True) v30 (L.take k)) := ⟨hr1_⟩
      obtain ⟨A1, c1, e1_⟩ := Kd.R_slice HF1.out
      rw [show (L.take k).length = k by rw [List.length_take]; have := HKL.out; omega] at e1_
      subst e1_
      have HB1 := Aside0.mk hb1_
      have hcell1 : w1.cell? ⟨h, 1, none⟩ = some (.slice p L.length c) := (blk_cell (HR.out.below hb1_).box 1).trans rfl
      have hfz1 := blk_frozen (HR.out.below hb1_).box 1
      have HCD1 := Aside0.mk (Kd.C_below HCD.out hb1_)
      clear hr1_ hb1_ hcell
      go_upto_region 7 with (fail)
      go_wp2_with ((with_reducible refine gate_dst (N := 38) rfl ?_); refine stop_ ?_)
      refine StopAt.mk ?_
      refine Kd.R_append_rows kO (w0 := w) w.heap.size ?hg (.const (.slice none 0 0)) (.tmp 37) 58 72 (.agg #[.int .u32 0, .int .u32 0, .int .u8 0, .string ⟨#[]⟩, .int .i64 0, .int .i64 0]) 48 ?ho Try.underlying58 infoO rfl (by decide) (by omega) (.slice none 0 0) [] D A' D.length (c - k) (fun j => w1.heap.size ≤ j) (fun _ => False) ?h1 ?h2 (Kd.R_nil _ _ _ _ _) HCD1.out (fun _ _ h => h) (fun _ h => h.elim) (fun _ h => h) HB1.out HB1.out.size (by have := HDL.out; simp only [List.length_nil]; omega) ?_
      case hg => rfl
      case ho => rfl
      case h1 => rfl
      case h2 => rfl
      intro v38 w2 hr2_ hb2_ hg2_ ha2_
      clear ha2_
      have HR2r : Aside0 (kO.R 72 w2 w.heap.size (fun j => w1.heap.size ≤ j) v38 D) := ⟨hr2_⟩
      obtain ⟨A2, c2, e2_⟩ := Kd.R_slice HR2r.out
      subst e2_
      have hg2 : Below w1.heap.size w1 w2 := ⟨hg2_.os, hg2_.tape, hg2_.output, hg2_.size, fun i hi => hg2_.block i hi (by simp [Value.ownBlock])⟩
      have HBX2 := Aside0.mk (HR.out.below hb2_).box
      have HF2 := Aside0.mk (Kd.R_below HF1.out hg2)
      have HNE : Aside0 (∀ j, (∃ a, A1 = some a ∧ a.block = j) → ¬ RB h A2 j) := ⟨fun j hj hj' => by
        have h1 := Kd.R_lt HF1.out j (slice_own hj)
        rcases hj' with rfl | hj'
        · obtain ⟨cells, hc⟩ := Kd.R_typed HF2.out j (slice_own hj)
          exact blk_ne hc HBX2.out (by decide) rfl
        · have h2 := HR2r.out.1 j (slice_own hj')
          omega⟩
      have HB2 := Aside0.mk hb2_
      have hcell2 : w2.cell? ⟨h, 1, none⟩ = some (.slice p L.length c) := (blk_cell HBX2.out 1).trans rfl
      have hfz2 := blk_frozen HBX2.out 1
      clear hr2_ hb2_ hg2_ hg2 hcell1 hfz1 HCD1 HF1 hcut
      go_upto_region 8 with (fail)
      have HR3 : Aside0 (Rf (w2.setCell ⟨h, 1, none⟩ (.slice A2 D.length c2)) h t nx A2 c2 D) := ⟨⟨blk_put HBX2.out 1 _ rfl, Kd.R_lower (Kd.R_mono (Kd.R_set HR2r.out HBX2.out (fun q hq => kO_ty hq) 1 _) (fun _ _ => trivial)) (Nat.zero_le _)⟩⟩
      have HF3 := Aside0.mk (Kd.R_set HF2.out HBX2.out (fun q hq => kO_ty hq) 1 (.slice A2 D.length c2))
      have HK3 : Aside0 (Kp w (w2.setCell ⟨h, 1, none⟩ (.slice A2 D.length c2)) (fun k => k = h)) := ⟨(Kp.of HB2.out).set h 1 _ (fun _ => rfl)⟩
      have HP3 : Aside0 (∀ j, RB h A2 j → j = h ∨ w.heap.size ≤ j) := ⟨fun j hj => by
        rcases hj with rfl | hj
        · exact Or.inl rfl
        · exact Or.inr (Kd.R_base HR2r.out j (slice_own hj))⟩
      clear hcell2 hfz2 HBX2 HF2 HR2r HB2
      generalize w2.setCell ⟨h, 1, none⟩ (.slice A2 D.length c2) = w3 at HR3 HF3 HK3 ⊢
      go_wp2
      go_loopw [5, 7, 8] (fun v5 v7 _ wr => ∃ (i : Nat) (A5 : Option Addr) (c5 : Nat) (p' : Option Addr) (c' : Nat), i ≤ k ∧ v5 = .slice A5 i c5 ∧ v7 = .int .i64 i ∧ Aside0 (Kd.R k33 33 wr w.heap.size (fun _ => True) (.slice A5 i c5) ((L.take i).map (·.m))) ∧ Aside0 (Rf wr h t nx p' c' (puts t (L.take i) D)) ∧ Aside0 (kO.R 72 wr w.heap.size (fun _ => True) (.slice A1 k c1) (L.take k)) ∧ Aside0 (Kp w wr (fun k => k = h)) ∧ Aside0 (∀ j, RB h p' j → j = h ∨ w.heap.size ≤ j) ∧ Aside0 (∀ j, (∃ a, A1 = some a ∧ a.block = j) → ¬ RB h p' j)) (fun _ v7 _ _ => k - (intOf v7).toNat)
      case atStart => exact ⟨0, none, 0, A2, c2, Nat.zero_le _, rfl, rfl, ⟨Kd.R_nil _ _ _ _ _⟩, HR3, HF3, HK3, HP3, HNE⟩
      case round =>
        clear HR3 HF3 HK3 HP3 HNE
        obtain ⟨i, A5, c5, p', c', hi, rfl, rfl, H5, HQ, HF, HK, HP, HN⟩ := hrel
        by_cases hlt : (i : Int) < ((k : Nat) : Int)
        · have HLT := Aside0.mk (show i < k by omega)
          obtain ⟨y, hy⟩ : ∃ y, L[i]? = some y := ⟨L[i]'(by have := HKL.out; omega), List.getElem?_eq_getElem (by have := HKL.out; omega)⟩
          have hyt : (L.take k)[i]? = some y := by rw [List.getElem?_take, if_pos HLT.out]; exact hy
          obtain ⟨r, cap, er, _, _, _⟩ := Kd.R_form HF.out (by have := (List.getElem?_eq_some_iff.1 hyt).1; omega)
          injection er with er hx1_ hx2_
          clear hx1_ hx2_
          subst er
          obtain ⟨ad, e, c0, c1', c2', c3', c4', c5'⟩ := CO_at (Kd.R_reads' HF.out).2.2 hyt
          injection e with e
          subst e
          rw [add0_] at c0 c1' c2' c3' c4' c5'
          replace c1' : wr.cell? ⟨r, i * 6 + 1, none⟩ = some (.int .u32 y.m.f1) := c1'
          replace c2' : wr.cell? ⟨r, i * 6 + 2, none⟩ = some (.int .u8 y.m.f2) := c2'
          replace c3' : wr.cell? ⟨r, i * 6 + 3, none⟩ = some (.string y.m.f3) := c3'
          replace c4' : wr.cell? ⟨r, i * 6 + 4, none⟩ = some (.int .i64 y.sent) := c4'
          replace c5' : wr.cell? ⟨r, i * 6 + 5, none⟩ = some (.int .i64 y.tm) := c5'
          have hi0 : 0 ≤ (i : Int) := by omega
          have hikl : i < L.length := by have := HKL.out; have := HLT.out; omega
          have HY := Aside0.mk hy
          have HSY := Aside0.mk (HSN.out y (List.mem_of_getElem? hy))
          clear hy hyt
          go_wp2_with ((with_reducible refine gate_dst (N := 8) rfl ?_); refine stop_ ?_)
          refine StopAt.mk ?_
          refine box_event (N := 8) (cs := #[.int .u32 0, .int .u32 0, .int .u8 0, .string ⟨#[]⟩, .int .i64 0, .int .i64 0]) (t := 72) rfl rfl ?hr ?_
          case hr => first | (go_simp; done) | (go_simp; rfl)
          intro bx hbx w4 hb4 hbe4
          have z0_ : w4.cell? ⟨bx, 0, none⟩ = some (.int .u32 0) := (blk_cell hb4 0).trans rfl
          have f0_ := blk_frozen hb4 0
          have z1_ : w4.cell? ⟨bx, 1, none⟩ = some (.int .u32 0) := (blk_cell hb4 1).trans rfl
          have f1_ := blk_frozen hb4 1
          have z2_ : w4.cell? ⟨bx, 2, none⟩ = some (.int .u8 0) := (blk_cell hb4 2).trans rfl
          have f2_ := blk_frozen hb4 2
          have z3_ : w4.cell? ⟨bx, 3, none⟩ = some (.string ⟨#[]⟩) := (blk_cell hb4 3).trans rfl
          have f3_ := blk_frozen hb4 3
          have z4_ : w4.cell? ⟨bx, 4, none⟩ = some (.int .i64 0) := (blk_cell hb4 4).trans rfl
          have f4_ := blk_frozen hb4 4
          have z5_ : w4.cell? ⟨bx, 5, none⟩ = some (.int .i64 0) := (blk_cell hb4 5).trans rfl
          have f5_ := blk_frozen hb4 5
          have hbl := blk_lt hb4
          have HB4 := Aside0.mk hb4
          have HE4 := Aside0.mk hbe4
          have HBX := Aside0.mk hbx
          clear hb4 hbe4 hbx c0 c1' c2' c3' c4' c5'
          go_upto_region 12 with (fail)
          have HB5 := Aside0.mk (put6 HB4.out y)
          have hk5 : Kp w4 ((((((w4.setCell ⟨bx, 0, none⟩ (.int .u32 y.m.f0)).setCell ⟨bx, 1, none⟩ (.int .u32 y.m.f1)).setCell ⟨bx, 2, none⟩ (.int .u8 y.m.f2)).setCell ⟨bx, 3, none⟩ (.string y.m.f3)).setCell ⟨bx, 4, none⟩ (.int .i64 y.sent)).setCell ⟨bx, 5, none⟩ (.int .i64 y.tm)) (fun k => k = bx) := ((((((Kp.of (S := fun k => k = bx) (Below.refl w4.heap.size w4)).set bx 0 _ (fun _ => rfl)).set bx 1 _ (fun _ => rfl)).set bx 2 _ (fun _ => rfl)).set bx 3 _ (fun _ => rfl)).set bx 4 _ (fun _ => rfl)).set bx 5 _ (fun _ => rfl)
          have HE5 : Aside0 (Below wr.heap.size wr ((((((w4.setCell ⟨bx, 0, none⟩ (.int .u32 y.m.f0)).setCell ⟨bx, 1, none⟩ (.int .u32 y.m.f1)).setCell ⟨bx, 2, none⟩ (.int .u8 y.m.f2)).setCell ⟨bx, 3, none⟩ (.string y.m.f3)).setCell ⟨bx, 4, none⟩ (.int .i64 y.sent)).setCell ⟨bx, 5, none⟩ (.int .i64 y.tm))) := ⟨HE4.out.trans (hk5.below HE4.out.size (fun k hk => by rw [hk, HBX.out]; exact Nat.le_refl _))⟩
          clear hk5 z0_ z1_ z2_ z3_ z4_ z5_ f0_ f1_ f2_ f3_ f4_ f5_ hbl HB4 HE4
          generalize ((((((w4.setCell ⟨bx, 0, none⟩ (.int .u32 y.m.f0)).setCell ⟨bx, 1, none⟩ (.int .u32 y.m.f1)).setCell ⟨bx, 2, none⟩ (.int .u8 y.m.f2)).setCell ⟨bx, 3, none⟩ (.string y.m.f3)).setCell ⟨bx, 4, none⟩ (.int .i64 y.sent)).setCell ⟨bx, 5, none⟩ (.int .i64 y.tm)) = w5 at HB5 HE5 ⊢
          have d0_ : w5.cell? ⟨bx, 0, none⟩ = some (.int .u32 y.m.f0) := (blk_cell HB5.out 0).trans rfl
          have d1_ : w5.cell? ⟨bx, 1, none⟩ = some (.int .u32 y.m.f1) := (blk_cell HB5.out 1).trans rfl
          have d2_ : w5.cell? ⟨bx, 2, none⟩ = some (.int .u8 y.m.f2) := (blk_cell HB5.out 2).trans rfl
          have d3_ : w5.cell? ⟨bx, 3, none⟩ = some (.string y.m.f3) := (blk_cell HB5.out 3).trans rfl
          have HBA := Aside0.mk (below_alloc (Below.refl w5.heap.size w5) (.cells #[.int .u32 y.m.f0, .int .u32 y.m.f1, .int .u8 y.m.f2, .string y.m.f3] 33))
          go_wp2_with ((with_reducible refine gate_dst (N := 55) rfl ?_); refine stop_ ?_)
          refine StopAt.mk ?_
          refine Kd.R_append_rows k33 (w0 := w5.alloc (.cells #[.int .u32 y.m.f0, .int .u32 y.m.f1, .int .u8 y.m.f2, .string y.m.f3] 33)) w.heap.size ?hg (.tmp 51) (.tmp 54) 39 33 (.agg #[.int .u32 0, .int .u32 0, .int .u8 0, .string ⟨#[]⟩]) 32 ?ho Try.underlying39 info33 rfl (by decide) (by omega) (.slice A5 i c5) ((L.take i).map (·.m)) [y.m] (some ⟨w5.heap.size, 0, none⟩) 1 1 (fun _ => True) (fun _ => False) ?h1 ?h2 (Kd.R_alloc (Kd.R_below H5.out HE5.out) _) (one_CM' w5 y.m) (fun _ _ h => h) (fun _ h => h.elim) (fun _ _ => trivial) (Below.refl _ _) (Nat.le_trans HK.out.size (Nat.le_trans HE5.out.size HBA.out.size)) (by rw [List.length_map, List.length_take]; have := HLL.out; omega) ?_
          case hg => rfl
          case ho => rfl
          case h1 => rfl
          case h2 => rfl
          intro v55 w6 hr6_ hb6_ hg6_ ha6_
          clear ha6_
          obtain ⟨A6, c6, rfl⟩ := Kd.R_slice hr6_
          have e6 : ((L.take i).map (·.m) ++ [y.m]).length = i + 1 := by simp; have := HLT.out; have := HKL.out; omega
          have HG6 : Aside0 (w5.grownBy w6 ((Value.slice A5 i c5).ownBlock)) := ⟨(World.grownBy.andThen (World.grownBy_alloc w5 _ _) hg6_ (fun k hk => Or.inr hk))⟩
          rw [e6] at hr6_ ⊢
          have H6 : Aside0 (Kd.R k33 33 w6 w.heap.size (fun _ => True) (.slice A6 (i + 1) c6) ((L.take (i + 1)).map (·.m))) := ⟨by rw [map_push HY.out]; exact hr6_⟩
          have HT5 := Aside0.mk (fun k hk => Kd.R_typed (Kd.R_below H5.out HE5.out) k hk)
          have HKG : Aside0 (Kp w5 w6 (fun k => (Value.slice A5 i c5).ownBlock = some k)) := ⟨Kp.grown HG6.out (fun k hk => hk)⟩
          have HB6 := Aside0.mk (blk_grown' HB5.out HG6.out (fun e => by obtain ⟨cells, hc⟩ := HT5.out bx e.symm; exact blk_ne HB5.out hc (by decide) rfl))
          have HQ6 := Aside0.mk ((HQ.out.below HE5.out).kp HKG.out (fun j hj hj' => by
            obtain ⟨cells, hc⟩ := HT5.out j hj'
            obtain ⟨cells', tt, hc', h1⟩ := (HQ.out.below HE5.out).typ hj
            rw [hc] at hc'
            injection hc' with hc'
            injection hc' with _ hc'
            rcases h1 with h1 | h1 <;> rw [h1] at hc' <;> exact absurd hc' (by decide)))
          have HF6 := Aside0.mk (RO_kp (Kd.R_below HF.out HE5.out) HKG.out (fun j hj hj' => by
            obtain ⟨cells, hc⟩ := HT5.out j hj'
            obtain ⟨cells', hc'⟩ := Kd.R_typed (Kd.R_below HF.out HE5.out) j hj
            exact blk_ne hc hc' (by decide) rfl))
          have HK6 : Aside0 (Kp w w6 (fun k => k = h)) := ⟨(HK.out.trans (Kp.of (S := fun _ => False) HE5.out) (fun _ _ h => h.elim)).trans HKG.out (fun j hj hj' => by
            have := Kd.R_base H5.out j hj'
            omega)⟩
          have HXL : Aside0 (wr.heap.size ≤ bx) := ⟨by rw [HBX.out]; exact Nat.le_refl _⟩
          have HPB : Aside0 (¬ RB h p' bx) := ⟨fun hj => by have := HQ.out.lt hj; have := HXL.out; omega⟩
          have HFB : Aside0 (∀ j, (∃ a, (some ⟨r, 0, none⟩ : Option Addr) = some a ∧ a.block = j) → j ≠ bx) := ⟨fun j hj e => by have := Kd.R_lt HF.out j (slice_own hj); have := HXL.out; omega⟩
          have H5B : Aside0 (∀ j, (Value.slice A6 (i + 1) c6).ownBlock = some j → j ≠ bx) := ⟨fun j hj e => by obtain ⟨cells, hc⟩ := Kd.R_typed H6.out j hj; rw [e] at hc; exact blk_ne HB6.out hc (by decide) rfl⟩
          have HWX : Aside0 (w.heap.size ≤ bx) := ⟨Nat.le_trans HK.out.size HXL.out⟩
          clear hr6_ hb6_ hg6_ e6 d0_ d1_ d2_ d3_ HB5 HE5 HBA HG6 HT5 HKG H5 HQ HF HK HBX HXL
          have d4_ : w6.cell? ⟨bx, 4, none⟩ = some (.int .i64 y.sent) := (blk_cell HB6.out 4).trans rfl
          have f4_ := blk_frozen HB6.out 4
          have hw_ : wrap64 (y.sent + 1) = y.sent + 1 := by have := HSY.out; have := HT.out; unfold wrap64; omega
          go_upto_region 14 with (fail)
          clear d4_ f4_ hw_
          have hk7 : Kp w6 (w6.setCell ⟨bx, 4, none⟩ (.int .i64 (y.sent + 1))) (fun k => k = bx) := (Kp.of (Below.refl _ _)).set bx 4 _ (fun _ => rfl)
          have HB7 : Aside0 ((w6.setCell ⟨bx, 4, none⟩ (.int .i64 (y.sent + 1))).heap[bx]? = some (.cells #[.int .u32 y.m.f0, .int .u32 y.m.f1, .int .u8 y.m.f2, .string y.m.f3, .int .i64 (y.sent + 1), .int .i64 y.tm] 72 (0, 0))) := ⟨blk_put HB6.out 4 _ rfl⟩
          have HQ7 := Aside0.mk (HQ6.out.kp hk7 (fun j hj e => HPB.out (e ▸ hj)))
          have HF7 := Aside0.mk (RO_kp HF6.out hk7 (fun j hj e => HFB.out j (own_of_slice hj) e))
          have H7 := Aside0.mk (RM_kp H6.out hk7 (fun j hj e => H5B.out j hj e))
          have HK7 : Aside0 (Kp w (w6.setCell ⟨bx, 4, none⟩ (.int .i64 (y.sent + 1))) (fun k => k = h)) := ⟨HK6.out.trans hk7 (fun j hj e => by have := HWX.out; omega)⟩
          clear hk7 HB6 HQ6 HF6 H6 HK6 HFB H5B
          generalize w6.setCell ⟨bx, 4, none⟩ (.int .i64 (y.sent + 1)) = w7 at HB7 HQ7 HF7 H7 HK7 ⊢
          have d4_ : w7.cell? ⟨bx, 4, none⟩ = some (.int .i64 (y.sent + 1)) := (blk_cell HB7.out 4).trans rfl
          have e0_ : w7.cell? ⟨h, 0, none⟩ = some (.int .i64 t) := (blk_cell HQ7.out.box 0).trans rfl
          by_cases hst : y.sent + 1 < t
          · have HPU := Aside0.mk (puts_push t HY.out D)
            have HLQ := Aside0.mk (show (puts t (L.take i) D).length ≤ 900000 by have := puts_len t (L.take i) D; have := HDL.out; have := HLL.out; rw [List.length_take] at *; omega)
            go_wp2
            go_big_quiet (fail)
            go_upto_region 15 with (fail)
            have hnq := pw_below_drewN (Below.refl w7.heap.size w7) nq
            have HB8 := Aside0.mk (blk_below HB7.out hnq)
            have HQ8 := Aside0.mk (HQ7.out.below hnq)
            have HF8 := Aside0.mk (Kd.R_below HF7.out hnq)
            have H8 := Aside0.mk (Kd.R_below H7.out hnq)
            have HK8 := Aside0.mk (HK7.out.trans (Kp.of (S := fun _ => False) hnq) (fun _ _ h => h.elim))
            have HST := Aside0.mk hst
            clear hnq HB7 HQ7 HF7 H7 HK7 d4_ e0_ hst
            generalize w7.drewN nq = w8 at HB8 HQ8 HF8 H8 HK8 ⊢
            have d0_ : w8.cell? ⟨bx, 0, none⟩ = some (.int .u32 y.m.f0) := (blk_cell HB8.out 0).trans rfl
            have d1_ : w8.cell? ⟨bx, 1, none⟩ = some (.int .u32 y.m.f1) := (blk_cell HB8.out 1).trans rfl
            have d2_ : w8.cell? ⟨bx, 2, none⟩ = some (.int .u8 y.m.f2) := (blk_cell HB8.out 2).trans rfl
            have d3_ : w8.cell? ⟨bx, 3, none⟩ = some (.string y.m.f3) := (blk_cell HB8.out 3).trans rfl
            have d4_ : w8.cell? ⟨bx, 4, none⟩ = some (.int .i64 (y.sent + 1)) := (blk_cell HB8.out 4).trans rfl
            have d5_ : w8.cell? ⟨bx, 5, none⟩ = some (.int .i64 y.tm) := (blk_cell HB8.out 5).trans rfl
            have HPC := Aside0.mk (rput_calls w8 h t nx p' c' (puts t (L.take i) D) (sentO y) HQ8.out HLQ.out)
            go_wp2_with (first | (go_at_call 30; refine HPC.out.mono ?_; rintro e w9 ⟨p9, c9, rfl, h1_, h2_, h3_⟩; have HQ9 := Aside0.mk h1_; have HK9 := Aside0.mk h2_; have HP9 := Aside0.mk h3_; clear h1_ h2_ h3_ HPC d0_ d1_ d2_ d3_ d4_ d5_))
            go_roundw
            case rel =>
              refine ⟨i + 1, A6, c6, p9, c9, by have := HLT.out; omega, rfl, by go_num, ⟨RM_kp H8.out HK9.out (fun j hj hj' => by
                obtain ⟨cells, hc⟩ := Kd.R_typed H8.out j hj
                obtain ⟨cells', tt, hc', h1⟩ := HQ8.out.typ hj'
                rw [hc] at hc'
                injection hc' with hc'
                injection hc' with _ hc'
                rcases h1 with h1 | h1 <;> rw [h1] at hc' <;> exact absurd hc' (by decide))⟩, ⟨by rw [HPU.out, if_pos HST.out]; exact HQ9.out⟩, ⟨RO_kp HF8.out HK9.out (fun j hj hj' => HN.out j (own_of_slice hj) hj')⟩, ⟨HK8.out.trans HK9.out (fun j hj hj' => by
                rcases HP.out j hj' with e | e
                · exact e
                · omega)⟩, ⟨fun j hj => by
                rcases HP9.out j hj with hj | hj
                · exact HP.out j hj
                · exact Or.inr (Nat.le_trans HK8.out.size hj)⟩, ⟨fun j hj hj' => by
                rcases HP9.out j hj' with h1 | h1
                · exact HN.out j hj h1
                · have := Kd.R_lt HF8.out j (slice_own hj); omega⟩⟩
            case measure => have := HLT.out; simp [intOf, wrap64]; omega
          · have HPU := Aside0.mk (puts_push t HY.out D)
            have hdst : decide (y.sent + 1 < t) = false := decide_eq_false hst
            go_wp2
            go_big_quiet (fail)
            have hnq := pw_below_drewN (Below.refl w7.heap.size w7) nq
            have HQ8 := Aside0.mk (HQ7.out.below hnq)
            have HF8 := Aside0.mk (Kd.R_below HF7.out hnq)
            have H8 := Aside0.mk (Kd.R_below H7.out hnq)
            have HK8 := Aside0.mk (HK7.out.trans (Kp.of (S := fun _ => False) hnq) (fun _ _ h => h.elim))
            have HST := Aside0.mk hst
            clear hnq HB7 HQ7 HF7 H7 HK7 d4_ e0_
            go_wp2
            go_roundw
            case rel =>
              refine ⟨i + 1, A6, c6, p', c', by have := HLT.out; omega, rfl, by go_num, H8, ⟨by rw [HPU.out, if_neg (by have := HST.out; omega)]; exact HQ8.out⟩, HF8, HK8, HP, HN⟩
            case measure => have := HLT.out; simp [intOf, wrap64]; omega
        · obtain rfl : k = i := by omega
          go_wp2
          go_ret
          have hq := HQ.out
          have e9 : LT = puts t (L.take k) D := by rw [HLT'.out, HD.out]; unfold takeL; rw [← HKD.out]
          rw [← e9] at hq
          have h5 := H5.out
          rw [List.map_take] at h5
          first | exact ⟨A5, c5, p', c', rfl, H5.out, hq, HK.out.mono (fun k hk => Or.inl hk), fun j hj => (HP.out j hj).imp Or.inl id⟩ | exact ⟨A5, c5, p', c', rfl, h5, hq, HK.out.mono (fun k hk => Or.inl hk), fun j hj => (HP.out j hj).imp Or.inl id⟩ | exact ⟨A5, ⟨c5, rfl, h5⟩, p', ⟨c', hq⟩, HK.out.mono (fun k hk => Or.inl hk), fun j hj => (HP.out j hj).imp Or.inl id⟩ | exact ⟨A5, c5, rfl, h5, p', ⟨c', hq⟩, HK.out.mono (fun k hk => Or.inl hk), fun j hj => (HP.out j hj).imp Or.inl id⟩
end Go.Proofs.Ytihmblbnnhcdnaa.Print
end
section
/- How members, and lists of them, read as data are told by their kind, with their bounds. -/
namespace Go.Proofs.Ytihmblbnnhcdnaa.Opens
open Go.ChangeShapes Go.WideShapes Go.ChangeAt Go.RowKit Go.Proofs.YtihmblbnnhcdnaaW.PrintWords Go.Proofs.Ytihmblbnnhcdnaa.Print
set_option linter.unusedVariables false
def wfM (x : Mem) : Prop := (0 ≤ x.f0 ∧ x.f0 ≤ 4294967295) ∧ x.f3.size ≤ 9223372036854775807
theorem u32_wf {n : Int} (h : (Lit.int .u32 n).wf = true) : 0 ≤ n ∧ n ≤ 4294967295 := by
  simp [Lit.wf] at h
  have e1 : IntKind.u32.min = 0 := by decide
  have e2 : IntKind.u32.max = 4294967295 := by decide
  omega
theorem opens33 : Opens Try.prog 33 k33 wfM := by
  have h := opens_iso (opens_struct Try.underlying33 (by kernel_rfl) (opensF_cons rfl (by kernel_rfl) (opens_int (k := .u32) (by kernel_rfl)) (opensF_cons rfl (by kernel_rfl) (opens_int (k := .u32) (by kernel_rfl)) (opensF_cons rfl (by kernel_rfl) (opens_int (k := .u8) (by kernel_rfl)) (opensF_one rfl (by kernel_rfl) (opens_string (by kernel_rfl))))))) (fun x : S33 => (x.f0, x.f1, x.f2, x.f3)) (fun y => ⟨y.1, y.2.1, y.2.2.1, y.2.2.2⟩) (fun _ => rfl)
  intro H enc w base spare held fuel cs y hy
  obtain ⟨x, hk, h0, h1, h2, h3⟩ := h H enc w base spare held fuel cs y hy
  exact ⟨x, hk, u32_wf h0, by unfold maxLen at h3; exact h3⟩
end Go.Proofs.Ytihmblbnnhcdnaa.Opens
end
section
-- Written by a program of this session, built on the kit's print (it is not the print's own text).
namespace Go.Proofs.Ytihmblbnnhcdnaa.Print
open Go.RowKit Go.Proofs.YtihmblbnnhcdnaaW.PrintWords Go.Proofs.YtihmblbnnhcdnaaW.PrintLast Go.Proofs.YtihmblbnnhcdnaaW.PrintMore
attribute [local go_sem] max2_int min2_int max_two min_two max_three min_three max_four min_four   -- for this text's walks alone
set_option linter.unusedVariables false
set_option linter.unusedSimpArgs false

theorem eqA33 (d : Nat) (w : World) (x0 y0 : Int) (x1 y1 : Int) (x2 y2 : Int) (x3 y3 : ByteArray) :
    (Op.equalIn (d + 2) 33 (.agg #[.int .u32 x0, .int .u32 x1, .int .u8 x2, .string x3]) (.agg #[.int .u32 y0, .int .u32 y1, .int .u8 y2, .string y3])).run Try.prog w = .ok (x0 == y0 && (x1 == y1 && (x2 == y2 && (x3.toList == y3.toList)))) w := by
  refine eqA_of Try.underlying33 (by kernel_rfl) ?_
  refine eqf_cons (by rfl) (by go_simp; rfl) (by go_simp; rfl) (by go_simp) ?_
  refine eqf_cons (by rfl) (by go_simp; rfl) (by go_simp; rfl) (by go_simp) ?_
  refine eqf_cons (by rfl) (by go_simp; rfl) (by go_simp; rfl) (by go_simp) ?_
  exact eqf_last (by rfl) (by go_simp; rfl) (by go_simp; rfl) (by go_simp)
end Go.Proofs.Ytihmblbnnhcdnaa.Print
end
section
-- Written by a program of this session, built on the kit's print (it is not the print's own text).
namespace Go.Proofs.Ytihmblbnnhcdnaa.Print
open Go.RowKit Go.Proofs.YtihmblbnnhcdnaaW.PrintWords Go.Proofs.YtihmblbnnhcdnaaW.PrintLast Go.Proofs.YtihmblbnnhcdnaaW.PrintMore
attribute [local go_sem] max2_int min2_int max_two min_two max_three min_three max_four min_four   -- for this text's walks alone
set_option linter.unusedVariables false
set_option linter.unusedSimpArgs false

attribute [local go_sem high] eqA33
/-! ### hearsayref17_Equal: function 12 -/
def hearsayref17_Equal.l0 : Nat → List (S33) → List (S33) → Int → Option (Bool)
  | 0, _, _, _ => none
  | k + 1, x0, x1, x5 => if x5 < (x0.length : Int) then (if 0 ≤ x5 then (if x5 < (x1.length : Int) then (if (!(((rd_T33 x0 x5).f0) == ((rd_T33 x1 x5).f0)) || (!(((rd_T33 x0 x5).f1) == ((rd_T33 x1 x5).f1)) || (!(((rd_T33 x0 x5).f2) == ((rd_T33 x1 x5).f2)) || (!((((rd_T33 x0 x5).f3).toList) == (((rd_T33 x1 x5).f3).toList)))))) = true then (some false) else (hearsayref17_Equal.l0 k x0 x1 (wrap64 (x5 + 1)))) else (none)) else (none)) else (some true)
def hearsayref17_Equal.f (k : Nat) (l0 : List (S33)) (l1 : List (S33)) : Option (Bool) := if (l0.length : Int) = (l1.length : Int) then (hearsayref17_Equal.l0 k l0 l1 0) else (some false)
theorem hearsayref17_Equal.mono_l : ∀ k, (∀ y0 y1 y2, LeO (hearsayref17_Equal.l0 k y0 y1 y2) (hearsayref17_Equal.l0 (k + 1) y0 y1 y2))
  | 0 => fun _ _ _ r h => by simp [hearsayref17_Equal.l0] at h
  | k + 1 => by
    have ih0 := hearsayref17_Equal.mono_l k
    · intro y0 y1 y2
      unfold hearsayref17_Equal.l0
      repeat' first
      | (with_reducible exact ih0 _ _ _)
      | (with_reducible exact LeO.refl _)
      | (with_reducible exact LeO.none _)
      | (with_reducible refine LeO.ite ?_ ?_)
      | (with_reducible refine LeO.bind ?_ (fun _ => ?_))
      | exact ih0 _ _ _
      | exact LeO.none _
      | refine LeO.ite ?_ ?_
      | refine LeO.bind ?_ (fun _ => ?_)
theorem hearsayref17_Equal.mono : ∀ a0 a1 k, LeO (hearsayref17_Equal.f k a0 a1) (hearsayref17_Equal.f (k + 1) a0 a1) := by
  intro a0 a1 k
  have ih0 := hearsayref17_Equal.mono_l k
  unfold hearsayref17_Equal.f
  repeat' first
      | (with_reducible exact ih0 _ _ _)
      | (with_reducible exact LeO.refl _)
      | (with_reducible exact LeO.none _)
      | (with_reducible refine LeO.ite ?_ ?_)
      | (with_reducible refine LeO.bind ?_ (fun _ => ?_))
      | exact ih0 _ _ _
      | exact LeO.none _
      | refine LeO.ite ?_ ?_
      | refine LeO.bind ?_ (fun _ => ?_)
set_option maxHeartbeats 8000000 in
set_option maxRecDepth 100000 in
theorem hearsayref17_Equal.calls (k : Nat) (A0 : Option Addr) (c0 : Nat) (l0 : List (S33)) (A1 : Option Addr) (c1 : Nat) (l1 : List (S33)) (r : Bool) (w : World) (hr0 : Kd.C k33 w A0 l0.length l0) (hc0 : l0.length ≤ c0) (hr1 : Kd.C k33 w A1 l1.length l1) (hc1 : l1.length ≤ c1) (h : hearsayref17_Equal.f k l0 l1 = some r) :
    Calls Try.prog 12 #[.slice A0 l0.length c0, .slice A1 l1.length c1] w fun e w' => e = .returned (.bool r) ∧ Drawn0 w w' := by
  have hu33 := Try.underlying33
  have HR0 := Aside0.mk hr0
  have HC0 := Aside0.mk hc0
  clear hr0 hc0
  have HR1 := Aside0.mk hr1
  have HC1 := Aside0.mk hc1
  clear hr1 hc1
  have H : (if (l0.length : Int) = (l1.length : Int) then (hearsayref17_Equal.l0 k l0 l1 0) else (some false)) = some r := h
  clear h
  by_cases c3 : (l0.length : Int) = (l1.length : Int)
  · rw [if_pos c3] at H
    have c3b0 : ((l0.length : Int) == (l1.length : Int)) = true := beq_iff_eq.mpr c3
    have c3b1 : ((l0.length : Int) != (l1.length : Int)) = false := bne_eq_false_iff_eq.mpr c3
    have c3b2 : (l0.length == l1.length) = true := by first | simpa using c3 | (simp at c3 ⊢; omega)
    clear c3
    have H' := Aside0.mk H
    clear H
    go_enter Try.func12, Try.ntmps12
    go_wp2
    repeat (go_quiet (fail); try go_wp2)
    go_loopg [5] k (fun kq v5 w' => ∃ (x5_1 : Int), v5 = .int .i64 x5_1 ∧ Aside0 (hearsayref17_Equal.l0 kq l0 l1 x5_1 = some r) ∧ Aside0 (kq ≤ k) ∧ Drawn0 w w')
    case atStart => exact ⟨(0), (by first | rfl | (simp; done) | (simp [*]; done)), H', ⟨Nat.le_refl _⟩, by repeat (first | exact Drawn0.refl _ | apply Drawn0.step)⟩
    case round =>
      clear H'
      try clear c1
      try clear p2
      try clear c3
      try clear c3b0
      try clear c3b1
      try clear c3b2
      obtain ⟨x5_1, rfl, HA, HK1, ⟨m1, rfl⟩⟩ := hrel
      cases gk with
      | zero => exact absurd HA.out (by simp [hearsayref17_Equal.l0])
      | succ k1 =>
        have H := HA.out
        clear HA
        simp only [hearsayref17_Equal.l0] at H
        by_cases c4 : x5_1 < (l0.length : Int)
        · rw [if_pos c4] at H
          have c4b0 : decide (x5_1 < (l0.length : Int)) = true := decide_eq_true c4
          clear c4
          by_cases c5 : 0 ≤ x5_1
          · rw [if_pos c5] at H
            have c5b0 : decide (0 ≤ x5_1) = true := decide_eq_true c5
            clear c5
            by_cases c6 : x5_1 < (l1.length : Int)
            · rw [if_pos c6] at H
              have c6b0 : decide (x5_1 < (l1.length : Int)) = true := decide_eq_true c6
              clear c6
              by_cases c7 : (!(((rd_T33 l0 x5_1).f0) == ((rd_T33 l1 x5_1).f0)) || (!(((rd_T33 l0 x5_1).f1) == ((rd_T33 l1 x5_1).f1)) || (!(((rd_T33 l0 x5_1).f2) == ((rd_T33 l1 x5_1).f2)) || (!((((rd_T33 l0 x5_1).f3).toList) == (((rd_T33 l1 x5_1).f3).toList)))))) = true
              · rw [if_pos c7] at H
                have c7b0 : (!(((rd_T33 l0 x5_1).f0) == ((rd_T33 l1 x5_1).f0)) || (!(((rd_T33 l0 x5_1).f1) == ((rd_T33 l1 x5_1).f1)) || (!(((rd_T33 l0 x5_1).f2) == ((rd_T33 l1 x5_1).f2)) || (!((((rd_T33 l0 x5_1).f3).toList) == (((rd_T33 l1 x5_1).f3).toList)))))) = true := c7
                clear c7
                obtain rfl := Option.some.inj H
                have p116 : 0 ≤ (x5_1 : Int) := of_decide_eq_true (by first | (with_reducible assumption) | assumption)
                have q116 : x5_1 < (l0.length : Int) := of_decide_eq_true (by first | (with_reducible assumption) | assumption)
                obtain ⟨ad116, e116, hx116_0, hx116_1, hx116_2, hx116_3⟩ := at_T33 HR0.out x5_1 p116 q116
                cases e116
                replace p116 := eq_true p116
                replace q116 := eq_true q116
                have p117 : 0 ≤ (x5_1 : Int) := of_decide_eq_true (by first | (with_reducible assumption) | assumption)
                have q117 : x5_1 < (l1.length : Int) := of_decide_eq_true (by first | (with_reducible assumption) | assumption)
                obtain ⟨ad117, e117, hx117_0, hx117_1, hx117_2, hx117_3⟩ := at_T33 HR1.out x5_1 p117 q117
                cases e117
                replace p117 := eq_true p117
                replace q117 := eq_true q117
                go_wp2
                repeat (go_quiet (fail); try go_wp2)
                go_ret
                exact ⟨by first | rfl | (simp; done) | (simp [*]; done), by repeat (first | exact Drawn0.refl _ | apply Drawn0.step)⟩
              · rw [if_neg c7] at H
                have c7b0 : (!(((rd_T33 l0 x5_1).f0) == ((rd_T33 l1 x5_1).f0)) || (!(((rd_T33 l0 x5_1).f1) == ((rd_T33 l1 x5_1).f1)) || (!(((rd_T33 l0 x5_1).f2) == ((rd_T33 l1 x5_1).f2)) || (!((((rd_T33 l0 x5_1).f3).toList) == (((rd_T33 l1 x5_1).f3).toList)))))) = false := by simpa using c7
                clear c7
                have H' := Aside0.mk H
                clear H
                have p116 : 0 ≤ (x5_1 : Int) := of_decide_eq_true (by first | (with_reducible assumption) | assumption)
                have q116 : x5_1 < (l0.length : Int) := of_decide_eq_true (by first | (with_reducible assumption) | assumption)
                obtain ⟨ad116, e116, hx116_0, hx116_1, hx116_2, hx116_3⟩ := at_T33 HR0.out x5_1 p116 q116
                cases e116
                replace p116 := eq_true p116
                replace q116 := eq_true q116
                have p117 : 0 ≤ (x5_1 : Int) := of_decide_eq_true (by first | (with_reducible assumption) | assumption)
                have q117 : x5_1 < (l1.length : Int) := of_decide_eq_true (by first | (with_reducible assumption) | assumption)
                obtain ⟨ad117, e117, hx117_0, hx117_1, hx117_2, hx117_3⟩ := at_T33 HR1.out x5_1 p117 q117
                cases e117
                replace p117 := eq_true p117
                replace q117 := eq_true q117
                go_wp2
                repeat (go_quiet (fail); try go_wp2)
                go_roundg k1
                case measure => have := HK1.out; omega
                case rel => exact ⟨(wrap64 (x5_1 + 1)), (by first | rfl | (simp; done) | (simp [*]; done)), H', ⟨by have := HK1.out; omega⟩, by repeat (first | exact Drawn0.refl _ | apply Drawn0.step)⟩
            · rw [if_neg c6] at H
              exact absurd H (by simp)
          · rw [if_neg c5] at H
            exact absurd H (by simp)
        · rw [if_neg c4] at H
          have c4b0 : decide (x5_1 < (l0.length : Int)) = false := decide_eq_false c4
          clear c4
          obtain rfl := Option.some.inj H
          go_wp2
          repeat (go_quiet (fail); try go_wp2)
          go_ret
          exact ⟨by first | rfl | (simp; done) | (simp [*]; done), by repeat (first | exact Drawn0.refl _ | apply Drawn0.step)⟩
  · rw [if_neg c3] at H
    have c3b0 : ((l0.length : Int) == (l1.length : Int)) = false := beq_eq_false_iff_ne.mpr c3
    have c3b1 : ((l0.length : Int) != (l1.length : Int)) = true := bne_iff_ne.mpr c3
    have c3b2 : (l0.length == l1.length) = false := by first | simpa using c3 | (simp at c3 ⊢; omega)
    obtain rfl := Option.some.inj H
    go_enter Try.func12, Try.ntmps12
    go_wp2
    repeat (go_quiet (fail); try go_wp2)
    go_ret
    exact ⟨by first | rfl | (simp; done) | (simp [*]; done), by repeat (first | exact Drawn0.refl _ | apply Drawn0.step)⟩

end Go.Proofs.Ytihmblbnnhcdnaa.Print
end
section
/- What RumorPlays takes: the kind of an act; a queue beside the document's one; lists of members held against each other; a row written over. -/
namespace Go.Proofs.Ytihmblbnnhcdnaa.Print
open Go.RowKit Go.Maps Go.ChangeMaps Go.Proofs.YtihmblbnnhcdnaaW.PrintWords Go.Proofs.YtihmblbnnhcdnaaW.PrintLast Go.Proofs.YtihmblbnnhcdnaaW.PrintMore
set_option linter.unusedVariables false
set_option linter.unusedSimpArgs false
structure S35 where
  f0 : Int
  f1 : Int
  f2 : Mem
def z35 : S35 := ⟨0, 0, z33⟩
def k35 : Kd S35 := Kd.iso (Kd.pair (Kd.int .i64) (Kd.pair (Kd.int .i64) k33)) (fun x : S35 => (x.f0, x.f1, x.f2))
theorem kA_open {w : World} {x : S35} {cs : List Value} (h : k35.K w x cs) : cs = [.int .i64 x.f0, .int .i64 x.f1, .int .u32 x.f2.f0, .int .u32 x.f2.f1, .int .u8 x.f2.f2, .string x.f2.f3] := by
  obtain ⟨_, _, rfl, rfl, ⟨_, _, rfl, rfl, h2⟩⟩ := h
  obtain rfl := k33_open h2
  exact rfl
theorem at_A {w : World} {A : Option Addr} {n : Nat} {xs : List S35} (h : Kd.C k35 w A n xs) {i : Nat} {x : S35} (hx : xs[i]? = some x) : ∃ ad, A = some ad ∧ w.cell? (ad.add (i * 6)) = some (.int .i64 x.f0) ∧ w.cell? ⟨(ad.add (i * 6)).block, (ad.add (i * 6)).off + 1, none⟩ = some (.int .i64 x.f1) ∧ w.cell? ⟨(ad.add (i * 6)).block, (ad.add (i * 6)).off + 2, none⟩ = some (.int .u32 x.f2.f0) ∧ w.cell? ⟨(ad.add (i * 6)).block, (ad.add (i * 6)).off + 3, none⟩ = some (.int .u32 x.f2.f1) ∧ w.cell? ⟨(ad.add (i * 6)).block, (ad.add (i * 6)).off + 4, none⟩ = some (.int .u8 x.f2.f2) ∧ w.cell? ⟨(ad.add (i * 6)).block, (ad.add (i * 6)).off + 5, none⟩ = some (.string x.f2.f3) := by
  have hil : i < xs.length := (List.getElem?_eq_some_iff.1 hx).1
  have hn : xs.length = n := h.1
  obtain ⟨ad, c, e, _, hK, hc0⟩ := Kd.C_get h z35 (i : Int) (by omega) (by omega)
  have e9 : xs.getD ((i : Int)).toNat z35 = x := by rw [Int.toNat_natCast, List.getD_eq_getElem?_getD, hx]; rfl
  rw [e9] at hK
  rw [Int.toNat_natCast] at hc0
  have hc : ∀ j u, c[j]? = some u → w.cell? (ad.add (i * 6 + j)) = some u := hc0
  obtain rfl := kA_open hK
  exact ⟨ad, e, hc 0 _ rfl, by rw [← add_field _ _ 1 (by omega)]; exact hc 1 _ rfl, by rw [← add_field _ _ 2 (by omega)]; exact hc 2 _ rfl, by rw [← add_field _ _ 3 (by omega)]; exact hc 3 _ rfl, by rw [← add_field _ _ 4 (by omega)]; exact hc 4 _ rfl, by rw [← add_field _ _ 5 (by omega)]; exact hc 5 _ rfl⟩
/-- the members of rumors -/
def memsL (L : List One) : List Mem := L.map (·.m)
theorem memsL_len (L : List One) : (memsL L).length = L.length := List.length_map _
def tookL (L : List One) (n : Int) : List Mem := (L.take (takeN L n)).map (·.m)
theorem tookL_len (L : List One) (n : Int) : (tookL L n).length = takeN L n := by unfold tookL takeN; rw [List.length_map, List.length_take]; omega
theorem listq_m (w : World) (g mb : Nat) (t last : Int) (v : Value) (hs : Hs) (L : List One) (h : Qs w g mb t last v hs L) (hl : last ≤ 800000) :
    Calls Try.prog 16 #[.pointer (some ⟨g, 0, none⟩)] w fun e w' => ∃ A c, e = .returned (.slice A (memsL L).length c) ∧ Kd.R k33 33 w' w.heap.size (fun _ => True) (.slice A (memsL L).length c) (memsL L) ∧ Below w.heap.size w w' := by
  rw [memsL_len]; exact listq_s w g mb t last v hs L h hl
theorem rlist_m (w : World) (h : Nat) (t nx : Int) (p : Option Addr) (c : Nat) (L : List One) (hR : Rf w h t nx p c L) (hl : L.length ≤ 800000) : Calls Try.prog 17 #[.pointer (some ⟨h, 0, none⟩)] w fun e w' =>
    ∃ A ca, e = .returned (.slice A (memsL L).length ca) ∧ Kd.R k33 33 w' w.heap.size (fun _ => True) (.slice A (memsL L).length ca) (memsL L) ∧ Below w.heap.size w w' := by
  rw [memsL_len]; exact rlist_calls w h t nx p c L hR hl
theorem takeq_m (w : World) (g mb : Nat) (t last : Int) (v : Value) (hs : Hs) (L : List One) (kk : Int) (h : Qs w g mb t last v hs L) (hl : last ≤ 800000) :
    Calls Try.prog 13 #[.pointer (some ⟨g, 0, none⟩), .int .i64 kk] w fun e w' => ∃ A c v' hs', e = .returned (.slice A (tookL L kk).length c) ∧ Kd.R k33 33 w' w.heap.size (fun _ => True) (.slice A (tookL L kk).length c) (tookL L kk) ∧ Qs w' g mb t last v' hs' (takeL t L kk) ∧ Kp w w' (QB g mb v hs) ∧ ∀ k, QB g mb v' hs' k → QB g mb v hs k ∨ w.heap.size ≤ k := by
  rw [tookL_len]; exact takeq_s w g mb t last v hs L kk h hl
theorem rtake_m (w : World) (h : Nat) (t nx : Int) (p : Option Addr) (c : Nat) (L : List One) (kk : Int) (hR : Rf w h t nx p c L) (hl : L.length ≤ 400000) (hsn : ∀ x ∈ L, 0 ≤ x.sent ∧ x.sent < t) (ht : t ≤ 64) : Calls Try.prog 14 #[.pointer (some ⟨h, 0, none⟩), .int .i64 kk] w fun e w' =>
    ∃ A ca p' c', e = .returned (.slice A (tookL L kk).length ca) ∧ Kd.R k33 33 w' w.heap.size (fun _ => True) (.slice A (tookL L kk).length ca) (tookL L kk) ∧ Rf w' h t nx p' c' (takeL t L kk) ∧ Kp w w' (RB h p) ∧ ∀ j, RB h p' j → RB h p j ∨ w.heap.size ≤ j := by
  rw [tookL_len]; exact rtake_calls w h t nx p c L kk hR hl hsn ht
/-- a queue's blocks are none of the document's one -/
theorem qr_dis {w : World} {g mb h c : Nat} {t last t' nx : Int} {v : Value} {hs : Hs} {L L' : List One} {p : Option Addr} (hq : Qs w g mb t last v hs L) (hr : Rf w h t' nx p c L') : ∀ j, QB g mb v hs j → ¬ RB h p j := fun j hj hj' => by
  obtain ⟨cells, tt, hc, h1⟩ := hr.typ hj'
  have h2 := hq.typ hj hc
  rcases h1 with h1 | h1 <;> rcases h2 with h2 | h2 | h2 <;> rw [h1] at h2 <;> exact absurd h2 (by decide)
theorem equal_l0R (L : List Mem) (hl : L.length ≤ 1000000) (d : Nat) : ∀ i : Nat, L.length - i ≤ d → i ≤ L.length → Ev (fun k => hearsayref17_Equal.l0 k L L (i : Int)) true := by
  have fin : Ev (fun k => hearsayref17_Equal.l0 k L L (L.length : Int)) true := by
    refine Ev.step (f := fun _ => some true) (fun k => ?_) (Ev.now _)
    simp only [hearsayref17_Equal.l0]
    rw [if_neg (by omega)]
  induction d with
  | zero =>
    intro i hd hi
    have : i = L.length := by omega
    subst this
    exact fin
  | succ d ih =>
    intro i hd hi
    by_cases hlt : i < L.length
    · refine Ev.step (fun k => ?_) (ih (i + 1) (by omega) (by omega))
      simp only [hearsayref17_Equal.l0]
      rw [if_pos (by omega), if_pos (by omega), if_pos (by omega), if_neg (by simp), w64 (by omega) (by omega)]
      rfl
    · exact ih i (by omega) hi
theorem equal_sameR (L : List Mem) (hl : L.length ≤ 1000000) : ∃ k, hearsayref17_Equal.f k L L = some true := by
  obtain ⟨K, hK⟩ := equal_l0R L hl L.length 0 (by omega) (by omega)
  refine ⟨K, ?_⟩
  unfold hearsayref17_Equal.f
  rw [if_pos rfl]
  exact hK K (Nat.le_refl _)
/-- a block of members that may be written over -/
def Wip (w : World) (r n : Nat) : Prop := ∃ cur, w.heap[r]? = some (.cells cur 33 (0, 0)) ∧ n * 4 ≤ cur.size
theorem wip_of {w : World} {base n c : Nat} {ok : Nat → Prop} {A : Option Addr} {xs : List Mem} (h : Kd.R k33 33 w base ok (.slice A n c) xs) (h0 : 0 < n) : ∃ r, A = some ⟨r, 0, none⟩ ∧ Wip w r n ∧ base ≤ r := by
  obtain ⟨hn, _, _⟩ := Kd.R_reads' h
  obtain ⟨inner, _, h3⟩ := Kd.R_own h
  rcases h3 with ⟨h3, h4⟩ | ⟨g, cap, cur, h3, hb, hh, h5, h6, h7, h8⟩
  · omega
  · injection h3 with h31 h32 h33
    refine ⟨g, h31, ⟨cur, hh, ?_⟩, hb⟩
    have e1 : cur.size = cap * 4 := h7
    rw [e1]
    exact Nat.mul_le_mul_right _ (by omega)
theorem Wip.cell {w : World} {r n : Nat} (h : Wip w r n) (j : Nat) (hj : j < n * 4) : ∃ v, w.cell? ⟨r, j, none⟩ = some v := by
  obtain ⟨cur, h1, h2⟩ := h
  exact ⟨cur[j]'(by omega), by rw [blk_cell h1, Array.getElem?_eq_getElem]⟩
theorem Wip.frozen {w : World} {r n : Nat} (h : Wip w r n) (j : Nat) : w.frozen? ⟨r, j, none⟩ = false := by
  obtain ⟨cur, h1, h2⟩ := h
  exact blk_frozen h1 j
theorem Wip.lt {w : World} {r n : Nat} (h : Wip w r n) : r < w.heap.size := by
  obtain ⟨cur, h1, h2⟩ := h
  exact blk_lt h1
theorem Wip.set {w : World} {r n : Nat} (h : Wip w r n) (j : Nat) (u : Value) : Wip (w.setCell ⟨r, j, none⟩ u) r n := by
  obtain ⟨cur, h1, h2⟩ := h
  exact ⟨_, blk_put h1 j u rfl, by simpa using h2⟩
theorem Wip.below {w w' : World} {r n : Nat} (h : Wip w r n) (hb : Below w.heap.size w w') : Wip w' r n := by
  obtain ⟨cur, h1, h2⟩ := h
  exact ⟨cur, blk_below h1 hb, h2⟩
end Go.Proofs.Ytihmblbnnhcdnaa.Print
namespace Go.Proofs.Ytihmblbnnhcdnaa.Opens
open Go.ChangeShapes Go.WideShapes Go.ChangeAt Go.RowKit Go.Proofs.YtihmblbnnhcdnaaW.PrintWords Go.Proofs.Ytihmblbnnhcdnaa.Print
set_option linter.unusedVariables false
theorem opens35 : Opens Try.prog 35 k35 (fun x => wfM x.f2) := by
  have h := opens_iso (opens_struct Try.underlying35 (by kernel_rfl) (opensF_cons rfl (by kernel_rfl) (opens_int (k := .i64) (by kernel_rfl)) (opensF_cons rfl (by kernel_rfl) (opens_int (k := .i64) (by kernel_rfl)) (opensF_one rfl (by kernel_rfl) opens33)))) (fun x : S35 => (x.f0, x.f1, x.f2)) (fun y => ⟨y.1, y.2.1, y.2.2⟩) (fun _ => rfl)
  intro H enc w base spare held fuel cs y hy
  obtain ⟨x, hk, h0, h1, h2⟩ := h H enc w base spare held fuel cs y hy
  exact ⟨x, hk, h2⟩
end Go.Proofs.Ytihmblbnnhcdnaa.Opens
end
