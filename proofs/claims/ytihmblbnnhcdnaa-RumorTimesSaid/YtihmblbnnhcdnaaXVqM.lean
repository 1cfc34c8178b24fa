/- Some texts of the proof in one: XListQ, XQsP, XQsC, XView, XColl, XApp, XSorted, XCmpA, XLays, XShelf, XList, Eq33, F12, XVqP, XTimesP, XOpensM. -/
import Derived.Test.YtihmblbnnhcdnaaXCopyQ
import Derived.Test.YtihmblbnnhcdnaaXWakesR
import Derived.Test.YtihmblbnnhcdnaaXCkP
import Derived.Test.YtihmblbnnhcdnaaXMem
import Derived.RangeFuncNested
import Derived.RangeFuncBound
import Derived.RangeFuncCalls
import Derived.RangeFuncLeaves
import Derived.RangeFuncFrom
import Derived.RangeFuncBox
import Derived.Sort.MapsRangeIn
import Derived.Shelf.Abstract
import Derived.Shelf.RegionOpen
import Derived.OwnWalkIn
import Derived.TacticsInMore
import Derived.LoopNIn
import Derived.LoopIn
import Derived.Outline
import Derived.Shelf.SlSortCmp.InsertionK
import Derived.Sort.OwnSorted
import Derived.Shelf.SlLaysF0
import Derived.Test.YtihmblbnnhcdnaaProg
import Derived.Shelf.Small.Bits
import Derived.Shelf.Strconv.Itoa0
import Derived.Shelf.SlSortCmp.WholeK
import Derived.Test.YtihmblbnnhcdnaaKinds
import Derived.Test.YtihmblbnnhcdnaaXOpens
section
/- A queue's List, walked. -/
namespace Go.Proofs.Ytihmblbnnhcdnaa.Print
open Go.RowKit Go.Maps Go.ChangeMaps Go.Proofs.YtihmblbnnhcdnaaW.PrintWords Go.Proofs.YtihmblbnnhcdnaaW.PrintLast Go.Proofs.YtihmblbnnhcdnaaW.PrintMore
set_option linter.unusedVariables false
set_option linter.unusedSimpArgs false
set_option maxHeartbeats 8000000 in
set_option maxRecDepth 100000 in
theorem listq_calls (w : World) (g mb n : Nat) (t last : Int) (v : Value) (hs : Hs) (h : Qw w g mb n t last v hs) (hl : hs.length ≤ 900000) (hsb : ∀ p ∈ hs, 0 ≤ p.2.sent ∧ p.2.sent < t) (ht : t ≤ 64) :
    Calls Try.prog 16 #[.pointer (some ⟨g, 0, none⟩)] w fun e w' => ∃ (A : Option Addr) (c : Nat) (ps : Hs), e = .returned (.slice A ps.length c) ∧ Kd.R k33 33 w' w.heap.size (fun _ => True) (.slice A ps.length c) (ps.map (·.2.m)) ∧ (ps.map (·.2)).Perm (hs.map (·.2)) ∧ ps.Pairwise (fun a b => lessO b.2 a.2 = false) ∧ Below w.heap.size w w' := by
  have HC := Aside0.mk (copyq_calls w g mb n t last v hs h hl)
  have HLL := Aside0.mk hl
  have HSB := Aside0.mk hsb
  have HT := Aside0.mk ht
  clear h hl hsb ht
  go_enter Try.func16, Try.ntmps16
  go_upto_region 2 with (first | (go_at_call 15; refine HC.out.mono ?_; rintro e w1 ⟨g', mb', v', hs', rfl, h1_, h2_, h3_, h4_, h5_, h6_, h7_⟩; have HQ1 := Aside0.mk h1_; have HM1 := Aside0.mk h2_; have HG1 := Aside0.mk (And.intro h3_ h4_); have HF1 := Aside0.mk (And.intro h5_ h6_); have HB1 := Aside0.mk h7_; clear h1_ h2_ h3_ h4_ h5_ h6_ h7_ HC))
  obtain ⟨A, c, rfl, hcl, hcm⟩ := HQ1.out.rq.ho.form
  have hc1 := HQ1.out.rq.cell
  have hlen : hs'.length = hs.length := by
    have h1 := congrArg List.length HM1.out
    rw [List.length_map, List.length_map] at h1
    exact h1
  have hl9 := HLL.out
  have HTK := Aside0.mk (takeq_calls w1 g' mb' hs.length t last (.slice A hs'.length c) hs' hs'.length HQ1.out (by omega) (fun p hp => by
    have h1 : p.2 ∈ hs.map (·.2) := by rw [← HM1.out]; exact List.mem_map.2 ⟨p, hp, rfl⟩
    obtain ⟨q, hq, e⟩ := List.mem_map.1 h1
    rw [← e]
    exact HSB.out q hq) HT.out)
  clear hlen hl9
  go_wp2_with (first | (go_at_call 13; (with_reducible refine HTK.out.mono ?_); rintro e w2 ⟨A2, c2, v2, hs2, ps, rest, rfl, h1_, h2_, h3_, h4_, _, h5_, _, _⟩; have HR2 := Aside0.mk h1_; have HT2 := Aside0.mk h2_; have HP2 := Aside0.mk h3_; have HS2 := Aside0.mk h4_; have HN2 := Aside0.mk h5_; clear h1_ h2_ h3_ h4_ h5_ HTK))
  go_ret
  have hn2 := HN2.out
  have hps : ps.length = hs'.length := by rw [hn2]; simp
  have hrest : rest = [] := by
    have h1 := HP2.out.length_eq
    rw [List.length_append] at h1
    exact List.eq_nil_of_length_eq_zero (by omega)
  have hp2 := HP2.out
  rw [hrest, List.append_nil] at hp2
  refine ⟨A2, c2, ps, rfl, Kd.R_lower HR2.out HB1.out.size, ?_, HS2.out, HB1.out.trans (HT2.out.kp.below HB1.out.size (hos_ge HG1.out HF1.out.2 HF1.out.1))⟩
  rw [← HM1.out]
  exact hp2.map _
end Go.Proofs.Ytihmblbnnhcdnaa.Print
end
section
/- A queue as the list in the order in which its rumors would be taken: what Add, Take, List and Left tell of it (plain). -/
namespace Go.Proofs.Ytihmblbnnhcdnaa.Print
open Go.RowKit Go.Maps Go.ChangeMaps Go.Proofs.YtihmblbnnhcdnaaW.PrintWords Go.Proofs.YtihmblbnnhcdnaaW.PrintLast Go.Proofs.YtihmblbnnhcdnaaW.PrintMore
set_option linter.unusedVariables false
set_option linter.unusedSimpArgs false
def Srt (L : List One) : Prop := L.Pairwise (fun a b => lessO a b = true)
/-- put at its place -/
def insO (x : One) : List One → List One
  | [] => [x]
  | y :: r => if lessO y x = true then y :: insO x r else x :: y :: r
def idxO (x : One) : List One → Nat
  | [] => 0
  | y :: r => if lessO y x = true then idxO x r + 1 else 0
theorem ins_idx (x : One) : ∀ L, insO x L = L.take (idxO x L) ++ [x] ++ L.drop (idxO x L)
  | [] => rfl
  | y :: r => by
    unfold insO idxO
    split
    · rw [ins_idx x r]; simp
    · simp
theorem idxO_le (x : One) : ∀ L, idxO x L ≤ L.length
  | [] => Nat.le_refl _
  | y :: r => by
    unfold idxO
    have := idxO_le x r
    split
    · simp only [List.length_cons]; omega
    · omega
theorem idxO_at (x : One) : ∀ (L : List One) (k : Nat) (y : One), L[k]? = some y → k ≤ idxO x L → (lessO y x = true → k < idxO x L) ∧ (lessO y x = false → k = idxO x L)
  | [], k, y, h, _ => by simp at h
  | z :: r, 0, y, h, _ => by
    have e : z = y := by simpa using h
    subst e
    unfold idxO
    constructor
    · intro h; rw [if_pos h]; omega
    · intro h; rw [if_neg (by simp [h])]
  | z :: r, k + 1, y, h, hk => by
    unfold idxO at hk ⊢
    by_cases hz : lessO z x = true
    · rw [if_pos hz] at hk ⊢
      have := idxO_at x r k y (by simpa using h) (by omega)
      exact ⟨fun h => by have := this.1 h; omega, fun h => by rw [this.2 h]⟩
    · rw [if_neg hz] at hk
      omega
theorem ins_perm (x : One) : ∀ L, (insO x L).Perm (x :: L)
  | [] => List.Perm.refl _
  | y :: r => by
    unfold insO
    split
    · exact (List.Perm.cons y (ins_perm x r)).trans (List.Perm.swap _ _ _)
    · exact List.Perm.refl _
theorem lessO_trans {a b c : One} (h1 : lessO a b = true) (h2 : lessO b c = true) : lessO a c = true := by
  unfold lessO at *
  split at h1 <;> split at h2 <;> split <;> simp at * <;> omega
theorem lessO_tot {a b : One} (h : lessO a b = false) (hne : a.tm ≠ b.tm) : lessO b a = true := by
  unfold lessO at *
  split at h <;> split <;> simp at * <;> omega
theorem ins_srt {x : One} : ∀ {L : List One}, Srt L → (∀ y ∈ L, y.tm ≠ x.tm) → Srt (insO x L)
  | [], _, _ => by unfold insO Srt; simp
  | y :: r, h, hne => by
    obtain ⟨h1, h2⟩ := List.pairwise_cons.1 h
    unfold insO
    by_cases hl : lessO y x = true
    · rw [if_pos hl]
      refine List.pairwise_cons.2 ⟨fun z hz => ?_, ins_srt h2 (fun z hz => hne z (List.mem_cons_of_mem _ hz))⟩
      rcases List.mem_cons.1 ((ins_perm x r).mem_iff.1 hz) with rfl | hz
      · exact hl
      · exact h1 z hz
    · rw [if_neg hl]
      have hx : lessO x y = true := lessO_tot (by simpa using hl) (hne y (by simp))
      refine List.pairwise_cons.2 ⟨fun z hz => ?_, h⟩
      rcases List.mem_cons.1 hz with rfl | hz
      · exact hx
      · exact lessO_trans hx (h1 z hz)
/-- those that were taken are put back, once more sent -/
def puts (t : Int) : List One → List One → List One
  | [], R => R
  | x :: r, R => puts t r (if x.sent + 1 < t then insO (sentO x) R else R)
def backL (t : Int) (ps : List One) : List One := ps.filterMap (fun x => if x.sent + 1 < t then some (sentO x) else none)
theorem puts_snoc (t : Int) (x : One) : ∀ ps R, puts t (ps ++ [x]) R = if x.sent + 1 < t then insO (sentO x) (puts t ps R) else puts t ps R
  | [], R => rfl
  | y :: r, R => by
    show puts t (r ++ [x]) _ = _
    rw [puts_snoc t x r]
    rfl
theorem puts_perm (t : Int) : ∀ ps R, (puts t ps R).Perm (R ++ backL t ps)
  | [], R => by simp [puts, backL]
  | x :: r, R => by
    unfold puts
    refine (puts_perm t r _).trans ?_
    unfold backL
    by_cases h : x.sent + 1 < t
    · rw [if_pos h, List.filterMap_cons_some (by rw [if_pos h])]
      refine (List.Perm.append_right _ (ins_perm _ _)).trans ?_
      exact List.perm_middle.symm
    · rw [if_neg h, List.filterMap_cons_none (by rw [if_neg h])]
theorem back_tm (t : Int) (ps : List One) : ∀ y ∈ backL t ps, ∃ x ∈ ps, y = sentO x ∧ x.sent + 1 < t := by
  intro y hy
  obtain ⟨x, hx, e⟩ := List.mem_filterMap.1 hy
  by_cases h : x.sent + 1 < t
  · rw [if_pos h] at e
    exact ⟨x, hx, (Option.some.inj e).symm, h⟩
  · rw [if_neg h] at e; cases e
theorem puts_srt (t : Int) : ∀ (ps R : List One), Srt R → ((ps ++ R).map (·.tm)).Nodup → Srt (puts t ps R)
  | [], R, h, _ => h
  | x :: r, R, h, hn => by
    unfold puts
    have hn' : ((r ++ x :: R).map (·.tm)).Nodup := ((List.perm_middle (a := x) (l₁ := r) (l₂ := R)).map (·.tm)).nodup_iff.2 hn
    by_cases hs : x.sent + 1 < t
    · rw [if_pos hs]
      refine puts_srt t r _ (ins_srt h (fun y hy e => ?_)) ?_
      · rw [List.cons_append, List.map_cons, List.nodup_cons] at hn
        exact hn.1 (List.mem_map.2 ⟨y, List.mem_append_right _ hy, e⟩)
      · have h1 : ((r ++ insO (sentO x) R).map (·.tm)).Perm ((r ++ x :: R).map (·.tm)) := by
          rw [List.map_append, List.map_append]
          exact List.Perm.append_left _ ((ins_perm (sentO x) R).map (·.tm))
        exact h1.nodup_iff.2 hn'
    · rw [if_neg hs]
      refine puts_srt t r _ h ?_
      rw [List.cons_append, List.map_cons, List.nodup_cons] at hn
      exact hn.2
/-- what an Add tells: whether, the error, the list, the last time -/
def findA (L : List One) (a : Int) : Option One := L.find? (fun x => x.m.f0 == a)
def outA (L : List One) (a : Int) : List One := L.filter (fun x => x.m.f0 != a)
def addL (L : List One) (nx : Int) (m : Mem) : Bool × Int × List One × Int :=
  if mayM m = false then (false, 170, L, nx) else
  match findA L m.f0 with
  | some y => if cmpM m y.m ≤ 0 then (false, 0, L, nx) else (true, 0, ⟨m, 0, nx + 1⟩ :: outA L m.f0, nx + 1)
  | none => (true, 0, ⟨m, 0, nx + 1⟩ :: L, nx + 1)
def takeN (L : List One) (n : Int) : Nat := min n.toNat L.length
def takeL (t : Int) (L : List One) (n : Int) : List One := puts t (L.take (takeN L n)) (L.drop (takeN L n))
def leftL (t : Int) (L : List One) (a : Int) : Int := match findA L a with | some x => t - x.sent | none => 0
/-- a list of rumors that a queue may have -/
structure Al (t last : Int) (L : List One) : Prop where
  srt : Srt L
  adr : (L.map (·.m.f0)).Nodup
  tnd : (L.map (·.tm)).Nodup
  tms : ∀ x ∈ L, x.tm ≤ last
  snt : ∀ x ∈ L, 0 ≤ x.sent ∧ x.sent < t
  may : ∀ x ∈ L, mayM x.m = true
  wf : ∀ x ∈ L, 0 ≤ x.m.f0 ∧ x.m.f0 ≤ 4294967295
theorem Al.nil (t last : Int) : Al t last [] := ⟨by simp [Srt], by simp, by simp, by simp, by simp, by simp, by simp⟩
theorem find_mem {L : List One} {a : Int} {x : One} (h : findA L a = some x) : x ∈ L ∧ x.m.f0 = a := by
  unfold findA at h
  exact ⟨List.mem_of_find?_eq_some h, by simpa using List.find?_some h⟩
theorem find_none {L : List One} {a : Int} (h : findA L a = none) : ∀ x ∈ L, x.m.f0 ≠ a := by
  unfold findA at h
  intro x hx
  have := List.find?_eq_none.1 h x hx
  simpa using this
theorem find_of {L : List One} (hn : (L.map (·.m.f0)).Nodup) {x : One} (hx : x ∈ L) : findA L x.m.f0 = some x := by
  induction L with
  | nil => cases hx
  | cons y r ih =>
    rw [List.map_cons, List.nodup_cons] at hn
    unfold findA
    rcases List.mem_cons.1 hx with rfl | hx
    · rw [List.find?_cons_of_pos (by simp)]
    · have : y.m.f0 ≠ x.m.f0 := fun e => hn.1 (List.mem_map.2 ⟨x, hx, e.symm⟩)
      rw [List.find?_cons_of_neg (by simpa using this)]
      exact ih hn.2 hx
theorem out_none {L : List One} {a : Int} (h : findA L a = none) : outA L a = L := by
  unfold outA
  rw [List.filter_eq_self]
  intro x hx
  have := find_none h x hx
  simpa using this
theorem out_perm {L : List One} (hn : (L.map (·.m.f0)).Nodup) {x : One} (hx : x ∈ L) : (x :: outA L x.m.f0).Perm L := by
  induction L with
  | nil => cases hx
  | cons y r ih =>
    rw [List.map_cons, List.nodup_cons] at hn
    unfold outA
    rcases List.mem_cons.1 hx with rfl | hx
    · rw [List.filter_cons_of_neg (by simp), List.filter_eq_self.2]
      intro z hz
      have : x.m.f0 ≠ z.m.f0 := fun e => hn.1 (List.mem_map.2 ⟨z, hz, e.symm⟩)
      simp
      omega
    · have : y.m.f0 ≠ x.m.f0 := fun e => hn.1 (List.mem_map.2 ⟨x, hx, e.symm⟩)
      rw [List.filter_cons_of_pos (by simpa using this)]
      exact (List.Perm.swap _ _ _).trans (List.Perm.cons y (ih hn.2 hx))
theorem Al.len {t last : Int} {L : List One} (h : Al t last L) : True := trivial
theorem head_srt {L : List One} {x : One} (h : Srt L) (hs : ∀ y ∈ L, 0 ≤ y.sent) (ht : ∀ y ∈ L, y.tm < x.tm) (h0 : x.sent = 0) : Srt (x :: L) := by
  refine List.pairwise_cons.2 ⟨fun y hy => ?_, h⟩
  have h1 := hs y hy
  have h2 := ht y hy
  unfold lessO
  rw [h0]
  split
  · simp at *; omega
  · simp at *; omega
theorem Al.sub {t last : Int} {L L' : List One} (h : Al t last L) (hs : L'.Sublist L) : Al t last L' :=
  ⟨h.srt.sublist hs, h.adr.sublist (hs.map _), h.tnd.sublist (hs.map _), fun x hx => h.tms x (hs.subset hx), fun x hx => h.snt x (hs.subset hx), fun x hx => h.may x (hs.subset hx), fun x hx => h.wf x (hs.subset hx)⟩
theorem Al.cons {t last : Int} {L : List One} {m : Mem} (h : Al t last L) (hno : ∀ x ∈ L, x.m.f0 ≠ m.f0) (hm : mayM m = true) (ht : 1 ≤ t) (h0 : 0 ≤ m.f0 ∧ m.f0 ≤ 4294967295) : Al t (last + 1) (⟨m, 0, last + 1⟩ :: L) := by
  refine ⟨head_srt h.srt (fun y hy => (h.snt y hy).1) (fun y hy => by have := h.tms y hy; show y.tm < last + 1; omega) rfl, ?_, ?_, fun x hx => ?_, fun x hx => ?_, fun x hx => ?_, fun x hx => ?_⟩
  · rw [List.map_cons, List.nodup_cons]
    exact ⟨fun hx => by obtain ⟨y, hy, e⟩ := List.mem_map.1 hx; exact hno y hy e, h.adr⟩
  · rw [List.map_cons, List.nodup_cons]
    exact ⟨fun hx => by obtain ⟨y, hy, e⟩ := List.mem_map.1 hx; have := h.tms y hy; simp only at e; omega, h.tnd⟩
  · rcases List.mem_cons.1 hx with rfl | hx
    · exact Int.le_refl _
    · have := h.tms x hx; omega
  · rcases List.mem_cons.1 hx with rfl | hx
    · exact ⟨Int.le_refl _, by show (0 : Int) < t; omega⟩
    · exact h.snt x hx
  · rcases List.mem_cons.1 hx with rfl | hx
    · exact hm
    · exact h.may x hx
  · rcases List.mem_cons.1 hx with rfl | hx
    · exact h0
    · exact h.wf x hx
theorem out_sub (L : List One) (a : Int) : (outA L a).Sublist L := List.filter_sublist
theorem out_no (L : List One) (a : Int) : ∀ x ∈ outA L a, x.m.f0 ≠ a := fun x hx => by
  unfold outA at hx
  have := (List.mem_filter.1 hx).2
  simpa using this
theorem Al.add {t last : Int} {L : List One} (h : Al t last L) (m : Mem) (ht : 1 ≤ t) (h0 : 0 ≤ m.f0 ∧ m.f0 ≤ 4294967295) : Al t (addL L last m).2.2.2 (addL L last m).2.2.1 := by
  unfold addL
  by_cases hm : mayM m = false
  · rw [if_pos hm]; exact h
  · rw [if_neg hm]
    have hm' : mayM m = true := by simpa using hm
    cases hf : findA L m.f0 with
    | none => exact h.cons (find_none hf) hm' ht h0
    | some y =>
      simp only
      by_cases hc : cmpM m y.m ≤ 0
      · rw [if_pos hc]; exact h
      · rw [if_neg hc]
        exact (h.sub (out_sub L m.f0)).cons (out_no L m.f0) hm' ht h0
theorem add_len {t last : Int} {L : List One} (m : Mem) : (addL L last m).2.2.1.length ≤ L.length + 1 ∧ last ≤ (addL L last m).2.2.2 ∧ (addL L last m).2.2.2 ≤ last + 1 := by
  unfold addL
  split
  · exact ⟨by simp, by simp, by simp; omega⟩
  · split
    · split
      · exact ⟨by simp, by simp, by simp; omega⟩
      · refine ⟨?_, by simp; omega, by simp⟩
        simp only [List.length_cons]
        have := (out_sub L m.f0).length_le
        omega
    · exact ⟨by simp, by simp; omega, by simp⟩
theorem Al.take {t last : Int} {L : List One} (h : Al t last L) (n : Int) : Al t last (takeL t L n) := by
  have hsp : L.take (takeN L n) ++ L.drop (takeN L n) = L := List.take_append_drop _ _
  have hp := puts_perm t (L.take (takeN L n)) (L.drop (takeN L n))
  have hpm : ∀ {β : Type} (f : One → β), (∀ x, f (sentO x) = f x) → ∀ ps : List One, ((backL t ps).map f).Sublist (ps.map f) := by
    intro β f hf ps
    induction ps with
    | nil => simp [backL]
    | cons x r ih =>
      unfold backL
      by_cases hx : x.sent + 1 < t
      · rw [List.filterMap_cons_some (by rw [if_pos hx]), List.map_cons, List.map_cons, hf]
        exact List.Sublist.cons_cons _ ih
      · rw [List.filterMap_cons_none (by rw [if_neg hx]), List.map_cons]
        exact List.Sublist.cons _ ih
  have hnd : ∀ {β : Type} (f : One → β), (∀ x, f (sentO x) = f x) → (L.map f).Nodup → ((takeL t L n).map f).Nodup := by
    intro β f hf hn
    refine ((hp.map f).nodup_iff).2 ?_
    rw [List.map_append]
    have h1 : (L.map f).Perm ((L.drop (takeN L n)).map f ++ (L.take (takeN L n)).map f) := by
      conv => lhs; rw [← hsp, List.map_append]
      exact List.perm_append_comm
    exact (h1.nodup_iff.1 hn).sublist (List.Sublist.append (List.Sublist.refl _) (hpm f hf _))
  have hmem : ∀ x ∈ takeL t L n, x ∈ L ∨ ∃ y ∈ L, x = sentO y ∧ y.sent + 1 < t := by
    intro x hx
    rcases List.mem_append.1 (hp.mem_iff.1 hx) with hx | hx
    · exact Or.inl (List.mem_of_mem_drop hx)
    · obtain ⟨y, hy, e⟩ := back_tm t _ x hx
      exact Or.inr ⟨y, List.mem_of_mem_take hy, e⟩
  refine ⟨puts_srt t _ _ (h.srt.sublist (List.drop_sublist _ _)) (by rw [hsp]; exact h.tnd), hnd _ (fun _ => rfl) h.adr, hnd _ (fun _ => rfl) h.tnd, fun x hx => ?_, fun x hx => ?_, fun x hx => ?_, fun x hx => ?_⟩
  · rcases hmem x hx with hx | ⟨y, hy, rfl, _⟩
    · exact h.tms x hx
    · exact h.tms y hy
  · rcases hmem x hx with hx | ⟨y, hy, rfl, hs⟩
    · exact h.snt x hx
    · have := h.snt y hy
      show 0 ≤ y.sent + 1 ∧ y.sent + 1 < t
      omega
  · rcases hmem x hx with hx | ⟨y, hy, rfl, _⟩
    · exact h.may x hx
    · exact h.may y hy
  · rcases hmem x hx with hx | ⟨y, hy, rfl, _⟩
    · exact h.wf x hx
    · exact h.wf y hy
theorem take_len (t : Int) (L : List One) (n : Int) : (takeL t L n).length ≤ L.length := by
  have hp := (puts_perm t (L.take (takeN L n)) (L.drop (takeN L n))).length_eq
  have h1 : (backL t (L.take (takeN L n))).length ≤ (L.take (takeN L n)).length := List.length_filterMap_le _ _
  have h2 : (L.take (takeN L n) ++ L.drop (takeN L n)).length = L.length := by rw [List.take_append_drop]
  rw [List.length_append] at hp h2
  unfold takeL
  omega
/-- the first ones, in order, of whatever order they lie in -/
theorem firsts {L : List One} : ∀ {ps rest : List One}, Srt L → (ps ++ rest).Perm L → ps.Pairwise (fun a b => lessO b a = false) → (∀ a ∈ ps, ∀ b ∈ rest, lessO b a = false) → L.take ps.length = ps ∧ rest.Perm (L.drop ps.length) := by
  induction L with
  | nil =>
    intro ps rest _ hp _ _
    have := hp.length_eq
    rw [List.length_append] at this
    obtain rfl : ps = [] := List.eq_nil_of_length_eq_zero (by simp at this; simp [this])
    simpa using hp
  | cons x L ih =>
    intro ps rest hs hp h1 h2
    cases ps with
    | nil => simpa using hp
    | cons a ps =>
      obtain ⟨s1, s2⟩ := List.pairwise_cons.1 hs
      obtain ⟨p1, p2⟩ := List.pairwise_cons.1 h1
      have e : a = x := by
        by_cases e : a = x
        · exact e
        · have ha : a ∈ x :: L := hp.mem_iff.1 (by simp)
          have hx : x ∈ a :: ps ++ rest := hp.mem_iff.2 (by simp)
          have hl : lessO x a = true := s1 a (by rcases List.mem_cons.1 ha with h | h; exact absurd h e; exact h)
          have hx' : x ∈ ps ∨ x ∈ rest := by
            rcases List.mem_append.1 hx with h | h
            · rcases List.mem_cons.1 h with h | h
              · exact absurd h.symm e
              · exact Or.inl h
            · exact Or.inr h
          rcases hx' with hx' | hx'
          · rw [p1 x hx'] at hl; cases hl
          · rw [h2 a (by simp) x hx'] at hl; cases hl
      subst e
      have hp' : (ps ++ rest).Perm L := List.Perm.cons_inv hp
      obtain ⟨h3, h4⟩ := ih s2 hp' p2 (fun b hb => h2 b (by simp [hb]))
      exact ⟨by simp [h3], by simpa using h4⟩
end Go.Proofs.Ytihmblbnnhcdnaa.Print
end
section
/- A queue's calls, told of the list in the order in which its rumors would be taken. -/
namespace Go.Proofs.Ytihmblbnnhcdnaa.Print
open Go.RowKit Go.Maps Go.ChangeMaps Go.Proofs.YtihmblbnnhcdnaaW.PrintWords Go.Proofs.YtihmblbnnhcdnaaW.PrintLast Go.Proofs.YtihmblbnnhcdnaaW.PrintMore
set_option linter.unusedVariables false
set_option linter.unusedSimpArgs false
/-- a queue in memory whose rumors would be taken in the order of L -/
structure Qs (w : World) (g mb : Nat) (t last : Int) (v : Value) (hs : Hs) (L : List One) : Prop where
  qw : ∃ n : Nat, (n : Int) ≤ last ∧ Qw w g mb n t last v hs
  perm : L.Perm (hs.map (·.2))
  al : Al t last L
  t1 : 1 ≤ t ∧ t ≤ 64
  len : (L.length : Int) ≤ last
/-- the blocks of a queue -/
def QB (g mb : Nat) (v : Value) (hs : Hs) (k : Nat) : Prop := k = g ∨ k = mb ∨ HoS v hs k
theorem Qs.below {w w' : World} {g mb : Nat} {t last : Int} {v : Value} {hs : Hs} {L : List One} (h : Qs w g mb t last v hs L) (hb : Below w.heap.size w w') : Qs w' g mb t last v hs L := by
  obtain ⟨n, hn, hq⟩ := h.qw
  exact ⟨⟨n, hn, hq.below hb⟩, h.perm, h.al, h.t1, h.len⟩
theorem Qs.lt {w : World} {g mb : Nat} {t last : Int} {v : Value} {hs : Hs} {L : List One} (h : Qs w g mb t last v hs L) {k : Nat} (hk : QB g mb v hs k) : k < w.heap.size := by
  obtain ⟨n, hn, hq⟩ := h.qw
  rcases hk with rfl | rfl | hk
  · exact blk_lt hq.rq.box
  · obtain ⟨f, hp, _⟩ := hq.map; exact hp.lt
  · exact hq.rq.ho.lt hk
/-- the blocks of a queue are of its own types, or a map -/
theorem Qs.typ {w : World} {g mb : Nat} {t last : Int} {v : Value} {hs : Hs} {L : List One} (h : Qs w g mb t last v hs L) {k : Nat} (hk : QB g mb v hs k) {cs : Array Value} {tt : TypeId} (hc : w.heap[k]? = some (.cells cs tt (0, 0))) : tt = 57 ∨ tt = 62 ∨ tt = 66 := by
  obtain ⟨n, hn, hq⟩ := h.qw
  have inj : ∀ {cs' tt'}, w.heap[k]? = some (.cells cs' tt' (0, 0)) → tt = tt' := fun h' => by
    rw [hc] at h'
    injection h' with h'
    injection h'
  rcases hk with rfl | rfl | hk | ⟨p, hp, rfl⟩
  · exact Or.inl (inj hq.rq.box)
  · obtain ⟨f, hp, _⟩ := hq.map
    exact absurd rfl (hp.ne hc)
  · obtain ⟨cells, hc'⟩ := Kd.R_typed hq.rq.ho.row k hk
    exact Or.inr (Or.inl (inj hc'))
  · obtain ⟨i, hi, e⟩ := List.getElem_of_mem hp
    exact Or.inr (Or.inr (inj (hq.rq.ho.one i p.1 p.2 (by rw [List.getElem?_eq_getElem hi, e]))))
theorem Qs.kp {w w' : World} {g mb : Nat} {t last : Int} {v : Value} {hs : Hs} {L : List One} {S : Nat → Prop} (h : Qs w g mb t last v hs L) (hk : Kp w w' S) (hS : ∀ k, QB g mb v hs k → ¬ S k) : Qs w' g mb t last v hs L := by
  obtain ⟨n, hn, hq⟩ := h.qw
  obtain ⟨f, hp, hf⟩ := hq.map
  exact ⟨⟨n, hn, ⟨⟨(hk.block g (blk_lt hq.rq.box) (hS g (Or.inl rfl))).trans hq.rq.box, hq.rq.ho.kept hk (fun k hk' => hS k (Or.inr (Or.inr hk')))⟩, hq.heap, ⟨f, hp.kp hk (hS mb (Or.inr (Or.inl rfl))), hf⟩, hq.addr, hq.wf⟩⟩, h.perm, h.al, h.t1, h.len⟩
theorem newq_s (w : World) (t : Int) (h0 : 1 ≤ t) (h1 : t ≤ 64) : Calls Try.prog 8 #[.int .i64 t] w fun e w' => ∃ g mb v hs, e = .returned (.tuple #[.pointer (some ⟨g, 0, none⟩), .int .i64 0]) ∧ Qs w' g mb t 0 v hs [] ∧ (∀ k, QB g mb v hs k → w.heap.size ≤ k) ∧ Below w.heap.size w w' := by
  refine (newq_calls w t h0 h1).mono ?_
  rintro e w' ⟨g, mb, rfl, hq, h2, h3, h4⟩
  refine ⟨g, mb, _, _, rfl, ⟨⟨0, by simp, hq⟩, by simp, Al.nil _ _, ⟨h0, h1⟩, by simp⟩, fun k hk => ?_, h4⟩
  rcases hk with rfl | rfl | hk | ⟨p, hp, _⟩
  · exact h2
  · exact h3
  · cases hk
  · cases hp
set_option maxRecDepth 100000 in
theorem newq_bad (w : World) (t : Int) (h : t < 1 ∨ 64 < t) : Calls Try.prog 8 #[.int .i64 t] w fun e w' => e = .returned (.tuple #[.pointer none, .int .i64 1]) ∧ Below w.heap.size w w' := by
  go_enter Try.func8, Try.ntmps8
  rcases h with h | h
  · have ht1 : t < 1 := h
    go_wp2
    refine bodyPost_ret (results_tmp2 rfl _ _ _) rfl ?_
    exact ⟨rfl, Below.refl _ _⟩
  · have ht1 : ¬ t < 1 := by omega
    have ht2 : t > 64 := h
    go_wp2
    refine bodyPost_ret (results_tmp2 rfl _ _ _) rfl ?_
    exact ⟨rfl, Below.refl _ _⟩
theorem own_new {w : World} {v v' : Value} {hs hs' : Hs} {g mb : Nat} (h1 : v'.ownBlock = v.ownBlock ∨ ∃ k, v'.ownBlock = some k ∧ w.heap.size ≤ k) (h2 : ∀ p ∈ hs', (∃ q ∈ hs, q.1 = p.1) ∨ w.heap.size ≤ p.1) : ∀ k, QB g mb v' hs' k → QB g mb v hs k ∨ w.heap.size ≤ k := by
  rintro k (hk | hk | hk | ⟨p, hp, rfl⟩)
  · exact Or.inl (Or.inl hk)
  · exact Or.inl (Or.inr (Or.inl hk))
  · rcases h1 with e | ⟨k', e, hle⟩
    · exact Or.inl (Or.inr (Or.inr (Or.inl (by rw [← e]; exact hk))))
    · rw [e] at hk; injection hk with hk; exact Or.inr (by omega)
  · rcases h2 p hp with ⟨q, hq, e⟩ | h
    · exact Or.inl (Or.inr (Or.inr (Or.inr ⟨q, hq, e⟩)))
    · exact Or.inr h
theorem Qs.inn {w : World} {g mb : Nat} {t last : Int} {v : Value} {hs : Hs} {L : List One} (h : Qs w g mb t last v hs L) {x : One} : x ∈ L ↔ ∃ b, (b, x) ∈ hs := by
  rw [h.perm.mem_iff, List.mem_map]
  exact ⟨fun ⟨p, hp, e⟩ => ⟨p.1, by rw [← e]; exact hp⟩, fun ⟨b, hb⟩ => ⟨(b, x), hb, rfl⟩⟩
theorem Qs.hlen {w : World} {g mb : Nat} {t last : Int} {v : Value} {hs : Hs} {L : List One} (h : Qs w g mb t last v hs L) : L.length = hs.length := by have := h.perm.length_eq; rwa [List.length_map] at this
theorem addq_s (w : World) (g mb : Nat) (t last : Int) (v : Value) (hs : Hs) (L : List One) (m : Mem) (h : Qs w g mb t last v hs L) (h0 : 0 ≤ m.f0 ∧ m.f0 ≤ 4294967295) (hl : last ≤ 800000) :
    Calls Try.prog 10 #[.pointer (some ⟨g, 0, none⟩), .agg #[.int .u32 m.f0, .int .u32 m.f1, .int .u8 m.f2, .string m.f3]] w fun e w' => ∃ v' hs', e = .returned (.tuple #[.bool (addL L last m).1, .int .i64 (addL L last m).2.1]) ∧ Qs w' g mb t (addL L last m).2.2.2 v' hs' (addL L last m).2.2.1 ∧ Kp w w' (QB g mb v hs) ∧ ∀ k, QB g mb v' hs' k → QB g mb v hs k ∨ w.heap.size ≤ k := by
  obtain ⟨n, hn, hq⟩ := h.qw
  have hal := h.al.add m h.t1.1 h0
  have hlen := h.len
  have hhl := h.hlen
  cases hm : mayM m with
  | false =>
    have e : addL L last m = (false, 170, L, last) := by unfold addL; rw [if_pos hm]
    rw [e]
    exact (addq_bad w g mb n t last v hs m hq hm).mono (fun e w' hh => ⟨v, hs, hh.1, h.below hh.2, Kp.of hh.2, fun k hk => Or.inl hk⟩)
  | true =>
    cases hf : findA L m.f0 with
    | none =>
      have e : addL L last m = (true, 0, ⟨m, 0, last + 1⟩ :: L, last + 1) := by unfold addL; rw [if_neg (by simp [hm]), hf]
      rw [e] at hal ⊢
      refine (addq_new w g mb n t last v hs m hq hm (fun p hp e' => find_none hf p.2 (h.inn.2 ⟨p.1, hp⟩) e') h0.1 h0.2 (by omega) (by omega) ⟨by omega, by omega⟩).mono ?_
      rintro e w' ⟨v', bo, hs', rfl, h1, h2, h3, h4, h5⟩
      refine ⟨v', hs', rfl, ⟨⟨n + 1, by show ((n + 1 : Nat) : Int) ≤ last + 1; omega, h1⟩, ?_, hal, h.t1, by show ((L.length + 1 : Nat) : Int) ≤ last + 1; omega⟩, h5, own_new h4 (fun p hp => ?_)⟩
      · exact (List.Perm.cons _ h.perm).trans ((h2.map (fun p : Nat × One => p.2)).symm)
      · rcases List.mem_cons.1 (h2.mem_iff.1 hp) with rfl | hp
        · exact Or.inr h3
        · exact Or.inl ⟨p, hp, rfl⟩
    | some y =>
      obtain ⟨hy, hya⟩ := find_mem hf
      obtain ⟨b0, hb0⟩ := h.inn.1 hy
      by_cases hc : cmpM m y.m ≤ 0
      · have e : addL L last m = (false, 0, L, last) := by unfold addL; rw [if_neg (by simp [hm]), hf]; simp only; rw [if_pos hc]
        rw [e]
        exact (addq_weak w g mb n t last v hs m hq hm b0 y hb0 hya h0.1 h0.2 hc).mono (fun e w' hh => ⟨v, hs, hh.1, h.below hh.2, Kp.of hh.2, fun k hk => Or.inl hk⟩)
      · have e : addL L last m = (true, 0, ⟨m, 0, last + 1⟩ :: outA L m.f0, last + 1) := by unfold addL; rw [if_neg (by simp [hm]), hf]; simp only; rw [if_neg hc]
        rw [e] at hal ⊢
        refine (addq_over w g mb n t last v hs m hq hm b0 y hb0 hya h0.1 h0.2 hc (by omega) (by omega) ⟨by omega, by omega⟩).mono ?_
        rintro e w' ⟨v', bo, hs', hr, rfl, h1, h2, h2', h3, h4, h5⟩
        have ho := out_perm h.al.adr hy
        rw [hya] at ho
        refine ⟨v', hs', rfl, ⟨⟨n + 1, by show ((n + 1 : Nat) : Int) ≤ last + 1; omega, h1⟩, ?_, hal, h.t1, ?_⟩, h5, own_new h4 (fun p hp => ?_)⟩
        · refine (List.Perm.cons _ ?_).trans ((h2.map (fun p : Nat × One => p.2)).symm)
          have h6 : (y :: outA L m.f0).Perm (y :: hr.map (·.2)) := ho.trans (h.perm.trans ((h2'.map (·.2)).symm))
          exact List.Perm.cons_inv h6
        · have := (out_sub L m.f0).length_le
          show (((outA L m.f0).length + 1 : Nat) : Int) ≤ last + 1
          omega
        · rcases List.mem_cons.1 (h2.mem_iff.1 hp) with rfl | hp
          · exact Or.inr h3
          · exact Or.inl ⟨p, h2'.mem_iff.1 (List.mem_cons_of_mem _ hp), rfl⟩
theorem again_map (t : Int) (ps : Hs) : (again t ps).map (·.2) = backL t (ps.map (·.2)) := by
  induction ps with
  | nil => rfl
  | cons p r ih =>
    unfold again backL at *
    rw [List.map_cons]
    by_cases h : p.2.sent + 1 < t
    · rw [List.filterMap_cons_some (by rw [if_pos h]), List.filterMap_cons_some (by rw [if_pos h]), List.map_cons, ih]
    · rw [List.filterMap_cons_none (by rw [if_neg h]), List.filterMap_cons_none (by rw [if_neg h]), ih]
theorem Qs.snt {w : World} {g mb : Nat} {t last : Int} {v : Value} {hs : Hs} {L : List One} (h : Qs w g mb t last v hs L) : ∀ p ∈ hs, 0 ≤ p.2.sent ∧ p.2.sent < t := fun p hp => h.al.snt p.2 (h.inn.2 ⟨p.1, hp⟩)
theorem takeq_s (w : World) (g mb : Nat) (t last : Int) (v : Value) (hs : Hs) (L : List One) (kk : Int) (h : Qs w g mb t last v hs L) (hl : last ≤ 800000) :
    Calls Try.prog 13 #[.pointer (some ⟨g, 0, none⟩), .int .i64 kk] w fun e w' => ∃ A c v' hs', e = .returned (.slice A (takeN L kk) c) ∧ Kd.R k33 33 w' w.heap.size (fun _ => True) (.slice A (takeN L kk) c) ((L.take (takeN L kk)).map (·.m)) ∧ Qs w' g mb t last v' hs' (takeL t L kk) ∧ Kp w w' (QB g mb v hs) ∧ ∀ k, QB g mb v' hs' k → QB g mb v hs k ∨ w.heap.size ≤ k := by
  obtain ⟨n, hn, hq⟩ := h.qw
  have hlen := h.len
  have hhl := h.hlen
  refine (takeq_calls w g mb n t last v hs kk hq (by omega) h.snt h.t1.2).mono ?_
  rintro e w' ⟨A, c, v', hs', ps, rest, rfl, h1, h2, h3, h4, h5, h6, h7, h8⟩
  have hN : ps.length = takeN L kk := by unfold takeN; rw [h6, hhl]
  have hp : (ps.map (·.2) ++ rest.map (·.2)).Perm L := by
    rw [← List.map_append]
    exact (h3.map (·.2)).trans h.perm.symm
  obtain ⟨f1, f2⟩ := firsts h.al.srt hp (List.pairwise_map.2 h4) (fun a ha b hb => by
    obtain ⟨p, hp, rfl⟩ := List.mem_map.1 ha
    obtain ⟨q, hq, rfl⟩ := List.mem_map.1 hb
    exact h5 p hp q hq)
  rw [List.length_map, hN] at f1 f2
  refine ⟨A, c, v', hs', by rw [hN], ?_, ⟨⟨n, hn, h2.qw⟩, ?_, h.al.take kk, h.t1, by have := take_len t L kk; omega⟩, h2.kp, own_new h8 (fun p hp => ?_)⟩
  · rw [f1, List.map_map, ← hN]; exact h1
  · refine (puts_perm t _ _).trans ?_
    refine List.Perm.trans ?_ ((h7.map (fun p : Nat × One => p.2)).symm)
    rw [List.map_append, again_map, f1]
    exact List.Perm.append_right _ f2.symm
  · exact Or.inl (h2.sub p (by rw [List.append_nil, List.append_nil]; exact hp))
theorem copyq_s (w : World) (g mb : Nat) (t last : Int) (v : Value) (hs : Hs) (L : List One) (h : Qs w g mb t last v hs L) (hl : last ≤ 800000) :
    Calls Try.prog 15 #[.pointer (some ⟨g, 0, none⟩)] w fun e w' => ∃ g' mb' v' hs', e = .returned (.pointer (some ⟨g', 0, none⟩)) ∧ Qs w' g' mb' t last v' hs' L ∧ (∀ k, QB g' mb' v' hs' k → w.heap.size ≤ k) ∧ Below w.heap.size w w' := by
  obtain ⟨n, hn, hq⟩ := h.qw
  have hlen := h.len
  have hhl := h.hlen
  refine (copyq_calls w g mb n t last v hs hq (by omega)).mono ?_
  rintro e w' ⟨g', mb', v', hs', rfl, h1, h2, h3, h4, h5, h6, h7⟩
  exact ⟨g', mb', v', hs', rfl, ⟨⟨_, by omega, h1⟩, by rw [h2]; exact h.perm, h.al, h.t1, h.len⟩, hos_ge ⟨h3, h4⟩ h6 h5, h7⟩
theorem listq_s (w : World) (g mb : Nat) (t last : Int) (v : Value) (hs : Hs) (L : List One) (h : Qs w g mb t last v hs L) (hl : last ≤ 800000) :
    Calls Try.prog 16 #[.pointer (some ⟨g, 0, none⟩)] w fun e w' => ∃ A c, e = .returned (.slice A L.length c) ∧ Kd.R k33 33 w' w.heap.size (fun _ => True) (.slice A L.length c) (L.map (·.m)) ∧ Below w.heap.size w w' := by
  obtain ⟨n, hn, hq⟩ := h.qw
  have hlen := h.len
  have hhl := h.hlen
  refine (listq_calls w g mb n t last v hs hq (by omega) h.snt h.t1.2).mono ?_
  rintro e w' ⟨A, c, ps, rfl, h1, h2, h3, h4⟩
  have hp : (ps.map (fun p : Nat × One => p.2) ++ []).Perm L := by
    rw [List.append_nil]
    exact h2.trans h.perm.symm
  obtain ⟨f1, _⟩ := firsts h.al.srt hp (List.pairwise_map.2 h3) (fun a ha b hb => by cases hb)
  have hN : ps.length = L.length := by have := hp.length_eq; rwa [List.append_nil, List.length_map] at this
  rw [List.length_map, hN, List.take_length] at f1
  refine ⟨A, c, by rw [hN], ?_, h4⟩
  rw [f1, List.map_map, List.length_map]
  exact h1
theorem leftq_s (w : World) (g mb : Nat) (t last : Int) (v : Value) (hs : Hs) (L : List One) (a : Int) (h : Qs w g mb t last v hs L) (h0 : 0 ≤ a ∧ a ≤ 4294967295) :
    Calls Try.prog 18 #[.pointer (some ⟨g, 0, none⟩), .int .u32 a] w fun e w' => e = .returned (.int .i64 (leftL t L a)) ∧ Below w.heap.size w w' := by
  obtain ⟨n, hn, hq⟩ := h.qw
  unfold leftL
  cases hf : findA L a with
  | none => exact left_none w g mb n t last v hs a hq h0.1 h0.2 (fun p hp e => find_none hf p.2 (h.inn.2 ⟨p.1, hp⟩) e)
  | some x =>
    obtain ⟨hx, hxa⟩ := find_mem hf
    obtain ⟨b, hb⟩ := h.inn.1 hx
    have h1 := h.al.snt x hx
    have h2 := h.t1
    exact left_some w g mb n t last v hs a b x hq h0.1 h0.2 hb hxa (by unfold wrap64; omega)
end Go.Proofs.Ytihmblbnnhcdnaa.Print
end
section
/- A view of members: making one, merging into it, asking it, walked. -/
namespace Go.Proofs.Ytihmblbnnhcdnaa.Print
open Go.RowKit Go.Maps Go.ChangeMaps Go.Proofs.YtihmblbnnhcdnaaW.PrintWords Go.Proofs.YtihmblbnnhcdnaaW.PrintLast Go.Proofs.YtihmblbnnhcdnaaW.PrintMore
set_option linter.unusedVariables false
set_option linter.unusedSimpArgs false
def mergeM (l : List Mem) (m : Mem) : Bool × Int × List Mem :=
  if mayM m = false then (false, 170, l) else match getL l m.f0 with
  | some old => if cmpM m old ≤ 0 then (false, 0, l) else (true, 0, putL m l)
  | none => if 32 ≤ l.length then (false, 3, l) else (true, 0, putL m l)
set_option maxRecDepth 100000 in
theorem zero25 (w : World) : (zeroValue 33).run Try.prog w = .ok (memV z33) w := by kernel_rfl
set_option maxRecDepth 100000 in
theorem Vw.look {w : World} {g b : Nat} {l : List Mem} (h : Vw w g b l) {a : Int} (h0 : 0 ≤ a) (h1 : a ≤ 4294967295) :
    (Instr.lookup 75 (.map (some b)) (.int .u32 a) true).run Try.prog w = .ok (.tuple #[memV ((getL l a).getD z33), .bool (getL l a).isSome]) w := by
  obtain ⟨v, ps, hrun, hv⟩ := h.map.look_ok keyed Try.underlying75 (zero25 w) (memR_mk z33) (key_of h0 h1)
  obtain ⟨x, rfl, hx⟩ := memR_inv hv
  rw [hrun, has_ent]
  injection hx with hx _
  rw [at_ent] at hx
  have e : x = (getL l a).getD z33 := by
    cases hg : getL l a with
    | none => rw [hg] at hx; simp at hx; exact hx.symm
    | some y => rw [hg] at hx; simp at hx; exact hx.symm
  rw [← e]
set_option maxRecDepth 100000 in
theorem Vw.put {w : World} {g b : Nat} {l : List Mem} (h : Vw w g b l) {m : Mem} (h0 : 0 ≤ m.f0) (h1 : m.f0 ≤ 4294967295) (hl : l.length ≤ 1000000) :
    ∃ w', (Instr.mapUpdate 75 (.map (some b)) (.int .u32 m.f0) (memV m)).run Try.prog w = .ok () w' ∧ Vw w' g b (putL m l) ∧ w.grownBy w' (some b) := by
  obtain ⟨w', hrun, ho, hg⟩ := h.map.update keyed Try.underlying75 (by unfold maxLen; omega) (key_of h0 h1) (memR_mk m)
  rw [put_ent h.ord] at ho
  have ho := owns_tight ho
  rw [size_ent] at ho
  exact ⟨w', hrun, ⟨(hg.block g h.ltg (by simp [h.ne])).trans h.box, ho, rises_put h.ord m, fun x hx => by rcases mem_putL hx with rfl | hx; exact ⟨h0, h1⟩; exact h.wf x hx⟩, hg⟩
set_option maxRecDepth 100000 in
theorem Vw.len {w : World} {g b : Nat} {l : List Mem} (h : Vw w g b l) (ty : TypeId) : (Builtin.len_ #[75] ty #[.map (some b)]).run Try.prog w = .ok (.int .i64 l.length) w := by
  have := h.map.len Try.underlying75 ty
  rw [size_ent] at this
  exact this
set_option maxHeartbeats 4000000 in
set_option maxRecDepth 100000 in
theorem new_calls (w : World) : Calls Try.prog 20 #[] w fun e w' => ∃ g b, e = .returned (.pointer (some ⟨g, 0, none⟩)) ∧ Vw w' g b [] ∧ w.heap.size ≤ g ∧ w.heap.size ≤ b ∧ Below w.heap.size w w' := by
  have hmm := @run_makeMap Try.prog
  go_enter Try.func20, Try.ntmps20
  go_wp2
  go_ret
  have h1 : (w.alloc (.map #[] 0)).heap.size = w.heap.size + 1 := by simp
  refine ⟨w.heap.size + 1, w.heap.size, by simp, ⟨?_, ((World.ownsMap_made w Try.prog 31 memR).alloc _), List.Pairwise.nil, fun x hx => by cases hx⟩, by omega, by omega, below_alloc (below_alloc (Below.refl _ _) _) _⟩
  rw [← h1]
  exact blk_new _ _
set_option maxHeartbeats 4000000 in
set_option maxRecDepth 100000 in
theorem len_calls (w : World) (g b : Nat) (l : List Mem) (hV : Vw w g b l) : Calls Try.prog 23 #[.pointer (some ⟨g, 0, none⟩)] w fun e w' => e = .returned (.int .i64 l.length) ∧ w' = w := by
  have hc := hV.cell
  have hl := hV.len
  go_enter Try.func23, Try.ntmps23
  go_wp2
  go_ret
  exact ⟨rfl, rfl⟩
theorem len_nil_calls (w : World) : Calls Try.prog 23 #[.pointer none] w fun e w' => e = .returned (.int .i64 0) ∧ w' = w := by
  go_enter Try.func23, Try.ntmps23
  go_wp2
  go_ret
  exact ⟨rfl, rfl⟩
set_option maxHeartbeats 4000000 in
set_option maxRecDepth 100000 in
theorem merge_nil_calls (w : World) (m : Mem) : Calls Try.prog 21 #[.pointer none, memV m] w fun e w' => e = .returned (.tuple #[.bool false, .int .i64 8]) ∧ Below w.heap.size w w' := by
  unfold memV
  go_enter Try.func21, Try.ntmps21
  go_wp2
  refine bodyPost_ret (results_tmp2 rfl _ _ _) rfl ?_
  exact ⟨rfl, below_alloc (Below.refl _ _) _⟩
def mb_ne (mb g b : Nat) : Prop := g ≠ mb ∧ b ≠ mb
/-- what a merge leaves: all that lay but the map's block -/
def VF (w w' : World) (b : Nat) : Prop := w.grownBy w' (some b)
theorem VF.of {w w' : World} {b : Nat} (h : Below w.heap.size w w') : VF w w' b := ⟨h.os, h.tape, h.output, h.size, fun i hi _ => h.block i hi⟩
theorem VF.then {w w1 w2 : World} {b : Nat} (h : Below w.heap.size w w1) (k : w1.grownBy w2 (some b)) : VF w w2 b :=
  World.grownBy.andThen (VF.of (b := b) h) k (fun j hj => Or.inr hj)
set_option maxHeartbeats 8000000 in
set_option maxRecDepth 100000 in
theorem merge_bad (w : World) (g b : Nat) (l : List Mem) (m : Mem) (h0 : 0 ≤ m.f0) (h1 : m.f0 ≤ 4294967295) (hV : Vw w g b l) (hl : l.length ≤ 100000) (hm : mayM m = false) :
    Calls Try.prog 21 #[.pointer (some ⟨g, 0, none⟩), memV m] w fun e w' => e = .returned (.tuple #[.bool false, .int .i64 170]) ∧ Vw w' g b l ∧ VF w w' b := by
  have hu25 := Try.underlying33
  unfold memV
  have hck : member_Check.f m.f0 m.f1 m.f2 m.f3 = some 170 := by rw [check_f, hm]; rfl
  go_enter Try.func21, Try.ntmps21
  go_upto_region 3 with (fail)
  have HM1 := Aside0.mk (blk_new w (.cells #[.int .u32 m.f0, .int .u32 m.f1, .int .u8 m.f2, .string m.f3] 33))
  have hba := below_alloc (Below.refl w.heap.size w) (.cells #[.int .u32 m.f0, .int .u32 m.f1, .int .u8 m.f2, .string m.f3] 33)
  have HV1 := Aside0.mk (hV.below hba)
  have HB1 := Aside0.mk hba
  have hmb : mb_ne w.heap.size g b := ⟨Nat.ne_of_lt hV.ltg, Nat.ne_of_lt hV.ltb⟩
  clear hba hV
  generalize w.alloc (.cells #[.int .u32 m.f0, .int .u32 m.f1, .int .u8 m.f2, .string m.f3] 33) = w1 at HM1 HV1 HB1 ⊢
  obtain ⟨mb, hmbe⟩ : ∃ n, n = w.heap.size := ⟨_, rfl⟩
  rw [← hmbe] at HM1 hmb ⊢
  have HMB := Aside0.mk hmbe
  have HNE := Aside0.mk hmb
  clear hmbe hmb
  have c0w1 : w1.cell? ⟨mb, 0, none⟩ = some (.int .u32 m.f0) := (blk_cell HM1.out 0).trans rfl
  have c1w1 : w1.cell? ⟨mb, 1, none⟩ = some (.int .u32 m.f1) := (blk_cell HM1.out 1).trans rfl
  have c2w1 : w1.cell? ⟨mb, 2, none⟩ = some (.int .u8 m.f2) := (blk_cell HM1.out 2).trans rfl
  have c3w1 : w1.cell? ⟨mb, 3, none⟩ = some (.string m.f3) := (blk_cell HM1.out 3).trans rfl
  go_wp2_with (first | (go_at_call 24; (with_reducible refine (member_Check.calls m.f0 m.f1 m.f2 m.f3 170 _ hck).mono ?_); rintro e w2 ⟨rfl, hb⟩; have HV2 := Aside0.mk (HV1.out.below hb); have HM2 := Aside0.mk (blk_below HM1.out hb); have HB2 := Aside0.mk (below_step HB1.out hb); clear hb c0w1 c1w1 c2w1 c3w1))
  refine bodyPost_ret (results_tmp2 rfl _ _ _) rfl ?_
  exact ⟨rfl, HV2.out, VF.of HB2.out⟩
set_option maxHeartbeats 8000000 in
set_option maxRecDepth 100000 in
theorem merge_weak (w : World) (g b : Nat) (l : List Mem) (m : Mem) (h0 : 0 ≤ m.f0) (h1 : m.f0 ≤ 4294967295) (hV : Vw w g b l) (hl : l.length ≤ 100000) (hm : mayM m = true) (y : Mem) (hgl : getL l m.f0 = some y) (hc : cmpM m y ≤ 0) :
    Calls Try.prog 21 #[.pointer (some ⟨g, 0, none⟩), memV m] w fun e w' => e = .returned (.tuple #[.bool false, .int .i64 0]) ∧ Vw w' g b l ∧ VF w w' b := by
  have hu25 := Try.underlying33
  unfold memV
  have hck : member_Check.f m.f0 m.f1 m.f2 m.f3 = some 0 := by rw [check_f, hm]; rfl
  go_enter Try.func21, Try.ntmps21
  go_upto_region 3 with (fail)
  have HM1 := Aside0.mk (blk_new w (.cells #[.int .u32 m.f0, .int .u32 m.f1, .int .u8 m.f2, .string m.f3] 33))
  have hba := below_alloc (Below.refl w.heap.size w) (.cells #[.int .u32 m.f0, .int .u32 m.f1, .int .u8 m.f2, .string m.f3] 33)
  have HV1 := Aside0.mk (hV.below hba)
  have HB1 := Aside0.mk hba
  have hmb : mb_ne w.heap.size g b := ⟨Nat.ne_of_lt hV.ltg, Nat.ne_of_lt hV.ltb⟩
  clear hba hV
  generalize w.alloc (.cells #[.int .u32 m.f0, .int .u32 m.f1, .int .u8 m.f2, .string m.f3] 33) = w1 at HM1 HV1 HB1 ⊢
  obtain ⟨mb, hmbe⟩ : ∃ n, n = w.heap.size := ⟨_, rfl⟩
  rw [← hmbe] at HM1 hmb ⊢
  have HMB := Aside0.mk hmbe
  have HNE := Aside0.mk hmb
  clear hmbe hmb
  have c0w1 : w1.cell? ⟨mb, 0, none⟩ = some (.int .u32 m.f0) := (blk_cell HM1.out 0).trans rfl
  have c1w1 : w1.cell? ⟨mb, 1, none⟩ = some (.int .u32 m.f1) := (blk_cell HM1.out 1).trans rfl
  have c2w1 : w1.cell? ⟨mb, 2, none⟩ = some (.int .u8 m.f2) := (blk_cell HM1.out 2).trans rfl
  have c3w1 : w1.cell? ⟨mb, 3, none⟩ = some (.string m.f3) := (blk_cell HM1.out 3).trans rfl
  go_upto_region 6 with (first | (go_at_call 24; (with_reducible refine (member_Check.calls m.f0 m.f1 m.f2 m.f3 0 _ hck).mono ?_); rintro e w2 ⟨rfl, hb⟩; have HV2 := Aside0.mk (HV1.out.below hb); have HM2 := Aside0.mk (blk_below HM1.out hb); have HB2 := Aside0.mk (below_step HB1.out hb); clear hb c0w1 c1w1 c2w1 c3w1))
  clear hck HV1 HM1 HB1
  have c0w2 : w2.cell? ⟨mb, 0, none⟩ = some (.int .u32 m.f0) := (blk_cell HM2.out 0).trans rfl
  have c1w2 : w2.cell? ⟨mb, 1, none⟩ = some (.int .u32 m.f1) := (blk_cell HM2.out 1).trans rfl
  have c2w2 : w2.cell? ⟨mb, 2, none⟩ = some (.int .u8 m.f2) := (blk_cell HM2.out 2).trans rfl
  have c3w2 : w2.cell? ⟨mb, 3, none⟩ = some (.string m.f3) := (blk_cell HM2.out 3).trans rfl
  have hlk := fun W (hW : Vw W g b l) => hW.look h0 h1
  rw [hgl] at hlk
  simp only [Option.getD_some, Option.isSome_some, Option.getD_none, Option.isSome_none] at hlk
  unfold memV at hlk
  have HBd := Aside0.mk (below_drew1 (Below.refl w2.heap.size w2))
  have hs6 : w2.drew.cell? ⟨g, 0, none⟩ = some (.map (some b)) ∧ w2.drew.cell? ⟨mb, 0, none⟩ = some (.int .u32 m.f0) ∧ (Instr.lookup 75 (.map (some b)) (.int .u32 m.f0) true).run Try.prog w2.drew = .ok (.tuple #[.agg #[.int .u32 y.f0, .int .u32 y.f1, .int .u8 y.f2, .string y.f3], .bool true]) w2.drew := ⟨(HV2.out.below (below_drew1 (Below.refl _ _))).cell, c0w2, hlk _ (HV2.out.below (below_drew1 (Below.refl _ _)))⟩
  have HLK := Aside0.mk hlk
  clear hlk
  refine start_ (n := 13) (S := (fun w' => w'.cell? ⟨g, 0, none⟩ = some (.map (some b)) ∧ w'.cell? ⟨mb, 0, none⟩ = some (.int .u32 m.f0) ∧ (Instr.lookup 75 (.map (some b)) (.int .u32 m.f0) true).run Try.prog w' = .ok (.tuple #[.agg #[.int .u32 y.f0, .int .u32 y.f1, .int .u8 y.f2, .string y.f3], .bool true]) w')) (ds := [11]) #[false, false, false, false, false, false, false, false, false, false, false, false, false] (by kernel_rfl) rfl rfl hs6 (fun hHeld => ?_)
  generalize w2.drew = wd at HBd hs6 hHeld ⊢
  refine pure_ (i := 0) (N := some 17) (v := ?_) (a' := ?_) #[true, false, false, false, false, false, false, false, false, false, false, false, false] rfl rfl (by kernel_rfl) (fun _ _ _ h => h) (Or.inl ⟨by rfl, ?_⟩) ?_ ?_
  rotate_left
  · intro w'
    go_simp
    with_reducible rfl
  rotate_left
  · simp only [Act.put, List.setIfInBounds_toArray, List.set_cons_zero, List.set_cons_succ, i64_w, i32_w]
    rfl
  refine pure_ (i := 1) (N := some 18) (v := ?_) (a' := ?_) #[true, true, false, false, false, false, false, false, false, false, false, false, false] rfl rfl (by kernel_rfl) (fun _ _ _ h => h) (Or.inl ⟨by rfl, ?_⟩) ?_ ?_
  rotate_left
  · intro w'
    go_simp
    with_reducible rfl
  rotate_left
  · simp only [Act.put, List.setIfInBounds_toArray, List.set_cons_zero, List.set_cons_succ, i64_w, i32_w]
    rfl
  refine pure_ (i := 2) (N := some 19) (v := ?_) (a' := ?_) #[true, true, true, false, false, false, false, false, false, false, false, false, false] rfl rfl (by kernel_rfl) (fun _ _ _ h => h) (Or.inl ⟨by rfl, ?_⟩) ?_ ?_
  rotate_left
  · intro w'
    go_simp
    with_reducible rfl
  rotate_left
  · simp only [Act.put, List.setIfInBounds_toArray, List.set_cons_zero, List.set_cons_succ, i64_w, i32_w]
    rfl
  refine take_ (i := 3) (N := some 20) (v := ?_) (a' := ?_) #[true, true, true, true, false, false, false, false, false, false, false, false, false] rfl rfl (by kernel_rfl) (fun _ _ _ h => h) (Or.inl ⟨by rfl, ?_⟩) hHeld ?_ ?_
  rotate_left
  · rintro w' ⟨h0_, h1_, h2_⟩
    go_simp
    with_reducible rfl
  rotate_left
  · simp only [Act.put, List.setIfInBounds_toArray, List.set_cons_zero, List.set_cons_succ, i64_w, i32_w]
    rfl
  refine pure_ (i := 4) (N := some 21) (v := ?_) (a' := ?_) #[true, true, true, true, true, false, false, false, false, false, false, false, false] rfl rfl (by kernel_rfl) (fun _ _ _ h => h) (Or.inl ⟨by rfl, ?_⟩) ?_ ?_
  rotate_left
  · intro w'
    go_simp
    with_reducible rfl
  rotate_left
  · simp only [Act.put, List.setIfInBounds_toArray, List.set_cons_zero, List.set_cons_succ, i64_w, i32_w]
    rfl
  refine take_ (i := 5) (N := some 22) (v := ?_) (a' := ?_) #[true, true, true, true, true, true, false, false, false, false, false, false, false] rfl rfl (by kernel_rfl) (fun _ _ _ h => h) (Or.inl ⟨by rfl, ?_⟩) hHeld ?_ ?_
  rotate_left
  · rintro w' ⟨h0_, h1_, h2_⟩
    go_simp
    with_reducible rfl
  rotate_left
  · simp only [Act.put, List.setIfInBounds_toArray, List.set_cons_zero, List.set_cons_succ, i64_w, i32_w]
    rfl
  refine take_ (i := 6) (N := some 23) (v := ?_) (a' := ?_) #[true, true, true, true, true, true, true, false, false, false, false, false, false] rfl rfl (by kernel_rfl) (fun _ _ _ h => h) (Or.inl ⟨by rfl, ?_⟩) hHeld ?_ ?_
  rotate_left
  · rintro w' ⟨h0_, h1_, h2_⟩
    go_simp
    with_reducible rfl
  rotate_left
  · simp only [Act.put, List.setIfInBounds_toArray, List.set_cons_zero, List.set_cons_succ, i64_w, i32_w]
    rfl
  refine pure_ (i := 7) (N := some 16) (v := ?_) (a' := ?_) #[true, true, true, true, true, true, true, true, false, false, false, false, false] rfl rfl (by kernel_rfl) (fun _ _ _ h => h) (Or.inl ⟨by rfl, ?_⟩) ?_ ?_
  rotate_left
  · intro w'
    go_simp
    with_reducible rfl
  rotate_left
  · simp only [Act.put, List.setIfInBounds_toArray, List.set_cons_zero, List.set_cons_succ, i64_w, i32_w]
    rfl
  refine pure_ (i := 8) (N := some 24) (v := ?_) (a' := ?_) #[true, true, true, true, true, true, true, true, true, false, false, false, false] rfl rfl (by kernel_rfl) (fun _ _ _ h => h) (Or.inl ⟨by rfl, ?_⟩) ?_ ?_
  rotate_left
  · intro w'
    go_simp
    with_reducible rfl
  rotate_left
  · simp only [Act.put, List.setIfInBounds_toArray, List.set_cons_zero, List.set_cons_succ, i64_w, i32_w]
    rfl
  refine pure_ (i := 9) (N := some 25) (v := ?_) (a' := ?_) #[true, true, true, true, true, true, true, true, true, true, false, false, false] rfl rfl (by kernel_rfl) (fun _ _ _ h => h) (Or.inl ⟨by rfl, ?_⟩) ?_ ?_
  rotate_left
  · intro w'
    go_simp
    with_reducible rfl
  rotate_left
  · simp only [Act.put, List.setIfInBounds_toArray, List.set_cons_zero, List.set_cons_succ, i64_w, i32_w]
    rfl
  refine one_ (i := 10) (N := some 7) #[true, true, true, true, true, true, true, true, true, true, true, false, false] rfl rfl (by kernel_rfl) (by decide) (fun K hK => ?_)
  refine value_ (v := .pointer (some ⟨wd.heap.size, 0, none⟩)) (w1 := wd.alloc (.cells #[.int .u32 0, .int .u32 0, .int .u8 0, .string ⟨#[]⟩] 33)) (by rfl) rfl ?_ ?_
  · go_simp
    try with_reducible rfl
  refine hK.out _ _ (have ha := (below_alloc (Below.refl wd.heap.size wd) (.cells #[.int .u32 0, .int .u32 0, .int .u8 0, .string ⟨#[]⟩] 33 (0, 0))); ⟨pw_cell_below ha hHeld.1, pw_cell_below ha hHeld.2.1, HLK.out _ (HV2.out.below (below_alloc HBd.out _))⟩) (fun hHeld => ?_)
  clear hK K
  refine norm_ (a' := ?_) ?_ ?_
  rotate_left
  · show Act.put _ (some 7) _ = _
    simp only [Act.put, List.setIfInBounds_toArray, List.set_cons_zero, List.set_cons_succ, i64_w, i32_w]
    rfl
  refine last_ (i := 11) (N := none) #[true, true, true, true, true, true, true, true, true, true, true, true, false] rfl rfl (by kernel_rfl) (by decide) (fun K hK => ?_)
  refine skip_ (w1 := ?_) (by rfl) rfl ?_ ?_
  rotate_left
  · go_simp
    rfl
  refine hK.out _ _ ?_
  clear hK K
  refine pure_ (i := 12) (N := some 8) (v := ?_) (a' := ?_) #[true, true, true, true, true, true, true, true, true, true, true, true, true] rfl rfl (by kernel_rfl) (fun _ _ _ h => h) (Or.inl ⟨by rfl, ?_⟩) ?_ ?_
  rotate_left
  · intro w'
    go_simp
    with_reducible rfl
  rotate_left
  · simp only [Act.put, List.setIfInBounds_toArray, List.set_cons_zero, List.set_cons_succ, i64_w, i32_w]
    rfl
  refine done_ (by kernel_rfl) ?_
  have HO4 := Aside0.mk (blk_new wd (.cells #[.int .u32 y.f0, .int .u32 y.f1, .int .u8 y.f2, .string y.f3] 33))
  have hba := below_alloc HBd.out (.cells #[.int .u32 y.f0, .int .u32 y.f1, .int .u8 y.f2, .string y.f3] 33)
  have HV4 := Aside0.mk (HV2.out.below hba)
  have HM4 := Aside0.mk (blk_below HM2.out hba)
  have HB4 := Aside0.mk (below_step HB2.out hba)
  clear hba HV2 HM2 HB2 HBd hs6 hHeld HLK c0w2 c1w2 c2w2 c3w2
  generalize wd.alloc (.cells #[.int .u32 y.f0, .int .u32 y.f1, .int .u8 y.f2, .string y.f3] 33) = w4 at HO4 HV4 HM4 HB4 ⊢
  generalize wd.heap.size = ob at HO4 ⊢
  have c0w4 : w4.cell? ⟨mb, 0, none⟩ = some (.int .u32 m.f0) := (blk_cell HM4.out 0).trans rfl
  have c1w4 : w4.cell? ⟨mb, 1, none⟩ = some (.int .u32 m.f1) := (blk_cell HM4.out 1).trans rfl
  have c2w4 : w4.cell? ⟨mb, 2, none⟩ = some (.int .u8 m.f2) := (blk_cell HM4.out 2).trans rfl
  have c3w4 : w4.cell? ⟨mb, 3, none⟩ = some (.string m.f3) := (blk_cell HM4.out 3).trans rfl
  have o0 : w4.cell? ⟨ob, 0, none⟩ = some (.int .u32 y.f0) := (blk_cell HO4.out 0).trans rfl
  have o1 : w4.cell? ⟨ob, 1, none⟩ = some (.int .u32 y.f1) := (blk_cell HO4.out 1).trans rfl
  have o2 : w4.cell? ⟨ob, 2, none⟩ = some (.int .u8 y.f2) := (blk_cell HO4.out 2).trans rfl
  have o3 : w4.cell? ⟨ob, 3, none⟩ = some (.string y.f3) := (blk_cell HO4.out 3).trans rfl
  have hcc : decide (cmpM m y ≤ 0) = true := decide_eq_true hc
  go_wp2_with (first | (go_at_call 25; (with_reducible refine (member_Cmp.calls m.f0 m.f1 m.f2 m.f3 y.f0 y.f1 y.f2 y.f3 (cmpM m y) _ (cmp_f m y)).mono ?_); rintro e w5 ⟨rfl, hb⟩; have HV5 := Aside0.mk (HV4.out.below hb); have HM5 := Aside0.mk (blk_below HM4.out hb); have HB5 := Aside0.mk (below_step HB4.out hb); clear hb c0w4 c1w4 c2w4 c3w4 o0 o1 o2 o3))
  refine bodyPost_ret (results_tmp2 rfl _ _ _) rfl ?_
  exact ⟨rfl, HV5.out, VF.of HB5.out⟩
set_option maxHeartbeats 8000000 in
set_option maxRecDepth 100000 in
theorem merge_strong (w : World) (g b : Nat) (l : List Mem) (m : Mem) (h0 : 0 ≤ m.f0) (h1 : m.f0 ≤ 4294967295) (hV : Vw w g b l) (hl : l.length ≤ 100000) (hm : mayM m = true) (y : Mem) (hgl : getL l m.f0 = some y) (hc : ¬ cmpM m y ≤ 0) :
    Calls Try.prog 21 #[.pointer (some ⟨g, 0, none⟩), memV m] w fun e w' => e = .returned (.tuple #[.bool true, .int .i64 0]) ∧ Vw w' g b (putL m l) ∧ VF w w' b := by
  have hu25 := Try.underlying33
  unfold memV
  have hck : member_Check.f m.f0 m.f1 m.f2 m.f3 = some 0 := by rw [check_f, hm]; rfl
  go_enter Try.func21, Try.ntmps21
  go_upto_region 3 with (fail)
  have HM1 := Aside0.mk (blk_new w (.cells #[.int .u32 m.f0, .int .u32 m.f1, .int .u8 m.f2, .string m.f3] 33))
  have hba := below_alloc (Below.refl w.heap.size w) (.cells #[.int .u32 m.f0, .int .u32 m.f1, .int .u8 m.f2, .string m.f3] 33)
  have HV1 := Aside0.mk (hV.below hba)
  have HB1 := Aside0.mk hba
  have hmb : mb_ne w.heap.size g b := ⟨Nat.ne_of_lt hV.ltg, Nat.ne_of_lt hV.ltb⟩
  clear hba hV
  generalize w.alloc (.cells #[.int .u32 m.f0, .int .u32 m.f1, .int .u8 m.f2, .string m.f3] 33) = w1 at HM1 HV1 HB1 ⊢
  obtain ⟨mb, hmbe⟩ : ∃ n, n = w.heap.size := ⟨_, rfl⟩
  rw [← hmbe] at HM1 hmb ⊢
  have HMB := Aside0.mk hmbe
  have HNE := Aside0.mk hmb
  clear hmbe hmb
  have c0w1 : w1.cell? ⟨mb, 0, none⟩ = some (.int .u32 m.f0) := (blk_cell HM1.out 0).trans rfl
  have c1w1 : w1.cell? ⟨mb, 1, none⟩ = some (.int .u32 m.f1) := (blk_cell HM1.out 1).trans rfl
  have c2w1 : w1.cell? ⟨mb, 2, none⟩ = some (.int .u8 m.f2) := (blk_cell HM1.out 2).trans rfl
  have c3w1 : w1.cell? ⟨mb, 3, none⟩ = some (.string m.f3) := (blk_cell HM1.out 3).trans rfl
  go_upto_region 6 with (first | (go_at_call 24; (with_reducible refine (member_Check.calls m.f0 m.f1 m.f2 m.f3 0 _ hck).mono ?_); rintro e w2 ⟨rfl, hb⟩; have HV2 := Aside0.mk (HV1.out.below hb); have HM2 := Aside0.mk (blk_below HM1.out hb); have HB2 := Aside0.mk (below_step HB1.out hb); clear hb c0w1 c1w1 c2w1 c3w1))
  clear hck HV1 HM1 HB1
  have c0w2 : w2.cell? ⟨mb, 0, none⟩ = some (.int .u32 m.f0) := (blk_cell HM2.out 0).trans rfl
  have c1w2 : w2.cell? ⟨mb, 1, none⟩ = some (.int .u32 m.f1) := (blk_cell HM2.out 1).trans rfl
  have c2w2 : w2.cell? ⟨mb, 2, none⟩ = some (.int .u8 m.f2) := (blk_cell HM2.out 2).trans rfl
  have c3w2 : w2.cell? ⟨mb, 3, none⟩ = some (.string m.f3) := (blk_cell HM2.out 3).trans rfl
  have hlk := fun W (hW : Vw W g b l) => hW.look h0 h1
  rw [hgl] at hlk
  simp only [Option.getD_some, Option.isSome_some, Option.getD_none, Option.isSome_none] at hlk
  unfold memV at hlk
  have HBd := Aside0.mk (below_drew1 (Below.refl w2.heap.size w2))
  have hs6 : w2.drew.cell? ⟨g, 0, none⟩ = some (.map (some b)) ∧ w2.drew.cell? ⟨mb, 0, none⟩ = some (.int .u32 m.f0) ∧ (Instr.lookup 75 (.map (some b)) (.int .u32 m.f0) true).run Try.prog w2.drew = .ok (.tuple #[.agg #[.int .u32 y.f0, .int .u32 y.f1, .int .u8 y.f2, .string y.f3], .bool true]) w2.drew := ⟨(HV2.out.below (below_drew1 (Below.refl _ _))).cell, c0w2, hlk _ (HV2.out.below (below_drew1 (Below.refl _ _)))⟩
  have HLK := Aside0.mk hlk
  clear hlk
  refine start_ (n := 13) (S := (fun w' => w'.cell? ⟨g, 0, none⟩ = some (.map (some b)) ∧ w'.cell? ⟨mb, 0, none⟩ = some (.int .u32 m.f0) ∧ (Instr.lookup 75 (.map (some b)) (.int .u32 m.f0) true).run Try.prog w' = .ok (.tuple #[.agg #[.int .u32 y.f0, .int .u32 y.f1, .int .u8 y.f2, .string y.f3], .bool true]) w')) (ds := [11]) #[false, false, false, false, false, false, false, false, false, false, false, false, false] (by kernel_rfl) rfl rfl hs6 (fun hHeld => ?_)
  generalize w2.drew = wd at HBd hs6 hHeld ⊢
  refine pure_ (i := 0) (N := some 17) (v := ?_) (a' := ?_) #[true, false, false, false, false, false, false, false, false, false, false, false, false] rfl rfl (by kernel_rfl) (fun _ _ _ h => h) (Or.inl ⟨by rfl, ?_⟩) ?_ ?_
  rotate_left
  · intro w'
    go_simp
    with_reducible rfl
  rotate_left
  · simp only [Act.put, List.setIfInBounds_toArray, List.set_cons_zero, List.set_cons_succ, i64_w, i32_w]
    rfl
  refine pure_ (i := 1) (N := some 18) (v := ?_) (a' := ?_) #[true, true, false, false, false, false, false, false, false, false, false, false, false] rfl rfl (by kernel_rfl) (fun _ _ _ h => h) (Or.inl ⟨by rfl, ?_⟩) ?_ ?_
  rotate_left
  · intro w'
    go_simp
    with_reducible rfl
  rotate_left
  · simp only [Act.put, List.setIfInBounds_toArray, List.set_cons_zero, List.set_cons_succ, i64_w, i32_w]
    rfl
  refine pure_ (i := 2) (N := some 19) (v := ?_) (a' := ?_) #[true, true, true, false, false, false, false, false, false, false, false, false, false] rfl rfl (by kernel_rfl) (fun _ _ _ h => h) (Or.inl ⟨by rfl, ?_⟩) ?_ ?_
  rotate_left
  · intro w'
    go_simp
    with_reducible rfl
  rotate_left
  · simp only [Act.put, List.setIfInBounds_toArray, List.set_cons_zero, List.set_cons_succ, i64_w, i32_w]
    rfl
  refine take_ (i := 3) (N := some 20) (v := ?_) (a' := ?_) #[true, true, true, true, false, false, false, false, false, false, false, false, false] rfl rfl (by kernel_rfl) (fun _ _ _ h => h) (Or.inl ⟨by rfl, ?_⟩) hHeld ?_ ?_
  rotate_left
  · rintro w' ⟨h0_, h1_, h2_⟩
    go_simp
    with_reducible rfl
  rotate_left
  · simp only [Act.put, List.setIfInBounds_toArray, List.set_cons_zero, List.set_cons_succ, i64_w, i32_w]
    rfl
  refine pure_ (i := 4) (N := some 21) (v := ?_) (a' := ?_) #[true, true, true, true, true, false, false, false, false, false, false, false, false] rfl rfl (by kernel_rfl) (fun _ _ _ h => h) (Or.inl ⟨by rfl, ?_⟩) ?_ ?_
  rotate_left
  · intro w'
    go_simp
    with_reducible rfl
  rotate_left
  · simp only [Act.put, List.setIfInBounds_toArray, List.set_cons_zero, List.set_cons_succ, i64_w, i32_w]
    rfl
  refine take_ (i := 5) (N := some 22) (v := ?_) (a' := ?_) #[true, true, true, true, true, true, false, false, false, false, false, false, false] rfl rfl (by kernel_rfl) (fun _ _ _ h => h) (Or.inl ⟨by rfl, ?_⟩) hHeld ?_ ?_
  rotate_left
  · rintro w' ⟨h0_, h1_, h2_⟩
    go_simp
    with_reducible rfl
  rotate_left
  · simp only [Act.put, List.setIfInBounds_toArray, List.set_cons_zero, List.set_cons_succ, i64_w, i32_w]
    rfl
  refine take_ (i := 6) (N := some 23) (v := ?_) (a' := ?_) #[true, true, true, true, true, true, true, false, false, false, false, false, false] rfl rfl (by kernel_rfl) (fun _ _ _ h => h) (Or.inl ⟨by rfl, ?_⟩) hHeld ?_ ?_
  rotate_left
  · rintro w' ⟨h0_, h1_, h2_⟩
    go_simp
    with_reducible rfl
  rotate_left
  · simp only [Act.put, List.setIfInBounds_toArray, List.set_cons_zero, List.set_cons_succ, i64_w, i32_w]
    rfl
  refine pure_ (i := 7) (N := some 16) (v := ?_) (a' := ?_) #[true, true, true, true, true, true, true, true, false, false, false, false, false] rfl rfl (by kernel_rfl) (fun _ _ _ h => h) (Or.inl ⟨by rfl, ?_⟩) ?_ ?_
  rotate_left
  · intro w'
    go_simp
    with_reducible rfl
  rotate_left
  · simp only [Act.put, List.setIfInBounds_toArray, List.set_cons_zero, List.set_cons_succ, i64_w, i32_w]
    rfl
  refine pure_ (i := 8) (N := some 24) (v := ?_) (a' := ?_) #[true, true, true, true, true, true, true, true, true, false, false, false, false] rfl rfl (by kernel_rfl) (fun _ _ _ h => h) (Or.inl ⟨by rfl, ?_⟩) ?_ ?_
  rotate_left
  · intro w'
    go_simp
    with_reducible rfl
  rotate_left
  · simp only [Act.put, List.setIfInBounds_toArray, List.set_cons_zero, List.set_cons_succ, i64_w, i32_w]
    rfl
  refine pure_ (i := 9) (N := some 25) (v := ?_) (a' := ?_) #[true, true, true, true, true, true, true, true, true, true, false, false, false] rfl rfl (by kernel_rfl) (fun _ _ _ h => h) (Or.inl ⟨by rfl, ?_⟩) ?_ ?_
  rotate_left
  · intro w'
    go_simp
    with_reducible rfl
  rotate_left
  · simp only [Act.put, List.setIfInBounds_toArray, List.set_cons_zero, List.set_cons_succ, i64_w, i32_w]
    rfl
  refine one_ (i := 10) (N := some 7) #[true, true, true, true, true, true, true, true, true, true, true, false, false] rfl rfl (by kernel_rfl) (by decide) (fun K hK => ?_)
  refine value_ (v := .pointer (some ⟨wd.heap.size, 0, none⟩)) (w1 := wd.alloc (.cells #[.int .u32 0, .int .u32 0, .int .u8 0, .string ⟨#[]⟩] 33)) (by rfl) rfl ?_ ?_
  · go_simp
    try with_reducible rfl
  refine hK.out _ _ (have ha := (below_alloc (Below.refl wd.heap.size wd) (.cells #[.int .u32 0, .int .u32 0, .int .u8 0, .string ⟨#[]⟩] 33 (0, 0))); ⟨pw_cell_below ha hHeld.1, pw_cell_below ha hHeld.2.1, HLK.out _ (HV2.out.below (below_alloc HBd.out _))⟩) (fun hHeld => ?_)
  clear hK K
  refine norm_ (a' := ?_) ?_ ?_
  rotate_left
  · show Act.put _ (some 7) _ = _
    simp only [Act.put, List.setIfInBounds_toArray, List.set_cons_zero, List.set_cons_succ, i64_w, i32_w]
    rfl
  refine last_ (i := 11) (N := none) #[true, true, true, true, true, true, true, true, true, true, true, true, false] rfl rfl (by kernel_rfl) (by decide) (fun K hK => ?_)
  refine skip_ (w1 := ?_) (by rfl) rfl ?_ ?_
  rotate_left
  · go_simp
    rfl
  refine hK.out _ _ ?_
  clear hK K
  refine pure_ (i := 12) (N := some 8) (v := ?_) (a' := ?_) #[true, true, true, true, true, true, true, true, true, true, true, true, true] rfl rfl (by kernel_rfl) (fun _ _ _ h => h) (Or.inl ⟨by rfl, ?_⟩) ?_ ?_
  rotate_left
  · intro w'
    go_simp
    with_reducible rfl
  rotate_left
  · simp only [Act.put, List.setIfInBounds_toArray, List.set_cons_zero, List.set_cons_succ, i64_w, i32_w]
    rfl
  refine done_ (by kernel_rfl) ?_
  have HO4 := Aside0.mk (blk_new wd (.cells #[.int .u32 y.f0, .int .u32 y.f1, .int .u8 y.f2, .string y.f3] 33))
  have hba := below_alloc HBd.out (.cells #[.int .u32 y.f0, .int .u32 y.f1, .int .u8 y.f2, .string y.f3] 33)
  have HV4 := Aside0.mk (HV2.out.below hba)
  have HM4 := Aside0.mk (blk_below HM2.out hba)
  have HB4 := Aside0.mk (below_step HB2.out hba)
  clear hba HV2 HM2 HB2 HBd hs6 hHeld HLK c0w2 c1w2 c2w2 c3w2
  generalize wd.alloc (.cells #[.int .u32 y.f0, .int .u32 y.f1, .int .u8 y.f2, .string y.f3] 33) = w4 at HO4 HV4 HM4 HB4 ⊢
  generalize wd.heap.size = ob at HO4 ⊢
  have c0w4 : w4.cell? ⟨mb, 0, none⟩ = some (.int .u32 m.f0) := (blk_cell HM4.out 0).trans rfl
  have c1w4 : w4.cell? ⟨mb, 1, none⟩ = some (.int .u32 m.f1) := (blk_cell HM4.out 1).trans rfl
  have c2w4 : w4.cell? ⟨mb, 2, none⟩ = some (.int .u8 m.f2) := (blk_cell HM4.out 2).trans rfl
  have c3w4 : w4.cell? ⟨mb, 3, none⟩ = some (.string m.f3) := (blk_cell HM4.out 3).trans rfl
  have o0 : w4.cell? ⟨ob, 0, none⟩ = some (.int .u32 y.f0) := (blk_cell HO4.out 0).trans rfl
  have o1 : w4.cell? ⟨ob, 1, none⟩ = some (.int .u32 y.f1) := (blk_cell HO4.out 1).trans rfl
  have o2 : w4.cell? ⟨ob, 2, none⟩ = some (.int .u8 y.f2) := (blk_cell HO4.out 2).trans rfl
  have o3 : w4.cell? ⟨ob, 3, none⟩ = some (.string y.f3) := (blk_cell HO4.out 3).trans rfl
  have hcc : decide (cmpM m y ≤ 0) = false := decide_eq_false (by omega)
  go_upto_region 11 with (first | (go_at_call 25; (with_reducible refine (member_Cmp.calls m.f0 m.f1 m.f2 m.f3 y.f0 y.f1 y.f2 y.f3 (cmpM m y) _ (cmp_f m y)).mono ?_); rintro e w5 ⟨rfl, hb⟩; have HV5 := Aside0.mk (HV4.out.below hb); have HM5 := Aside0.mk (blk_below HM4.out hb); have HB5 := Aside0.mk (below_step HB4.out hb); clear hb c0w4 c1w4 c2w4 c3w4 o0 o1 o2 o3))
  have c0w5 : w5.cell? ⟨mb, 0, none⟩ = some (.int .u32 m.f0) := (blk_cell HM5.out 0).trans rfl
  have c1w5 : w5.cell? ⟨mb, 1, none⟩ = some (.int .u32 m.f1) := (blk_cell HM5.out 1).trans rfl
  have c2w5 : w5.cell? ⟨mb, 2, none⟩ = some (.int .u8 m.f2) := (blk_cell HM5.out 2).trans rfl
  have c3w5 : w5.cell? ⟨mb, 3, none⟩ = some (.string m.f3) := (blk_cell HM5.out 3).trans rfl
  have HBe := Aside0.mk (below_drew1 (Below.refl w5.heap.size w5))
  have hs11 : w5.drew.cell? ⟨g, 0, none⟩ = some (.map (some b)) ∧ w5.drew.cell? ⟨mb, 0, none⟩ = some (.int .u32 m.f0) ∧ w5.drew.cell? ⟨mb, 1, none⟩ = some (.int .u32 m.f1) ∧ w5.drew.cell? ⟨mb, 2, none⟩ = some (.int .u8 m.f2) ∧ w5.drew.cell? ⟨mb, 3, none⟩ = some (.string m.f3) := ⟨HV5.out.cell, c0w5, c1w5, c2w5, c3w5⟩
  refine start_ (n := 8) (S := (fun w' => w'.cell? ⟨g, 0, none⟩ = some (.map (some b)) ∧ w'.cell? ⟨mb, 0, none⟩ = some (.int .u32 m.f0) ∧ w'.cell? ⟨mb, 1, none⟩ = some (.int .u32 m.f1) ∧ w'.cell? ⟨mb, 2, none⟩ = some (.int .u8 m.f2) ∧ w'.cell? ⟨mb, 3, none⟩ = some (.string m.f3))) (ds := [7]) #[false, false, false, false, false, false, false, false] (by kernel_rfl) rfl rfl hs11 (fun hHeld => ?_)
  generalize w5.drew = we at HBe hs11 hHeld ⊢
  refine pure_ (i := 0) (N := some 45) (v := ?_) (a' := ?_) #[true, false, false, false, false, false, false, false] rfl rfl (by kernel_rfl) (fun _ _ _ h => h) (Or.inl ⟨by rfl, ?_⟩) ?_ ?_
  rotate_left
  · intro w'
    go_simp
    with_reducible rfl
  rotate_left
  · simp only [Act.put, List.setIfInBounds_toArray, List.set_cons_zero, List.set_cons_succ, i64_w, i32_w]
    rfl
  refine pure_ (i := 1) (N := some 46) (v := ?_) (a' := ?_) #[true, true, false, false, false, false, false, false] rfl rfl (by kernel_rfl) (fun _ _ _ h => h) (Or.inl ⟨by rfl, ?_⟩) ?_ ?_
  rotate_left
  · intro w'
    go_simp
    with_reducible rfl
  rotate_left
  · simp only [Act.put, List.setIfInBounds_toArray, List.set_cons_zero, List.set_cons_succ, i64_w, i32_w]
    rfl
  refine pure_ (i := 2) (N := some 47) (v := ?_) (a' := ?_) #[true, true, true, false, false, false, false, false] rfl rfl (by kernel_rfl) (fun _ _ _ h => h) (Or.inl ⟨by rfl, ?_⟩) ?_ ?_
  rotate_left
  · intro w'
    go_simp
    with_reducible rfl
  rotate_left
  · simp only [Act.put, List.setIfInBounds_toArray, List.set_cons_zero, List.set_cons_succ, i64_w, i32_w]
    rfl
  refine take_ (i := 3) (N := some 48) (v := ?_) (a' := ?_) #[true, true, true, true, false, false, false, false] rfl rfl (by kernel_rfl) (fun _ _ _ h => h) (Or.inl ⟨by rfl, ?_⟩) hHeld ?_ ?_
  rotate_left
  · rintro w' ⟨h0_, h1_, h2_, h3_, h4_⟩
    go_simp
    with_reducible rfl
  rotate_left
  · simp only [Act.put, List.setIfInBounds_toArray, List.set_cons_zero, List.set_cons_succ, i64_w, i32_w]
    rfl
  refine pure_ (i := 4) (N := some 49) (v := ?_) (a' := ?_) #[true, true, true, true, true, false, false, false] rfl rfl (by kernel_rfl) (fun _ _ _ h => h) (Or.inl ⟨by rfl, ?_⟩) ?_ ?_
  rotate_left
  · intro w'
    go_simp
    with_reducible rfl
  rotate_left
  · simp only [Act.put, List.setIfInBounds_toArray, List.set_cons_zero, List.set_cons_succ, i64_w, i32_w]
    rfl
  refine take_ (i := 5) (N := some 50) (v := ?_) (a' := ?_) #[true, true, true, true, true, true, false, false] rfl rfl (by kernel_rfl) (fun _ _ _ h => h) (Or.inl ⟨by rfl, ?_⟩) hHeld ?_ ?_
  rotate_left
  · rintro w' ⟨h0_, h1_, h2_, h3_, h4_⟩
    go_simp
    with_reducible rfl
  rotate_left
  · simp only [Act.put, List.setIfInBounds_toArray, List.set_cons_zero, List.set_cons_succ, i64_w, i32_w]
    rfl
  refine take_ (i := 6) (N := some 51) (v := ?_) (a' := ?_) #[true, true, true, true, true, true, true, false] rfl rfl (by kernel_rfl) (fun _ _ _ h => h) (Or.inl ⟨by rfl, ?_⟩) hHeld ?_ ?_
  rotate_left
  · rintro w' ⟨h0_, h1_, h2_, h3_, h4_⟩
    go_simp
    with_reducible rfl
  rotate_left
  · simp only [Act.put, List.setIfInBounds_toArray, List.set_cons_zero, List.set_cons_succ, i64_w, i32_w]
    rfl
  obtain ⟨w6, hup, hv6, hg6⟩ := (HV5.out.below HBe.out).put h0 h1 (by omega)
  have HV6 := Aside0.mk hv6
  have HG6 := Aside0.mk hg6
  unfold memV at hup
  clear hv6 hg6
  refine last_ (i := 7) (N := none) #[true, true, true, true, true, true, true, true] rfl rfl (by kernel_rfl) (by decide) (fun K hK => ?_)
  refine skip_ (w1 := w6) (by rfl) rfl ?_ ?_
  · go_simp
    try with_reducible rfl
  refine hK.out _ _ ?_
  clear hK K
  refine done_ (by kernel_rfl) ?_
  go_wp2
  refine bodyPost_ret (results_tmp2 rfl _ _ _) rfl ?_
  exact ⟨rfl, HV6.out, VF.then (below_step HB5.out HBe.out) HG6.out⟩
set_option maxHeartbeats 8000000 in
set_option maxRecDepth 100000 in
theorem merge_full (w : World) (g b : Nat) (l : List Mem) (m : Mem) (h0 : 0 ≤ m.f0) (h1 : m.f0 ≤ 4294967295) (hV : Vw w g b l) (hl : l.length ≤ 100000) (hm : mayM m = true) (hgl : getL l m.f0 = none) (hc : 32 ≤ l.length) :
    Calls Try.prog 21 #[.pointer (some ⟨g, 0, none⟩), memV m] w fun e w' => e = .returned (.tuple #[.bool false, .int .i64 3]) ∧ Vw w' g b l ∧ VF w w' b := by
  have hu25 := Try.underlying33
  unfold memV
  have hck : member_Check.f m.f0 m.f1 m.f2 m.f3 = some 0 := by rw [check_f, hm]; rfl
  go_enter Try.func21, Try.ntmps21
  go_upto_region 3 with (fail)
  have HM1 := Aside0.mk (blk_new w (.cells #[.int .u32 m.f0, .int .u32 m.f1, .int .u8 m.f2, .string m.f3] 33))
  have hba := below_alloc (Below.refl w.heap.size w) (.cells #[.int .u32 m.f0, .int .u32 m.f1, .int .u8 m.f2, .string m.f3] 33)
  have HV1 := Aside0.mk (hV.below hba)
  have HB1 := Aside0.mk hba
  have hmb : mb_ne w.heap.size g b := ⟨Nat.ne_of_lt hV.ltg, Nat.ne_of_lt hV.ltb⟩
  clear hba hV
  generalize w.alloc (.cells #[.int .u32 m.f0, .int .u32 m.f1, .int .u8 m.f2, .string m.f3] 33) = w1 at HM1 HV1 HB1 ⊢
  obtain ⟨mb, hmbe⟩ : ∃ n, n = w.heap.size := ⟨_, rfl⟩
  rw [← hmbe] at HM1 hmb ⊢
  have HMB := Aside0.mk hmbe
  have HNE := Aside0.mk hmb
  clear hmbe hmb
  have c0w1 : w1.cell? ⟨mb, 0, none⟩ = some (.int .u32 m.f0) := (blk_cell HM1.out 0).trans rfl
  have c1w1 : w1.cell? ⟨mb, 1, none⟩ = some (.int .u32 m.f1) := (blk_cell HM1.out 1).trans rfl
  have c2w1 : w1.cell? ⟨mb, 2, none⟩ = some (.int .u8 m.f2) := (blk_cell HM1.out 2).trans rfl
  have c3w1 : w1.cell? ⟨mb, 3, none⟩ = some (.string m.f3) := (blk_cell HM1.out 3).trans rfl
  go_upto_region 6 with (first | (go_at_call 24; (with_reducible refine (member_Check.calls m.f0 m.f1 m.f2 m.f3 0 _ hck).mono ?_); rintro e w2 ⟨rfl, hb⟩; have HV2 := Aside0.mk (HV1.out.below hb); have HM2 := Aside0.mk (blk_below HM1.out hb); have HB2 := Aside0.mk (below_step HB1.out hb); clear hb c0w1 c1w1 c2w1 c3w1))
  clear hck HV1 HM1 HB1
  have c0w2 : w2.cell? ⟨mb, 0, none⟩ = some (.int .u32 m.f0) := (blk_cell HM2.out 0).trans rfl
  have c1w2 : w2.cell? ⟨mb, 1, none⟩ = some (.int .u32 m.f1) := (blk_cell HM2.out 1).trans rfl
  have c2w2 : w2.cell? ⟨mb, 2, none⟩ = some (.int .u8 m.f2) := (blk_cell HM2.out 2).trans rfl
  have c3w2 : w2.cell? ⟨mb, 3, none⟩ = some (.string m.f3) := (blk_cell HM2.out 3).trans rfl
  have hlk := fun W (hW : Vw W g b l) => hW.look h0 h1
  rw [hgl] at hlk
  simp only [Option.getD_some, Option.isSome_some, Option.getD_none, Option.isSome_none] at hlk
  unfold memV at hlk
  have HBd := Aside0.mk (below_drew1 (Below.refl w2.heap.size w2))
  have hs6 : w2.drew.cell? ⟨g, 0, none⟩ = some (.map (some b)) ∧ w2.drew.cell? ⟨mb, 0, none⟩ = some (.int .u32 m.f0) ∧ (Instr.lookup 75 (.map (some b)) (.int .u32 m.f0) true).run Try.prog w2.drew = .ok (.tuple #[.agg #[.int .u32 z33.f0, .int .u32 z33.f1, .int .u8 z33.f2, .string z33.f3], .bool false]) w2.drew := ⟨(HV2.out.below (below_drew1 (Below.refl _ _))).cell, c0w2, hlk _ (HV2.out.below (below_drew1 (Below.refl _ _)))⟩
  have HLK := Aside0.mk hlk
  clear hlk
  refine start_ (n := 13) (S := (fun w' => w'.cell? ⟨g, 0, none⟩ = some (.map (some b)) ∧ w'.cell? ⟨mb, 0, none⟩ = some (.int .u32 m.f0) ∧ (Instr.lookup 75 (.map (some b)) (.int .u32 m.f0) true).run Try.prog w' = .ok (.tuple #[.agg #[.int .u32 z33.f0, .int .u32 z33.f1, .int .u8 z33.f2, .string z33.f3], .bool false]) w')) (ds := [11]) #[false, false, false, false, false, false, false, false, false, false, false, false, false] (by kernel_rfl) rfl rfl hs6 (fun hHeld => ?_)
  generalize w2.drew = wd at HBd hs6 hHeld ⊢
  refine pure_ (i := 0) (N := some 17) (v := ?_) (a' := ?_) #[true, false, false, false, false, false, false, false, false, false, false, false, false] rfl rfl (by kernel_rfl) (fun _ _ _ h => h) (Or.inl ⟨by rfl, ?_⟩) ?_ ?_
  rotate_left
  · intro w'
    go_simp
    with_reducible rfl
  rotate_left
  · simp only [Act.put, List.setIfInBounds_toArray, List.set_cons_zero, List.set_cons_succ, i64_w, i32_w]
    rfl
  refine pure_ (i := 1) (N := some 18) (v := ?_) (a' := ?_) #[true, true, false, false, false, false, false, false, false, false, false, false, false] rfl rfl (by kernel_rfl) (fun _ _ _ h => h) (Or.inl ⟨by rfl, ?_⟩) ?_ ?_
  rotate_left
  · intro w'
    go_simp
    with_reducible rfl
  rotate_left
  · simp only [Act.put, List.setIfInBounds_toArray, List.set_cons_zero, List.set_cons_succ, i64_w, i32_w]
    rfl
  refine pure_ (i := 2) (N := some 19) (v := ?_) (a' := ?_) #[true, true, true, false, false, false, false, false, false, false, false, false, false] rfl rfl (by kernel_rfl) (fun _ _ _ h => h) (Or.inl ⟨by rfl, ?_⟩) ?_ ?_
  rotate_left
  · intro w'
    go_simp
    with_reducible rfl
  rotate_left
  · simp only [Act.put, List.setIfInBounds_toArray, List.set_cons_zero, List.set_cons_succ, i64_w, i32_w]
    rfl
  refine take_ (i := 3) (N := some 20) (v := ?_) (a' := ?_) #[true, true, true, true, false, false, false, false, false, false, false, false, false] rfl rfl (by kernel_rfl) (fun _ _ _ h => h) (Or.inl ⟨by rfl, ?_⟩) hHeld ?_ ?_
  rotate_left
  · rintro w' ⟨h0_, h1_, h2_⟩
    go_simp
    with_reducible rfl
  rotate_left
  · simp only [Act.put, List.setIfInBounds_toArray, List.set_cons_zero, List.set_cons_succ, i64_w, i32_w]
    rfl
  refine pure_ (i := 4) (N := some 21) (v := ?_) (a' := ?_) #[true, true, true, true, true, false, false, false, false, false, false, false, false] rfl rfl (by kernel_rfl) (fun _ _ _ h => h) (Or.inl ⟨by rfl, ?_⟩) ?_ ?_
  rotate_left
  · intro w'
    go_simp
    with_reducible rfl
  rotate_left
  · simp only [Act.put, List.setIfInBounds_toArray, List.set_cons_zero, List.set_cons_succ, i64_w, i32_w]
    rfl
  refine take_ (i := 5) (N := some 22) (v := ?_) (a' := ?_) #[true, true, true, true, true, true, false, false, false, false, false, false, false] rfl rfl (by kernel_rfl) (fun _ _ _ h => h) (Or.inl ⟨by rfl, ?_⟩) hHeld ?_ ?_
  rotate_left
  · rintro w' ⟨h0_, h1_, h2_⟩
    go_simp
    with_reducible rfl
  rotate_left
  · simp only [Act.put, List.setIfInBounds_toArray, List.set_cons_zero, List.set_cons_succ, i64_w, i32_w]
    rfl
  refine take_ (i := 6) (N := some 23) (v := ?_) (a' := ?_) #[true, true, true, true, true, true, true, false, false, false, false, false, false] rfl rfl (by kernel_rfl) (fun _ _ _ h => h) (Or.inl ⟨by rfl, ?_⟩) hHeld ?_ ?_
  rotate_left
  · rintro w' ⟨h0_, h1_, h2_⟩
    go_simp
    with_reducible rfl
  rotate_left
  · simp only [Act.put, List.setIfInBounds_toArray, List.set_cons_zero, List.set_cons_succ, i64_w, i32_w]
    rfl
  refine pure_ (i := 7) (N := some 16) (v := ?_) (a' := ?_) #[true, true, true, true, true, true, true, true, false, false, false, false, false] rfl rfl (by kernel_rfl) (fun _ _ _ h => h) (Or.inl ⟨by rfl, ?_⟩) ?_ ?_
  rotate_left
  · intro w'
    go_simp
    with_reducible rfl
  rotate_left
  · simp only [Act.put, List.setIfInBounds_toArray, List.set_cons_zero, List.set_cons_succ, i64_w, i32_w]
    rfl
  refine pure_ (i := 8) (N := some 24) (v := ?_) (a' := ?_) #[true, true, true, true, true, true, true, true, true, false, false, false, false] rfl rfl (by kernel_rfl) (fun _ _ _ h => h) (Or.inl ⟨by rfl, ?_⟩) ?_ ?_
  rotate_left
  · intro w'
    go_simp
    with_reducible rfl
  rotate_left
  · simp only [Act.put, List.setIfInBounds_toArray, List.set_cons_zero, List.set_cons_succ, i64_w, i32_w]
    rfl
  refine pure_ (i := 9) (N := some 25) (v := ?_) (a' := ?_) #[true, true, true, true, true, true, true, true, true, true, false, false, false] rfl rfl (by kernel_rfl) (fun _ _ _ h => h) (Or.inl ⟨by rfl, ?_⟩) ?_ ?_
  rotate_left
  · intro w'
    go_simp
    with_reducible rfl
  rotate_left
  · simp only [Act.put, List.setIfInBounds_toArray, List.set_cons_zero, List.set_cons_succ, i64_w, i32_w]
    rfl
  refine one_ (i := 10) (N := some 7) #[true, true, true, true, true, true, true, true, true, true, true, false, false] rfl rfl (by kernel_rfl) (by decide) (fun K hK => ?_)
  refine value_ (v := .pointer (some ⟨wd.heap.size, 0, none⟩)) (w1 := wd.alloc (.cells #[.int .u32 0, .int .u32 0, .int .u8 0, .string ⟨#[]⟩] 33)) (by rfl) rfl ?_ ?_
  · go_simp
    try with_reducible rfl
  refine hK.out _ _ (have ha := (below_alloc (Below.refl wd.heap.size wd) (.cells #[.int .u32 0, .int .u32 0, .int .u8 0, .string ⟨#[]⟩] 33 (0, 0))); ⟨pw_cell_below ha hHeld.1, pw_cell_below ha hHeld.2.1, HLK.out _ (HV2.out.below (below_alloc HBd.out _))⟩) (fun hHeld => ?_)
  clear hK K
  refine norm_ (a' := ?_) ?_ ?_
  rotate_left
  · show Act.put _ (some 7) _ = _
    simp only [Act.put, List.setIfInBounds_toArray, List.set_cons_zero, List.set_cons_succ, i64_w, i32_w]
    rfl
  refine last_ (i := 11) (N := none) #[true, true, true, true, true, true, true, true, true, true, true, true, false] rfl rfl (by kernel_rfl) (by decide) (fun K hK => ?_)
  refine skip_ (w1 := ?_) (by rfl) rfl ?_ ?_
  rotate_left
  · go_simp
    rfl
  refine hK.out _ _ ?_
  clear hK K
  refine pure_ (i := 12) (N := some 8) (v := ?_) (a' := ?_) #[true, true, true, true, true, true, true, true, true, true, true, true, true] rfl rfl (by kernel_rfl) (fun _ _ _ h => h) (Or.inl ⟨by rfl, ?_⟩) ?_ ?_
  rotate_left
  · intro w'
    go_simp
    with_reducible rfl
  rotate_left
  · simp only [Act.put, List.setIfInBounds_toArray, List.set_cons_zero, List.set_cons_succ, i64_w, i32_w]
    rfl
  refine done_ (by kernel_rfl) ?_
  have HO4 := Aside0.mk (blk_new wd (.cells #[.int .u32 z33.f0, .int .u32 z33.f1, .int .u8 z33.f2, .string z33.f3] 33))
  have hba := below_alloc HBd.out (.cells #[.int .u32 z33.f0, .int .u32 z33.f1, .int .u8 z33.f2, .string z33.f3] 33)
  have HV4 := Aside0.mk (HV2.out.below hba)
  have HM4 := Aside0.mk (blk_below HM2.out hba)
  have HB4 := Aside0.mk (below_step HB2.out hba)
  clear hba HV2 HM2 HB2 HBd hs6 hHeld HLK c0w2 c1w2 c2w2 c3w2
  generalize wd.alloc (.cells #[.int .u32 z33.f0, .int .u32 z33.f1, .int .u8 z33.f2, .string z33.f3] 33) = w4 at HO4 HV4 HM4 HB4 ⊢
  generalize wd.heap.size = ob at HO4 ⊢
  have hcl := HV4.out.cell
  have hln := HV4.out.len
  have hcc : decide ((32 : Int) ≤ (l.length : Int)) = true := decide_eq_true (by omega)
  go_wp2
  refine bodyPost_ret (results_tmp2 rfl _ _ _) rfl ?_
  exact ⟨rfl, HV4.out, VF.of HB4.out⟩
set_option maxHeartbeats 8000000 in
set_option maxRecDepth 100000 in
theorem merge_new (w : World) (g b : Nat) (l : List Mem) (m : Mem) (h0 : 0 ≤ m.f0) (h1 : m.f0 ≤ 4294967295) (hV : Vw w g b l) (hl : l.length ≤ 100000) (hm : mayM m = true) (hgl : getL l m.f0 = none) (hc : ¬ 32 ≤ l.length) :
    Calls Try.prog 21 #[.pointer (some ⟨g, 0, none⟩), memV m] w fun e w' => e = .returned (.tuple #[.bool true, .int .i64 0]) ∧ Vw w' g b (putL m l) ∧ VF w w' b := by
  have hu25 := Try.underlying33
  unfold memV
  have hck : member_Check.f m.f0 m.f1 m.f2 m.f3 = some 0 := by rw [check_f, hm]; rfl
  go_enter Try.func21, Try.ntmps21
  go_upto_region 3 with (fail)
  have HM1 := Aside0.mk (blk_new w (.cells #[.int .u32 m.f0, .int .u32 m.f1, .int .u8 m.f2, .string m.f3] 33))
  have hba := below_alloc (Below.refl w.heap.size w) (.cells #[.int .u32 m.f0, .int .u32 m.f1, .int .u8 m.f2, .string m.f3] 33)
  have HV1 := Aside0.mk (hV.below hba)
  have HB1 := Aside0.mk hba
  have hmb : mb_ne w.heap.size g b := ⟨Nat.ne_of_lt hV.ltg, Nat.ne_of_lt hV.ltb⟩
  clear hba hV
  generalize w.alloc (.cells #[.int .u32 m.f0, .int .u32 m.f1, .int .u8 m.f2, .string m.f3] 33) = w1 at HM1 HV1 HB1 ⊢
  obtain ⟨mb, hmbe⟩ : ∃ n, n = w.heap.size := ⟨_, rfl⟩
  rw [← hmbe] at HM1 hmb ⊢
  have HMB := Aside0.mk hmbe
  have HNE := Aside0.mk hmb
  clear hmbe hmb
  have c0w1 : w1.cell? ⟨mb, 0, none⟩ = some (.int .u32 m.f0) := (blk_cell HM1.out 0).trans rfl
  have c1w1 : w1.cell? ⟨mb, 1, none⟩ = some (.int .u32 m.f1) := (blk_cell HM1.out 1).trans rfl
  have c2w1 : w1.cell? ⟨mb, 2, none⟩ = some (.int .u8 m.f2) := (blk_cell HM1.out 2).trans rfl
  have c3w1 : w1.cell? ⟨mb, 3, none⟩ = some (.string m.f3) := (blk_cell HM1.out 3).trans rfl
  go_upto_region 6 with (first | (go_at_call 24; (with_reducible refine (member_Check.calls m.f0 m.f1 m.f2 m.f3 0 _ hck).mono ?_); rintro e w2 ⟨rfl, hb⟩; have HV2 := Aside0.mk (HV1.out.below hb); have HM2 := Aside0.mk (blk_below HM1.out hb); have HB2 := Aside0.mk (below_step HB1.out hb); clear hb c0w1 c1w1 c2w1 c3w1))
  clear hck HV1 HM1 HB1
  have c0w2 : w2.cell? ⟨mb, 0, none⟩ = some (.int .u32 m.f0) := (blk_cell HM2.out 0).trans rfl
  have c1w2 : w2.cell? ⟨mb, 1, none⟩ = some (.int .u32 m.f1) := (blk_cell HM2.out 1).trans rfl
  have c2w2 : w2.cell? ⟨mb, 2, none⟩ = some (.int .u8 m.f2) := (blk_cell HM2.out 2).trans rfl
  have c3w2 : w2.cell? ⟨mb, 3, none⟩ = some (.string m.f3) := (blk_cell HM2.out 3).trans rfl
  have hlk := fun W (hW : Vw W g b l) => hW.look h0 h1
  rw [hgl] at hlk
  simp only [Option.getD_some, Option.isSome_some, Option.getD_none, Option.isSome_none] at hlk
  unfold memV at hlk
  have HBd := Aside0.mk (below_drew1 (Below.refl w2.heap.size w2))
  have hs6 : w2.drew.cell? ⟨g, 0, none⟩ = some (.map (some b)) ∧ w2.drew.cell? ⟨mb, 0, none⟩ = some (.int .u32 m.f0) ∧ (Instr.lookup 75 (.map (some b)) (.int .u32 m.f0) true).run Try.prog w2.drew = .ok (.tuple #[.agg #[.int .u32 z33.f0, .int .u32 z33.f1, .int .u8 z33.f2, .string z33.f3], .bool false]) w2.drew := ⟨(HV2.out.below (below_drew1 (Below.refl _ _))).cell, c0w2, hlk _ (HV2.out.below (below_drew1 (Below.refl _ _)))⟩
  have HLK := Aside0.mk hlk
  clear hlk
  refine start_ (n := 13) (S := (fun w' => w'.cell? ⟨g, 0, none⟩ = some (.map (some b)) ∧ w'.cell? ⟨mb, 0, none⟩ = some (.int .u32 m.f0) ∧ (Instr.lookup 75 (.map (some b)) (.int .u32 m.f0) true).run Try.prog w' = .ok (.tuple #[.agg #[.int .u32 z33.f0, .int .u32 z33.f1, .int .u8 z33.f2, .string z33.f3], .bool false]) w')) (ds := [11]) #[false, false, false, false, false, false, false, false, false, false, false, false, false] (by kernel_rfl) rfl rfl hs6 (fun hHeld => ?_)
  generalize w2.drew = wd at HBd hs6 hHeld ⊢
  refine pure_ (i := 0) (N := some 17) (v := ?_) (a' := ?_) #[true, false, false, false, false, false, false, false, false, false, false, false, false] rfl rfl (by kernel_rfl) (fun _ _ _ h => h) (Or.inl ⟨by rfl, ?_⟩) ?_ ?_
  rotate_left
  · intro w'
    go_simp
    with_reducible rfl
  rotate_left
  · simp only [Act.put, List.setIfInBounds_toArray, List.set_cons_zero, List.set_cons_succ, i64_w, i32_w]
    rfl
  refine pure_ (i := 1) (N := some 18) (v := ?_) (a' := ?_) #[true, true, false, false, false, false, false, false, false, false, false, false, false] rfl rfl (by kernel_rfl) (fun _ _ _ h => h) (Or.inl ⟨by rfl, ?_⟩) ?_ ?_
  rotate_left
  · intro w'
    go_simp
    with_reducible rfl
  rotate_left
  · simp only [Act.put, List.setIfInBounds_toArray, List.set_cons_zero, List.set_cons_succ, i64_w, i32_w]
    rfl
  refine pure_ (i := 2) (N := some 19) (v := ?_) (a' := ?_) #[true, true, true, false, false, false, false, false, false, false, false, false, false] rfl rfl (by kernel_rfl) (fun _ _ _ h => h) (Or.inl ⟨by rfl, ?_⟩) ?_ ?_
  rotate_left
  · intro w'
    go_simp
    with_reducible rfl
  rotate_left
  · simp only [Act.put, List.setIfInBounds_toArray, List.set_cons_zero, List.set_cons_succ, i64_w, i32_w]
    rfl
  refine take_ (i := 3) (N := some 20) (v := ?_) (a' := ?_) #[true, true, true, true, false, false, false, false, false, false, false, false, false] rfl rfl (by kernel_rfl) (fun _ _ _ h => h) (Or.inl ⟨by rfl, ?_⟩) hHeld ?_ ?_
  rotate_left
  · rintro w' ⟨h0_, h1_, h2_⟩
    go_simp
    with_reducible rfl
  rotate_left
  · simp only [Act.put, List.setIfInBounds_toArray, List.set_cons_zero, List.set_cons_succ, i64_w, i32_w]
    rfl
  refine pure_ (i := 4) (N := some 21) (v := ?_) (a' := ?_) #[true, true, true, true, true, false, false, false, false, false, false, false, false] rfl rfl (by kernel_rfl) (fun _ _ _ h => h) (Or.inl ⟨by rfl, ?_⟩) ?_ ?_
  rotate_left
  · intro w'
    go_simp
    with_reducible rfl
  rotate_left
  · simp only [Act.put, List.setIfInBounds_toArray, List.set_cons_zero, List.set_cons_succ, i64_w, i32_w]
    rfl
  refine take_ (i := 5) (N := some 22) (v := ?_) (a' := ?_) #[true, true, true, true, true, true, false, false, false, false, false, false, false] rfl rfl (by kernel_rfl) (fun _ _ _ h => h) (Or.inl ⟨by rfl, ?_⟩) hHeld ?_ ?_
  rotate_left
  · rintro w' ⟨h0_, h1_, h2_⟩
    go_simp
    with_reducible rfl
  rotate_left
  · simp only [Act.put, List.setIfInBounds_toArray, List.set_cons_zero, List.set_cons_succ, i64_w, i32_w]
    rfl
  refine take_ (i := 6) (N := some 23) (v := ?_) (a' := ?_) #[true, true, true, true, true, true, true, false, false, false, false, false, false] rfl rfl (by kernel_rfl) (fun _ _ _ h => h) (Or.inl ⟨by rfl, ?_⟩) hHeld ?_ ?_
  rotate_left
  · rintro w' ⟨h0_, h1_, h2_⟩
    go_simp
    with_reducible rfl
  rotate_left
  · simp only [Act.put, List.setIfInBounds_toArray, List.set_cons_zero, List.set_cons_succ, i64_w, i32_w]
    rfl
  refine pure_ (i := 7) (N := some 16) (v := ?_) (a' := ?_) #[true, true, true, true, true, true, true, true, false, false, false, false, false] rfl rfl (by kernel_rfl) (fun _ _ _ h => h) (Or.inl ⟨by rfl, ?_⟩) ?_ ?_
  rotate_left
  · intro w'
    go_simp
    with_reducible rfl
  rotate_left
  · simp only [Act.put, List.setIfInBounds_toArray, List.set_cons_zero, List.set_cons_succ, i64_w, i32_w]
    rfl
  refine pure_ (i := 8) (N := some 24) (v := ?_) (a' := ?_) #[true, true, true, true, true, true, true, true, true, false, false, false, false] rfl rfl (by kernel_rfl) (fun _ _ _ h => h) (Or.inl ⟨by rfl, ?_⟩) ?_ ?_
  rotate_left
  · intro w'
    go_simp
    with_reducible rfl
  rotate_left
  · simp only [Act.put, List.setIfInBounds_toArray, List.set_cons_zero, List.set_cons_succ, i64_w, i32_w]
    rfl
  refine pure_ (i := 9) (N := some 25) (v := ?_) (a' := ?_) #[true, true, true, true, true, true, true, true, true, true, false, false, false] rfl rfl (by kernel_rfl) (fun _ _ _ h => h) (Or.inl ⟨by rfl, ?_⟩) ?_ ?_
  rotate_left
  · intro w'
    go_simp
    with_reducible rfl
  rotate_left
  · simp only [Act.put, List.setIfInBounds_toArray, List.set_cons_zero, List.set_cons_succ, i64_w, i32_w]
    rfl
  refine one_ (i := 10) (N := some 7) #[true, true, true, true, true, true, true, true, true, true, true, false, false] rfl rfl (by kernel_rfl) (by decide) (fun K hK => ?_)
  refine value_ (v := .pointer (some ⟨wd.heap.size, 0, none⟩)) (w1 := wd.alloc (.cells #[.int .u32 0, .int .u32 0, .int .u8 0, .string ⟨#[]⟩] 33)) (by rfl) rfl ?_ ?_
  · go_simp
    try with_reducible rfl
  refine hK.out _ _ (have ha := (below_alloc (Below.refl wd.heap.size wd) (.cells #[.int .u32 0, .int .u32 0, .int .u8 0, .string ⟨#[]⟩] 33 (0, 0))); ⟨pw_cell_below ha hHeld.1, pw_cell_below ha hHeld.2.1, HLK.out _ (HV2.out.below (below_alloc HBd.out _))⟩) (fun hHeld => ?_)
  clear hK K
  refine norm_ (a' := ?_) ?_ ?_
  rotate_left
  · show Act.put _ (some 7) _ = _
    simp only [Act.put, List.setIfInBounds_toArray, List.set_cons_zero, List.set_cons_succ, i64_w, i32_w]
    rfl
  refine last_ (i := 11) (N := none) #[true, true, true, true, true, true, true, true, true, true, true, true, false] rfl rfl (by kernel_rfl) (by decide) (fun K hK => ?_)
  refine skip_ (w1 := ?_) (by rfl) rfl ?_ ?_
  rotate_left
  · go_simp
    rfl
  refine hK.out _ _ ?_
  clear hK K
  refine pure_ (i := 12) (N := some 8) (v := ?_) (a' := ?_) #[true, true, true, true, true, true, true, true, true, true, true, true, true] rfl rfl (by kernel_rfl) (fun _ _ _ h => h) (Or.inl ⟨by rfl, ?_⟩) ?_ ?_
  rotate_left
  · intro w'
    go_simp
    with_reducible rfl
  rotate_left
  · simp only [Act.put, List.setIfInBounds_toArray, List.set_cons_zero, List.set_cons_succ, i64_w, i32_w]
    rfl
  refine done_ (by kernel_rfl) ?_
  have HO4 := Aside0.mk (blk_new wd (.cells #[.int .u32 z33.f0, .int .u32 z33.f1, .int .u8 z33.f2, .string z33.f3] 33))
  have hba := below_alloc HBd.out (.cells #[.int .u32 z33.f0, .int .u32 z33.f1, .int .u8 z33.f2, .string z33.f3] 33)
  have HV4 := Aside0.mk (HV2.out.below hba)
  have HM4 := Aside0.mk (blk_below HM2.out hba)
  have HB4 := Aside0.mk (below_step HB2.out hba)
  clear hba HV2 HM2 HB2 HBd hs6 hHeld HLK c0w2 c1w2 c2w2 c3w2
  generalize wd.alloc (.cells #[.int .u32 z33.f0, .int .u32 z33.f1, .int .u8 z33.f2, .string z33.f3] 33) = w4 at HO4 HV4 HM4 HB4 ⊢
  generalize wd.heap.size = ob at HO4 ⊢
  have hcl := HV4.out.cell
  have hln := HV4.out.len
  have hcc : decide ((32 : Int) ≤ (l.length : Int)) = false := decide_eq_false (by omega)
  go_upto_region 11 with (fail)
  clear hcl hln
  have HV5 := HV4
  have HM5 := HM4
  have HB5 := HB4
  clear HV4 HM4 HB4
  obtain ⟨w5, hw5⟩ : ∃ W, W = w4 := ⟨_, rfl⟩
  rw [← hw5] at HV5 HM5 HB5 ⊢
  clear hw5
  have c0w5 : w5.cell? ⟨mb, 0, none⟩ = some (.int .u32 m.f0) := (blk_cell HM5.out 0).trans rfl
  have c1w5 : w5.cell? ⟨mb, 1, none⟩ = some (.int .u32 m.f1) := (blk_cell HM5.out 1).trans rfl
  have c2w5 : w5.cell? ⟨mb, 2, none⟩ = some (.int .u8 m.f2) := (blk_cell HM5.out 2).trans rfl
  have c3w5 : w5.cell? ⟨mb, 3, none⟩ = some (.string m.f3) := (blk_cell HM5.out 3).trans rfl
  have HBe := Aside0.mk (below_drew1 (Below.refl w5.heap.size w5))
  have hs11 : w5.drew.cell? ⟨g, 0, none⟩ = some (.map (some b)) ∧ w5.drew.cell? ⟨mb, 0, none⟩ = some (.int .u32 m.f0) ∧ w5.drew.cell? ⟨mb, 1, none⟩ = some (.int .u32 m.f1) ∧ w5.drew.cell? ⟨mb, 2, none⟩ = some (.int .u8 m.f2) ∧ w5.drew.cell? ⟨mb, 3, none⟩ = some (.string m.f3) := ⟨HV5.out.cell, c0w5, c1w5, c2w5, c3w5⟩
  refine start_ (n := 8) (S := (fun w' => w'.cell? ⟨g, 0, none⟩ = some (.map (some b)) ∧ w'.cell? ⟨mb, 0, none⟩ = some (.int .u32 m.f0) ∧ w'.cell? ⟨mb, 1, none⟩ = some (.int .u32 m.f1) ∧ w'.cell? ⟨mb, 2, none⟩ = some (.int .u8 m.f2) ∧ w'.cell? ⟨mb, 3, none⟩ = some (.string m.f3))) (ds := [7]) #[false, false, false, false, false, false, false, false] (by kernel_rfl) rfl rfl hs11 (fun hHeld => ?_)
  generalize w5.drew = we at HBe hs11 hHeld ⊢
  refine pure_ (i := 0) (N := some 45) (v := ?_) (a' := ?_) #[true, false, false, false, false, false, false, false] rfl rfl (by kernel_rfl) (fun _ _ _ h => h) (Or.inl ⟨by rfl, ?_⟩) ?_ ?_
  rotate_left
  · intro w'
    go_simp
    with_reducible rfl
  rotate_left
  · simp only [Act.put, List.setIfInBounds_toArray, List.set_cons_zero, List.set_cons_succ, i64_w, i32_w]
    rfl
  refine pure_ (i := 1) (N := some 46) (v := ?_) (a' := ?_) #[true, true, false, false, false, false, false, false] rfl rfl (by kernel_rfl) (fun _ _ _ h => h) (Or.inl ⟨by rfl, ?_⟩) ?_ ?_
  rotate_left
  · intro w'
    go_simp
    with_reducible rfl
  rotate_left
  · simp only [Act.put, List.setIfInBounds_toArray, List.set_cons_zero, List.set_cons_succ, i64_w, i32_w]
    rfl
  refine pure_ (i := 2) (N := some 47) (v := ?_) (a' := ?_) #[true, true, true, false, false, false, false, false] rfl rfl (by kernel_rfl) (fun _ _ _ h => h) (Or.inl ⟨by rfl, ?_⟩) ?_ ?_
  rotate_left
  · intro w'
    go_simp
    with_reducible rfl
  rotate_left
  · simp only [Act.put, List.setIfInBounds_toArray, List.set_cons_zero, List.set_cons_succ, i64_w, i32_w]
    rfl
  refine take_ (i := 3) (N := some 48) (v := ?_) (a' := ?_) #[true, true, true, true, false, false, false, false] rfl rfl (by kernel_rfl) (fun _ _ _ h => h) (Or.inl ⟨by rfl, ?_⟩) hHeld ?_ ?_
  rotate_left
  · rintro w' ⟨h0_, h1_, h2_, h3_, h4_⟩
    go_simp
    with_reducible rfl
  rotate_left
  · simp only [Act.put, List.setIfInBounds_toArray, List.set_cons_zero, List.set_cons_succ, i64_w, i32_w]
    rfl
  refine pure_ (i := 4) (N := some 49) (v := ?_) (a' := ?_) #[true, true, true, true, true, false, false, false] rfl rfl (by kernel_rfl) (fun _ _ _ h => h) (Or.inl ⟨by rfl, ?_⟩) ?_ ?_
  rotate_left
  · intro w'
    go_simp
    with_reducible rfl
  rotate_left
  · simp only [Act.put, List.setIfInBounds_toArray, List.set_cons_zero, List.set_cons_succ, i64_w, i32_w]
    rfl
  refine take_ (i := 5) (N := some 50) (v := ?_) (a' := ?_) #[true, true, true, true, true, true, false, false] rfl rfl (by kernel_rfl) (fun _ _ _ h => h) (Or.inl ⟨by rfl, ?_⟩) hHeld ?_ ?_
  rotate_left
  · rintro w' ⟨h0_, h1_, h2_, h3_, h4_⟩
    go_simp
    with_reducible rfl
  rotate_left
  · simp only [Act.put, List.setIfInBounds_toArray, List.set_cons_zero, List.set_cons_succ, i64_w, i32_w]
    rfl
  refine take_ (i := 6) (N := some 51) (v := ?_) (a' := ?_) #[true, true, true, true, true, true, true, false] rfl rfl (by kernel_rfl) (fun _ _ _ h => h) (Or.inl ⟨by rfl, ?_⟩) hHeld ?_ ?_
  rotate_left
  · rintro w' ⟨h0_, h1_, h2_, h3_, h4_⟩
    go_simp
    with_reducible rfl
  rotate_left
  · simp only [Act.put, List.setIfInBounds_toArray, List.set_cons_zero, List.set_cons_succ, i64_w, i32_w]
    rfl
  obtain ⟨w6, hup, hv6, hg6⟩ := (HV5.out.below HBe.out).put h0 h1 (by omega)
  have HV6 := Aside0.mk hv6
  have HG6 := Aside0.mk hg6
  unfold memV at hup
  clear hv6 hg6
  refine last_ (i := 7) (N := none) #[true, true, true, true, true, true, true, true] rfl rfl (by kernel_rfl) (by decide) (fun K hK => ?_)
  refine skip_ (w1 := w6) (by rfl) rfl ?_ ?_
  · go_simp
    try with_reducible rfl
  refine hK.out _ _ ?_
  clear hK K
  refine done_ (by kernel_rfl) ?_
  go_wp2
  refine bodyPost_ret (results_tmp2 rfl _ _ _) rfl ?_
  exact ⟨rfl, HV6.out, VF.then (below_step HB5.out HBe.out) HG6.out⟩
theorem merge_calls (w : World) (g b : Nat) (l : List Mem) (m : Mem) (h0 : 0 ≤ m.f0) (h1 : m.f0 ≤ 4294967295) (hV : Vw w g b l) (hl : l.length ≤ 100000) :
    Calls Try.prog 21 #[.pointer (some ⟨g, 0, none⟩), memV m] w fun e w' => e = .returned (.tuple #[.bool (mergeM l m).1, .int .i64 (mergeM l m).2.1]) ∧ Vw w' g b (mergeM l m).2.2 ∧ VF w w' b := by
  cases hm : mayM m with
  | false =>
    have e : mergeM l m = (false, 170, l) := by unfold mergeM; rw [if_pos hm]
    rw [e]
    exact merge_bad w g b l m h0 h1 hV hl hm
  | true =>
    cases hgl : getL l m.f0 with
    | some y =>
      by_cases hc : cmpM m y ≤ 0
      · have e : mergeM l m = (false, 0, l) := by unfold mergeM; rw [if_neg (by simp [hm]), hgl]; simp only; rw [if_pos hc]
        rw [e]
        exact merge_weak w g b l m h0 h1 hV hl hm y hgl hc
      · have e : mergeM l m = (true, 0, putL m l) := by unfold mergeM; rw [if_neg (by simp [hm]), hgl]; simp only; rw [if_neg hc]
        rw [e]
        exact merge_strong w g b l m h0 h1 hV hl hm y hgl hc
    | none =>
      by_cases hc : 32 ≤ l.length
      · have e : mergeM l m = (false, 3, l) := by unfold mergeM; rw [if_neg (by simp [hm]), hgl]; simp only; rw [if_pos hc]
        rw [e]
        exact merge_full w g b l m h0 h1 hV hl hm hgl hc
      · have e : mergeM l m = (true, 0, putL m l) := by unfold mergeM; rw [if_neg (by simp [hm]), hgl]; simp only; rw [if_neg hc]
        rw [e]
        exact merge_new w g b l m h0 h1 hV hl hm hgl hc
theorem merge_length (l : List Mem) (m : Mem) (h : Rises l) (hl : l.length ≤ 32) : (mergeM l m).2.2.length ≤ 32 := by
  unfold mergeM
  split
  · exact hl
  · split
    · rename_i y hy
      split
      · exact hl
      · show (putL m l).length ≤ 32
        rw [length_putL h, hy]
        simpa using hl
    · rename_i hn
      split
      · exact hl
      · show (putL m l).length ≤ 32
        rw [length_putL h, hn]
        simp
        omega
end Go.Proofs.Ytihmblbnnhcdnaa.Print
end
section
/- maps.Values over a map of members, walked as an iterator: each comes once, in some order. -/
namespace Go.Proofs.Ytihmblbnnhcdnaa.Print
open Go.RowKit Go.Shelf Go.Maps Go.ChangeMaps Go.Proofs.YtihmblbnnhcdnaaW.PrintWords Go.Proofs.YtihmblbnnhcdnaaW.PrintLast Go.Proofs.YtihmblbnnhcdnaaW.PrintMore
attribute [local go_sem] Oper.semAt_some
set_option linter.unusedVariables false
set_option linter.unusedSimpArgs false
/-- the members that have come so far -/
def Coll (l : List Mem) (left : Lit → Bool) (ss : List Mem) : Prop := ss.Pairwise (fun x y => x.f0 ≠ y.f0) ∧ ∀ x, x ∈ ss ↔ (x ∈ l ∧ left (kL x.f0) = false)
theorem coll_start {l : List Mem} (h : Rises l) : Coll l (has (ent l)) [] := ⟨List.Pairwise.nil, fun x => ⟨fun h => (by cases h), fun ⟨h1, h2⟩ => by rw [has_ent, get_of h h1] at h2; cases h2⟩⟩
theorem at_get {l : List Mem} {a : Int} {c : Mem} (h : ∀ zd, (ent l).atKey (kL a) zd = .held c) : getL l a = some c := by
  have h1 := h .nil
  rw [at_ent] at h1
  cases hg : getL l a with
  | none => rw [hg] at h1; simp at h1
  | some y => rw [hg] at h1; simp at h1; rw [h1]
theorem coll_step {l : List Mem} (h : Rises l) {left : Lit → Bool} {ss : List Mem} (hC : Coll l left ss) {a : Int} {c : Mem} (hl : left (kL a) = true) (hg : getL l a = some c) : Coll l (fun z => left z && !z.sameKey (kL a)) (ss ++ [c]) := by
  obtain ⟨h1, h2⟩ := hC
  obtain ⟨hm, ha⟩ := get_mem hg
  refine ⟨List.pairwise_append.2 ⟨h1, List.pairwise_singleton _ _, fun x hx y hy => ?_⟩, fun x => ?_⟩
  · rw [List.mem_singleton.1 hy, ha]
    intro e
    have := ((h2 x).1 hx).2
    rw [e, hl] at this
    cases this
  · rw [List.mem_append, List.mem_singleton, h2 x]
    simp only [same_kL]
    constructor
    · rintro (⟨h3, h4⟩ | rfl)
      · exact ⟨h3, by simp [h4]⟩
      · exact ⟨hm, by simp [ha]⟩
    · rintro ⟨h3, h4⟩
      by_cases he : x.f0 = a
      · right
        have := get_of h h3
        rw [he, hg] at this
        exact (Option.some.inj this).symm
      · left
        refine ⟨h3, ?_⟩
        have hb : (x.f0 == a) = false := beq_eq_false_iff_ne.2 he
        rw [hb] at h4
        simpa using h4
theorem coll_end {l : List Mem} (h : Rises l) {left : Lit → Bool} {ss : List Mem} (hC : Coll l left ss) (hl : ∀ z, left z = false) : ss.Perm l := by
  refine (List.perm_ext_iff_of_nodup ?_ ?_).2 (fun x => by rw [hC.2 x, hl]; simp)
  · exact hC.1.imp (fun h e => h (by rw [e]))
  · exact h.imp (fun h e => by rw [e] at h; omega)
set_option maxHeartbeats 4000000 in
set_option maxRecDepth 100000 in
theorem values1_stops (n : Nat) (hn : 1 ≤ n) (Bm b : Nat) (l : List Mem) (w0 : World) (hm : w0.cell? ⟨Bm, 0, none⟩ = some (.map (some b))) (hown : w0.ownsMap Try.prog 31 memR b l.length (ent l)) (hR : Rises l) :
    SeqStopsK Fence.wide n Try.prog 43 #[.pointer (some ⟨Bm, 0, none⟩)] (fun x : Mem => #[memV x]) KeepsWalks (fun xs => xs.Perm l) (fun _ => True) l.length w0 := by
  intro lp J Jx W hW hJ hJx hY h0
  have hmW := pw_cell_below hW hm
  have hoW : W.ownsMap Try.prog 31 memR b l.length (ent l) := hown.kept (row := none) ⟨hW.os, hW.tape, hW.output, hW.size, fun i hi _ => hW.block i hi⟩ (by simp)
  clear hown hm
  refine callsIn_of_wp Try.func43 rfl trivial ?_ rfl
  simp only [Try.ntmps43, List.size_toArray, List.length_cons, List.length_nil, Nat.reduceAdd, Nat.reduceSub, Array.replicate_succ, Array.replicate_zero, List.push_toArray, List.append_toArray, List.nil_append, List.cons_append]
  gi_wp2_with (first
    | (gi_at_range; refine wpListIn_range_own _ rfl _ 75 rfl 31 33 keyed Try.underlying75 _ b l.length _ rfl hoW ?_; intro w0 hrg0 hg0 hs0)
    | gi_in)
  try go_frame
  gi_loopw [4] (fun _ wr => ∃ (left : Lit → Bool) (cnt : Nat) (ss : List Mem), wr.ranges Try.prog 31 memR b W.heap.size l.length (ent l) left cnt ∧ ss.length + cnt ≤ l.length ∧ Coll l left ss ∧ J ss wr)
    (fun _ wr => wr.rangeLeft b W.heap.size)
  case atStart =>
    exact ⟨_, _, [], hrg0, by rw [size_ent]; simp, coll_start hR, hJ [] W w0 none h0 hg0 (fun r e => by cases e)⟩
  case round =>
    obtain ⟨left, cnt, ss, hrg, hcs, hC, hJs⟩ := hrel
    gi_wp2_with (first
      | (gi_at_next; refine wpListIn_next_ranges _ rfl _ rfl 31 keyed memR (Value.int .u32) memV (fun key kl hk => by obtain ⟨x, hx, _⟩ := Maps.keyOf_int_inv Try.underlying31 hk; exact ⟨x, hx⟩) (fun v y hv => by obtain ⟨c, rfl, _⟩ := memR_inv hv; exact ⟨c, rfl⟩) b W.heap.size l.length _ _ _ rfl hrg ?_ ?_)
      | gi_in)
    · intro hc0 hl0
      gi_wp2
      go_end0
      exact ⟨⟨_, rfl⟩, .inl ⟨ss, coll_end hR hC hl0, hJs⟩⟩
    · intro x c kl yd yp w2 cnt2 hkey hlk hv hat hrg2 hlt hg2 hs2 hen
      obtain ⟨x', ex, rfl, _⟩ := Maps.keyOf_int_inv Try.underlying31 hkey
      obtain rfl : x = x' := by simpa using ex
      obtain ⟨rfl, rfl⟩ := Prod.mk.inj (Option.some.inj ((memR_mk c).symm.trans hv))
      have hgc := at_get (a := x) hat
      have hC2 := coll_step hR hC hlk hgc
      have hJ2 : J ss w2 := hJ _ wr w2 (some W.heap.size) hJs hg2 (fun r e => by cases e; exact ⟨Nat.le_refl _, hrg.iter_walk⟩)
      have hJ3 : J ss (w2.alloc (.cells #[.int .u32 c.f0, .int .u32 c.f1, .int .u8 c.f2, .string c.f3] 33)) := hJ _ _ _ none hJ2 (World.grownBy_alloc w2 _ none) (by simp)
      have hrg3 := hrg2.alloc (.cells #[.int .u32 c.f0, .int .u32 c.f1, .int .u8 c.f2, .string c.f3] 33)
      obtain ⟨fn, tmps, assign, body, hy, hR'⟩ := hY ss c _ hJ3 (by omega)
      have HC2 := Aside0.mk hC2
      have HRG3 := Aside0.mk hrg3
      have HRG := Aside0.mk hrg
      unfold memV at hy hen
      clear hs2 hv hat hkey hC hC2 hJ2 hJ3 hrg2 hrg3 hrg hJs hgc hlk
      gi_wp2
      refine hR'.mono ?_
      rintro e W3 (⟨rfl, hJ4, hk4⟩ | ⟨rfl, hJx4⟩)
      · have HRG4 := Aside0.mk (HRG3.out.of_walks hk4)
        have HJ4 := Aside0.mk hJ4
        clear hJ4 hk4
        gi_wp2
        go_roundw
        case rel => exact ⟨_, cnt2, ss ++ [c], HRG4.out, by simp; omega, HC2.out, HJ4.out⟩
        case measure => rw [HRG4.out.left_eq, HRG.out.left_eq]; exact hlt
      · gi_wp2
        refine bodyPost_ret (results_none rfl _ _ _) rfl ?_
        exact ⟨⟨_, rfl⟩, .inr ⟨_, trivial, hJx4⟩⟩
end Go.Proofs.Ytihmblbnnhcdnaa.Print
end
section
/- slices.Collect over maps.Values of a map of members, walked: all members, in some order, in a row of its own. -/
namespace Go.Proofs.Ytihmblbnnhcdnaa.Print
open Go.RowKit Go.Shelf Go.Maps Go.ChangeMaps Go.Proofs.YtihmblbnnhcdnaaW.PrintWords Go.Proofs.YtihmblbnnhcdnaaW.PrintLast Go.Proofs.YtihmblbnnhcdnaaW.PrintMore
attribute [local go_sem] Oper.semAt_some
set_option linter.unusedVariables false
set_option linter.unusedSimpArgs false
def memC (x : Mem) : List Value := [.int .u32 x.f0, .int .u32 x.f1, .int .u8 x.f2, .string x.f3]
def flatM (l : List Mem) : List Value := l.flatMap memC
theorem flatM_snoc (l : List Mem) (x : Mem) : flatM (l ++ [x]) = flatM l ++ memC x := by unfold flatM; simp
/-- a block that holds just these cells -/
def Bx (W : World) (B : Nat) (cs : Array Value) (t : TypeId) : Prop := W.heap[B]? = some (.cells cs t (0, 0))
theorem Bx.lt {W : World} {B : Nat} {cs : Array Value} {t : TypeId} (h : Bx W B cs t) : B < W.heap.size := (Array.getElem?_eq_some_iff.1 h).1
theorem Bx.kept {W W' : World} {row : Option Nat} {B : Nat} {cs : Array Value} {t : TypeId} (h : Bx W B cs t) (hg : W.grownBy W' row) (hne : some B ≠ row) : Bx W' B cs t := (hg.block B h.lt hne).trans h
theorem Bx.new (W : World) (cs : Array Value) (t : TypeId) : Bx (W.alloc (.cells cs t)) W.heap.size cs t := World.alloc_heap_new W _
theorem Bx.cell {W : World} {B : Nat} {cs : Array Value} {t : TypeId} (h : Bx W B cs t) (j : Nat) (v : Value) (hv : cs[j]? = some v) : W.cell? ⟨B, j, none⟩ = some v := by simp [World.cell?, show W.heap[B]? = _ from h, hv]
theorem Bx.own {β : Type} (B : Nat) (t : TypeId) (f : β → Array Value) : Own (fun s W => Bx W B (f s) t) := fun s X Y row hs hg hrow =>
  hs.kept hg (fun e' => by obtain ⟨o, ho, hc⟩ := hrow B e'.symm; rw [show X.heap[B]? = _ from hs] at ho; cases ho; cases hc)
theorem new_cells (W : World) (x : Mem) : ∀ j u, (memC x)[j]? = some u → (W.alloc (.cells #[.int .u32 x.f0, .int .u32 x.f1, .int .u8 x.f2, .string x.f3] 33)).cell? ((⟨W.heap.size, 0, none⟩ : Addr).add j) = some u := by
  intro j u hu
  have e : (⟨W.heap.size, 0, none⟩ : Addr).add j = ⟨W.heap.size, j, none⟩ := by rw [add_at, Nat.zero_add]
  rw [e]
  exact Bx.cell (Bx.new W #[.int .u32 x.f0, .int .u32 x.f1, .int .u8 x.f2, .string x.f3] 33) j u (by simpa [memC] using hu)
theorem memC_one (x : Mem) : ∀ u ∈ memC x, u.oneCell' = true := by
  intro u hu
  simp only [memC, List.mem_cons, List.not_mem_nil, or_false] at hu
  rcases hu with rfl | rfl | rfl | rfl <;> rfl
theorem infoM : (Try.prog.info? 33).map (fun i => (i.zero, i.size, i.bytes)) = some (some (.agg #[.int .u32 0, .int .u32 0, .int .u8 0, .string ⟨#[]⟩]), 4, 32) := by kernel_rfl
set_option maxRecDepth 100000 in
theorem values_calls (b : Nat) (w : World) : Calls Try.prog 33 #[.map (some b)] w fun e w' =>
    e = .returned (.func (.func 43) #[] #[.pointer (some ⟨w.heap.size, 0, none⟩)]) ∧ w' = w.alloc (.cells #[.map (some b)] 75) := by
  go_enter Try.func33, Try.ntmps33
  go_wp2
  go_ret
  exact ⟨rfl, rfl⟩
set_option maxHeartbeats 4000000 in
set_option maxRecDepth 100000 in
theorem appendSeq_calls (Bm b : Nat) (l : List Mem) (w : World) (hm : w.cell? ⟨Bm, 0, none⟩ = some (.map (some b))) (hown : w.ownsMap Try.prog 31 memR b l.length (ent l)) (hR : Rises l) (hll : l.length ≤ 100000) :
    Calls Try.prog 48 #[.slice none 0 0, .func (.func 43) #[] #[.pointer (some ⟨Bm, 0, none⟩)]] w
      fun e w' => ∃ v ss, e = .returned v ∧ ss.Perm l ∧ w'.ownsRow w.heap.size 33 4 v ss.length (flatM ss) ∧ Below w.heap.size w w' := by
  obtain ⟨i0, hi, hz0, hz1, hz2⟩ := info_parts infoM
  have hm3 := pw_cell_below (below_alloc (Below.refl w.heap.size w) (.cells #[.slice none 0 0] 39)) hm
  have hown3 := hown.alloc (.cells #[.slice none 0 0] 39)
  have hbx := Boxed.new w 39 (.slice none 0 0)
  have hB3 := below_alloc (Below.refl w.heap.size w) (.cells #[.slice none 0 0] 39)
  clear hm hown
  refine (callsIn_wide (n := 3)).1 ?_
  refine callsIn_of_wp_marks Try.func48 rfl trivial ?_ rfl
  simp only [Try.ntmps48, List.size_toArray, List.length_cons, List.length_nil, Nat.reduceAdd, Nat.reduceSub, Array.replicate_succ, Array.replicate_zero, List.push_toArray, List.append_toArray, List.nil_append, List.cons_append]
  gi_wp2
  obtain ⟨W3, hW3⟩ : ∃ W3, w.alloc (.cells #[.slice none 0 0] 39) = W3 := ⟨_, rfl⟩
  rw [hW3] at hm3 hown3 hbx hB3 ⊢
  have hsz3 : W3.heap.size = w.heap.size + 1 := by rw [← hW3]; simp
  clear hW3
  refine wpIn_rangeFunc_ownH (n := 3) rfl (by omega) (gf := 43) (lb := #[.pointer (some ⟨Bm, 0, none⟩)]) rfl trivial (enters_of Try.func43 (by kernel_rfl) rfl)
    (values1_stops (3 - 1) (by omega) Bm b l W3 hm3 hown3 hR) walksK_t walksK_b (Below.refl _ _) (fun _ => rfl)
    (fun pre W => (∃ v, Boxed W w.heap.size 39 v ∧ W.ownsRow w.heap.size 33 4 v pre.length (flatM pre) ∧ True) ∧ Below w.heap.size w W)
    (fun _ _ _ => False)
    (OwnFrom.and (Own.from (holdsRow_own w.heap.size w.heap.size 39 33 4 (fun pre : List Mem => pre.length) flatM (fun _ _ => True)) _) (ownFrom_below (Nat.le_refl _) (by omega)))
    (fun c s A B row hs hg hr => hs)
    ⟨⟨.slice none 0 0, hbx, World.ownsRow_nil _ _ _ _, trivial⟩, hB3⟩
    (fun x a' W => ∃ Bn, Bx W Bn (memC x).toArray 33 ∧ w.heap.size < Bn ∧ a' = { tmps := #[.slice none 0 0, .func (.func 43) #[] #[.pointer (some ⟨Bm, 0, none⟩)], .pointer (some ⟨w.heap.size, 0, none⟩), undef, .slice none 0 0, .pointer (some ⟨Bn, 0, none⟩), .func (.func 43) #[] #[.pointer (some ⟨Bm, 0, none⟩)], memV x, undef, undef, undef, undef, undef], defers := [] })
    (fun x a' _ X Y row hs hg hr => by obtain ⟨Bn, h1, h2, h3⟩ := hs; exact ⟨Bn, Bx.own Bn 33 (fun _ : Unit => (memC x).toArray) () X Y row h1 hg (fun r e => (hr r e).2), h2, h3⟩)
    ?assign ?body ?done ?stop
  case assign =>
    rintro lp pre x W K ⟨⟨v, b1, b2, _⟩, hB4⟩ hK
    unfold memV at hK ⊢
    gi_wp2
    have hb5 : Below w.heap.size w (W.alloc (.cells #[.int .u32 x.f0, .int .u32 x.f1, .int .u8 x.f2, .string x.f3] 33)) := hB4.alloc hB4.size _
    exact hK _ _ ((KeepsOthers.alloc _ _).from _) (KeepsOthers.alloc _ _).walks ⟨⟨v, b1.alloc _, b2.alloc _, trivial⟩, hb5⟩ ⟨W.heap.size, Bx.new W _ 33, b1.lt, rfl⟩
  case body =>
    rintro lp pre x a' W hl ⟨r, hr⟩ ⟨⟨v, b1, b2, _⟩, hB4⟩ ⟨Bn, bn, hBn, rfl⟩ hlt
    have n0 : W.cell? ⟨Bn, 0, none⟩ = some (.int .u32 x.f0) := bn.cell 0 _ rfl
    have n1 : W.cell? ⟨Bn, 1, none⟩ = some (.int .u32 x.f1) := bn.cell 1 _ rfl
    have n2 : W.cell? ⟨Bn, 2, none⟩ = some (.int .u8 x.f2) := bn.cell 2 _ rfl
    have n3 : W.cell? ⟨Bn, 3, none⟩ = some (.string x.f3) := bn.cell 3 _ rfl
    have hv1 := b1.cell
    have HB := Aside0.mk b1
    have HO := Aside0.mk b2
    have hsz := hB4.size
    unfold memV
    clear bn hr
    gi_wp2_with (first | (gi_at_builtin; refine wpListIn_append_own _ rfl (.tmp 8) (.tmp 10) 39 rfl w.heap.size 33 i0 (.agg #[.int .u32 0, .int .u32 0, .int .u8 0, .string ⟨#[]⟩]) 4 32 Try.underlying39 hi hz0 hz1 hz2 rfl (by decide) _ _ _ rfl (HO.out.alloc _) ⟨W.heap.size, 0, none⟩ 1 1 (memC x) rfl rfl (new_cells W x) (memC_one x) (by unfold maxLen; omega) (by omega) (by simp; omega) ?_; intro v' w1 hown' hgrow _; obtain ⟨g', cap', rfl⟩ := ownsRow_succ hown'; obtain ⟨hv1', hv2, hr2, hk2, hb2⟩ := HB.out.appended (by decide) HO.out hsz (Nat.le_refl _) hown' hgrow; have hc1 := hv1'.cell; have hf1 := hv1'.frozen; clear hv1))
    refine ⟨hk2.from _, hk2.walks, ⟨_, hv2, by rw [List.length_append, flatM_snoc]; exact hr2, trivial⟩, hB4.trans hb2⟩
  case done =>
    rintro D xs W hD hS ⟨⟨v, b1, b2, _⟩, hB4⟩ hK
    have hv1 := b1.cell
    gi_wp2
    refine ⟨by simp, .inl ⟨_, _, rfl, run_takeDeferred hK, ?_⟩⟩
    refine ⟨v, by simp [results, Try.f48, go_sem], v, xs, rfl, hS, ownsRow_putObj b2 _ hK rfl, hB4.trans (belowK_b (w := w) (Nat.le_refl _) _ D _ _ (by omega) hK rfl rfl)⟩
  case stop =>
    rintro D c pre W _ _ h
    exact h.elim
end Go.Proofs.Ytihmblbnnhcdnaa.Print
end
section
/- A row of members of a call's own, sorted by the library: what it holds then. -/
namespace Go.Proofs.Ytihmblbnnhcdnaa.Print
open Go.RowKit Go.Shelf Go.Sort Go.Maps Go.ChangeMaps Go.Proofs.YtihmblbnnhcdnaaW.PrintWords Go.Proofs.YtihmblbnnhcdnaaW.PrintLast Go.Proofs.YtihmblbnnhcdnaaW.PrintMore
set_option linter.unusedVariables false
set_option linter.unusedSimpArgs false
instance : Inhabited Mem := ⟨z33⟩
theorem flatM_length : ∀ l : List Mem, (flatM l).length = l.length * 4
  | [] => rfl
  | x :: l => by
    show (memC x ++ flatM l).length = _
    rw [List.length_append, flatM_length l, List.length_cons]
    show 4 + _ = _
    omega
theorem flatM_get : ∀ (l : List Mem) (t : Nat), t < l.length * 4 → (flatM l)[t]? = some ((memC (l[t / 4]!))[t % 4]!)
  | [], t, h => by simp at h
  | x :: l, t, h => by
    show (memC x ++ flatM l)[t]? = _
    rw [List.length_cons] at h
    have hl : (memC x).length = 4 := rfl
    rcases Nat.lt_or_ge t 4 with h4 | h4
    · rw [List.getElem?_append_left (by omega), Nat.div_eq_of_lt h4, Nat.mod_eq_of_lt h4]
      have e0 : (x :: l)[0]! = x := rfl
      rw [List.getElem?_eq_getElem (by omega), e0, getElem!_pos (memC x) t (by omega)]
    · obtain ⟨s, rfl⟩ : ∃ s, t = s + 4 := ⟨t - 4, by omega⟩
      rw [List.getElem?_append_right (by omega), hl, Nat.add_sub_cancel, flatM_get l s (by omega), Nat.add_mod_right, show (s + 4) / 4 = s / 4 + 1 by omega]
      rfl
theorem flatK_list (l : List Mem) : (flatK memC 4 l.toArray).toList = flatM l := by
  apply List.ext_getElem?
  intro t
  rcases Nat.lt_or_ge t (l.length * 4) with h | h
  · rw [flatM_get l t h, Array.getElem?_toList]
    have hs : t < (flatK memC 4 l.toArray).size := by rw [size_flatK]; simpa using h
    rw [Array.getElem?_eq_getElem hs, ← getElem!_pos (flatK memC 4 l.toArray) t hs, get_flatK _ _ _ _ (by simpa using h)]
    congr 3
    simp
  · rw [List.getElem?_eq_none (by rw [Array.length_toList, size_flatK]; simpa using h), List.getElem?_eq_none (by rw [flatM_length]; exact h)]
theorem holds_of_row {w : World} {g n : Nat} {cur : Array Value} {e : TypeId} {l : List Mem} (hb : w.heap[g]? = some (.cells cur e (0, 0))) (hn : l.length = n) (ht : cur.toList.take (n * 4) = flatM l) : HoldsK memC 4 w g 0 l.toArray := by
  intro j hj
  rw [size_flatK] at hj
  have hj' : j < n * 4 := by rw [← hn]; simpa using hj
  have h1 : (cur.toList.take (n * 4))[j]? = (flatK memC 4 l.toArray).toList[j]? := by rw [ht, flatK_list]
  rw [List.getElem?_take_of_lt hj'] at h1
  have hs : j < (flatK memC 4 l.toArray).size := by rw [size_flatK]; exact hj
  refine ⟨?_, by simp [World.frozen?, hb]⟩
  simp only [World.cell?, hb, Nat.zero_add]
  simp only [Option.isSome_none, Bool.false_eq_true, if_false]
  rw [← Array.getElem?_toList, h1, Array.getElem?_toList, Array.getElem?_eq_getElem hs, getElem!_pos (flatK memC 4 l.toArray) j hs]
  rfl
theorem heap_sortedK {w : World} {g n : Nat} {os : Array Obj} {cur : Array Value} {e : TypeId} {fr : Nat × Nat} (d : Array Mem) (hb : w.heap[g]? = some (.cells cur e fr)) :
    (sortWorldK memC 4 w g 0 n d os).heap[g]? = some (.cells (putCells id 0 (flatK memC 4 d) cur) e fr) := by
  have hg : g < w.heap.size := (Array.getElem?_eq_some_iff.1 hb).1
  unfold sortWorldK putRowK
  rw [heap_grow_old _ _ (by simpa using hg)]
  simp [putRow, mapBlock, Sort.ahead, Array.getElem?_modify, hb, onCells]
theorem grown_sortedK {w : World} {g n : Nat} {os : Array Obj} (d : Array Mem) : w.grownBy (sortWorldK memC 4 w g 0 n d os) (some g) := by
  unfold sortWorldK putRowK
  refine ⟨rfl, rfl, rfl, by simp, fun k hk hne => ?_⟩
  rw [heap_grow_old _ _ (by simpa using hk)]
  have : g ≠ k := fun e => hne (by rw [e])
  simp [putRow, mapBlock, Sort.ahead, Array.getElem?_modify, this]
theorem take_putK (cur : Array Value) (F : Array Value) (h : F.size ≤ cur.size) : (putCells id 0 F cur).toList.take F.size = F.toList := by
  apply List.ext_getElem?
  intro j
  by_cases hj : j < F.size
  · rw [List.getElem?_take_of_lt hj, Array.getElem?_toList, Array.getElem?_toList, Array.getElem?_eq_getElem hj]
    simp [putCells, hj, show j < cur.size by omega]
  · rw [List.getElem?_take_eq_none (by omega), List.getElem?_eq_none (by simp; omega)]
/-- Behind the sort the same slice owns the sorted list. -/
theorem ownsRow_sortedK {w : World} {base g cap n : Nat} {os : Array Obj} {ss ts : List Mem} (hl : ts.length = ss.length) (h : w.ownsRow base 33 4 (.slice (some ⟨g, 0, none⟩) ss.length cap) ss.length (flatM ss)) :
    (sortWorldK memC 4 w g 0 n ts.toArray os).ownsRow base 33 4 (.slice (some ⟨g, 0, none⟩) ss.length cap) ss.length (flatM ts) := by
  obtain ⟨h1, h2⟩ := h
  rcases h2 with ⟨h3, _⟩ | ⟨g', cp, cur, he, hb, hh, hn, hc, hs, ht⟩
  · cases h3
  · injection he with he1 he2 he3
    injection he1 with he1
    injection he1 with he1
    subst he1
    subst he3
    refine ⟨by rw [flatM_length, hl], .inr ⟨g, cap, _, rfl, hb, heap_sortedK ts.toArray hh, hn, hc, by simp [putCells, hs], ?_⟩⟩
    have hF : (flatK memC 4 ts.toArray).size = ss.length * 4 := by rw [size_flatK, ← hl]; simp
    rw [← hF, take_putK _ _ (by rw [hF, hs]; exact Nat.mul_le_mul_right 4 hn), flatK_list]
/-! the order by addresses -/
def cfM (x y : Mem) : Int := if x.f0 < y.f0 then -1 else if y.f0 < x.f0 then 1 else 0
theorem ltM (x y : Mem) : ltOf cfM x y = decide (x.f0 < y.f0) := by
  unfold ltOf cfM
  by_cases h1 : x.f0 < y.f0
  · simp [h1]
  · by_cases h2 : y.f0 < x.f0 <;> simp [h1, h2]
theorem swoM : SWO (ltOf cfM) where
  irrefl x := by rw [ltM]; simp
  trans x y z h1 h2 := by rw [ltM] at *; simp at *; omega
  ntrans x y z h1 h2 := by rw [ltM] at *; simp at *; omega
theorem rising_unique : ∀ {a b : List Mem}, Rises a → Rises b → a.Perm b → a = b
  | [], b, _, _, hp => (List.nil_perm.1 hp).symm
  | x :: a, [], _, _, hp => by simp at hp
  | x :: a, y :: b, ha, hb, hp => by
    obtain ⟨h1, h2⟩ := List.pairwise_cons.1 ha
    obtain ⟨h3, h4⟩ := List.pairwise_cons.1 hb
    have hxy : x = y := by
      have hx : x ∈ y :: b := hp.mem_iff.1 (by simp)
      have hy : y ∈ x :: a := hp.mem_iff.2 (by simp)
      rcases List.mem_cons.1 hx with h | h
      · exact h
      · rcases List.mem_cons.1 hy with h' | h'
        · exact h'.symm
        · have := h1 y h'
          have := h3 x h
          omega
    subst hxy
    rw [rising_unique h2 h4 (List.perm_cons x |>.1 hp)]
theorem sorted_rises {l : List Mem} {d d' : Array Mem} (hl : Rises l) (hd : d.toList.Perm l) (hp : PermIn 0 d.size d d') (hs : SortedIn (ltOf cfM) 0 d.size d') : d'.toList = l := by
  obtain ⟨h1, _, h3⟩ := hp
  have e1 : (d'.extract 0 d.size).toList = d'.toList := by rw [← h1]; simp
  have e2 : (d.extract 0 d.size).toList = d.toList := by simp
  rw [e1, e2] at h3
  have hpl := h3.trans hd
  refine rising_unique ?_ hl hpl
  have hnd : d'.toList.Pairwise (fun x y => x.f0 ≠ y.f0) := (hpl.pairwise_iff (fun h => Ne.symm h)).2 (hl.imp (fun h => by omega))
  unfold Rises
  rw [List.pairwise_iff_getElem] at hnd ⊢
  intro i j hi hj hij
  have h5 := hs i j (Nat.zero_le _) hij (by rw [← h1]; simpa using hj)
  have h6 := hnd i j hi hj hij
  rw [ltM] at h5
  have hi' : i < d'.size := by simpa using hi
  have hj' : j < d'.size := by simpa using hj
  rw [getElem!_pos d' i hi', getElem!_pos d' j hj'] at h5
  simp at h5 h6 ⊢
  omega
end Go.Proofs.Ytihmblbnnhcdnaa.Print
end
section
/- The order of members by their addresses, as List sorts them, walked. -/
namespace Go.Proofs.Ytihmblbnnhcdnaa.Print
open Go.RowKit Go.Shelf Go.Sort Go.Maps Go.ChangeMaps Go.Proofs.YtihmblbnnhcdnaaW.PrintWords Go.Proofs.YtihmblbnnhcdnaaW.PrintLast Go.Proofs.YtihmblbnnhcdnaaW.PrintMore
set_option linter.unusedVariables false
set_option linter.unusedSimpArgs false
set_option maxHeartbeats 4000000 in
set_option maxRecDepth 100000 in
theorem cmpAddr_calls (a b : Int) (w : World) : Calls Try.prog 35 #[.int .u32 a, .int .u32 b] w fun e w' => e = .returned (.int .i64 (if a < b then -1 else if b < a then 1 else 0)) ∧ w' = w := by
  by_cases h1 : a < b
  · have e : (if a < b then (-1 : Int) else if b < a then 1 else 0) = -1 := if_pos h1
    have h1' : decide (a < b) = true := decide_eq_true h1
    rw [e]
    clear e
    go_enter Try.func35, Try.ntmps35
    go_wp2
    go_ret
    exact ⟨rfl, rfl⟩
  · have h1' : decide (a < b) = false := decide_eq_false h1
    by_cases h2 : b < a
    · have e : (if a < b then (-1 : Int) else if b < a then 1 else 0) = 1 := by rw [if_neg h1, if_pos h2]
      have h2' : decide (b < a) = true := decide_eq_true h2
      rw [e]
      clear e
      go_enter Try.func35, Try.ntmps35
      go_wp2
      go_ret
      exact ⟨rfl, rfl⟩
    · have e : (if a < b then (-1 : Int) else if b < a then 1 else 0) = 0 := by rw [if_neg h1, if_neg h2]
      have h2' : decide (b < a) = false := decide_eq_false h2
      rw [e]
      clear e
      go_enter Try.func35, Try.ntmps35
      go_wp2
      go_ret
      exact ⟨rfl, rfl⟩
set_option maxHeartbeats 4000000 in
set_option maxRecDepth 100000 in
theorem lessM_calls (x y : Mem) (W : World) : Calls Try.prog 34 #[.agg #[.int .u32 x.f0, .int .u32 x.f1, .int .u8 x.f2, .string x.f3], .agg #[.int .u32 y.f0, .int .u32 y.f1, .int .u8 y.f2, .string y.f3]] W fun e w' => e = .returned (.int .i64 (cfM x y)) ∧ ∃ q os', w' = grow (W.drewN q) os' := by
  have hu := Try.underlying33
  have hc := fun w => cmpAddr_calls x.f0 y.f0 w
  have hcf : cfM x y = if x.f0 < y.f0 then -1 else if y.f0 < x.f0 then 1 else 0 := rfl
  rw [hcf]
  generalize (if x.f0 < y.f0 then (-1 : Int) else if y.f0 < x.f0 then 1 else 0) = r at hc ⊢
  have HC := Aside0.mk hc
  clear hc hcf
  go_enter Try.func34, Try.ntmps34
  go_wp2_with (first | (go_at_call 35; (with_reducible refine (HC.out _).mono ?_); rintro e w' ⟨rfl, rfl⟩))
  go_ret
  exact ⟨rfl, 0, _, by rw [alloc_eq_grow, alloc_eq_grow, grow_grow]; rfl⟩
theorem less_lays (blk off size : Nat) (w : World) : CmpLays Try.prog 34 #[] memC 4 cfM blk off size w := fun _ _ _ _ x y => lessM_calls x y _
end Go.Proofs.Ytihmblbnnhcdnaa.Print
end
section
/-
  DERIVED: THE SHELF's CONTRACTS AT THIS DUMP, IN PLAIN WORDS (tools/lay-plain.mjs out of 'YtihmblbnnhcdnaaXLays0.lean', which tools/lay-shelf.mjs wrote): THE SAME DECLARATIONS UNDER THE SAME NAMES: 'import', 'namespace', 'open', 'def', 'theorem' AND NOTHING ELSE: no command of the shelf's: FOR A HAND-IN. Each laying: the table of numbers ('.._ren') and one theorem, a field a fact of the dump's own or the kernel's comparison; each contract: ONE APPLICATION.
-/
namespace Go.Proofs
open Go.Shelf
def Try.sortM_ren : Go.Shelf.Ren := ⟨fun | 6 => 42 | 15 => 50 | 14 => 49 | 28 => 59 | 29 => 60 | 20 => 51 | 21 => 52 | 22 => 53 | 23 => 54 | 24 => 55 | 25 => 56 | 26 => 57 | 27 => 58 | 46 => 61 | 47 => 62 | 48 => 63 | 49 => 64 | 50 => 65 | 57 => 66 | n => n, fun | 22 => 39 | 24 => 33 | 25 => 64 | 3 => 3 | 39 => 104 | 0 => 0 | 53 => 30 | 55 => 115 | 4 => 4 | 46 => 107 | 45 => 106 | 50 => 111 | 5 => 5 | 9 => 9 | 66 => 116 | 70 => 120 | 76 => 122 | 77 => 123 | n => n, fun | n => n⟩
theorem Try.sortM : Go.Proofs.SlLaysF0.n6 Try.prog Try.sortM_ren := {
  mixed := by kernel_rfl
  f6 := ⟨Try.f42.name, by decide, Try.func42.trans (congrArg some (by kernel_rfl))⟩
  f14 := ⟨Try.f49.name, by decide, Try.func49.trans (congrArg some (by kernel_rfl))⟩
  f15 := Try.func50.trans (congrArg some (by kernel_rfl))
  f20 := ⟨Try.f51.name, by decide, Try.func51.trans (congrArg some (by kernel_rfl))⟩
  f21 := ⟨Try.f52.name, by decide, Try.func52.trans (congrArg some (by kernel_rfl))⟩
  f22 := ⟨Try.f53.name, by decide, Try.func53.trans (congrArg some (by kernel_rfl))⟩
  f23 := ⟨Try.f54.name, by decide, Try.func54.trans (congrArg some (by kernel_rfl))⟩
  f24 := ⟨Try.f55.name, by decide, Try.func55.trans (congrArg some (by kernel_rfl))⟩
  f25 := ⟨Try.f56.name, by decide, Try.func56.trans (congrArg some (by kernel_rfl))⟩
  f26 := ⟨Try.f57.name, by decide, Try.func57.trans (congrArg some (by kernel_rfl))⟩
  f27 := ⟨Try.f58.name, by decide, Try.func58.trans (congrArg some (by kernel_rfl))⟩
  f28 := Try.func59.trans (congrArg some (by kernel_rfl))
  f29 := Try.func60.trans (congrArg some (by kernel_rfl))
  f46 := ⟨Try.f61.name, by decide, Try.func61.trans (congrArg some (by kernel_rfl))⟩
  f47 := Try.func62.trans (congrArg some (by kernel_rfl))
  f48 := Try.func63.trans (congrArg some (by kernel_rfl))
  f49 := ⟨Try.f64.name, by decide, Try.func64.trans (congrArg some (by kernel_rfl))⟩
  f50 := ⟨Try.f65.name, by decide, Try.func65.trans (congrArg some (by kernel_rfl))⟩
  f57 := ⟨Try.f66.name, by decide, Try.func66.trans (congrArg some (by kernel_rfl))⟩
  t0 := Try.underlying0
  a0 := Try.isAgg0
  z0 := Try.sizeOf0
  v0 := Try.zeroValue0
  t3 := Try.underlying3
  a3 := Try.isAgg3
  z3 := Try.sizeOf3
  v3 := Try.zeroValue3
  t4 := Try.underlying4
  a4 := Try.isAgg4
  z4 := Try.sizeOf4
  v4 := Try.zeroValue4
  t5 := Try.underlying5
  a5 := Try.isAgg5
  z5 := Try.sizeOf5
  v5 := Try.zeroValue5
  t9 := Try.underlying9
  a9 := Try.isAgg9
  z9 := Try.sizeOf9
  v9 := Try.zeroValue9
  t22 := Try.underlying39
  a22 := Try.isAgg39
  z22 := Try.sizeOf39
  v22 := Try.zeroValue39
  t25 := Try.underlying64
  a25 := Try.isAgg64
  z25 := Try.sizeOf64
  v25 := Try.zeroValue64
  t39 := Try.underlying104
  a39 := Try.isAgg104
  z39 := Try.sizeOf104
  v39 := Try.zeroValue104
  t45 := Try.underlying106
  a45 := Try.isAgg106
  z45 := Try.sizeOf106
  v45 := Try.zeroValue106
  t46 := Try.underlying107
  a46 := Try.isAgg107
  z46 := Try.sizeOf107
  v46 := Try.zeroValue107
  t50 := Try.underlying111
  a50 := Try.isAgg111
  z50 := Try.sizeOf111
  v50 := Try.zeroValue111
  t53 := Try.underlying30
  a53 := Try.isAgg30
  z53 := Try.sizeOf30
  v53 := Try.zeroValue30
  t55 := Try.underlying115
  a55 := Try.isAgg115
  z55 := Try.sizeOf115
  v55 := Try.zeroValue115
  t66 := Try.underlying116
  a66 := Try.isAgg116
  z66 := Try.sizeOf116
  v66 := Try.zeroValue116
  t70 := Try.underlying120
  a70 := Try.isAgg120
  z70 := Try.sizeOf120
  v70 := Try.zeroValue120
  t76 := Try.underlying122
  a76 := Try.isAgg122
  z76 := Try.sizeOf122
  v76 := Try.zeroValue122
  t77 := Try.underlying123
  a77 := Try.isAgg123
  z77 := Try.sizeOf123
  v77 := Try.zeroValue123 }
end Go.Proofs
end
section
/-
  DERIVED: THE SHELF's CONTRACTS AT THIS DUMP, IN PLAIN WORDS (tools/lay-plain.mjs out of 'YtihmblbnnhcdnaaXShelf0.lean', which tools/lay-shelf.mjs wrote): THE SAME DECLARATIONS UNDER THE SAME NAMES: 'import', 'namespace', 'open', 'def', 'theorem' AND NOTHING ELSE: no command of the shelf's: FOR A HAND-IN. Each laying: the table of numbers ('.._ren') and one theorem, a field a fact of the dump's own or the kernel's comparison; each contract: ONE APPLICATION.
-/
namespace Go.Proofs
open Go.Shelf
def Try.lays128_ren : Go.Shelf.Ren := ⟨fun | 128 => 59 | n => n, fun | 51 => 30 | 3 => 3 | 4 => 4 | 46 => 104 | 5 => 5 | 9 => 9 | n => n, fun | n => n⟩
theorem Try.lays128 : Go.Proofs.Lays.n128 Try.prog Try.lays128_ren := {
  mixed := by kernel_rfl
  f128 := Try.func59.trans (congrArg some (by kernel_rfl))
  t3 := Try.underlying3
  a3 := Try.isAgg3
  z3 := Try.sizeOf3
  v3 := Try.zeroValue3
  t4 := Try.underlying4
  a4 := Try.isAgg4
  z4 := Try.sizeOf4
  v4 := Try.zeroValue4
  t5 := Try.underlying5
  a5 := Try.isAgg5
  z5 := Try.sizeOf5
  v5 := Try.zeroValue5
  t9 := Try.underlying9
  a9 := Try.isAgg9
  z9 := Try.sizeOf9
  v9 := Try.zeroValue9
  t46 := Try.underlying104
  a46 := Try.isAgg104
  z46 := Try.sizeOf104
  v46 := Try.zeroValue104
  t51 := Try.underlying30
  a51 := Try.isAgg30
  z51 := Try.sizeOf30
  v51 := Try.zeroValue30 }
/-- bits.Len32: "Len32 returns the minimum number of bits required to represent x; the result is 0 for x == 0.": IT RETURNS 'Lib.bitLen x'; the world is as it was. ('h0', 'h1': x is a uint32.) (LAID: no walk: one application.) -/
theorem Try.bits_Len32 (x : Int) (w : World) (h0 : 0 ≤ x) (h1 : x ≤ 4294967295) :
    Calls Try.prog 59 #[.int .u32 x] w fun e w' => e = .returned (.int .i64 (Lib.bitLen x.toNat)) ∧ w' = w := Any.bits_Len32 Try.lays128 x w h0 h1
def Try.lays125_ren : Go.Shelf.Ren := ⟨fun | 125 => 50 | 128 => 59 | 129 => 60 | n => n, fun | 46 => 104 | 3 => 3 | 51 => 30 | 53 => 115 | 4 => 4 | 5 => 5 | 9 => 9 | n => n, fun | n => n⟩
theorem Try.lays125 : Go.Proofs.Lays.n125 Try.prog Try.lays125_ren := {
  mixed := by kernel_rfl
  f125 := Try.func50.trans (congrArg some (by kernel_rfl))
  f128 := Try.func59.trans (congrArg some (by kernel_rfl))
  f129 := Try.func60.trans (congrArg some (by kernel_rfl))
  t3 := Try.underlying3
  a3 := Try.isAgg3
  z3 := Try.sizeOf3
  v3 := Try.zeroValue3
  t4 := Try.underlying4
  a4 := Try.isAgg4
  z4 := Try.sizeOf4
  v4 := Try.zeroValue4
  t5 := Try.underlying5
  a5 := Try.isAgg5
  z5 := Try.sizeOf5
  v5 := Try.zeroValue5
  t9 := Try.underlying9
  a9 := Try.isAgg9
  z9 := Try.sizeOf9
  v9 := Try.zeroValue9
  t46 := Try.underlying104
  a46 := Try.isAgg104
  z46 := Try.sizeOf104
  v46 := Try.zeroValue104
  t51 := Try.underlying30
  a51 := Try.isAgg30
  z51 := Try.sizeOf30
  v51 := Try.zeroValue30
  t53 := Try.underlying115
  a53 := Try.isAgg115
  z53 := Try.sizeOf115
  v53 := Try.zeroValue115 }
/-- bits.Len: "Len returns the minimum number of bits required to represent x; the result is 0 for x == 0.": IT RETURNS 'Lib.bitLen x'; the world is as it was. (A uint has 64 bits in the model.) ITS CALLEE bits.Len64 IS MET BY ITS OWN CONTRACT OFF THE SHELF (lay that first). (LAID: no walk: one application.) -/
theorem Try.bits_Len (x : Int) (w : World) (h0 : 0 ≤ x) (h1 : x ≤ 18446744073709551615) :
    Calls Try.prog 50 #[.int .u64 x] w fun e w' => e = .returned (.int .i64 (Lib.bitLen x.toNat)) ∧ w' = w := Any.bits_Len Try.lays125 x w h0 h1
def Try.lays129_ren : Go.Shelf.Ren := ⟨fun | 129 => 60 | n => n, fun | 53 => 115 | 3 => 3 | 4 => 4 | 46 => 104 | 5 => 5 | 9 => 9 | n => n, fun | n => n⟩
theorem Try.lays129 : Go.Proofs.Lays.n129 Try.prog Try.lays129_ren := {
  mixed := by kernel_rfl
  f129 := Try.func60.trans (congrArg some (by kernel_rfl))
  t3 := Try.underlying3
  a3 := Try.isAgg3
  z3 := Try.sizeOf3
  v3 := Try.zeroValue3
  t4 := Try.underlying4
  a4 := Try.isAgg4
  z4 := Try.sizeOf4
  v4 := Try.zeroValue4
  t5 := Try.underlying5
  a5 := Try.isAgg5
  z5 := Try.sizeOf5
  v5 := Try.zeroValue5
  t9 := Try.underlying9
  a9 := Try.isAgg9
  z9 := Try.sizeOf9
  v9 := Try.zeroValue9
  t46 := Try.underlying104
  a46 := Try.isAgg104
  z46 := Try.sizeOf104
  v46 := Try.zeroValue104
  t53 := Try.underlying115
  a53 := Try.isAgg115
  z53 := Try.sizeOf115
  v53 := Try.zeroValue115 }
/-- bits.Len64: "Len64 returns the minimum number of bits required to represent x; the result is 0 for x == 0.": IT RETURNS 'Lib.bitLen x'; the world is as it was. ('h0', 'h1': x is a uint64.) (LAID: no walk: one application.) -/
theorem Try.bits_Len64 (x : Int) (w : World) (h0 : 0 ≤ x) (h1 : x ≤ 18446744073709551615) :
    Calls Try.prog 60 #[.int .u64 x] w fun e w' => e = .returned (.int .i64 (Lib.bitLen x.toNat)) ∧ w' = w := Any.bits_Len64 Try.lays129 x w h0 h1
end Go.Proofs
end
section
/- A view's List, walked: its members, rising by their addresses, in a row of its own. -/
namespace Go.Proofs.Ytihmblbnnhcdnaa.Print
open Go.RowKit Go.Shelf Go.Sort Go.Maps Go.ChangeMaps Go.Proofs.YtihmblbnnhcdnaaW.PrintWords Go.Proofs.YtihmblbnnhcdnaaW.PrintLast Go.Proofs.YtihmblbnnhcdnaaW.PrintMore
set_option linter.unusedVariables false
set_option linter.unusedSimpArgs false
theorem ins_none (p : Option Addr) (cap : Nat) (fv : Value) (w : World) : Calls Try.prog 51 #[.slice p 0 cap, .int .i64 0, .int .i64 0, fv] w fun e w' => e = .returned (.tuple #[]) ∧ w' = w := by
  go_enter Try.func51, Try.ntmps51
  go_wp2
  refine wp_loop_rounds 1 ?_
  rw [rounds_succ]
  go_wp2
  go_end0
  exact ⟨rfl, rfl⟩
set_option maxHeartbeats 2000000 in
theorem pdq_none (p : Option Addr) (cap : Nat) (lim : Int) (fv : Value) (w : World) : Calls Try.prog 49 #[.slice p 0 cap, .int .i64 0, .int .i64 0, .int .i64 lim, fv] w fun e w' => e = .returned (.tuple #[]) ∧ w' = w := by
  have hi := fun W => ins_none p cap fv W
  go_enter Try.func49, Try.ntmps49
  go_wp2
  refine wp_loop_rounds 1 ?_
  rw [rounds_succ]
  go_wp2_with (go_at_call 51; refine (hi _).mono ?_; rintro e w' ⟨rfl, rfl⟩)
  (try simp only [Exit.inBlock, Exit.then]); refine bodyPost_ret (results_none rfl _ _ _) rfl ?_
  exact ⟨rfl, rfl⟩
set_option maxHeartbeats 2000000 in
theorem sort_none (p : Option Addr) (cap : Nat) (fv : Value) (w : World) : Calls Try.prog 42 #[.slice p 0 cap, fv] w fun e w' => e = .returned (.tuple #[]) ∧ w' = w := by
  have hp := fun lim W => pdq_none p cap lim fv W
  have hl := fun W => Try.bits_Len 0 W (by omega) (by omega)
  change ∀ W, Calls Try.prog 50 _ _ _ at hl
  go_enter Try.func42, Try.ntmps42
  go_wp2_with (first | (go_at_call 50; refine (hl _).mono ?_; rintro e w' ⟨rfl, rfl⟩) | (go_at_call 49; refine (hp _ _).mono ?_; rintro e w' ⟨rfl, rfl⟩))
  go_end0
  exact ⟨rfl, rfl⟩
theorem perm_of_in {ss : List Mem} {d' : Array Mem} (hp : PermIn 0 ss.toArray.size ss.toArray d') : d'.toList.length = ss.length := by
  have := hp.1
  simpa using this
set_option maxHeartbeats 2000000 in
theorem sort_calls (w : World) (base : Nat) (v : Value) (ss l : List Mem) (h : w.ownsRow base 33 4 v ss.length (flatM ss)) (hp : ss.Perm l) (hR : Rises l) (hl : l.length ≤ 100000) :
    Calls Try.prog 42 #[v, .func (.func 34) #[] #[]] w fun e w' => e = .returned (.tuple #[]) ∧ w'.ownsRow base 33 4 v l.length (flatM l) ∧ w.grownBy w' v.ownBlock := by
  have hlen := hp.length_eq
  rcases h.2 with ⟨rfl, h0⟩ | ⟨g, cap, cur, rfl, hb, hh, hn, hc, hs, ht⟩
  · have e1 : ss = [] := List.eq_nil_of_length_eq_zero h0
    subst e1
    have e2 : l = [] := List.eq_nil_of_length_eq_zero hlen.symm
    subst e2
    refine (sort_none none 0 _ w).mono ?_
    rintro e w' ⟨rfl, rfl⟩
    exact ⟨rfl, h, World.grownBy.refl _ _⟩
  · have hH := holds_of_row (l := ss) hh rfl ht
    have eg : ∀ args w, (callFunc 34 args).run Try.prog w = .ok (.enter 34 args) w := enters_of Try.func34 (by kernel_rfl) rfl
    have hcon := AnyQ.slices_SortFunc Try.sortM 4 Try.isAgg33 Try.sizeOf33 memC (fun _ => rfl) memC_one cfM swoM 34 #[] g 0 cap ss.toArray w eg (less_lays g 0 ss.toArray.size w) hH (blk_lt hh) (by simp; omega)
    have hsz : ss.toArray.size = ss.length := by simp
    rw [hsz] at hcon
    change Calls Try.prog 42 _ _ _ at hcon
    refine hcon.mono ?_
    rintro e w' ⟨rfl, d', n, os, h1, h2, rfl⟩
    have e3 : d'.toList = l := sorted_rises hR (by simpa using hp) (by rw [hsz]; exact h1) (by rw [hsz]; exact h2)
    have e4 : d' = l.toArray := by rw [← e3]
    subst e4
    have := ownsRow_sortedK (n := n) (os := os) (ts := l) hlen.symm h
    rw [hlen] at this ⊢
    exact ⟨rfl, this, by simpa [Value.ownBlock] using grown_sortedK l.toArray⟩
set_option maxHeartbeats 2000000 in
set_option maxRecDepth 100000 in
theorem sortedFunc_calls (Bm b : Nat) (l : List Mem) (w : World) (hm : w.cell? ⟨Bm, 0, none⟩ = some (.map (some b))) (hown : w.ownsMap Try.prog 31 memR b l.length (ent l)) (hR : Rises l) (hll : l.length ≤ 100000) :
    Calls Try.prog 32 #[.func (.func 43) #[] #[.pointer (some ⟨Bm, 0, none⟩)], .func (.func 34) #[] #[]] w
      fun e w' => ∃ v, e = .returned v ∧ w'.ownsRow w.heap.size 33 4 v l.length (flatM l) ∧ Below w.heap.size w w' := by
  have HA := Aside0.mk (appendSeq_calls Bm b l w hm hown hR hll)
  have HS := Aside0.mk (fun W v ss h hp => sort_calls W w.heap.size v ss l h hp hR hll)
  clear hm hown
  go_enter Try.func32, Try.ntmps32
  go_wp2_with (first
    | (go_at_call 48; (with_reducible refine HA.out.mono ?_); rintro e w1 ⟨v, ss, rfl, h1_, h2_, h3_⟩; have H2 := Aside0.mk h2_; have HP := Aside0.mk h1_; have HB := Aside0.mk h3_; clear h1_ h2_ h3_)
    | (go_at_call 42; (with_reducible refine (HS.out _ v ss H2.out HP.out).mono ?_); rintro e w2 ⟨rfl, h1_, h2_⟩; have H3 := Aside0.mk h1_; have HG := Aside0.mk h2_; clear h1_ h2_)
    | go_in)
  go_ret
  refine ⟨v, rfl, H3.out, HB.out.grown HG.out HB.out.size (fun k hk => ?_)⟩
  rcases H2.out.2 with ⟨rfl, _⟩ | ⟨g, cap, cur, rfl, hb, _⟩
  · simp [Value.ownBlock] at hk
  · simp [Value.ownBlock] at hk
    omega
set_option maxHeartbeats 2000000 in
set_option maxRecDepth 100000 in
theorem list_calls (w : World) (g b : Nat) (l : List Mem) (hV : Vw w g b l) (hll : l.length ≤ 100000) : Calls Try.prog 22 #[.pointer (some ⟨g, 0, none⟩)] w
      fun e w' => ∃ v, e = .returned v ∧ w'.ownsRow w.heap.size 33 4 v l.length (flatM l) ∧ Below w.heap.size w w' := by
  have hc := hV.cell
  have HV := Aside0.mk hV
  clear hV
  go_enter Try.func22, Try.ntmps22
  go_wp2_with (first
    | (go_at_call 33; (with_reducible refine (values_calls b _).mono ?_); rintro e w1 ⟨rfl, rfl⟩; have HV1 := Aside0.mk (HV.out.below (below_alloc (Below.refl w.heap.size w) (.cells #[.map (some b)] 75))); have HM1 := Aside0.mk ((blk_cell (blk_new w (.cells #[.map (some b)] 75)) 0).trans (show _ = some (Value.map (some b)) from rfl)))
    | (go_at_call 32; (with_reducible refine (sortedFunc_calls w.heap.size b l _ HM1.out HV1.out.map HV1.out.ord hll).mono ?_); rintro e w2 ⟨v, rfl, h1_, h2_⟩; have H2 := Aside0.mk h1_; have HB := Aside0.mk h2_; clear h1_ h2_))
  go_ret
  refine ⟨v, rfl, ?_, (below_alloc (Below.refl w.heap.size w) _).trans (by have h3 := HB.out; refine ⟨h3.os, h3.tape, h3.output, h3.size, fun i hi => h3.block i (by simp; omega)⟩)⟩
  have h4 := H2.out
  obtain ⟨h5, h6⟩ := h4
  refine ⟨h5, ?_⟩
  rcases h6 with h6 | ⟨g', cap, cur, h7, hb, h8⟩
  · exact .inl h6
  · exact .inr ⟨g', cap, cur, h7, by simp at hb; omega, h8⟩
theorem list_nil_calls (w : World) : Calls Try.prog 22 #[.pointer none] w fun e w' => e = .returned (.slice none 0 0) ∧ w' = w := by
  go_enter Try.func22, Try.ntmps22
  go_wp2
  go_ret
  exact ⟨rfl, rfl⟩
end Go.Proofs.Ytihmblbnnhcdnaa.Print
end
section
-- Written by a program of this session, built on the kit's print (it is not the print's own text).
namespace Go.Proofs.Ytihmblbnnhcdnaa.Print
open Go.RowKit Go.Proofs.YtihmblbnnhcdnaaW.PrintWords Go.Proofs.YtihmblbnnhcdnaaW.PrintLast Go.Proofs.YtihmblbnnhcdnaaW.PrintMore
attribute [local go_sem] max2_int min2_int max_two min_two max_three min_three max_four min_four   -- for this text's walks alone
set_option linter.unusedVariables false
set_option linter.unusedSimpArgs false

theorem eqA33 (d : Nat) (w : World) (x0 y0 : Int) (x1 y1 : Int) (x2 y2 : Int) (x3 y3 : ByteArray) :
    (Op.equalIn (d + 2) 33 (.agg #[.int .u32 x0, .int .u32 x1, .int .u8 x2, .string x3]) (.agg #[.int .u32 y0, .int .u32 y1, .int .u8 y2, .string y3])).run Try.prog w = .ok (x0 == y0 && (x1 == y1 && (x2 == y2 && (x3.toList == y3.toList)))) w := by
  refine eqA_of Try.underlying33 (by kernel_rfl) ?_
  refine eqf_cons (by rfl) (by go_simp; rfl) (by go_simp; rfl) (by go_simp) ?_
  refine eqf_cons (by rfl) (by go_simp; rfl) (by go_simp; rfl) (by go_simp) ?_
  refine eqf_cons (by rfl) (by go_simp; rfl) (by go_simp; rfl) (by go_simp) ?_
  exact eqf_last (by rfl) (by go_simp; rfl) (by go_simp; rfl) (by go_simp)
end Go.Proofs.Ytihmblbnnhcdnaa.Print
end
section
-- Written by a program of this session, built on the kit's print (it is not the print's own text).
namespace Go.Proofs.Ytihmblbnnhcdnaa.Print
open Go.RowKit Go.Proofs.YtihmblbnnhcdnaaW.PrintWords Go.Proofs.YtihmblbnnhcdnaaW.PrintLast Go.Proofs.YtihmblbnnhcdnaaW.PrintMore
attribute [local go_sem] max2_int min2_int max_two min_two max_three min_three max_four min_four   -- for this text's walks alone
set_option linter.unusedVariables false
set_option linter.unusedSimpArgs false

attribute [local go_sem high] eqA33
/-! ### hearsayref17_Equal: function 12 -/
def hearsayref17_Equal.l0 : Nat → List (S33) → List (S33) → Int → Option (Bool)
  | 0, _, _, _ => none
  | k + 1, x0, x1, x5 => if x5 < (x0.length : Int) then (if 0 ≤ x5 then (if x5 < (x1.length : Int) then (if (!(((rd_T33 x0 x5).f0) == ((rd_T33 x1 x5).f0)) || (!(((rd_T33 x0 x5).f1) == ((rd_T33 x1 x5).f1)) || (!(((rd_T33 x0 x5).f2) == ((rd_T33 x1 x5).f2)) || (!((((rd_T33 x0 x5).f3).toList) == (((rd_T33 x1 x5).f3).toList)))))) = true then (some false) else (hearsayref17_Equal.l0 k x0 x1 (wrap64 (x5 + 1)))) else (none)) else (none)) else (some true)
def hearsayref17_Equal.f (k : Nat) (l0 : List (S33)) (l1 : List (S33)) : Option (Bool) := if (l0.length : Int) = (l1.length : Int) then (hearsayref17_Equal.l0 k l0 l1 0) else (some false)
theorem hearsayref17_Equal.mono_l : ∀ k, (∀ y0 y1 y2, LeO (hearsayref17_Equal.l0 k y0 y1 y2) (hearsayref17_Equal.l0 (k + 1) y0 y1 y2))
  | 0 => fun _ _ _ r h => by simp [hearsayref17_Equal.l0] at h
  | k + 1 => by
    have ih0 := hearsayref17_Equal.mono_l k
    · intro y0 y1 y2
      unfold hearsayref17_Equal.l0
      repeat' first
      | (with_reducible exact ih0 _ _ _)
      | (with_reducible exact LeO.refl _)
      | (with_reducible exact LeO.none _)
      | (with_reducible refine LeO.ite ?_ ?_)
      | (with_reducible refine LeO.bind ?_ (fun _ => ?_))
      | exact ih0 _ _ _
      | exact LeO.none _
      | refine LeO.ite ?_ ?_
      | refine LeO.bind ?_ (fun _ => ?_)
theorem hearsayref17_Equal.mono : ∀ a0 a1 k, LeO (hearsayref17_Equal.f k a0 a1) (hearsayref17_Equal.f (k + 1) a0 a1) := by
  intro a0 a1 k
  have ih0 := hearsayref17_Equal.mono_l k
  unfold hearsayref17_Equal.f
  repeat' first
      | (with_reducible exact ih0 _ _ _)
      | (with_reducible exact LeO.refl _)
      | (with_reducible exact LeO.none _)
      | (with_reducible refine LeO.ite ?_ ?_)
      | (with_reducible refine LeO.bind ?_ (fun _ => ?_))
      | exact ih0 _ _ _
      | exact LeO.none _
      | refine LeO.ite ?_ ?_
      | refine LeO.bind ?_ (fun _ => ?_)
set_option maxHeartbeats 8000000 in
set_option maxRecDepth 100000 in
theorem hearsayref17_Equal.calls (k : Nat) (A0 : Option Addr) (c0 : Nat) (l0 : List (S33)) (A1 : Option Addr) (c1 : Nat) (l1 : List (S33)) (r : Bool) (w : World) (hr0 : Kd.C k33 w A0 l0.length l0) (hc0 : l0.length ≤ c0) (hr1 : Kd.C k33 w A1 l1.length l1) (hc1 : l1.length ≤ c1) (h : hearsayref17_Equal.f k l0 l1 = some r) :
    Calls Try.prog 12 #[.slice A0 l0.length c0, .slice A1 l1.length c1] w fun e w' => e = .returned (.bool r) ∧ Drawn0 w w' := by
  have hu33 := Try.underlying33
  have HR0 := Aside0.mk hr0
  have HC0 := Aside0.mk hc0
  clear hr0 hc0
  have HR1 := Aside0.mk hr1
  have HC1 := Aside0.mk hc1
  clear hr1 hc1
  have H : (if (l0.length : Int) = (l1.length : Int) then (hearsayref17_Equal.l0 k l0 l1 0) else (some false)) = some r := h
  clear h
  by_cases c3 : (l0.length : Int) = (l1.length : Int)
  · rw [if_pos c3] at H
    have c3b0 : ((l0.length : Int) == (l1.length : Int)) = true := beq_iff_eq.mpr c3
    have c3b1 : ((l0.length : Int) != (l1.length : Int)) = false := bne_eq_false_iff_eq.mpr c3
    have c3b2 : (l0.length == l1.length) = true := by first | simpa using c3 | (simp at c3 ⊢; omega)
    clear c3
    have H' := Aside0.mk H
    clear H
    go_enter Try.func12, Try.ntmps12
    go_wp2
    repeat (go_quiet (fail); try go_wp2)
    go_loopg [5] k (fun kq v5 w' => ∃ (x5_1 : Int), v5 = .int .i64 x5_1 ∧ Aside0 (hearsayref17_Equal.l0 kq l0 l1 x5_1 = some r) ∧ Aside0 (kq ≤ k) ∧ Drawn0 w w')
    case atStart => exact ⟨(0), (by first | rfl | (simp; done) | (simp [*]; done)), H', ⟨Nat.le_refl _⟩, by repeat (first | exact Drawn0.refl _ | apply Drawn0.step)⟩
    case round =>
      clear H'
      try clear c1
      try clear p2
      try clear c3
      try clear c3b0
      try clear c3b1
      try clear c3b2
      obtain ⟨x5_1, rfl, HA, HK1, ⟨m1, rfl⟩⟩ := hrel
      cases gk with
      | zero => exact absurd HA.out (by simp [hearsayref17_Equal.l0])
      | succ k1 =>
        have H := HA.out
        clear HA
        simp only [hearsayref17_Equal.l0] at H
        by_cases c4 : x5_1 < (l0.length : Int)
        · rw [if_pos c4] at H
          have c4b0 : decide (x5_1 < (l0.length : Int)) = true := decide_eq_true c4
          clear c4
          by_cases c5 : 0 ≤ x5_1
          · rw [if_pos c5] at H
            have c5b0 : decide (0 ≤ x5_1) = true := decide_eq_true c5
            clear c5
            by_cases c6 : x5_1 < (l1.length : Int)
            · rw [if_pos c6] at H
              have c6b0 : decide (x5_1 < (l1.length : Int)) = true := decide_eq_true c6
              clear c6
              by_cases c7 : (!(((rd_T33 l0 x5_1).f0) == ((rd_T33 l1 x5_1).f0)) || (!(((rd_T33 l0 x5_1).f1) == ((rd_T33 l1 x5_1).f1)) || (!(((rd_T33 l0 x5_1).f2) == ((rd_T33 l1 x5_1).f2)) || (!((((rd_T33 l0 x5_1).f3).toList) == (((rd_T33 l1 x5_1).f3).toList)))))) = true
              · rw [if_pos c7] at H
                have c7b0 : (!(((rd_T33 l0 x5_1).f0) == ((rd_T33 l1 x5_1).f0)) || (!(((rd_T33 l0 x5_1).f1) == ((rd_T33 l1 x5_1).f1)) || (!(((rd_T33 l0 x5_1).f2) == ((rd_T33 l1 x5_1).f2)) || (!((((rd_T33 l0 x5_1).f3).toList) == (((rd_T33 l1 x5_1).f3).toList)))))) = true := c7
                clear c7
                obtain rfl := Option.some.inj H
                have p116 : 0 ≤ (x5_1 : Int) := of_decide_eq_true (by first | (with_reducible assumption) | assumption)
                have q116 : x5_1 < (l0.length : Int) := of_decide_eq_true (by first | (with_reducible assumption) | assumption)
                obtain ⟨ad116, e116, hx116_0, hx116_1, hx116_2, hx116_3⟩ := at_T33 HR0.out x5_1 p116 q116
                cases e116
                replace p116 := eq_true p116
                replace q116 := eq_true q116
                have p117 : 0 ≤ (x5_1 : Int) := of_decide_eq_true (by first | (with_reducible assumption) | assumption)
                have q117 : x5_1 < (l1.length : Int) := of_decide_eq_true (by first | (with_reducible assumption) | assumption)
                obtain ⟨ad117, e117, hx117_0, hx117_1, hx117_2, hx117_3⟩ := at_T33 HR1.out x5_1 p117 q117
                cases e117
                replace p117 := eq_true p117
                replace q117 := eq_true q117
                go_wp2
                repeat (go_quiet (fail); try go_wp2)
                go_ret
                exact ⟨by first | rfl | (simp; done) | (simp [*]; done), by repeat (first | exact Drawn0.refl _ | apply Drawn0.step)⟩
              · rw [if_neg c7] at H
                have c7b0 : (!(((rd_T33 l0 x5_1).f0) == ((rd_T33 l1 x5_1).f0)) || (!(((rd_T33 l0 x5_1).f1) == ((rd_T33 l1 x5_1).f1)) || (!(((rd_T33 l0 x5_1).f2) == ((rd_T33 l1 x5_1).f2)) || (!((((rd_T33 l0 x5_1).f3).toList) == (((rd_T33 l1 x5_1).f3).toList)))))) = false := by simpa using c7
                clear c7
                have H' := Aside0.mk H
                clear H
                have p116 : 0 ≤ (x5_1 : Int) := of_decide_eq_true (by first | (with_reducible assumption) | assumption)
                have q116 : x5_1 < (l0.length : Int) := of_decide_eq_true (by first | (with_reducible assumption) | assumption)
                obtain ⟨ad116, e116, hx116_0, hx116_1, hx116_2, hx116_3⟩ := at_T33 HR0.out x5_1 p116 q116
                cases e116
                replace p116 := eq_true p116
                replace q116 := eq_true q116
                have p117 : 0 ≤ (x5_1 : Int) := of_decide_eq_true (by first | (with_reducible assumption) | assumption)
                have q117 : x5_1 < (l1.length : Int) := of_decide_eq_true (by first | (with_reducible assumption) | assumption)
                obtain ⟨ad117, e117, hx117_0, hx117_1, hx117_2, hx117_3⟩ := at_T33 HR1.out x5_1 p117 q117
                cases e117
                replace p117 := eq_true p117
                replace q117 := eq_true q117
                go_wp2
                repeat (go_quiet (fail); try go_wp2)
                go_roundg k1
                case measure => have := HK1.out; omega
                case rel => exact ⟨(wrap64 (x5_1 + 1)), (by first | rfl | (simp; done) | (simp [*]; done)), H', ⟨by have := HK1.out; omega⟩, by repeat (first | exact Drawn0.refl _ | apply Drawn0.step)⟩
            · rw [if_neg c6] at H
              exact absurd H (by simp)
          · rw [if_neg c5] at H
            exact absurd H (by simp)
        · rw [if_neg c4] at H
          have c4b0 : decide (x5_1 < (l0.length : Int)) = false := decide_eq_false c4
          clear c4
          obtain rfl := Option.some.inj H
          go_wp2
          repeat (go_quiet (fail); try go_wp2)
          go_ret
          exact ⟨by first | rfl | (simp; done) | (simp [*]; done), by repeat (first | exact Drawn0.refl _ | apply Drawn0.step)⟩
  · rw [if_neg c3] at H
    have c3b0 : ((l0.length : Int) == (l1.length : Int)) = false := beq_eq_false_iff_ne.mpr c3
    have c3b1 : ((l0.length : Int) != (l1.length : Int)) = true := bne_iff_ne.mpr c3
    have c3b2 : (l0.length == l1.length) = false := by first | simpa using c3 | (simp at c3 ⊢; omega)
    obtain rfl := Option.some.inj H
    go_enter Try.func12, Try.ntmps12
    go_wp2
    repeat (go_quiet (fail); try go_wp2)
    go_ret
    exact ⟨by first | rfl | (simp; done) | (simp [*]; done), by repeat (first | exact Drawn0.refl _ | apply Drawn0.step)⟩

end Go.Proofs.Ytihmblbnnhcdnaa.Print
end
section
/- A view beside a queue: what is put into both (plain); frames; rows. -/
namespace Go.Proofs.Ytihmblbnnhcdnaa.Print
open Go.RowKit Go.Maps Go.ChangeMaps Go.Proofs.YtihmblbnnhcdnaaW.PrintWords Go.Proofs.YtihmblbnnhcdnaaW.PrintLast Go.Proofs.YtihmblbnnhcdnaaW.PrintMore
set_option linter.unusedVariables false
set_option linter.unusedSimpArgs false
def memsL (L : List One) : List Mem := L.map (·.m)
theorem memsL_len (L : List One) : (memsL L).length = L.length := List.length_map _
/-- a rising list is told by what it has -/
theorem rises_eq {A B : List Mem} (hp : A.Perm B) (hA : Rises A) (hB : Rises B) : A = B := by
  induction A generalizing B with
  | nil => exact (List.perm_nil.1 hp.symm).symm
  | cons x A ih =>
    cases B with
    | nil => exact List.perm_nil.1 hp
    | cons y B =>
      obtain ⟨a1, a2⟩ := List.pairwise_cons.1 hA
      obtain ⟨b1, b2⟩ := List.pairwise_cons.1 hB
      have e : x = y := by
        have hx : x ∈ y :: B := hp.mem_iff.1 (by simp)
        have hy : y ∈ x :: A := hp.mem_iff.2 (by simp)
        rcases List.mem_cons.1 hx with h | h
        · exact h
        · rcases List.mem_cons.1 hy with h' | h'
          · exact h'.symm
          · have h1 := b1 x h
            have h2 := a1 y h'
            omega
      subst e
      rw [ih (List.Perm.cons_inv hp) a2 b2]
theorem put_perm {V : List Mem} (h : Rises V) (m : Mem) : (putL m V).Perm (m :: V.filter (fun x => x.f0 != m.f0)) := by
  induction V with
  | nil => exact List.Perm.refl _
  | cons y r ih =>
    obtain ⟨h1, h2⟩ := List.pairwise_cons.1 h
    unfold putL
    have hall : (∀ z ∈ r, m.f0 < z.f0) → r.filter (fun x => x.f0 != m.f0) = r := fun hz => by
      rw [List.filter_eq_self]
      intro z hz'
      have := hz z hz'
      simp; omega
    by_cases hlt : m.f0 < y.f0
    · rw [if_pos hlt, List.filter_cons_of_pos (by simp; omega), hall (fun z hz => by have := h1 z hz; omega)]
    · rw [if_neg hlt]
      by_cases he : m.f0 = y.f0
      · rw [if_pos he, List.filter_cons_of_neg (by simp [he]), hall (fun z hz => by rw [he]; exact h1 z hz)]
      · rw [if_neg he, List.filter_cons_of_pos (by simp; omega)]
        exact (List.Perm.cons y (ih h2)).trans (List.Perm.swap _ _ _)
theorem out_mems (L : List One) (a : Int) : memsL (outA L a) = (memsL L).filter (fun x => x.f0 != a) := by
  unfold memsL outA
  rw [List.filter_map]
  rfl
theorem get_find {V : List Mem} {L : List One} (hV : Rises V) (hp : (memsL L).Perm V) (a : Int) : getL V a = (findA L a).map (·.m) := by
  cases hf : findA L a with
  | some y =>
    obtain ⟨hy, e⟩ := find_mem hf
    have h1 : y.m ∈ V := hp.mem_iff.1 (List.mem_map.2 ⟨y, hy, rfl⟩)
    rw [← e]
    exact get_of hV h1
  | none =>
    cases hg : getL V a with
    | none => rfl
    | some x =>
      obtain ⟨hx, e⟩ := get_mem hg
      obtain ⟨y, hy, e2⟩ := List.mem_map.1 (hp.mem_iff.2 hx)
      exact absurd (by rw [e2]; exact e) (find_none hf y hy)
/-- what is put into both is told alike, and they have the same -/
theorem told_same {V : List Mem} {L : List One} {nx : Int} (hV : Rises V) (hp : (memsL L).Perm V) (m : Mem) (hl : V.length < 32 ∨ mergeM V m ≠ (false, 3, V)) :
    (mergeM V m).1 = (addL L nx m).1 ∧ (mergeM V m).2.1 = (addL L nx m).2.1 ∧ (memsL (addL L nx m).2.2.1).Perm (mergeM V m).2.2 ∧ Rises (mergeM V m).2.2 ∧ (mergeM V m).2.2.length ≤ V.length + 1 := by
  have hg := get_find hV hp m.f0
  have hput : (putL m V).length ≤ V.length + 1 := by rw [length_putL hV]; split <;> omega
  have hpp : (m :: memsL (outA L m.f0)).Perm (putL m V) := by
    refine List.Perm.trans ?_ (put_perm hV m).symm
    rw [out_mems]
    exact List.Perm.cons m (hp.filter _)
  unfold mergeM at hl ⊢
  unfold addL
  by_cases hm : mayM m = false
  · rw [if_pos hm, if_pos hm]
    exact ⟨rfl, rfl, hp, hV, by simp⟩
  · rw [if_neg hm] at hl
    rw [if_neg hm, if_neg hm]
    cases hf : findA L m.f0 with
    | some y =>
      rw [hf] at hg
      have hg' : getL V m.f0 = some y.m := hg
      rw [hg'] at hl ⊢
      simp only at hl ⊢
      by_cases hc : cmpM m y.m ≤ 0
      · rw [if_pos hc, if_pos hc]
        exact ⟨rfl, rfl, hp, hV, by simp⟩
      · rw [if_neg hc, if_neg hc]
        exact ⟨rfl, rfl, hpp, rises_put hV m, hput⟩
    | none =>
      rw [hf] at hg
      have hg' : getL V m.f0 = none := hg
      rw [hg'] at hl ⊢
      simp only at hl ⊢
      have h32 : ¬ 32 ≤ V.length := by
        intro h
        rw [if_pos h] at hl
        rcases hl with hl | hl
        · omega
        · exact hl rfl
      rw [if_neg h32]
      refine ⟨rfl, rfl, ?_, rises_put hV m, hput⟩
      rw [out_none hf] at hpp
      exact hpp
/-- one that is new goes into a view that has room -/
theorem merge_fresh {V : List Mem} (hV : Rises V) {m : Mem} (hm : mayM m = true) (hno : ∀ x ∈ V, x.f0 ≠ m.f0) (hl : V.length < 32) : (mergeM V m).2.2.Perm (m :: V) ∧ Rises (mergeM V m).2.2 := by
  have hg : getL V m.f0 = none := by
    cases hg : getL V m.f0 with
    | none => rfl
    | some x => obtain ⟨hx, e⟩ := get_mem hg; exact absurd e (hno x hx)
  unfold mergeM
  rw [if_neg (by simp [hm]), hg]
  simp only
  rw [if_neg (by omega)]
  refine ⟨?_, rises_put hV m⟩
  have h1 := put_perm hV m
  rw [List.filter_eq_self.2 (fun x hx => by have := hno x hx; simpa using this)] at h1
  exact h1
/-! frames -/
theorem Vw.kp {w w' : World} {g b : Nat} {l : List Mem} {S : Nat → Prop} (h : Vw w g b l) (k : Kp w w' S) (h1 : ¬ S g) (h2 : ¬ S b) : Vw w' g b l := by
  obtain ⟨box, ⟨es, clock, hb, F, hs, hD⟩, ord, wf⟩ := h
  exact ⟨(k.block g (blk_lt box) h1).trans box, ⟨es, clock, (k.block b (Array.getElem?_eq_some_iff.1 hb).1 h2).trans hb, F, hs, hD⟩, ord, wf⟩
theorem VF.kp {w w' : World} {b : Nat} (h : VF w w' b) : Kp w w' (fun k => k = b) := ⟨h.os, h.tape, h.output, h.size, fun k hk hn => h.block k hk (fun e => hn (Option.some.inj e))⟩
/-- a view's blocks are none of a queue's -/
theorem vq_dis {w : World} {g mb gv bv : Nat} {t last : Int} {v : Value} {hs : Hs} {L : List One} {V : List Mem} (hq : Qs w g mb t last v hs L) (hv : Vw w gv bv V) (hne : bv ≠ mb) : ¬ QB g mb v hs gv ∧ ¬ QB g mb v hs bv := by
  refine ⟨fun h => ?_, fun h => ?_⟩
  · have := hq.typ h hv.box
    rcases this with e | e | e <;> exact absurd e (by decide)
  · obtain ⟨n, hn, q⟩ := hq.qw
    obtain ⟨es, clock, hb, _⟩ := hv.map
    rcases h with h | h | h | ⟨p, hp, h⟩
    · rw [h, q.rq.box] at hb; cases hb
    · exact hne h
    · obtain ⟨cells, hc⟩ := Kd.R_typed q.rq.ho.row bv h
      rw [hc] at hb; cases hb
    · obtain ⟨i, hi, e⟩ := List.getElem_of_mem hp
      have := q.rq.ho.one i p.1 p.2 (by rw [List.getElem?_eq_getElem hi, e])
      rw [h, hb] at this; cases this
theorem merge_m (w : World) (g b : Nat) (l : List Mem) (m : Mem) (h0 : 0 ≤ m.f0) (h1 : m.f0 ≤ 4294967295) (hV : Vw w g b l) (hl : l.length ≤ 100000) :
    Calls Try.prog 21 #[.pointer (some ⟨g, 0, none⟩), .agg #[.int .u32 m.f0, .int .u32 m.f1, .int .u8 m.f2, .string m.f3]] w fun e w' => e = .returned (.tuple #[.bool (mergeM l m).1, .int .i64 (mergeM l m).2.1]) ∧ Vw w' g b (mergeM l m).2.2 ∧ VF w w' b := merge_calls w g b l m h0 h1 hV hl
/-! rows -/
theorem flat_dropM : ∀ (xs : List Mem) (i : Nat), (flatM xs).drop (i * 4) = flatM (xs.drop i)
  | xs, 0 => by simp
  | [], i + 1 => by simp [flatM]
  | x :: xs, i + 1 => by
    have h := flat_dropM xs i
    show (memC x ++ flatM xs).drop ((i + 1) * 4) = flatM (xs.drop i)
    rw [show (i + 1) * 4 = (memC x).length + i * 4 by show (i + 1) * 4 = 4 + i * 4; omega, List.drop_append, Nat.add_sub_cancel_left, h, List.drop_of_length_le (by omega), List.nil_append]
theorem own_Rm {w : World} {base : Nat} {v : Value} {L : List Mem} (h : w.ownsRow base 33 4 v L.length (flatM L)) : Kd.R k33 33 w base (fun _ => True) v L := by
  refine ⟨fun _ _ => trivial, flatM L, h, flatM_length L, fun j p hj => ?_⟩
  have h1 : L.drop j = p :: L.drop (j + 1) := by
    obtain ⟨hj', e⟩ := List.getElem?_eq_some_iff.1 hj
    rw [List.drop_eq_getElem_cons hj', e]
  show Kd.M _ _ _ _ _ (((flatM L).drop (j * 4)).take 4)
  rw [flat_dropM, h1]
  exact k33_mkM _ _ _ p
theorem list_m (w : World) (g b : Nat) (l : List Mem) (hV : Vw w g b l) (hll : l.length ≤ 100000) : Calls Try.prog 22 #[.pointer (some ⟨g, 0, none⟩)] w fun e w' =>
    ∃ A c, e = .returned (.slice A l.length c) ∧ Kd.R k33 33 w' w.heap.size (fun _ => True) (.slice A l.length c) l ∧ Below w.heap.size w w' := by
  refine (list_calls w g b l hV hll).mono ?_
  rintro e w' ⟨v, rfl, h1, h2⟩
  have h3 := own_Rm h1
  obtain ⟨A, c, rfl⟩ := Kd.R_slice h3
  exact ⟨A, c, rfl, h3, h2⟩
theorem at_M {w : World} {A : Option Addr} {n : Nat} {xs : List Mem} (h : Kd.C k33 w A n xs) {i : Nat} {x : Mem} (hx : xs[i]? = some x) : ∃ ad, A = some ad ∧ w.cell? (ad.add (i * 4)) = some (.int .u32 x.f0) ∧ w.cell? ⟨(ad.add (i * 4)).block, (ad.add (i * 4)).off + 1, none⟩ = some (.int .u32 x.f1) ∧ w.cell? ⟨(ad.add (i * 4)).block, (ad.add (i * 4)).off + 2, none⟩ = some (.int .u8 x.f2) ∧ w.cell? ⟨(ad.add (i * 4)).block, (ad.add (i * 4)).off + 3, none⟩ = some (.string x.f3) := by
  have hil : i < xs.length := (List.getElem?_eq_some_iff.1 hx).1
  have hn : xs.length = n := h.1
  obtain ⟨ad, e, h0, h1, h2, h3⟩ := at_T33 h (i : Int) (by omega) (by omega)
  have e9 : rd_T33 xs (i : Int) = x := by unfold rd_T33; rw [Int.toNat_natCast, List.getD_eq_getElem?_getD, hx]; rfl
  rw [e9, Int.toNat_natCast] at h0 h1 h2 h3
  exact ⟨ad, e, h0, h1, h2, h3⟩
theorem listq_m (w : World) (g mb : Nat) (t last : Int) (v : Value) (hs : Hs) (L : List One) (h : Qs w g mb t last v hs L) (hl : last ≤ 800000) :
    Calls Try.prog 16 #[.pointer (some ⟨g, 0, none⟩)] w fun e w' => ∃ A c, e = .returned (.slice A (memsL L).length c) ∧ Kd.R k33 33 w' w.heap.size (fun _ => True) (.slice A (memsL L).length c) (memsL L) ∧ Below w.heap.size w w' := by
  rw [memsL_len]; exact listq_s w g mb t last v hs L h hl
theorem take_fresh {ms : List Mem} (hn : (ms.map (·.f0)).Nodup) {k : Nat} {x : Mem} (hx : ms[k]? = some x) : ∀ y ∈ ms.take k, y.f0 ≠ x.f0 := by
  intro y hy e
  obtain ⟨hk, ex⟩ := List.getElem?_eq_some_iff.1 hx
  have hsp : ms = ms.take k ++ x :: ms.drop (k + 1) := by
    rw [← ex, ← List.drop_eq_getElem_cons hk, List.take_append_drop]
  rw [hsp, List.map_append, List.nodup_append] at hn
  exact hn.2.2 y.f0 (List.mem_map.2 ⟨y, hy, rfl⟩) x.f0 (by simp) e
theorem mems_nodup {L : List One} (h : (L.map (·.m.f0)).Nodup) : ((memsL L).map (·.f0)).Nodup := by
  unfold memsL
  rw [List.map_map]
  exact h
theorem mems_may {L : List One} (h : ∀ x ∈ L, mayM x.m = true) : ∀ x ∈ memsL L, mayM x = true := by
  intro x hx
  obtain ⟨y, hy, rfl⟩ := List.mem_map.1 hx
  exact h y hy
theorem mems_wf {L : List One} (h : ∀ x ∈ L, 0 ≤ x.m.f0 ∧ x.m.f0 ≤ 4294967295) : ∀ x ∈ memsL L, 0 ≤ x.f0 ∧ x.f0 ≤ 4294967295 := by
  intro x hx
  obtain ⟨y, hy, rfl⟩ := List.mem_map.1 hx
  exact h y hy
theorem equal_l0S (L : List Mem) (hl : L.length ≤ 1000000) (d : Nat) : ∀ i : Nat, L.length - i ≤ d → i ≤ L.length → Ev (fun k => hearsayref17_Equal.l0 k L L (i : Int)) true := by
  have fin : Ev (fun k => hearsayref17_Equal.l0 k L L (L.length : Int)) true := by
    refine Ev.step (f := fun _ => some true) (fun k => ?_) (Ev.now _)
    simp only [hearsayref17_Equal.l0]
    rw [if_neg (by omega)]
  induction d with
  | zero =>
    intro i hd hi
    have : i = L.length := by omega
    subst this
    exact fin
  | succ d ih =>
    intro i hd hi
    by_cases hlt : i < L.length
    · refine Ev.step (fun k => ?_) (ih (i + 1) (by omega) (by omega))
      simp only [hearsayref17_Equal.l0]
      rw [if_pos (by omega), if_pos (by omega), if_pos (by omega), if_neg (by simp), show wrap64 ((i : Int) + 1) = (i : Int) + 1 by unfold wrap64; omega]
      rfl
    · exact ih i (by omega) hi
theorem equal_sameS (L : List Mem) (hl : L.length ≤ 1000000) : ∃ k, hearsayref17_Equal.f k L L = some true := by
  obtain ⟨K, hK⟩ := equal_l0S L hl L.length 0 (by omega) (by omega)
  refine ⟨K, ?_⟩
  unfold hearsayref17_Equal.f
  rw [if_pos rfl]
  exact hK K (Nat.le_refl _)
end Go.Proofs.Ytihmblbnnhcdnaa.Print
end
section
/- Plain law for RumorTimes: how often each member was told. -/
namespace Go.Proofs.Ytihmblbnnhcdnaa.Print
open Go.RowKit Go.Maps Go.ChangeMaps Go.Proofs.YtihmblbnnhcdnaaW.PrintWords Go.Proofs.YtihmblbnnhcdnaaW.PrintLast Go.Proofs.YtihmblbnnhcdnaaW.PrintMore
set_option linter.unusedVariables false
set_option linter.unusedSimpArgs false
def tookL (L : List One) (n : Int) : List Mem := (L.take (takeN L n)).map (·.m)
theorem tookL_len (L : List One) (n : Int) : (tookL L n).length = takeN L n := by unfold tookL takeN; rw [List.length_map, List.length_take]; omega
theorem takeq_m (w : World) (g mb : Nat) (t last : Int) (v : Value) (hs : Hs) (L : List One) (kk : Int) (h : Qs w g mb t last v hs L) (hl : last ≤ 800000) :
    Calls Try.prog 13 #[.pointer (some ⟨g, 0, none⟩), .int .i64 kk] w fun e w' => ∃ A c v' hs', e = .returned (.slice A (tookL L kk).length c) ∧ Kd.R k33 33 w' w.heap.size (fun _ => True) (.slice A (tookL L kk).length c) (tookL L kk) ∧ Qs w' g mb t last v' hs' (takeL t L kk) ∧ Kp w w' (QB g mb v hs) ∧ ∀ k, QB g mb v' hs' k → QB g mb v hs k ∨ w.heap.size ≤ k := by
  rw [tookL_len]; exact takeq_s w g mb t last v hs L kk h hl
/-- how often an address stands in a list -/
def cnt (ms : List Mem) (a : Int) : Int := ((ms.filter (fun x => x.f0 == a)).length : Int)
theorem cnt_nil (a : Int) : cnt [] a = 0 := rfl
theorem cnt_cons (x : Mem) (ms : List Mem) (a : Int) : cnt (x :: ms) a = (if x.f0 = a then 1 else 0) + cnt ms a := by
  unfold cnt
  by_cases h : x.f0 = a
  · rw [if_pos h, List.filter_cons_of_pos (by simpa using h)]; simp; omega
  · rw [if_neg h, List.filter_cons_of_neg (by simpa using h)]; omega
theorem cnt_snoc (x : Mem) (ms : List Mem) (a : Int) : cnt (ms ++ [x]) a = cnt ms a + (if x.f0 = a then 1 else 0) := by
  induction ms with
  | nil => rw [List.nil_append, cnt_cons, cnt_nil]; omega
  | cons y r ih => rw [List.cons_append, cnt_cons, cnt_cons, ih]; omega
theorem cnt_bd (ms : List Mem) (a : Int) : 0 ≤ cnt ms a ∧ cnt ms a ≤ ms.length := by
  unfold cnt
  have := List.length_filter_le (fun x : Mem => x.f0 == a) ms
  omega
theorem cnt_zero {ms : List Mem} {a : Int} (h : ∀ x ∈ ms, x.f0 ≠ a) : cnt ms a = 0 := by
  induction ms with
  | nil => rfl
  | cons x r ih => rw [cnt_cons, if_neg (h x (by simp)), ih (fun y hy => h y (by simp [hy]))]; rfl
theorem cnt_one {ms : List Mem} (hn : (ms.map (·.f0)).Nodup) {x : Mem} (hx : x ∈ ms) : cnt ms x.f0 = 1 := by
  induction ms with
  | nil => cases hx
  | cons y r ih =>
    rw [List.map_cons, List.nodup_cons] at hn
    rw [cnt_cons]
    rcases List.mem_cons.1 hx with rfl | hx
    · rw [if_pos rfl, cnt_zero (fun z hz e => hn.1 (List.mem_map.2 ⟨z, hz, e⟩))]; rfl
    · rw [if_neg (fun e => hn.1 (List.mem_map.2 ⟨x, hx, e.symm⟩)), ih hn.2 hx]; rfl
def sumI : List Int → Int
  | [] => 0
  | x :: r => x + sumI r
theorem sum_le {V : List Mem} {f g : Mem → Int} (h : ∀ y ∈ V, f y ≤ g y) : sumI (V.map f) ≤ sumI (V.map g) := by
  induction V with
  | nil => exact Int.le_refl _
  | cons y r ih =>
    have h1 := h y (by simp)
    have h2 := ih (fun z hz => h z (by simp [hz]))
    show f y + sumI (r.map f) ≤ g y + sumI (r.map g)
    omega
theorem sum_lt {V : List Mem} {f g : Mem → Int} (h : ∀ y ∈ V, f y ≤ g y) {z : Mem} (hz : z ∈ V) (hl : f z + 1 ≤ g z) : sumI (V.map f) + 1 ≤ sumI (V.map g) := by
  induction V with
  | nil => cases hz
  | cons y r ih =>
    have h1 := h y (by simp)
    show f y + sumI (r.map f) + 1 ≤ g y + sumI (r.map g)
    rcases List.mem_cons.1 hz with rfl | hz
    · have h2 := sum_le (fun z hz => h z (List.mem_cons_of_mem _ hz))
      omega
    · have h2 := ih (fun z hz => h z (by simp [hz])) hz
      omega
theorem sum_const (V : List Mem) (K : Int) : sumI (V.map (fun _ => K)) = K * (V.length : Int) := by
  induction V with
  | nil => simp [sumI]
  | cons y r ih =>
    show K + sumI (r.map (fun _ => K)) = _
    rw [ih]
    simp only [List.length_cons]
    rw [show (((r.length + 1 : Nat) : Int)) = (r.length : Int) + 1 by omega, Int.mul_add]
    omega
/-- told: of each member as often as it was sent, and of those that are gone just so often -/
structure Told (K : Int) (V : List Mem) (L : List One) (f : Mem → Int) : Prop where
  inn : ∀ x ∈ L, x.m ∈ V
  cnt : ∀ y ∈ V, (∃ x ∈ L, x.m = y ∧ f y = x.sent) ∨ ((∀ x ∈ L, x.m.f0 ≠ y.f0) ∧ f y = K)
theorem Told.start {K : Int} {V : List Mem} {L : List One} (hp : (memsL L).Perm V) (h0 : ∀ x ∈ L, x.sent = 0) : Told K V L (fun _ => 0) :=
  ⟨fun x hx => hp.mem_iff.1 (List.mem_map.2 ⟨x, hx, rfl⟩), fun y hy => by
    obtain ⟨x, hx, e⟩ := List.mem_map.1 (hp.mem_iff.2 hy)
    exact Or.inl ⟨x, hx, e, (h0 x hx).symm⟩⟩
theorem Told.bd {K last : Int} {V : List Mem} {L : List One} {f : Mem → Int} (h : Told K V L f) (hA : Al K last L) (hK : 1 ≤ K) : ∀ y ∈ V, 0 ≤ f y ∧ f y ≤ K := by
  intro y hy
  rcases h.cnt y hy with ⟨x, hx, _, e⟩ | ⟨_, e⟩
  · have := hA.snt x hx; omega
  · omega
theorem took_sub (L : List One) (n : Int) : ∀ m ∈ tookL L n, ∃ x ∈ L.take (takeN L n), x.m = m := by
  intro m hm
  exact List.mem_map.1 hm
theorem took_nodup {K last : Int} {L : List One} (hA : Al K last L) (n : Int) : ((tookL L n).map (·.f0)).Nodup := by
  unfold tookL
  rw [List.map_map]
  exact hA.adr.sublist ((List.take_sublist _ _).map _)
theorem one_inj {K last : Int} {L : List One} (hA : Al K last L) {x y : One} (hx : x ∈ L) (hy : y ∈ L) (e : x.m.f0 = y.m.f0) : x = y := by
  have h1 := find_of hA.adr hx
  have h2 := find_of hA.adr hy
  rw [e, h2] at h1
  exact (Option.some.inj h1).symm
theorem Told.take {K last : Int} {V : List Mem} {L : List One} {f : Mem → Int} (h : Told K V L f) (hA : Al K last L) (n : Int) : Told K V (takeL K L n) (fun y => f y + Print.cnt (tookL L n) y.f0) := by
  have hsp : L.take (takeN L n) ++ L.drop (takeN L n) = L := List.take_append_drop _ _
  have hp := puts_perm K (L.take (takeN L n)) (L.drop (takeN L n))
  have hdis : ∀ x ∈ L.take (takeN L n), ∀ y ∈ L.drop (takeN L n), x.m.f0 ≠ y.m.f0 := fun x hx y hy e => by
    have hn := hA.adr
    rw [← hsp, List.map_append, List.nodup_append] at hn
    exact hn.2.2 _ (List.mem_map.2 ⟨x, hx, rfl⟩) _ (List.mem_map.2 ⟨y, hy, rfl⟩) e
  have hmem : ∀ x, x ∈ takeL K L n ↔ x ∈ L.drop (takeN L n) ∨ ∃ y ∈ L.take (takeN L n), x = sentO y ∧ y.sent + 1 < K := fun x => by
    unfold takeL
    rw [hp.mem_iff, List.mem_append]
    constructor
    · rintro (hx | hx)
      · exact Or.inl hx
      · exact Or.inr (back_tm K _ x hx)
    · rintro (hx | ⟨y, hy, rfl, hs⟩)
      · exact Or.inl hx
      · exact Or.inr (List.mem_filterMap.2 ⟨y, hy, by rw [if_pos hs]⟩)
  have hL : ∀ x ∈ takeL K L n, ∃ z ∈ L, z.m = x.m := fun x hx => by
    rcases (hmem x).1 hx with hx | ⟨y, hy, rfl, _⟩
    · exact ⟨x, List.mem_of_mem_drop hx, rfl⟩
    · exact ⟨y, List.mem_of_mem_take hy, rfl⟩
  refine ⟨fun x hx => ?_, fun y hy => ?_⟩
  · obtain ⟨z, hz, e⟩ := hL x hx
    rw [← e]; exact h.inn z hz
  · rcases h.cnt y hy with ⟨x, hx, e, hf⟩ | ⟨hno, hf⟩
    · rw [← hsp] at hx
      rcases List.mem_append.1 hx with hx | hx
      · have h1 : Print.cnt (tookL L n) y.f0 = 1 := by
          rw [← e]
          exact cnt_one (took_nodup hA n) (List.mem_map.2 ⟨x, hx, rfl⟩)
        simp only [h1]
        by_cases hs : x.sent + 1 < K
        · exact Or.inl ⟨sentO x, (hmem _).2 (Or.inr ⟨x, hx, rfl, hs⟩), e, by rw [hf]; rfl⟩
        · refine Or.inr ⟨fun z hz ez => ?_, ?_⟩
          · rcases (hmem z).1 hz with hz | ⟨q, hq, rfl, hqs⟩
            · exact hdis x hx z hz (by rw [e]; exact ez.symm)
            · have : q = x := one_inj hA (List.mem_of_mem_take hq) (List.mem_of_mem_take hx) (by rw [e]; exact ez)
              subst this
              exact hs hqs
          · have := (hA.snt x (List.mem_of_mem_take hx)).2
            omega
      · have h1 : Print.cnt (tookL L n) y.f0 = 0 := cnt_zero (fun m hm em => by
          obtain ⟨q, hq, eq⟩ := took_sub L n m hm
          exact hdis q hq x hx (by rw [eq, em, e]))
        simp only [h1]
        exact Or.inl ⟨x, (hmem x).2 (Or.inl hx), e, by omega⟩
    · have h1 : Print.cnt (tookL L n) y.f0 = 0 := cnt_zero (fun m hm em => by
        obtain ⟨q, hq, eq⟩ := took_sub L n m hm
        exact hno q (List.mem_of_mem_take hq) (by rw [eq]; exact em))
      simp only [h1]
      refine Or.inr ⟨fun z hz ez => ?_, by omega⟩
      obtain ⟨q, hq, eq⟩ := hL z hz
      exact hno q hq (by rw [eq]; exact ez)
theorem took_in {K last : Int} {V : List Mem} {L : List One} {f : Mem → Int} (h : Told K V L f) (n : Int) : ∀ m ∈ tookL L n, m ∈ V := fun m hm => by
  obtain ⟨x, hx, e⟩ := took_sub L n m hm
  rw [← e]; exact h.inn x (List.mem_of_mem_take hx)
/-- each Take is one more at least -/
theorem Told.more {K last : Int} {V : List Mem} {L : List One} {f : Mem → Int} (h : Told K V L f) (hA : Al K last L) (n : Int) (h1 : 0 < (tookL L n).length) : sumI (V.map f) + 1 ≤ sumI (V.map (fun y => f y + Print.cnt (tookL L n) y.f0)) := by
  have hm : (tookL L n)[0]'h1 ∈ tookL L n := List.getElem_mem h1
  refine sum_lt (fun y _ => by have := (cnt_bd (tookL L n) y.f0).1; omega) (took_in (last := last) h n _ hm) ?_
  rw [cnt_one (took_nodup hA n) hm]
  exact Int.le_refl _
/-- when it has gone on as long as it may, all is told -/
theorem Told.over {K last : Int} {V : List Mem} {L : List One} {f : Mem → Int} (h : Told K V L f) (hA : Al K last L) (hK : 1 ≤ K) (hs : K * (V.length : Int) ≤ sumI (V.map f)) : L = [] := by
  cases L with
  | nil => rfl
  | cons x r =>
    exfalso
    have hx := h.inn x (by simp)
    have hf : f x.m = x.sent := by
      rcases h.cnt x.m hx with ⟨z, hz, e, hf⟩ | ⟨hno, _⟩
      · have : z = x := one_inj hA hz (by simp) (by rw [e])
        subst this
        exact hf
      · exact absurd rfl (hno x (by simp))
    have hlt := (hA.snt x (by simp)).2
    have h1 := sum_lt (g := fun _ => K) (fun y hy => (h.bd hA hK y hy).2) hx (by omega)
    rw [sum_const] at h1
    omega
theorem Told.done {K : Int} {V : List Mem} {f : Mem → Int} (h : Told K V [] f) : ∀ y ∈ V, f y = K := fun y hy => by
  rcases h.cnt y hy with ⟨x, hx, _⟩ | ⟨_, e⟩
  · cases hx
  · exact e
/-! the row of counts while it is gone through -/
def mixT (V : List Mem) (f g : Mem → Int) (b : Nat) : List Int := (V.take b).map g ++ (V.drop b).map f
theorem mix_len (V : List Mem) (f g : Mem → Int) (b : Nat) : (mixT V f g b).length = V.length := by
  unfold mixT
  rw [List.length_append, List.length_map, List.length_map, List.length_take, List.length_drop]
  omega
theorem mix_zero (V : List Mem) (f g : Mem → Int) : mixT V f g 0 = V.map f := by unfold mixT; simp
theorem mix_all (V : List Mem) (f g : Mem → Int) : mixT V f g V.length = V.map g := by unfold mixT; simp
theorem mix_split {V : List Mem} {f g : Mem → Int} {b : Nat} {y : Mem} (hy : V[b]? = some y) : mixT V f g b = (V.take b).map g ++ f y :: (V.drop (b + 1)).map f ∧ mixT V f g (b + 1) = (V.take b).map g ++ g y :: (V.drop (b + 1)).map f := by
  obtain ⟨hb, e⟩ := List.getElem?_eq_some_iff.1 hy
  unfold mixT
  constructor
  · rw [List.drop_eq_getElem_cons hb, e, List.map_cons]
  · rw [List.take_add_one, hy, List.map_append, List.append_assoc]
    rfl
theorem mix_get {V : List Mem} {f g : Mem → Int} {b : Nat} {y : Mem} (hy : V[b]? = some y) : (mixT V f g b)[b]? = some (f y) := by
  obtain ⟨hb, e⟩ := List.getElem?_eq_some_iff.1 hy
  rw [(mix_split hy).1, List.getElem?_append_right (by rw [List.length_map, List.length_take]; omega), List.length_map, List.length_take, show b - min b V.length = 0 by omega]
  rfl
theorem mix_set {V : List Mem} {f g : Mem → Int} {b : Nat} {y : Mem} (hy : V[b]? = some y) : (mixT V f g b).set b (g y) = mixT V f g (b + 1) := by
  obtain ⟨hb, e⟩ := List.getElem?_eq_some_iff.1 hy
  have hl : ((V.take b).map g).length = b := by rw [List.length_map, List.length_take]; omega
  rw [(mix_split hy).1, (mix_split hy).2, List.set_append_right _ _ (by omega), hl, Nat.sub_self]
  rfl
theorem mix_same {V : List Mem} {f g : Mem → Int} {b : Nat} {y : Mem} (hy : V[b]? = some y) (h : g y = f y) : mixT V f g (b + 1) = mixT V f g b := by
  rw [(mix_split hy).1, (mix_split hy).2, h]
end Go.Proofs.Ytihmblbnnhcdnaa.Print
end
section
/- How members, and lists of them, read as data are told by their kind, with their bounds. -/
namespace Go.Proofs.Ytihmblbnnhcdnaa.Opens
open Go.ChangeShapes Go.WideShapes Go.ChangeAt Go.RowKit Go.Proofs.YtihmblbnnhcdnaaW.PrintWords Go.Proofs.Ytihmblbnnhcdnaa.Print
set_option linter.unusedVariables false
def wfM (x : Mem) : Prop := (0 ≤ x.f0 ∧ x.f0 ≤ 4294967295) ∧ x.f3.size ≤ 9223372036854775807
theorem u32_wf {n : Int} (h : (Lit.int .u32 n).wf = true) : 0 ≤ n ∧ n ≤ 4294967295 := by
  simp [Lit.wf] at h
  have e1 : IntKind.u32.min = 0 := by decide
  have e2 : IntKind.u32.max = 4294967295 := by decide
  omega
theorem opens33 : Opens Try.prog 33 k33 wfM := by
  have h := opens_iso (opens_struct Try.underlying33 (by kernel_rfl) (opensF_cons rfl (by kernel_rfl) (opens_int (k := .u32) (by kernel_rfl)) (opensF_cons rfl (by kernel_rfl) (opens_int (k := .u32) (by kernel_rfl)) (opensF_cons rfl (by kernel_rfl) (opens_int (k := .u8) (by kernel_rfl)) (opensF_one rfl (by kernel_rfl) (opens_string (by kernel_rfl))))))) (fun x : S33 => (x.f0, x.f1, x.f2, x.f3)) (fun y => ⟨y.1, y.2.1, y.2.2.1, y.2.2.2⟩) (fun _ => rfl)
  intro H enc w base spare held fuel cs y hy
  obtain ⟨x, hk, h0, h1, h2, h3⟩ := h H enc w base spare held fuel cs y hy
  exact ⟨x, hk, u32_wf h0, by unfold maxLen at h3; exact h3⟩
end Go.Proofs.Ytihmblbnnhcdnaa.Opens
end
