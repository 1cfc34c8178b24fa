/- maps.Values over a map of members, walked as an iterator: each comes once, in some order. -/
import Derived.Test.YtognmibankcefaaXMem
import Derived.RangeFuncNested
import Derived.RangeFuncBound
import Derived.RangeFuncCalls
import Derived.RangeFuncLeaves
import Derived.RangeFuncFrom
import Derived.RangeFuncBox
import Derived.Sort.MapsRangeIn
import Derived.Shelf.Abstract
import Derived.Shelf.RegionOpen
import Derived.OwnWalkIn
import Derived.TacticsInMore
import Derived.LoopNIn
import Derived.LoopIn
import Derived.Outline
namespace Go.Proofs.Ytognmibankcefaa.Print
open Go.RowKit Go.Shelf Go.Maps Go.ChangeMaps Go.Proofs.YtognmibankcefaaW.PrintWords Go.Proofs.YtognmibankcefaaW.PrintLast Go.Proofs.YtognmibankcefaaW.PrintMore
attribute [local go_sem] Oper.semAt_some
set_option linter.unusedVariables false
set_option linter.unusedSimpArgs false
/-- the members that have come so far -/
def Coll (l : List Mem) (left : Lit → Bool) (ss : List Mem) : Prop := ss.Pairwise (fun x y => x.f0 ≠ y.f0) ∧ ∀ x, x ∈ ss ↔ (x ∈ l ∧ left (kL x.f0) = false)
theorem coll_start {l : List Mem} (h : Rises l) : Coll l (has (ent l)) [] := ⟨List.Pairwise.nil, fun x => ⟨fun h => (by cases h), fun ⟨h1, h2⟩ => by rw [has_ent, get_of h h1] at h2; cases h2⟩⟩
theorem at_get {l : List Mem} {a : Int} {c : Mem} (h : ∀ zd, (ent l).atKey (kL a) zd = .held c) : getL l a = some c := by
  have h1 := h .nil
  rw [at_ent] at h1
  cases hg : getL l a with
  | none => rw [hg] at h1; simp at h1
  | some y => rw [hg] at h1; simp at h1; rw [h1]
theorem coll_step {l : List Mem} (h : Rises l) {left : Lit → Bool} {ss : List Mem} (hC : Coll l left ss) {a : Int} {c : Mem} (hl : left (kL a) = true) (hg : getL l a = some c) : Coll l (fun z => left z && !z.sameKey (kL a)) (ss ++ [c]) := by
  obtain ⟨h1, h2⟩ := hC
  obtain ⟨hm, ha⟩ := get_mem hg
  refine ⟨List.pairwise_append.2 ⟨h1, List.pairwise_singleton _ _, fun x hx y hy => ?_⟩, fun x => ?_⟩
  · rw [List.mem_singleton.1 hy, ha]
    intro e
    have := ((h2 x).1 hx).2
    rw [e, hl] at this
    cases this
  · rw [List.mem_append, List.mem_singleton, h2 x]
    simp only [same_kL]
    constructor
    · rintro (⟨h3, h4⟩ | rfl)
      · exact ⟨h3, by simp [h4]⟩
      · exact ⟨hm, by simp [ha]⟩
    · rintro ⟨h3, h4⟩
      by_cases he : x.f0 = a
      · right
        have := get_of h h3
        rw [he, hg] at this
        exact (Option.some.inj this).symm
      · left
        refine ⟨h3, ?_⟩
        have hb : (x.f0 == a) = false := beq_eq_false_iff_ne.2 he
        rw [hb] at h4
        simpa using h4
theorem coll_end {l : List Mem} (h : Rises l) {left : Lit → Bool} {ss : List Mem} (hC : Coll l left ss) (hl : ∀ z, left z = false) : ss.Perm l := by
  refine (List.perm_ext_iff_of_nodup ?_ ?_).2 (fun x => by rw [hC.2 x, hl]; simp)
  · exact hC.1.imp (fun h e => h (by rw [e]))
  · exact h.imp (fun h e => by rw [e] at h; omega)
set_option maxHeartbeats 4000000 in
set_option maxRecDepth 100000 in
theorem values1_stops (n : Nat) (hn : 1 ≤ n) (Bm b : Nat) (l : List Mem) (w0 : World) (hm : w0.cell? ⟨Bm, 0, none⟩ = some (.map (some b))) (hown : w0.ownsMap Try.prog 23 memR b l.length (ent l)) (hR : Rises l) :
    SeqStopsK Fence.wide n Try.prog 45 #[.pointer (some ⟨Bm, 0, none⟩)] (fun x : Mem => #[memV x]) KeepsWalks (fun xs => xs.Perm l) (fun _ => True) l.length w0 := by
  intro lp J Jx W hW hJ hJx hY h0
  have hmW := pw_cell_below hW hm
  have hoW : W.ownsMap Try.prog 23 memR b l.length (ent l) := hown.kept (row := none) ⟨hW.os, hW.tape, hW.output, hW.size, fun i hi _ => hW.block i hi⟩ (by simp)
  clear hown hm
  refine callsIn_of_wp Try.func45 rfl trivial ?_ rfl
  simp only [Try.ntmps45, List.size_toArray, List.length_cons, List.length_nil, Nat.reduceAdd, Nat.reduceSub, Array.replicate_succ, Array.replicate_zero, List.push_toArray, List.append_toArray, List.nil_append, List.cons_append]
  gi_wp2_with (first
    | (gi_at_range; refine wpListIn_range_own _ rfl _ 61 rfl 23 25 keyed Try.underlying61 _ b l.length _ rfl hoW ?_; intro w0 hrg0 hg0 hs0)
    | gi_in)
  try go_frame
  gi_loopw [4] (fun _ wr => ∃ (left : Lit → Bool) (cnt : Nat) (ss : List Mem), wr.ranges Try.prog 23 memR b W.heap.size l.length (ent l) left cnt ∧ ss.length + cnt ≤ l.length ∧ Coll l left ss ∧ J ss wr)
    (fun _ wr => wr.rangeLeft b W.heap.size)
  case atStart =>
    exact ⟨_, _, [], hrg0, by rw [size_ent]; simp, coll_start hR, hJ [] W w0 none h0 hg0 (fun r e => by cases e)⟩
  case round =>
    obtain ⟨left, cnt, ss, hrg, hcs, hC, hJs⟩ := hrel
    gi_wp2_with (first
      | (gi_at_next; refine wpListIn_next_ranges _ rfl _ rfl 23 keyed memR (Value.int .u32) memV (fun key kl hk => by obtain ⟨x, hx, _⟩ := Maps.keyOf_int_inv Try.underlying23 hk; exact ⟨x, hx⟩) (fun v y hv => by obtain ⟨c, rfl, _⟩ := memR_inv hv; exact ⟨c, rfl⟩) b W.heap.size l.length _ _ _ rfl hrg ?_ ?_)
      | gi_in)
    · intro hc0 hl0
      gi_wp2
      go_end0
      exact ⟨⟨_, rfl⟩, .inl ⟨ss, coll_end hR hC hl0, hJs⟩⟩
    · intro x c kl yd yp w2 cnt2 hkey hlk hv hat hrg2 hlt hg2 hs2 hen
      obtain ⟨x', ex, rfl, _⟩ := Maps.keyOf_int_inv Try.underlying23 hkey
      obtain rfl : x = x' := by simpa using ex
      obtain ⟨rfl, rfl⟩ := Prod.mk.inj (Option.some.inj ((memR_mk c).symm.trans hv))
      have hgc := at_get (a := x) hat
      have hC2 := coll_step hR hC hlk hgc
      have hJ2 : J ss w2 := hJ _ wr w2 (some W.heap.size) hJs hg2 (fun r e => by cases e; exact ⟨Nat.le_refl _, hrg.iter_walk⟩)
      have hJ3 : J ss (w2.alloc (.cells #[.int .u32 c.f0, .int .u32 c.f1, .int .u8 c.f2, .string c.f3] 25)) := hJ _ _ _ none hJ2 (World.grownBy_alloc w2 _ none) (by simp)
      have hrg3 := hrg2.alloc (.cells #[.int .u32 c.f0, .int .u32 c.f1, .int .u8 c.f2, .string c.f3] 25)
      obtain ⟨fn, tmps, assign, body, hy, hR'⟩ := hY ss c _ hJ3 (by omega)
      have HC2 := Aside0.mk hC2
      have HRG3 := Aside0.mk hrg3
      have HRG := Aside0.mk hrg
      unfold memV at hy hen
      clear hs2 hv hat hkey hC hC2 hJ2 hJ3 hrg2 hrg3 hrg hJs hgc hlk
      gi_wp2
      refine hR'.mono ?_
      rintro e W3 (⟨rfl, hJ4, hk4⟩ | ⟨rfl, hJx4⟩)
      · have HRG4 := Aside0.mk (HRG3.out.of_walks hk4)
        have HJ4 := Aside0.mk hJ4
        clear hJ4 hk4
        gi_wp2
        go_roundw
        case rel => exact ⟨_, cnt2, ss ++ [c], HRG4.out, by simp; omega, HC2.out, HJ4.out⟩
        case measure => rw [HRG4.out.left_eq, HRG.out.left_eq]; exact hlt
      · gi_wp2
        refine bodyPost_ret (results_none rfl _ _ _) rfl ?_
        exact ⟨⟨_, rfl⟩, .inr ⟨_, trivial, hJx4⟩⟩
end Go.Proofs.Ytognmibankcefaa.Print
