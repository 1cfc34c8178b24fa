/- A map of addresses to blocks, as a function; lookups, updates, deletions of it. -/
import Derived.Test.YtihmblbnnhcdnaaXHeapR
namespace Go.Proofs.Ytihmblbnnhcdnaa.Print
open Go.RowKit Go.Maps Go.ChangeMaps Go.Proofs.YtihmblbnnhcdnaaW.PrintWords Go.Proofs.YtihmblbnnhcdnaaW.PrintLast Go.Proofs.YtihmblbnnhcdnaaW.PrintMore
set_option linter.unusedVariables false
set_option linter.unusedSimpArgs false
/-- a pointer to a block, or none -/
def pv : Option Nat → Value
  | none => .pointer none
  | some b => .pointer (some ⟨b, 0, none⟩)
/-- how a pointer in a map reads -/
def ptrR (v : Value) : Option (DataW (Option Nat) × List MemPlace) :=
  match v with
  | .pointer none => some (.held none, [])
  | .pointer (some ⟨b, 0, none⟩) => some (.held (some b), [])
  | _ => none
theorem ptrR_mk (b : Option Nat) : ptrR (pv b) = some (.held b, []) := by cases b <;> rfl
theorem ptrR_inv {v : Value} {y : DataW (Option Nat) × List MemPlace} (h : ptrR v = some y) : ∃ b, v = pv b ∧ y = (.held b, []) := by
  unfold ptrR at h
  split at h
  · injection h with h; exact ⟨none, rfl, h.symm⟩
  · rename_i b
    injection h with h; exact ⟨some b, rfl, h.symm⟩
  · cases h
/-- a map in memory: block mb, at most n entries, told as a function -/
def Pm (w : World) (mb n : Nat) (f : Int → Option Nat) : Prop :=
  ∃ D, w.ownsMap Try.prog 31 ptrR mb n D ∧ ∀ a, 0 ≤ a → a ≤ 4294967295 → has D (kL a) = (f a).isSome ∧ ∀ z, D.atKey (kL a) z = ((f a).map (fun b => DataW.held (some b))).getD z
theorem Pm.lt {w : World} {mb n : Nat} {f : Int → Option Nat} (h : Pm w mb n f) : mb < w.heap.size := by obtain ⟨D, h1, _⟩ := h; exact h1.lt
theorem Pm.kept {w w' : World} {mb n : Nat} {f : Int → Option Nat} (h : Pm w mb n f) {row : Option Nat} (hg : w.grownBy w' row) (hne : some mb ≠ row) : Pm w' mb n f := by
  obtain ⟨D, h1, h2⟩ := h
  exact ⟨D, h1.kept hg hne, h2⟩
theorem Pm.below {w w' : World} {mb n : Nat} {f : Int → Option Nat} (h : Pm w mb n f) (hb : Below w.heap.size w w') : Pm w' mb n f := h.kept (row := none) ⟨hb.os, hb.tape, hb.output, hb.size, fun i hi _ => hb.block i hi⟩ (by simp)
theorem Pm.kp {w w' : World} {mb n : Nat} {f : Int → Option Nat} {S : Nat → Prop} (h : Pm w mb n f) (k : Kp w w' S) (hS : ¬ S mb) : Pm w' mb n f := by
  obtain ⟨D, ⟨es, clock, hb, F, hs, rfl⟩, h2⟩ := h
  exact ⟨_, ⟨es, clock, (k.block mb (Array.getElem?_eq_some_iff.1 hb).1 hS).trans hb, F, hs, rfl⟩, h2⟩
theorem Pm.mono {w : World} {mb n m : Nat} {f : Int → Option Nat} (h : Pm w mb n f) (hm : n ≤ m) : Pm w mb m f := by
  obtain ⟨D, h1, h2⟩ := h
  exact ⟨D, h1.mono hm, h2⟩
theorem Pm.ne {w : World} {mb n : Nat} {f : Int → Option Nat} (h : Pm w mb n f) {g : Nat} {t : TypeId} {cs : Array Value} (hg : w.heap[g]? = some (.cells cs t (0, 0))) : mb ≠ g := by
  obtain ⟨D, ⟨es, clock, hb, _⟩, _⟩ := h
  intro e
  rw [e, hg] at hb
  cases hb
theorem zeroP (w : World) : (zeroValue 62).run Try.prog w = .ok (pv none) w := by kernel_rfl
set_option maxRecDepth 100000 in
theorem Pm.look {w : World} {mb n : Nat} {f : Int → Option Nat} (h : Pm w mb n f) {a : Int} (h0 : 0 ≤ a) (h1 : a ≤ 4294967295) :
    (Instr.lookup 53 (.map (some mb)) (.int .u32 a) true).run Try.prog w = .ok (.tuple #[pv (f a), .bool (f a).isSome]) w := by
  obtain ⟨D, ho, hf⟩ := h
  obtain ⟨v, ps, hrun, hv⟩ := ho.look_ok keyed Try.underlying53 (zeroP w) (ptrR_mk none) (key_of h0 h1)
  obtain ⟨x, rfl, hx⟩ := ptrR_inv hv
  rw [hrun, (hf a h0 h1).1]
  injection hx with hx _
  rw [(hf a h0 h1).2] at hx
  have e : x = f a := by
    cases hg : f a with
    | none => rw [hg] at hx; simp at hx; exact hx.symm
    | some y => rw [hg] at hx; simp at hx; exact hx.symm
  rw [e]
set_option maxRecDepth 100000 in
theorem Pm.look1 {w : World} {mb n : Nat} {f : Int → Option Nat} (h : Pm w mb n f) {a : Int} (h0 : 0 ≤ a) (h1 : a ≤ 4294967295) :
    (Instr.lookup 53 (.map (some mb)) (.int .u32 a) false).run Try.prog w = .ok (pv (f a)) w := by
  obtain ⟨D, ho, hf⟩ := h
  obtain ⟨v, ps, hrun, hv⟩ := ho.lookup keyed Try.underlying53 (zeroP w) (ptrR_mk none) (key_of h0 h1)
  obtain ⟨x, rfl, hx⟩ := ptrR_inv hv
  rw [hrun]
  injection hx with hx _
  rw [(hf a h0 h1).2] at hx
  have e : x = f a := by
    cases hg : f a with
    | none => rw [hg] at hx; simp at hx; exact hx.symm
    | some y => rw [hg] at hx; simp at hx; exact hx.symm
  rw [e]
def fput (f : Int → Option Nat) (a : Int) (b : Option Nat) : Int → Option Nat := fun x => if x = a then b else f x
theorem kL_ne {a b : Int} (h : a ≠ b) : kL a ≠ kL b := fun e => h (by unfold kL at e; injection e)
theorem Pm.put {w : World} {mb n : Nat} {f : Int → Option Nat} (h : Pm w mb n f) {a : Int} (h0 : 0 ≤ a) (h1 : a ≤ 4294967295) (hn : n ≤ 1000000000) (b : Nat) :
    ∃ w', (Instr.mapUpdate 53 (.map (some mb)) (.int .u32 a) (.pointer (some ⟨b, 0, none⟩))).run Try.prog w = .ok () w' ∧ Pm w' mb (n + 1) (fput f a (some b)) ∧ w.grownBy w' (some mb) := by
  obtain ⟨D, ho, hf⟩ := h
  obtain ⟨w', hrun, ho', hg⟩ := ho.update keyed Try.underlying53 (by unfold maxLen; omega) (key_of h0 h1) (ptrR_mk (some b))
  refine ⟨w', hrun, ⟨_, ho', fun x hx0 hx1 => ?_⟩, hg⟩
  unfold fput
  by_cases e : x = a
  · subst e
    rw [if_pos rfl]
    exact ⟨has_put_same ho.isMap (keyed.key (key_of h0 h1)) _, fun z => atKey_put_same ho.isMap (keyed.key (key_of h0 h1)) _ _⟩
  · rw [if_neg e, has_put_other (kL_ne e)]
    exact ⟨(hf x hx0 hx1).1, fun z => by rw [atKey_put_other (kL_ne e)]; exact (hf x hx0 hx1).2 z⟩
theorem Pm.drop {w : World} {mb n : Nat} {f : Int → Option Nat} (h : Pm w mb n f) {a : Int} (h0 : 0 ≤ a) (h1 : a ≤ 4294967295) (ty : TypeId) :
    ∃ w', (Builtin.delete_ #[53, 31] ty #[.map (some mb), .int .u32 a]).run Try.prog w = .ok (.tuple #[]) w' ∧ Pm w' mb n (fput f a none) ∧ w.grownBy w' (some mb) := by
  obtain ⟨D, ho, hf⟩ := h
  obtain ⟨w', hrun, ho', hg⟩ := ho.drop keyed Try.underlying53 (key_of h0 h1) ty
  refine ⟨w', hrun, ⟨_, ho', fun x hx0 hx1 => ?_⟩, hg.grown⟩
  unfold fput
  by_cases e : x = a
  · subst e
    rw [if_pos rfl]
    exact ⟨has_del_same, fun z => atKey_del_same _⟩
  · rw [if_neg e, has_del_other (kL_ne e)]
    exact ⟨(hf x hx0 hx1).1, fun z => by rw [atKey_del_other (kL_ne e)]; exact (hf x hx0 hx1).2 z⟩
theorem Pm.made (w : World) : Pm (w.alloc (.map #[] 0)) w.heap.size 0 (fun _ => none) := ⟨_, World.ownsMap_made w Try.prog 31 ptrR, fun a _ _ => ⟨rfl, fun z => rfl⟩⟩
/-- a queue in memory: its block, its map, its row of rumors -/
structure Qw (w : World) (g mb n : Nat) (t last : Int) (v : Value) (hs : Hs) : Prop where
  rq : Rq w g t last (.map (some mb)) v hs
  heap : Heap.IsH lessO hs.length (at1 hs)
  map : ∃ f, Pm w mb n f ∧ ∀ a, 0 ≤ a → a ≤ 4294967295 → ∀ b, f a = some b ↔ ∃ o, (b, o) ∈ hs ∧ o.m.f0 = a
  addr : (hs.map (fun p => p.2.m.f0)).Nodup
  wf : ∀ p ∈ hs, 0 ≤ p.2.m.f0 ∧ p.2.m.f0 ≤ 4294967295
set_option maxHeartbeats 4000000 in
set_option maxRecDepth 100000 in
theorem newq_calls (w : World) (t : Int) (h0 : 1 ≤ t) (h1 : t ≤ 64) : Calls Try.prog 8 #[.int .i64 t] w fun e w' => ∃ g mb, e = .returned (.tuple #[.pointer (some ⟨g, 0, none⟩), .int .i64 0]) ∧ Qw w' g mb 0 t 0 (.slice none 0 0) [] ∧ w.heap.size ≤ g ∧ w.heap.size ≤ mb ∧ Below w.heap.size w w' := by
  have hmm := @run_makeMap Try.prog
  have ht1 : ¬ t < 1 := by omega
  have ht2 : ¬ t > 64 := by omega
  have ht3 : ¬ 64 < t := by omega
  go_enter Try.func8, Try.ntmps8
  go_wp2
  refine bodyPost_ret (results_tmp2 rfl _ _ _) rfl ?_
  have e1 : (w.alloc (.map #[] 0)).heap.size = w.heap.size + 1 := by simp
  refine ⟨w.heap.size + 1, rfl, w.heap.size, ⟨⟨?_, ⟨Kd.R_nil _ _ _ _ _, fun i b o h => by simp at h, by simp⟩⟩, fun k h0 hk => absurd hk (by simp), ⟨fun _ => none, (Pm.made w).below (below_alloc (Below.refl _ _) _), fun a _ _ b => by simp⟩, by simp, by simp⟩, by omega, by omega, below_alloc (below_alloc (Below.refl _ _) _) _⟩
  rw [← e1]
  exact blk_new _ _
end Go.Proofs.Ytihmblbnnhcdnaa.Print
