/- A row of rumors in memory: what it is; its Len and Less, walked. -/
import Derived.Test.YtihmblbnnhcdnaaXMem
import Derived.Test.YtihmblbnnhcdnaaXHeapP
import Derived.Test.YtihmblbnnhcdnaaWMore
namespace Go.Proofs.Ytihmblbnnhcdnaa.Print
open Go.RowKit Go.Maps Go.ChangeMaps Go.Proofs.YtihmblbnnhcdnaaW.PrintWords Go.Proofs.YtihmblbnnhcdnaaW.PrintLast Go.Proofs.YtihmblbnnhcdnaaW.PrintMore
set_option linter.unusedVariables false
set_option linter.unusedSimpArgs false
/-- a rumor: its member, how often it was sent, when it was put in -/
structure One where
  m : Mem
  sent : Int
  tm : Int
def lessO (a b : One) : Bool := if a.sent ≠ b.sent then decide (a.sent < b.sent) else decide (a.tm > b.tm)
theorem lessO_pre : Heap.Pre lessO := by
  constructor
  · intro a b c h1 h2
    unfold lessO at *
    split at h1 <;> split at h2 <;> split <;> simp at * <;> omega
  · intro a b h1
    unfold lessO at *
    split at h1 <;> split <;> simp at * <;> omega
theorem lessO_self (a : One) : lessO a a = false := by unfold lessO; simp
def oneC (o : One) (i : Int) : Array Value := #[.int .u32 o.m.f0, .int .u32 o.m.f1, .int .u8 o.m.f2, .string o.m.f3, .int .i64 o.sent, .int .i64 o.tm, .int .i64 i]
def encP (b : Nat) : Value := .pointer (some ⟨b, 0, none⟩)
theorem encP_one (b : Nat) : (encP b).oneCell' = true := rfl
/-- pointers to blocks -/
def kP : Kd Nat := Kd.scalar encP encP_one
abbrev Hs := List (Nat × One)
/-- a row of rumors: pointers to their blocks -/
structure Ho (w : World) (v : Value) (hs : Hs) : Prop where
  row : kP.R 62 w 0 (fun _ => True) v (hs.map (·.1))
  one : ∀ (i b : Nat) (o : One), hs[i]? = some (b, o) → w.heap[b]? = some (.cells (oneC o i) 66 (0, 0))
  nod : (hs.map (·.1)).Nodup
/-- what is left as it lay: all but the blocks of S -/
structure Kp (w w' : World) (S : Nat → Prop) : Prop where
  os : w'.os = w.os
  tape : w'.tape = w.tape
  output : w'.output = w.output
  size : w.heap.size ≤ w'.heap.size
  block : ∀ k, k < w.heap.size → ¬ S k → w'.heap[k]? = w.heap[k]?
theorem Kp.of {w w' : World} {S : Nat → Prop} (h : Below w.heap.size w w') : Kp w w' S := ⟨h.os, h.tape, h.output, h.size, fun k hk _ => h.block k hk⟩
theorem Kp.grown {w w' : World} {S : Nat → Prop} {row : Option Nat} (h : w.grownBy w' row) (hS : ∀ k, row = some k → S k) : Kp w w' S := ⟨h.os, h.tape, h.output, h.size, fun k hk hn => h.block k hk (fun e => hn (hS k e.symm))⟩
theorem Kp.trans {w w1 w2 : World} {S S' : Nat → Prop} (h : Kp w w1 S) (k : Kp w1 w2 S') (hS : ∀ j, j < w.heap.size → S' j → S j) : Kp w w2 S :=
  ⟨k.os.trans h.os, k.tape.trans h.tape, k.output.trans h.output, Nat.le_trans h.size k.size, fun j hj hn => (k.block j (Nat.lt_of_lt_of_le hj h.size) (fun h' => hn (hS j hj h'))).trans (h.block j hj hn)⟩
theorem Kp.set {w w' : World} {S : Nat → Prop} (h : Kp w w' S) (g i : Nat) (u : Value) (hg : g < w.heap.size → S g) : Kp w (w'.setCell ⟨g, i, none⟩ u) S :=
  ⟨h.os, h.tape, h.output, by simpa [World.setCell] using h.size, fun k hk hn => (Below.heap_setCell _ _ _ _ (fun e => hn (by
    have e' : k = g := e
    subst e'
    exact hg hk))).trans (h.block k hk hn)⟩
theorem Kp.mono {w w' : World} {S S' : Nat → Prop} (h : Kp w w' S) (hS : ∀ k, S k → S' k) : Kp w w' S' := ⟨h.os, h.tape, h.output, h.size, fun k hk hn => h.block k hk (fun h' => hn (hS k h'))⟩
theorem Kp.below {w w' : World} {S : Nat → Prop} {n : Nat} (h : Kp w w' S) (hn : n ≤ w.heap.size) (hS : ∀ k, S k → n ≤ k) : Below n w w' := ⟨h.os, h.tape, h.output, h.size, fun k hk => h.block k (by omega) (fun h' => by have := hS k h'; omega)⟩
/-- the blocks of a row of rumors -/
def HoS (v : Value) (hs : Hs) (k : Nat) : Prop := v.ownBlock = some k ∨ ∃ p ∈ hs, p.1 = k
theorem Ho.below {w w' : World} {v : Value} {hs : Hs} (h : Ho w v hs) (hb : Below w.heap.size w w') : Ho w' v hs :=
  ⟨Kd.R_below h.row hb, fun i b o e => blk_below (h.one i b o e) hb, h.nod⟩
theorem Ho.lt {w : World} {v : Value} {hs : Hs} (h : Ho w v hs) {k : Nat} (hk : HoS v hs k) : k < w.heap.size := by
  rcases hk with hk | ⟨p, hp, rfl⟩
  · exact Kd.R_lt h.row k hk
  · obtain ⟨i, hi, e⟩ := List.getElem_of_mem hp
    have := h.one i p.1 p.2 (by rw [List.getElem?_eq_getElem hi, e])
    exact blk_lt this
theorem Ho.kept {w w' : World} {v : Value} {hs : Hs} {S : Nat → Prop} (h : Ho w v hs) (hk : Kp w w' S) (hS : ∀ k, HoS v hs k → ¬ S k) : Ho w' v hs := by
  refine ⟨?_, fun i b o e => ?_, h.nod⟩
  · have h1 : kP.R 62 w 0 (fun k => v.ownBlock = some k) v (hs.map (·.1)) := ⟨fun k hk => hk, h.row.2.imp_ (fun _ _ hp => hp)⟩
    exact Kd.R_mono (Kd.R_step h1 (fun k ho hlt => hk.block k hlt (hS k (Or.inl ho)))) (fun _ _ => trivial)
  · have hb := h.one i b o e
    exact (hk.block b (blk_lt hb) (hS b (Or.inr ⟨(b, o), List.mem_of_getElem? e, rfl⟩))).trans hb
theorem Ho.form {w : World} {v : Value} {hs : Hs} (h : Ho w v hs) : ∃ A c, v = .slice A hs.length c ∧ hs.length ≤ c ∧ c ≤ 9223372036854775807 := by
  obtain ⟨A, c, e, hl, _⟩ := Kd.R_reads h.row
  have h2 := (Kd.R_own h.row)
  obtain ⟨inner, _, h3⟩ := h2
  rw [List.length_map] at e hl
  rcases h3 with ⟨h3, h4⟩ | ⟨g, cap, cur, h3, _, _, h5, h6, _⟩
  · rw [h3] at e
    injection e with e1 e2 e3
    exact ⟨none, 0, by rw [h3, ← e2], by omega, by omega⟩
  · rw [h3] at e
    injection e with e1 e2 e3
    subst e3
    exact ⟨A, cap, by rw [h3, e1, e2], hl, by unfold maxLen at h6; exact h6⟩
/-- the place i, read -/
theorem Ho.at {w : World} {v : Value} {hs : Hs} (h : Ho w v hs) {i b : Nat} {o : One} (hi : hs[i]? = some (b, o)) : ∃ r c, v = .slice (some ⟨r, 0, none⟩) hs.length c ∧ hs.length ≤ c ∧ c ≤ 9223372036854775807 ∧ w.cell? ⟨r, i, none⟩ = some (.pointer (some ⟨b, 0, none⟩)) ∧ w.frozen? ⟨r, i, none⟩ = false ∧ r < w.heap.size := by
  have hlt : i < hs.length := (List.getElem?_eq_some_iff.1 hi).1
  obtain ⟨A, c, e, hl, hc⟩ := h.form
  obtain ⟨r, cap, e2, _, hr, _⟩ := Kd.R_form h.row (by rw [List.length_map]; omega)
  rw [e, List.length_map] at e2
  injection e2 with e3 _ e4
  subst e3
  subst e4
  have hrow := h.row
  rw [e] at hrow
  obtain ⟨h1, h2⟩ := Kd.R_cell 0 (by rw [List.length_map]; exact hrow) (i : Int) (by omega) (by rw [List.length_map]; omega)
  have e5 : rdOf 0 (hs.map (·.1)) (i : Int) = b := by
    unfold rdOf
    rw [Int.toNat_natCast, List.getD_eq_getElem?_getD, List.getElem?_map, hi]
    rfl
  rw [e5, Int.toNat_natCast] at h1
  rw [Int.toNat_natCast] at h2
  exact ⟨r, c, e, hl, hc, h1, h2, hr⟩
theorem len_calls' (w : World) (A : Option Addr) (n c : Nat) : Calls Try.prog 85 #[.slice A n c] w fun e w' => e = .returned (.int .i64 n) ∧ w' = w := by
  go_enter Try.func85, Try.ntmps85
  go_wp2
  go_ret
  exact ⟨rfl, rfl⟩
set_option maxHeartbeats 8000000 in
set_option maxRecDepth 100000 in
theorem less_calls (w : World) (v : Value) (hs : Hs) (i j bi bj : Nat) (oi oj : One) (h : Ho w v hs) (hi : hs[i]? = some (bi, oi)) (hj : hs[j]? = some (bj, oj)) (hl : hs.length ≤ 1000000) :
    Calls Try.prog 86 #[v, .int .i64 i, .int .i64 j] w fun e w' => e = .returned (.bool (lessO oi oj)) ∧ Below w.heap.size w w' := by
  obtain ⟨r, c, rfl, hcl, hcm, ci, _, _⟩ := h.at hi
  obtain ⟨r', c', e', _, _, cj, _, _⟩ := h.at hj
  injection e' with e1 _ e2
  injection e1 with e1
  injection e1 with e1 _
  subst e1
  have hil : i < hs.length := (List.getElem?_eq_some_iff.1 hi).1
  have hjl : j < hs.length := (List.getElem?_eq_some_iff.1 hj).1
  have si : w.cell? ⟨bi, 4, none⟩ = some (.int .i64 oi.sent) := (blk_cell (h.one _ _ _ hi) 4).trans rfl
  have ti : w.cell? ⟨bi, 5, none⟩ = some (.int .i64 oi.tm) := (blk_cell (h.one _ _ _ hi) 5).trans rfl
  have sj : w.cell? ⟨bj, 4, none⟩ = some (.int .i64 oj.sent) := (blk_cell (h.one _ _ _ hj) 4).trans rfl
  have tj : w.cell? ⟨bj, 5, none⟩ = some (.int .i64 oj.tm) := (blk_cell (h.one _ _ _ hj) 5).trans rfl
  obtain ⟨q, hq⟩ : ∃ q, q = lessO oi oj := ⟨_, rfl⟩
  rw [← hq]
  have HQ := Aside0.mk hq
  clear hq h hi hj e2
  have h1 : (i : Int) < (hs.length : Int) := by omega
  have h2 : (j : Int) < (hs.length : Int) := by omega
  have hii : 0 ≤ (i : Int) := by omega
  have hjj : 0 ≤ (j : Int) := by omega
  go_enter Try.func86, Try.ntmps86
  by_cases hs0 : oi.sent = oj.sent
  · have hne : (oi.sent == oj.sent) = true := by simpa using hs0
    go_wp2
    repeat (go_quiet (fail); try go_wp2)
    go_ret
    refine ⟨?_, by repeat (first | exact Below.refl _ _ | apply pw_below_drewN)⟩
    rw [HQ.out]
    unfold lessO
    rw [if_neg (by simpa using hs0)]
    rfl
  · have hne : (oi.sent == oj.sent) = false := by simpa using hs0
    go_wp2
    repeat (go_quiet (fail); try go_wp2)
    go_ret
    refine ⟨?_, by repeat (first | exact Below.refl _ _ | apply pw_below_drewN)⟩
    rw [HQ.out]
    unfold lessO
    rw [if_pos hs0]
    rfl
end Go.Proofs.Ytihmblbnnhcdnaa.Print
