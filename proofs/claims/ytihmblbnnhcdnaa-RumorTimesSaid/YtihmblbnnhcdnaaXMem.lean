/- Members by their addresses: what a map of them reads as, told as a rising list; a view in memory. -/
import Derived.Test.YtihmblbnnhcdnaaKinds
import Derived.Maps.OwnSet
import Derived.Maps.RangeWalk
import Derived.Maps.Ext
namespace Go.Proofs.Ytihmblbnnhcdnaa.Print
open Go.RowKit Go.Maps Go.ChangeMaps Go.Proofs.YtihmblbnnhcdnaaW.PrintWords Go.Proofs.YtihmblbnnhcdnaaW.PrintLast Go.Proofs.YtihmblbnnhcdnaaW.PrintMore
set_option linter.unusedVariables false
set_option linter.unusedSimpArgs false
abbrev Mem := S33
def memV (x : Mem) : Value := .agg #[.int .u32 x.f0, .int .u32 x.f1, .int .u8 x.f2, .string x.f3]
/-- how a member in a map reads -/
def memR (v : Value) : Option (DataW Mem × List MemPlace) :=
  match v with
  | .agg cs => match cs.toList with
    | [.int .u32 a, .int .u32 i, .int .u8 s, .string m] => some (.held ⟨a, i, s, m⟩, [])
    | _ => none
  | _ => none
theorem memR_mk (x : Mem) : memR (memV x) = some (.held x, []) := rfl
theorem memR_inv {v : Value} {y : DataW Mem × List MemPlace} (h : memR v = some y) : ∃ x, v = memV x ∧ y = (.held x, []) := by
  unfold memR at h
  split at h
  · rename_i cs
    split at h
    · rename_i a i s m he
      injection h with h
      refine ⟨⟨a, i, s, m⟩, ?_, h.symm⟩
      unfold memV
      congr 1
      exact Array.toList_inj.1 he
    · cases h
  · cases h
def kL (a : Int) : Lit := .int .u32 a
def entL (l : List Mem) : List (Lit × DataW Mem) := l.map fun x => (kL x.f0, .held x)
def ent (l : List Mem) : DataW Mem := .map (entL l)
def Rises (l : List Mem) : Prop := l.Pairwise (fun x y => x.f0 < y.f0)
def getL (l : List Mem) (a : Int) : Option Mem := l.find? (fun x => x.f0 == a)
def putL (x : Mem) : List Mem → List Mem
  | [] => [x]
  | y :: r => if x.f0 < y.f0 then x :: y :: r else if x.f0 = y.f0 then x :: r else y :: putL x r
theorem same_kL (a b : Int) : (kL a).sameKey (kL b) = (a == b) := by
  show decide (IntKind.u32 = IntKind.u32 ∧ a = b) = (a == b)
  by_cases h : a = b <;> simp [h]
theorem has_ent (l : List Mem) (a : Int) : has (ent l) (kL a) = (getL l a).isSome := by
  induction l with
  | nil => rfl
  | cons x l ih =>
    have h1 : has (ent (x :: l)) (kL a) = ((kL x.f0).sameKey (kL a) || has (ent l) (kL a)) := rfl
    rw [h1, ih, same_kL]
    unfold getL
    cases hx : x.f0 == a <;> simp [hx]
theorem at_ent (l : List Mem) (a : Int) (z : DataW Mem) : (ent l).atKey (kL a) z = ((getL l a).map DataW.held).getD z := by
  induction l with
  | nil => rfl
  | cons x l ih =>
    unfold ent entL getL at *
    unfold DataW.atKey at *
    simp only [List.map_cons, List.find?_cons, same_kL] at *
    cases hx : x.f0 == a
    · simpa using ih
    · rfl
theorem size_ent (l : List Mem) : size (ent l) = l.length := by
  show (entL l).length = _
  unfold entL
  rw [List.length_map]
theorem before_kL (a b : Int) : (kL a).before (kL b) = decide (a < b) := rfl
theorem put_ent {l : List Mem} (h : Rises l) (x : Mem) : (ent l).put (kL x.f0) (.held x) = ent (putL x l) := by
  suffices H : DataW.insert (kL x.f0, .held x) ((entL l).filter (fun p => !p.1.sameKey (kL x.f0))) = entL (putL x l) by
    show DataW.map (DataW.insert (kL x.f0, .held x) ((entL l).filter (fun p => !p.1.sameKey (kL x.f0)))) = DataW.map (entL (putL x l))
    rw [H]
  have hf : ∀ (l : List Mem), (∀ y ∈ l, x.f0 < y.f0) → (entL l).filter (fun p => !p.1.sameKey (kL x.f0)) = entL l ∧ DataW.insert (kL x.f0, .held x) (entL l) = entL (x :: l) := by
    intro l hl
    constructor
    · rw [List.filter_eq_self]
      intro p hp
      obtain ⟨y, hy, rfl⟩ := List.mem_map.1 hp
      have := hl y hy
      rw [same_kL]
      simp
      omega
    · cases l with
      | nil => rfl
      | cons y r =>
        show (if (kL x.f0).before (kL y.f0) = true then _ else _) = _
        rw [before_kL, if_pos (by have := hl y (by simp); simpa using this)]
        rfl
  induction l with
  | nil => rfl
  | cons y r ih =>
    obtain ⟨h1, h2⟩ := List.pairwise_cons.1 h
    unfold putL
    by_cases hlt : x.f0 < y.f0
    · rw [if_pos hlt]
      have h3 := hf (y :: r) (fun z hz => by rcases List.mem_cons.1 hz with rfl | hz; exact hlt; exact Int.lt_trans hlt (h1 z hz))
      rw [h3.1, h3.2]
    · rw [if_neg hlt]
      show DataW.insert _ (List.filter _ ((kL y.f0, DataW.held y) :: entL r)) = _
      rw [List.filter_cons, same_kL]
      by_cases he : x.f0 = y.f0
      · rw [if_pos he, if_neg (by simp [he])]
        have h3 := hf r (fun z hz => by rw [he]; exact h1 z hz)
        rw [h3.1, h3.2]
      · rw [if_neg he, if_pos (by simp; omega)]
        show (if (kL x.f0).before (kL y.f0) = true then _ else _) = _
        rw [before_kL, if_neg (by simpa using hlt), ih h2]
        rfl
theorem mem_putL {x y : Mem} : ∀ {l : List Mem}, y ∈ putL x l → y = x ∨ y ∈ l
  | [], h => by simp [putL] at h; exact Or.inl h
  | z :: r, h => by
    unfold putL at h
    split at h
    · rcases List.mem_cons.1 h with h | h
      · exact Or.inl h
      · exact Or.inr h
    · split at h
      · rcases List.mem_cons.1 h with h | h
        · exact Or.inl h
        · exact Or.inr (List.mem_cons_of_mem _ h)
      · rcases List.mem_cons.1 h with h | h
        · exact Or.inr (by simp [h])
        · rcases mem_putL h with h | h
          · exact Or.inl h
          · exact Or.inr (List.mem_cons_of_mem _ h)
theorem rises_put {l : List Mem} (h : Rises l) (x : Mem) : Rises (putL x l) := by
  induction l with
  | nil => simp [putL, Rises]
  | cons y r ih =>
    obtain ⟨h1, h2⟩ := List.pairwise_cons.1 h
    unfold putL
    split
    · rename_i hlt
      exact List.pairwise_cons.2 ⟨fun z hz => by rcases List.mem_cons.1 hz with rfl | hz; exact hlt; exact Int.lt_trans hlt (h1 z hz), h⟩
    · split
      · rename_i he
        exact List.pairwise_cons.2 ⟨fun z hz => by rw [he]; exact h1 z hz, h2⟩
      · rename_i hlt hne
        exact List.pairwise_cons.2 ⟨fun z hz => by rcases mem_putL hz with rfl | hz; omega; exact h1 z hz, ih h2⟩
theorem get_mem {l : List Mem} {a : Int} {x : Mem} (h : getL l a = some x) : x ∈ l ∧ x.f0 = a := by
  unfold getL at h
  have h1 := List.find?_some h
  exact ⟨List.mem_of_find?_eq_some h, by simpa using h1⟩
theorem get_of {l : List Mem} (h : Rises l) {x : Mem} (hx : x ∈ l) : getL l x.f0 = some x := by
  induction l with
  | nil => cases hx
  | cons y r ih =>
    obtain ⟨h1, h2⟩ := List.pairwise_cons.1 h
    unfold getL
    rcases List.mem_cons.1 hx with rfl | hx
    · simp
    · have h3 := h1 x hx
      rw [List.find?_cons_of_neg (by simp; omega)]
      exact ih h2 hx
theorem length_putL {l : List Mem} (h : Rises l) (x : Mem) : (putL x l).length = if (getL l x.f0).isSome then l.length else l.length + 1 := by
  induction l with
  | nil => rfl
  | cons y r ih =>
    obtain ⟨h1, h2⟩ := List.pairwise_cons.1 h
    unfold putL getL
    by_cases hlt : x.f0 < y.f0
    · rw [if_pos hlt, List.find?_eq_none.2, if_neg (by simp)]
      · rfl
      · intro z hz
        rcases List.mem_cons.1 hz with rfl | hz
        · simp; omega
        · have := h1 z hz
          simp; omega
    · rw [if_neg hlt]
      by_cases he : x.f0 = y.f0
      · rw [if_pos he, List.find?_cons_of_pos (by simp [he])]
        simp
      · rw [if_neg he, List.find?_cons_of_neg (by simp; omega)]
        have := ih h2
        unfold getL at this
        simp only [List.length_cons, this]
        split <;> rfl
theorem getL_cons (y : Mem) (r : List Mem) (a : Int) : getL (y :: r) a = if y.f0 = a then some y else getL r a := by
  unfold getL
  rw [List.find?_cons]
  by_cases h : y.f0 = a
  · simp [h]
  · have hb : (y.f0 == a) = false := beq_eq_false_iff_ne.2 h
    rw [hb, if_neg h]
theorem get_put {l : List Mem} (h : Rises l) (x : Mem) (a : Int) : getL (putL x l) a = if x.f0 = a then some x else getL l a := by
  induction l with
  | nil => unfold putL; rw [getL_cons]
  | cons y r ih =>
    obtain ⟨h1, h2⟩ := List.pairwise_cons.1 h
    have ih := ih h2
    unfold putL
    by_cases hlt : x.f0 < y.f0
    · rw [if_pos hlt, getL_cons]
    · rw [if_neg hlt]
      by_cases he : x.f0 = y.f0
      · rw [if_pos he, getL_cons, getL_cons]
        by_cases hx : x.f0 = a
        · rw [if_pos hx, if_pos hx]
        · rw [if_neg hx, if_neg hx, if_neg (by omega)]
      · rw [if_neg he, getL_cons, getL_cons, ih]
        by_cases hy : y.f0 = a
        · rw [if_pos hy, if_pos hy, if_neg (by omega)]
        · rw [if_neg hy, if_neg hy]
/-! a map that has as many entries as it says -/
theorem owns_tight {H : Type} {P : Program} {k : TypeId} {R : Value → Option (DataW H × List MemPlace)} {w : World} {b n : Nat} {D : DataW H} (h : w.ownsMap P k R b n D) : w.ownsMap P k R b (size D) D := by
  obtain ⟨es, clock, hb, F, hs, rfl⟩ := h
  refine ⟨es, clock, hb, F, ?_, rfl⟩
  rw [Maps.size_eq, length_sorted, List.length_map]
  simp
theorem keyed : Keyed Try.prog 31 := int_keyed Try.underlying31
theorem key_of {a : Int} (h0 : 0 ≤ a) (h1 : a ≤ 4294967295) : keyOf Try.prog 31 (.int .u32 a) = some (kL a) := keyOf_int_mk Try.underlying31 (by
  have e1 : IntKind.u32.min = 0 := by decide
  have e2 : IntKind.u32.max = 4294967295 := by decide
  simp [Lit.wf, e1, e2]
  omega)
/-- a view in memory: its block g, its map's block b, its members -/
structure Vw (w : World) (g b : Nat) (l : List Mem) : Prop where
  box : w.heap[g]? = some (.cells #[.map (some b)] 77 (0, 0))
  map : w.ownsMap Try.prog 31 memR b l.length (ent l)
  ord : Rises l
  wf : ∀ x ∈ l, 0 ≤ x.f0 ∧ x.f0 ≤ 4294967295
theorem Vw.ltg {w : World} {g b : Nat} {l : List Mem} (h : Vw w g b l) : g < w.heap.size := blk_lt h.box
theorem Vw.ltb {w : World} {g b : Nat} {l : List Mem} (h : Vw w g b l) : b < w.heap.size := h.map.lt
theorem Vw.ne {w : World} {g b : Nat} {l : List Mem} (h : Vw w g b l) : g ≠ b := by
  intro e
  obtain ⟨es, clock, hb, _⟩ := h.map
  rw [← e, h.box] at hb
  cases hb
theorem Vw.kept {w w' : World} {g b : Nat} {l : List Mem} (h : Vw w g b l) {row : Option Nat} (hg : w.grownBy w' row) (h1 : some g ≠ row) (h2 : some b ≠ row) : Vw w' g b l :=
  ⟨(hg.block g h.ltg h1).trans h.box, h.map.kept hg h2, h.ord, h.wf⟩
theorem Vw.below {w w' : World} {g b : Nat} {l : List Mem} (h : Vw w g b l) (hb : Below w.heap.size w w') : Vw w' g b l :=
  h.kept (row := none) ⟨hb.os, hb.tape, hb.output, hb.size, fun i hi _ => hb.block i hi⟩ (by simp) (by simp)
theorem Vw.cell {w : World} {g b : Nat} {l : List Mem} (h : Vw w g b l) : w.cell? ⟨g, 0, none⟩ = some (.map (some b)) := (blk_cell h.box 0).trans rfl
end Go.Proofs.Ytihmblbnnhcdnaa.Print
