/- few, as a law; a view of members, begun at the first. -/
import Derived.Test.YtognmibankcefaaXOrdM
namespace Go.Proofs.Ytognmibankcefaa.Print
open Go.RowKit Go.Maps Go.ChangeMaps Go.Proofs.YtognmibankcefaaW.PrintWords Go.Proofs.YtognmibankcefaaW.PrintLast Go.Proofs.YtognmibankcefaaW.PrintMore
set_option linter.unusedVariables false
set_option linter.unusedSimpArgs false
def adr (l : List Mem) (i : Nat) : Int := (l.getD i z25).f0
def newTo (l : List Mem) (i q : Nat) : Bool := (List.range q).all (fun j => adr l j != adr l i)
def cnt (l : List Mem) : Nat → Nat
  | 0 => 0
  | i + 1 => cnt l i + if newTo l i i = true then 1 else 0
theorem cnt_succ (l : List Mem) (i : Nat) : cnt l (i + 1) = cnt l i + if newTo l i i = true then 1 else 0 := rfl
theorem cnt_le (l : List Mem) : ∀ i, cnt l i ≤ i
  | 0 => Nat.le_refl _
  | i + 1 => by have := cnt_le l i; unfold cnt; split <;> omega
theorem cnt_bound (l : List Mem) : ∀ i (L : List Mem), Rises L → (∀ y ∈ L, ∃ j, j < i ∧ adr l j = y.f0) → L.length ≤ cnt l i
  | 0, L, _, h => by
    cases L with
    | nil => exact Nat.le_refl _
    | cons y r => obtain ⟨j, hj, _⟩ := h y (by simp); omega
  | i + 1, L, hR, h => by
    unfold cnt
    by_cases hn : newTo l i i = true
    · rw [if_pos hn]
      have h1 := cnt_bound l i (L.filter (fun y => y.f0 != adr l i)) (List.Pairwise.filter _ hR) (fun y hy => by
        obtain ⟨hy1, hy2⟩ := List.mem_filter.1 hy
        obtain ⟨j, hj, e⟩ := h y hy1
        refine ⟨j, ?_, e⟩
        have : y.f0 ≠ adr l i := by simpa using hy2
        rcases Nat.lt_or_ge j i with hlt | hge
        · exact hlt
        · exfalso
          have : j = i := by omega
          subst this
          exact this e.symm)
      have h2 : ∀ (L : List Mem), Rises L → L.length ≤ (L.filter (fun y => y.f0 != adr l i)).length + 1 := fun L hR => by
        induction L with
        | nil => simp
        | cons y r ih =>
          obtain ⟨h3, h4⟩ := List.pairwise_cons.1 hR
          by_cases e : y.f0 = adr l i
          · have : r.filter (fun y => y.f0 != adr l i) = r := List.filter_eq_self.2 (fun z hz => by have := h3 z hz; simp; omega)
            rw [List.filter_cons_of_neg (by simp [e]), this]
            simp
          · rw [List.filter_cons_of_pos (by simp [e])]
            have := ih h4
            simp only [List.length_cons]
            omega
      have := h2 L hR
      omega
    · rw [if_neg hn]
      refine cnt_bound l i L hR (fun y hy => ?_)
      obtain ⟨j, hj, e⟩ := h y hy
      rcases Nat.lt_or_ge j i with hlt | hge
      · exact ⟨j, hlt, e⟩
      · have hji : j = i := by omega
        subst hji
        unfold newTo at hn
        rw [List.all_eq_true] at hn
        obtain ⟨q, hq⟩ := Classical.not_forall.1 hn
        obtain ⟨hq1, hq2⟩ := Classical.not_imp.1 hq
        exact ⟨q, List.mem_range.1 hq1, by rw [← e]; simpa using hq2⟩
theorem few_of (l : List Mem) (h : cnt l l.length ≤ 32) : FewP l := fun L hR hL => by
  have := cnt_bound l l.length L hR (fun y hy => by
    obtain ⟨z, hz, e⟩ := hL y hy
    obtain ⟨j, hj, ez⟩ := List.getElem_of_mem hz
    refine ⟨j, hj, ?_⟩
    unfold adr
    rw [List.getD_eq_getElem?_getD, List.getElem?_eq_getElem hj, ← e, ← ez]
    rfl)
  omega
theorem rd_adr (l : List Mem) (i : Nat) : (rd_T25 l (i : Int)).f0 = adr l i := by unfold rd_T25 adr; rw [Int.toNat_natCast]
theorem wrap_ok {n : Int} (h0 : -9223372036854775808 ≤ n) (h1 : n ≤ 9223372036854775807) : wrap64 n = n := by unfold wrap64; omega
theorem newTo_succ (l : List Mem) (i q : Nat) : newTo l i (q + 1) = (newTo l i q && (adr l q != adr l i)) := by unfold newTo; rw [List.range_succ, List.all_append]; simp
theorem few_l1 (l : List Mem) (hl : l.length ≤ 1000000) (i : Nat) (hi : i < l.length) (r : Bool) (h : Ev (fun k => hearsaylaw17_few.l0 k l (cnt l (i + 1)) ((i + 1 : Nat) : Int)) r) (d : Nat) : ∀ q, i - q ≤ d → q ≤ i →
    Ev (fun k => hearsaylaw17_few.l1 k l (cnt l i) (i : Int) (newTo l i q) (q : Int)) r := by
  have hc := cnt_le l i
  have fin : Ev (fun k => hearsaylaw17_few.l1 k l (cnt l i) (i : Int) (newTo l i i) (i : Int)) r := by
    refine Ev.step (fun k => ?_) h
    simp only [hearsaylaw17_few.l1]
    rw [if_neg (by omega)]
    rw [cnt_succ]
    cases hn : newTo l i i with
    | true =>
      rw [if_pos rfl, if_pos rfl, wrap_ok (by omega) (by omega), wrap_ok (by omega) (by omega)]
      rfl
    | false =>
      rw [if_neg (by simp), if_neg (by simp), wrap_ok (by omega) (by omega)]
      rfl
  induction d with
  | zero =>
    intro q hd hq
    have : q = i := by omega
    subst this
    exact fin
  | succ d ih =>
    intro q hd hq
    by_cases hlt : q < i
    · refine Ev.step (fun k => ?_) (ih (q + 1) (by omega) (by omega))
      simp only [hearsaylaw17_few.l1]
      rw [if_pos (by omega), newTo_succ, wrap_ok (by omega) (by omega)]
      cases hn : newTo l i q with
      | true =>
        rw [if_pos rfl, if_pos (by omega), if_pos (by omega), if_pos (by omega), if_pos (by omega), rd_adr, rd_adr]
        rfl
      | false =>
        rw [if_neg (by simp)]
        rfl
    · exact ih q (by omega) hq
theorem few_l0 (l : List Mem) (hl : l.length ≤ 1000000) (d : Nat) : ∀ i, l.length - i ≤ d → i ≤ l.length → Ev (fun k => hearsaylaw17_few.l0 k l (cnt l i) (i : Int)) (decide ((cnt l l.length : Int) ≤ 32)) := by
  have fin : Ev (fun k => hearsaylaw17_few.l0 k l (cnt l l.length) (l.length : Int)) (decide ((cnt l l.length : Int) ≤ 32)) := by
    refine Ev.step (f := fun _ => some (decide ((cnt l l.length : Int) ≤ 32))) (fun k => ?_) (Ev.now _)
    simp only [hearsaylaw17_few.l0]
    rw [if_neg (by omega)]
  induction d with
  | zero =>
    intro i hd hi
    have : i = l.length := by omega
    subst this
    exact fin
  | succ d ih =>
    intro i hd hi
    by_cases hlt : i < l.length
    · refine Ev.step (fun k => ?_) (few_l1 l hl i hlt _ (ih (i + 1) (by omega) (by omega)) i 0 (by omega) (by omega))
      simp only [hearsaylaw17_few.l0]
      rw [if_pos (by omega)]
      rfl
    · exact ih i (by omega) hi
theorem few_law (l : List Mem) (hl : l.length ≤ 1000000) : ∃ k r, hearsaylaw17_few.f k l = some r ∧ (r = true → FewP l) := by
  obtain ⟨K, hK⟩ := few_l0 l hl l.length 0 (by omega) (by omega)
  refine ⟨K, _, hK K (Nat.le_refl _), fun h => few_of l ?_⟩
  have := of_decide_eq_true h
  omega
end Go.Proofs.Ytognmibankcefaa.Print
