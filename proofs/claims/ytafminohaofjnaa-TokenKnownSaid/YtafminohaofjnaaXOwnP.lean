/- Rows of words that are written over: their heads, and how much room they have, stay. -/
import Derived.Test.YtafminohaofjnaaXReads
import Derived.Test.YtafminohaofjnaaXSame
namespace Go.Proofs.Ytafminohaofjnaa.Print
open Go.RowKit Go.Proofs.YtafminohaofjnaaW.PrintWords Go.Proofs.YtafminohaofjnaaW.PrintLast Go.Proofs.YtafminohaofjnaaW.PrintMore
set_option linter.unusedVariables false
set_option linter.unusedSimpArgs false
/-- where an entry's words lie, and how many there is room for -/
def hdrF (w : World) (g0 : Nat) (i : Nat) : Option Addr × Nat := match w.cell? ⟨g0, i * 3 + 2, none⟩ with
  | some (.slice A _ c) => (A, c)
  | _ => (none, 0)
def Hdr (w : World) (g0 lo hi : Nat) (F : Nat → Option Addr × Nat) (L : List S45) : Prop :=
  ∀ i x, L[i]? = some x → w.cell? ⟨g0, i * 3 + 2, none⟩ = some (.slice (F i).1 x.f2.length (F i).2) ∧ x.f2.length ≤ (F i).2 ∧ (F i).2 ≤ 9223372036854775807 ∧
    ((F i).2 = 0 ∨ ∃ g cells, (F i).1 = some ⟨g, 0, none⟩ ∧ g ≠ g0 ∧ lo ≤ g ∧ g < hi ∧ w.heap[g]? = some (.cells cells 23 (0, 0)) ∧ cells.size = (F i).2 * 4)
theorem hdr_of {w : World} {base : Nat} {ok : Nat → Prop} {g0 n cap : Nat} {L : List S45} (h : Kd.S k45 45 w base ok (.slice (some ⟨g0, 0, none⟩) n cap) L) : Hdr w g0 base w.heap.size (hdrF w g0) L := by
  intro i x hx
  have hn := (Kd.S_reads' h).1
  have hi : i < L.length := (List.getElem?_eq_some_iff.1 hx).1
  obtain ⟨c, hcl, hM, hcc⟩ := Kd.S_get h z45 (i : Int) (by omega) (by omega)
  have hxi : L.getD (i : Int).toNat z45 = x := by rw [Int.toNat_natCast, List.getD_eq_getElem?_getD, hx]; rfl
  rw [hxi] at hM
  obtain ⟨v2, rfl, hR⟩ := k45_openM hM
  have hc2 := hcc 2 _ rfl
  rw [Int.toNat_natCast] at hc2
  have ea : (⟨g0, 0, none⟩ : Addr).add (i * k45.sz + 2) = ⟨g0, i * 3 + 2, none⟩ := by
    show Addr.mk _ _ _ = _
    simp only [Nat.zero_add]; rfl
  rw [ea] at hc2
  obtain ⟨h0, inner, ho, hr⟩ := hR
  obtain ⟨hl, ho2⟩ := ho
  rcases ho2 with ⟨rfl, hz⟩ | ⟨g, cp, cur, rfl, hb, hh, hnc, hcm, hcs, ht⟩
  · have hF : hdrF w g0 i = (none, 0) := by unfold hdrF; rw [hc2]
    rw [hF, hc2, hz]
    exact ⟨rfl, Nat.le_refl _, by omega, Or.inl rfl⟩
  · have hF : hdrF w g0 i = (some ⟨g, 0, none⟩, cp) := by unfold hdrF; rw [hc2]
    rw [hF]
    refine ⟨hc2, hnc, hcm, Or.inr ⟨g, cur, rfl, ?_, hb, blk_lt hh, hh, hcs⟩⟩
    have := (h0 g (by simp [Value.ownBlock])).2
    intro he
    exact this (by rw [he]; simp [Value.ownBlock])
theorem Hdr.below {w w1 : World} {g0 lo hi : Nat} {F : Nat → Option Addr × Nat} {L : List S45} (h : Hdr w g0 lo hi F L) (hb : Below w.heap.size w w1) : Hdr w1 g0 lo hi F L := by
  intro i x hx
  obtain ⟨h1, h2, h3, h4⟩ := h i x hx
  have hlt := World.block_lt_of_cell? _ _ h1
  refine ⟨(hb.cell (p := ⟨g0, i * 3 + 2, none⟩) hlt).trans h1, h2, h3, ?_⟩
  rcases h4 with h4 | ⟨g, cells, e1, e2, e0, e3, e4, e5⟩
  · exact Or.inl h4
  · exact Or.inr ⟨g, cells, e1, e2, e0, e3, blk_below e4 hb, e5⟩
theorem Hdr.put {w : World} {g0 lo hi g j : Nat} {cs : Array Value} {F : Nat → Option Addr × Nat} {L : List S45} (h : Hdr w g0 lo hi F L) (hg : w.heap[g]? = some (.cells cs 23 (0, 0))) (hne : g ≠ g0) (u : Value) : Hdr (w.setCell ⟨g, j, none⟩ u) g0 lo hi F L := by
  intro i x hx
  obtain ⟨h1, h2, h3, h4⟩ := h i x hx
  refine ⟨(cell_far (p := ⟨g, j, none⟩) (fun he => hne he.symm) u).trans h1, h2, h3, ?_⟩
  rcases h4 with h4 | ⟨g', cells, e1, e2, e0, e3, e4, e5⟩
  · exact Or.inl h4
  · by_cases hgg : g' = g
    · subst hgg
      have hce : cells = cs := by
        have := e4.symm.trans hg
        injection this with this
        injection this
      subst hce
      exact Or.inr ⟨g', cells.setIfInBounds j u, e1, e2, e0, e3, blk_set hg j u, by rw [Array.size_setIfInBounds]; exact e5⟩
    · exact Or.inr ⟨g', cells, e1, e2, e0, e3, (Below.heap_setCell w ⟨g, j, none⟩ u g' hgg).trans e4, e5⟩
end Go.Proofs.Ytafminohaofjnaa.Print
