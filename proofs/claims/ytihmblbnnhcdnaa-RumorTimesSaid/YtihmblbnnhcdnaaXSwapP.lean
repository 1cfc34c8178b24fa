/- A row of rumors after a swap, plain. -/
import Derived.Test.YtihmblbnnhcdnaaXHo
namespace Go.Proofs.Ytihmblbnnhcdnaa.Print
open Go.RowKit Go.Maps Go.ChangeMaps Go.Proofs.YtihmblbnnhcdnaaW.PrintWords Go.Proofs.YtihmblbnnhcdnaaW.PrintLast Go.Proofs.YtihmblbnnhcdnaaW.PrintMore
set_option linter.unusedVariables false
set_option linter.unusedSimpArgs false
theorem one_put {w : World} {b : Nat} {o : One} {x : Int} (h : w.heap[b]? = some (.cells (oneC o x) 66 (0, 0))) (y : Int) : (w.setCell ⟨b, 6, none⟩ (.int .i64 y)).heap[b]? = some (.cells (oneC o y) 66 (0, 0)) := blk_put h 6 _ rfl
def swapH (hs : Hs) (i j : Nat) (x y : Nat × One) : Hs := (hs.set i y).set j x
theorem swap_map (hs : Hs) (i j : Nat) (x y : Nat × One) : (swapH hs i j x y).map (·.1) = ((hs.map (·.1)).set i y.1).set j x.1 := by unfold swapH; rw [List.map_set, List.map_set]
theorem swap_perm {hs : Hs} {i j : Nat} {x y : Nat × One} (hi : hs[i]? = some x) (hj : hs[j]? = some y) : (swapH hs i j x y).Perm hs := by
  obtain ⟨hil, ei⟩ := List.getElem?_eq_some_iff.1 hi
  obtain ⟨hjl, ej⟩ := List.getElem?_eq_some_iff.1 hj
  unfold swapH
  rw [← ei, ← ej]
  exact List.set_set_perm hil hjl
theorem swap_len (hs : Hs) (i j : Nat) (x y : Nat × One) : (swapH hs i j x y).length = hs.length := by unfold swapH; simp
set_option maxHeartbeats 8000000 in
/-- the row after a swap -/
theorem Ho.swap {w : World} {r c : Nat} {hs : Hs} {i j bi bj : Nat} {oi oj : One} (h : Ho w (.slice (some ⟨r, 0, none⟩) hs.length c) hs) (hi : hs[i]? = some (bi, oi)) (hj : hs[j]? = some (bj, oj)) :
    Ho (((((w.setCell ⟨r, i, none⟩ (.pointer (some ⟨bj, 0, none⟩))).setCell ⟨r, j, none⟩ (.pointer (some ⟨bi, 0, none⟩))).drew).setCell ⟨bj, 6, none⟩ (.int .i64 i)).setCell ⟨bi, 6, none⟩ (.int .i64 j)) (.slice (some ⟨r, 0, none⟩) hs.length c) (swapH hs i j (bi, oi) (bj, oj)) := by
  have hrow := h.row
  have hil : i < hs.length := (List.getElem?_eq_some_iff.1 hi).1
  have hjl : j < hs.length := (List.getElem?_eq_some_iff.1 hj).1
  have hbi := h.one _ _ _ hi
  have hbj := h.one _ _ _ hj
  have hrt : ∃ cells, w.heap[r]? = some (.cells cells 62 (0, 0)) := Kd.R_typed hrow r (by simp [Value.ownBlock])
  obtain ⟨cr, hcr⟩ := hrt
  have nbi : bi ≠ r := blk_ne hbi hcr (by decide)
  have nbj : bj ≠ r := blk_ne hbj hcr (by decide)
  have h1 := (Kd.R_put (by rw [List.length_map]; exact hrow) (i : Int) bj).1
  rw [Int.toNat_natCast] at h1
  have h2 := (Kd.R_put (by rw [List.length_set]; exact h1) (j : Int) bi).1
  rw [Int.toNat_natCast, List.length_set, List.length_map] at h2
  have h3 := Kd.R_drew h2
  have h4 := Kd.R_far (p := ⟨bj, 6, none⟩) (ok := fun k => k = r) ⟨fun k hk => by simpa [Value.ownBlock] using hk.symm, h3.2.imp_ (fun _ _ hp => hp)⟩ (fun k hk => by subst hk; exact fun e => nbj e.symm) (.int .i64 i)
  have h5 := Kd.R_far (p := ⟨bi, 6, none⟩) h4 (fun k hk => by subst hk; exact fun e => nbi e.symm) (.int .i64 j)
  refine ⟨?_, ?_, ?_⟩
  · rw [swap_map]
    exact Kd.R_mono h5 (fun _ _ => trivial)
  · intro k b o hk
    unfold swapH at hk
    have far : ∀ (b : Nat) (o : One) (x : Int), b ≠ r → w.heap[b]? = some (.cells (oneC o x) 66 (0, 0)) → (((w.setCell ⟨r, i, none⟩ (.pointer (some ⟨bj, 0, none⟩))).setCell ⟨r, j, none⟩ (.pointer (some ⟨bi, 0, none⟩))).drew).heap[b]? = some (.cells (oneC o x) 66 (0, 0)) := fun b o x hne hb =>
      blk_below (blk_far (blk_far hb hne _) hne _) (below_drew1 (Below.refl _ _))
    have inj : ∀ (k : Nat) (p : Nat × One), hs[k]? = some p → p.1 = bi → k = i := fun k p hp e => by
      have a1 : (hs.map (·.1))[k]? = some bi := by rw [List.getElem?_map, hp]; exact congrArg some e
      have a2 : (hs.map (·.1))[i]? = some bi := by rw [List.getElem?_map, hi]; rfl
      exact (List.getElem?_inj (by rw [List.length_map]; exact (List.getElem?_eq_some_iff.1 hp).1) h.nod).1 (a1.trans a2.symm)
    have injj : ∀ (k : Nat) (p : Nat × One), hs[k]? = some p → p.1 = bj → k = j := fun k p hp e => by
      have a1 : (hs.map (·.1))[k]? = some bj := by rw [List.getElem?_map, hp]; exact congrArg some e
      have a2 : (hs.map (·.1))[j]? = some bj := by rw [List.getElem?_map, hj]; rfl
      exact (List.getElem?_inj (by rw [List.length_map]; exact (List.getElem?_eq_some_iff.1 hp).1) h.nod).1 (a1.trans a2.symm)
    by_cases hij : i = j
    · subst hij
      rw [hi] at hj
      injection hj with hj
      injection hj with e1 e2
      subst e1
      subst e2
      rw [List.set_set] at hk
      by_cases hki : k = i
      · subst hki
        rw [List.getElem?_set_self hil] at hk
        injection hk with hk
        injection hk with e1 e2
        subst e1
        subst e2
        exact one_put (one_put (far _ _ _ nbi hbi) _) _
      · rw [List.getElem?_set_ne (by omega)] at hk
        have hb := h.one _ _ _ hk
        have hne : b ≠ bi := fun e => hki (inj k _ hk e)
        have hbr : b ≠ r := blk_ne hb hcr (by decide)
        exact blk_far (blk_far (far _ _ _ hbr hb) hne _) hne _
    · have hbb : bi ≠ bj := fun e => hij (injj i (bi, oi) hi e)
      by_cases hkj : k = j
      · subst hkj
        rw [List.getElem?_set_self (by rw [List.length_set]; exact hjl)] at hk
        injection hk with hk
        injection hk with e1 e2
        subst e1
        subst e2
        exact one_put (blk_far (far _ _ _ nbi hbi) hbb _) _
      · rw [List.getElem?_set_ne (by omega)] at hk
        by_cases hki : k = i
        · subst hki
          rw [List.getElem?_set_self hil] at hk
          injection hk with hk
          injection hk with e1 e2
          subst e1
          subst e2
          exact blk_far (one_put (far _ _ _ nbj hbj) _) (fun e => hbb e.symm) _
        · rw [List.getElem?_set_ne (by omega)] at hk
          have hb := h.one _ _ _ hk
          have hn1 : b ≠ bi := fun e => hki (inj k _ hk e)
          have hn2 : b ≠ bj := fun e => hkj (injj k _ hk e)
          have hbr : b ≠ r := blk_ne hb hcr (by decide)
          exact blk_far (blk_far (far _ _ _ hbr hb) hn2 _) hn1 _
  · exact (((swap_perm hi hj).map (·.1)).nodup_iff).2 h.nod
theorem swap_cells {w : World} {r c : Nat} {hs : Hs} {i j bi bj : Nat} {oi oj : One} (h : Ho w (.slice (some ⟨r, 0, none⟩) hs.length c) hs) (hi : hs[i]? = some (bi, oi)) (hj : hs[j]? = some (bj, oj)) :
    ((w.setCell ⟨r, i, none⟩ (.pointer (some ⟨bj, 0, none⟩))).cell? ⟨r, j, none⟩ = some (.pointer (some ⟨bj, 0, none⟩)) ∧ (w.setCell ⟨r, i, none⟩ (.pointer (some ⟨bj, 0, none⟩))).frozen? ⟨r, j, none⟩ = false) ∧
    ((w.setCell ⟨r, i, none⟩ (.pointer (some ⟨bj, 0, none⟩))).setCell ⟨r, j, none⟩ (.pointer (some ⟨bi, 0, none⟩))).cell? ⟨r, i, none⟩ = some (.pointer (some ⟨bj, 0, none⟩)) ∧
    ((w.setCell ⟨r, i, none⟩ (.pointer (some ⟨bj, 0, none⟩))).setCell ⟨r, j, none⟩ (.pointer (some ⟨bi, 0, none⟩))).cell? ⟨r, j, none⟩ = some (.pointer (some ⟨bi, 0, none⟩)) := by
  have hil : i < hs.length := (List.getElem?_eq_some_iff.1 hi).1
  have hjl : j < hs.length := (List.getElem?_eq_some_iff.1 hj).1
  have hrow := h.row
  have h1 := (Kd.R_put (by rw [List.length_map]; exact hrow) (i : Int) bj).1
  rw [Int.toNat_natCast] at h1
  have h2 := (Kd.R_put (by rw [List.length_set]; exact h1) (j : Int) bi).1
  rw [Int.toNat_natCast] at h2
  obtain ⟨q0, f0⟩ := Kd.R_cell 0 (by rw [List.length_set]; exact h1) (j : Int) (by omega) (by rw [List.length_set, List.length_map]; omega)
  have q1 := (Kd.R_cell 0 (by rw [List.length_set]; exact h2) (i : Int) (by omega) (by rw [List.length_set, List.length_set, List.length_map]; omega)).1
  have q2 := (Kd.R_cell 0 (by rw [List.length_set]; exact h2) (j : Int) (by omega) (by rw [List.length_set, List.length_set, List.length_map]; omega)).1
  rw [Int.toNat_natCast] at q0 f0 q1 q2
  have e0 : rdOf 0 ((hs.map (·.1)).set i bj) (j : Int) = bj := by
    unfold rdOf
    rw [Int.toNat_natCast, List.getD_eq_getElem?_getD]
    by_cases hij : i = j
    · subst hij
      rw [List.getElem?_set_self (by rw [List.length_map]; exact hil)]
      rfl
    · rw [List.getElem?_set_ne hij, List.getElem?_map, hj]
      rfl
  have e1 : rdOf 0 (((hs.map (·.1)).set i bj).set j bi) (i : Int) = bj := by
    unfold rdOf
    rw [Int.toNat_natCast, List.getD_eq_getElem?_getD]
    by_cases hij : j = i
    · subst hij
      rw [hi] at hj
      injection hj with hj
      injection hj with e1 e2
      subst e1
      rw [List.getElem?_set_self (by rw [List.length_set, List.length_map]; exact hil)]
      rfl
    · rw [List.getElem?_set_ne hij, List.getElem?_set_self (by rw [List.length_map]; exact hil)]
      rfl
  have e2 : rdOf 0 (((hs.map (·.1)).set i bj).set j bi) (j : Int) = bi := by
    unfold rdOf
    rw [Int.toNat_natCast, List.getD_eq_getElem?_getD, List.getElem?_set_self (by rw [List.length_set, List.length_map]; exact hjl)]
    rfl
  rw [e0] at q0
  rw [e1] at q1
  rw [e2] at q2
  exact ⟨⟨q0, f0⟩, q1, q2⟩
end Go.Proofs.Ytihmblbnnhcdnaa.Print
