/- Swap of a row of rumors, walked. -/
import Derived.Test.YtihmblbnnhcdnaaXSwapP
namespace Go.Proofs.Ytihmblbnnhcdnaa.Print
open Go.RowKit Go.Maps Go.ChangeMaps Go.Proofs.YtihmblbnnhcdnaaW.PrintWords Go.Proofs.YtihmblbnnhcdnaaW.PrintLast Go.Proofs.YtihmblbnnhcdnaaW.PrintMore
set_option linter.unusedVariables false
set_option linter.unusedSimpArgs false
set_option maxHeartbeats 8000000 in
set_option maxRecDepth 100000 in
theorem swap_calls (w : World) (v : Value) (hs : Hs) (i j bi bj : Nat) (oi oj : One) (h : Ho w v hs) (hi : hs[i]? = some (bi, oi)) (hj : hs[j]? = some (bj, oj)) (hl : hs.length ≤ 1000000) :
    Calls Try.prog 87 #[v, .int .i64 i, .int .i64 j] w fun e w' => e = .returned (.tuple #[]) ∧ Ho w' v (swapH hs i j (bi, oi) (bj, oj)) ∧ Kp w w' (HoS v hs) := by
  obtain ⟨r, c, rfl, hcl, hcm, ci, fi, hr⟩ := h.at hi
  obtain ⟨r', c', e', _, _, cj, fj, _⟩ := h.at hj
  injection e' with e1 _ e2
  injection e1 with e1
  injection e1 with e1 _
  subst e1
  clear e2
  have hil : i < hs.length := (List.getElem?_eq_some_iff.1 hi).1
  have hjl : j < hs.length := (List.getElem?_eq_some_iff.1 hj).1
  have hd : Ho w.drew (.slice (some ⟨r, 0, none⟩) hs.length c) hs := h.below (below_drew1 (Below.refl _ _))
  have HSW := Aside0.mk (hd.swap hi hj)
  have HC0 : Aside0 (w.drew.cell? ⟨r, i, none⟩ = some (.pointer (some ⟨bi, 0, none⟩)) ∧ w.drew.cell? ⟨r, j, none⟩ = some (.pointer (some ⟨bj, 0, none⟩))) := ⟨⟨ci, cj⟩⟩
  have HD : Aside0 ((((w.drew.setCell ⟨r, i, none⟩ (.pointer (some ⟨bj, 0, none⟩))).setCell ⟨r, j, none⟩ (.pointer (some ⟨bi, 0, none⟩))).drew).cell? ⟨r, i, none⟩ = some (.pointer (some ⟨bj, 0, none⟩)) ∧ (((w.drew.setCell ⟨r, i, none⟩ (.pointer (some ⟨bj, 0, none⟩))).setCell ⟨r, j, none⟩ (.pointer (some ⟨bi, 0, none⟩))).drew).cell? ⟨r, j, none⟩ = some (.pointer (some ⟨bi, 0, none⟩))) := ⟨(swap_cells hd hi hj).2⟩
  have cj' := (swap_cells h hi hj).1.1
  have fj' := (swap_cells h hi hj).1.2
  have HKP : Aside0 (Kp w (((((w.drew.setCell ⟨r, i, none⟩ (.pointer (some ⟨bj, 0, none⟩))).setCell ⟨r, j, none⟩ (.pointer (some ⟨bi, 0, none⟩))).drew).setCell ⟨bj, 6, none⟩ (.int .i64 i)).setCell ⟨bi, 6, none⟩ (.int .i64 j)) (HoS (.slice (some ⟨r, 0, none⟩) hs.length c) hs)) := by
    refine ⟨(((Kp.trans (S := HoS (.slice (some ⟨r, 0, none⟩) hs.length c) hs) (((Kp.of (below_drew1 (Below.refl _ _))).set r i _ (fun _ => Or.inl rfl)).set r j _ (fun _ => Or.inl rfl)) (Kp.of (S := fun _ => False) (below_drew1 (Below.refl _ _))) (fun _ _ h => h.elim))).set bj 6 _ (fun _ => Or.inr ⟨(bj, oj), List.mem_of_getElem? hj, rfl⟩)).set bi 6 _ (fun _ => Or.inr ⟨(bi, oi), List.mem_of_getElem? hi, rfl⟩)⟩
  have hbi := h.one _ _ _ hi
  have hbj := h.one _ _ _ hj
  have zi : w.cell? ⟨bi, 6, none⟩ = some (.int .i64 i) := (blk_cell hbi 6).trans rfl
  have zj : w.cell? ⟨bj, 6, none⟩ = some (.int .i64 j) := (blk_cell hbj 6).trans rfl
  have gi := blk_frozen hbi 6
  have gj := blk_frozen hbj 6
  obtain ⟨cr, hcr⟩ : ∃ cells, w.heap[r]? = some (.cells cells 62 (0, 0)) := Kd.R_typed h.row r (by simp [Value.ownBlock])
  have nbi : bi ≠ r := blk_ne hbi hcr (by decide)
  have nbj : bj ≠ r := blk_ne hbj hcr (by decide)
  have lbi := blk_lt hbi
  have lbj := blk_lt hbj
  have HZ : Aside0 (((w.drew.setCell ⟨r, i, none⟩ (.pointer (some ⟨bj, 0, none⟩))).setCell ⟨r, j, none⟩ (.pointer (some ⟨bi, 0, none⟩))).heap[bi]? = some (.cells (oneC oi i) 66 (0, 0)) ∧ ((w.drew.setCell ⟨r, i, none⟩ (.pointer (some ⟨bj, 0, none⟩))).setCell ⟨r, j, none⟩ (.pointer (some ⟨bi, 0, none⟩))).heap[bj]? = some (.cells (oneC oj j) 66 (0, 0))) :=
    ⟨⟨blk_far (blk_far (blk_below hbi (below_drew1 (Below.refl _ _))) nbi _) nbi _, blk_far (blk_far (blk_below hbj (below_drew1 (Below.refl _ _))) nbj _) nbj _⟩⟩
  have h1 : (i : Int) < (hs.length : Int) := by omega
  have h2 : (j : Int) < (hs.length : Int) := by omega
  have hii : 0 ≤ (i : Int) := by omega
  have hjj : 0 ≤ (j : Int) := by omega
  clear h hi hj hd hbi hbj hcr
  go_enter Try.func87, Try.ntmps87
  go_upto_region 0 with (fail)
  refine start_ (n := 16) (S := (fun w' => w'.cell? ⟨r, i, none⟩ = some (.pointer (some ⟨bi, 0, none⟩)) ∧ w'.cell? ⟨r, j, none⟩ = some (.pointer (some ⟨bj, 0, none⟩)))) (ds := [13, 15]) #[false, false, false, false, false, false, false, false, false, false, false, false, false, false, false, false] (by kernel_rfl) rfl rfl ⟨HC0.out.1, HC0.out.2⟩ (fun hHeld => ?_)
  refine pure_ (i := 0) (N := some 6) (v := ?_) (a' := ?_) #[true, false, false, false, false, false, false, false, false, false, false, false, false, false, false, false] rfl rfl (by kernel_rfl) (fun _ _ _ h => h) (Or.inl ⟨by rfl, ?_⟩) ?_ ?_
  rotate_left
  · intro w'
    go_simp
    with_reducible rfl
  rotate_left
  · simp only [Act.put, List.setIfInBounds_toArray, List.set_cons_zero, List.set_cons_succ, i64_w, i32_w]
    rfl
  refine pure_ (i := 1) (N := some 7) (v := ?_) (a' := ?_) #[true, true, false, false, false, false, false, false, false, false, false, false, false, false, false, false] rfl rfl (by kernel_rfl) (fun _ _ _ h => h) (Or.inl ⟨by rfl, ?_⟩) ?_ ?_
  rotate_left
  · intro w'
    go_simp
    with_reducible rfl
  rotate_left
  · simp only [Act.put, List.setIfInBounds_toArray, List.set_cons_zero, List.set_cons_succ, i64_w, i32_w]
    rfl
  refine pure_ (i := 2) (N := some 8) (v := ?_) (a' := ?_) #[true, true, true, false, false, false, false, false, false, false, false, false, false, false, false, false] rfl rfl (by kernel_rfl) (fun _ _ _ h => h) (Or.inl ⟨by rfl, ?_⟩) ?_ ?_
  rotate_left
  · intro w'
    go_simp
    with_reducible rfl
  rotate_left
  · simp only [Act.put, List.setIfInBounds_toArray, List.set_cons_zero, List.set_cons_succ, i64_w, i32_w]
    rfl
  refine pure_ (i := 3) (N := some 9) (v := ?_) (a' := ?_) #[true, true, true, true, false, false, false, false, false, false, false, false, false, false, false, false] rfl rfl (by kernel_rfl) (fun _ _ _ h => h) (Or.inl ⟨by rfl, ?_⟩) ?_ ?_
  rotate_left
  · intro w'
    go_simp
    with_reducible rfl
  rotate_left
  · simp only [Act.put, List.setIfInBounds_toArray, List.set_cons_zero, List.set_cons_succ, i64_w, i32_w]
    rfl
  refine pure_ (i := 4) (N := some 10) (v := ?_) (a' := ?_) #[true, true, true, true, true, false, false, false, false, false, false, false, false, false, false, false] rfl rfl (by kernel_rfl) (fun _ _ _ h => h) (Or.inl ⟨by rfl, ?_⟩) ?_ ?_
  rotate_left
  · intro w'
    go_simp
    with_reducible rfl
  rotate_left
  · simp only [Act.put, List.setIfInBounds_toArray, List.set_cons_zero, List.set_cons_succ, i64_w, i32_w]
    rfl
  refine pure_ (i := 5) (N := some 11) (v := ?_) (a' := ?_) #[true, true, true, true, true, true, false, false, false, false, false, false, false, false, false, false] rfl rfl (by kernel_rfl) (fun _ _ _ h => h) (Or.inl ⟨by rfl, ?_⟩) ?_ ?_
  rotate_left
  · intro w'
    go_simp
    with_reducible rfl
  rotate_left
  · simp only [Act.put, List.setIfInBounds_toArray, List.set_cons_zero, List.set_cons_succ, i64_w, i32_w]
    rfl
  refine pure_ (i := 6) (N := some 12) (v := ?_) (a' := ?_) #[true, true, true, true, true, true, true, false, false, false, false, false, false, false, false, false] rfl rfl (by kernel_rfl) (fun _ _ _ h => h) (Or.inl ⟨by rfl, ?_⟩) ?_ ?_
  rotate_left
  · intro w'
    go_simp
    with_reducible rfl
  rotate_left
  · simp only [Act.put, List.setIfInBounds_toArray, List.set_cons_zero, List.set_cons_succ, i64_w, i32_w]
    rfl
  refine take_ (i := 7) (N := some 13) (v := ?_) (a' := ?_) #[true, true, true, true, true, true, true, true, false, false, false, false, false, false, false, false] rfl rfl (by kernel_rfl) (fun _ _ _ h => h) (Or.inl ⟨by rfl, ?_⟩) hHeld ?_ ?_
  rotate_left
  · rintro w' ⟨h0_, h1_⟩
    go_simp
    with_reducible rfl
  rotate_left
  · simp only [Act.put, List.setIfInBounds_toArray, List.set_cons_zero, List.set_cons_succ, i64_w, i32_w]
    rfl
  refine pure_ (i := 8) (N := some 14) (v := ?_) (a' := ?_) #[true, true, true, true, true, true, true, true, true, false, false, false, false, false, false, false] rfl rfl (by kernel_rfl) (fun _ _ _ h => h) (Or.inl ⟨by rfl, ?_⟩) ?_ ?_
  rotate_left
  · intro w'
    go_simp
    with_reducible rfl
  rotate_left
  · simp only [Act.put, List.setIfInBounds_toArray, List.set_cons_zero, List.set_cons_succ, i64_w, i32_w]
    rfl
  refine pure_ (i := 9) (N := some 15) (v := ?_) (a' := ?_) #[true, true, true, true, true, true, true, true, true, true, false, false, false, false, false, false] rfl rfl (by kernel_rfl) (fun _ _ _ h => h) (Or.inl ⟨by rfl, ?_⟩) ?_ ?_
  rotate_left
  · intro w'
    go_simp
    with_reducible rfl
  rotate_left
  · simp only [Act.put, List.setIfInBounds_toArray, List.set_cons_zero, List.set_cons_succ, i64_w, i32_w]
    rfl
  refine pure_ (i := 10) (N := some 16) (v := ?_) (a' := ?_) #[true, true, true, true, true, true, true, true, true, true, true, false, false, false, false, false] rfl rfl (by kernel_rfl) (fun _ _ _ h => h) (Or.inl ⟨by rfl, ?_⟩) ?_ ?_
  rotate_left
  · intro w'
    go_simp
    with_reducible rfl
  rotate_left
  · simp only [Act.put, List.setIfInBounds_toArray, List.set_cons_zero, List.set_cons_succ, i64_w, i32_w]
    rfl
  refine take_ (i := 11) (N := some 17) (v := ?_) (a' := ?_) #[true, true, true, true, true, true, true, true, true, true, true, true, false, false, false, false] rfl rfl (by kernel_rfl) (fun _ _ _ h => h) (Or.inl ⟨by rfl, ?_⟩) hHeld ?_ ?_
  rotate_left
  · rintro w' ⟨h0_, h1_⟩
    go_simp
    with_reducible rfl
  rotate_left
  · simp only [Act.put, List.setIfInBounds_toArray, List.set_cons_zero, List.set_cons_succ, i64_w, i32_w]
    rfl
  refine pure_ (i := 12) (N := some 18) (v := ?_) (a' := ?_) #[true, true, true, true, true, true, true, true, true, true, true, true, true, false, false, false] rfl rfl (by kernel_rfl) (fun _ _ _ h => h) (Or.inl ⟨by rfl, ?_⟩) ?_ ?_
  rotate_left
  · intro w'
    go_simp
    with_reducible rfl
  rotate_left
  · simp only [Act.put, List.setIfInBounds_toArray, List.set_cons_zero, List.set_cons_succ, i64_w, i32_w]
    rfl
  refine last_ (i := 13) (N := none) #[true, true, true, true, true, true, true, true, true, true, true, true, true, true, false, false] rfl rfl (by kernel_rfl) (by decide) (fun K hK => ?_)
  refine skip_ (w1 := w.drew.setCell ⟨r, i, none⟩ (.pointer (some ⟨bj, 0, none⟩))) (by rfl) rfl ?_ ?_
  · go_simp
    try with_reducible rfl
  refine hK.out _ _ ?_
  clear hK K
  refine pure_ (i := 14) (N := some 19) (v := ?_) (a' := ?_) #[true, true, true, true, true, true, true, true, true, true, true, true, true, true, true, false] rfl rfl (by kernel_rfl) (fun _ _ _ h => h) (Or.inl ⟨by rfl, ?_⟩) ?_ ?_
  rotate_left
  · intro w'
    go_simp
    with_reducible rfl
  rotate_left
  · simp only [Act.put, List.setIfInBounds_toArray, List.set_cons_zero, List.set_cons_succ, i64_w, i32_w]
    rfl
  refine last_ (i := 15) (N := none) #[true, true, true, true, true, true, true, true, true, true, true, true, true, true, true, true] rfl rfl (by kernel_rfl) (by decide) (fun K hK => ?_)
  refine skip_ (w1 := (w.drew.setCell ⟨r, i, none⟩ (.pointer (some ⟨bj, 0, none⟩))).setCell ⟨r, j, none⟩ (.pointer (some ⟨bi, 0, none⟩))) (by rfl) rfl ?_ ?_
  · go_simp
    try with_reducible rfl
  refine hK.out _ _ ?_
  clear hK K
  refine done_ (by kernel_rfl) ?_
  go_upto_region 1 with (fail)
  clear zi zj gi gj
  generalize (w.drew.setCell ⟨r, i, none⟩ (.pointer (some ⟨bj, 0, none⟩))).setCell ⟨r, j, none⟩ (.pointer (some ⟨bi, 0, none⟩)) = W1 at HSW HD HKP HZ ⊢
  clear ci cj fi fj cj' fj' nbi nbj lbi lbj
  have zi : W1.cell? ⟨bi, 6, none⟩ = some (.int .i64 i) := (blk_cell HZ.out.1 6).trans rfl
  have zj : W1.cell? ⟨bj, 6, none⟩ = some (.int .i64 j) := (blk_cell HZ.out.2 6).trans rfl
  have gi := blk_frozen HZ.out.1 6
  have gj := blk_frozen HZ.out.2 6
  have zi' : (W1.setCell ⟨bj, 6, none⟩ (.int .i64 i)).cell? ⟨bi, 6, none⟩ = some (.int .i64 i) := by
    by_cases e : bi = bj
    · subst e; exact (blk_cell (one_put HZ.out.1 i) 6).trans rfl
    · exact (blk_cell (blk_far HZ.out.1 e _) 6).trans rfl
  have gi' : (W1.setCell ⟨bj, 6, none⟩ (.int .i64 i)).frozen? ⟨bi, 6, none⟩ = false := by
    by_cases e : bi = bj
    · subst e; exact blk_frozen (one_put HZ.out.1 i) 6
    · exact blk_frozen (blk_far HZ.out.1 e _) 6
  refine start_ (n := 16) (S := (fun w' => w'.cell? ⟨r, i, none⟩ = some (.pointer (some ⟨bj, 0, none⟩)) ∧ w'.cell? ⟨r, j, none⟩ = some (.pointer (some ⟨bi, 0, none⟩)))) (ds := [12, 15]) #[false, false, false, false, false, false, false, false, false, false, false, false, false, false, false, false] (by kernel_rfl) rfl rfl ⟨HD.out.1, HD.out.2⟩ (fun hHeld => ?_)
  refine pure_ (i := 0) (N := some 20) (v := ?_) (a' := ?_) #[true, false, false, false, false, false, false, false, false, false, false, false, false, false, false, false] rfl rfl (by kernel_rfl) (fun _ _ _ h => h) (Or.inl ⟨by rfl, ?_⟩) ?_ ?_
  rotate_left
  · intro w'
    go_simp
    with_reducible rfl
  rotate_left
  · simp only [Act.put, List.setIfInBounds_toArray, List.set_cons_zero, List.set_cons_succ, i64_w, i32_w]
    rfl
  refine pure_ (i := 1) (N := some 21) (v := ?_) (a' := ?_) #[true, true, false, false, false, false, false, false, false, false, false, false, false, false, false, false] rfl rfl (by kernel_rfl) (fun _ _ _ h => h) (Or.inl ⟨by rfl, ?_⟩) ?_ ?_
  rotate_left
  · intro w'
    go_simp
    with_reducible rfl
  rotate_left
  · simp only [Act.put, List.setIfInBounds_toArray, List.set_cons_zero, List.set_cons_succ, i64_w, i32_w]
    rfl
  refine pure_ (i := 2) (N := some 22) (v := ?_) (a' := ?_) #[true, true, true, false, false, false, false, false, false, false, false, false, false, false, false, false] rfl rfl (by kernel_rfl) (fun _ _ _ h => h) (Or.inl ⟨by rfl, ?_⟩) ?_ ?_
  rotate_left
  · intro w'
    go_simp
    with_reducible rfl
  rotate_left
  · simp only [Act.put, List.setIfInBounds_toArray, List.set_cons_zero, List.set_cons_succ, i64_w, i32_w]
    rfl
  refine take_ (i := 3) (N := some 23) (v := ?_) (a' := ?_) #[true, true, true, true, false, false, false, false, false, false, false, false, false, false, false, false] rfl rfl (by kernel_rfl) (fun _ _ _ h => h) (Or.inl ⟨by rfl, ?_⟩) hHeld ?_ ?_
  rotate_left
  · rintro w' ⟨h0_, h1_⟩
    go_simp
    with_reducible rfl
  rotate_left
  · simp only [Act.put, List.setIfInBounds_toArray, List.set_cons_zero, List.set_cons_succ, i64_w, i32_w]
    rfl
  refine pure_ (i := 4) (N := some 24) (v := ?_) (a' := ?_) #[true, true, true, true, true, false, false, false, false, false, false, false, false, false, false, false] rfl rfl (by kernel_rfl) (fun _ _ _ h => h) (Or.inl ⟨by rfl, ?_⟩) ?_ ?_
  rotate_left
  · intro w'
    go_simp
    with_reducible rfl
  rotate_left
  · simp only [Act.put, List.setIfInBounds_toArray, List.set_cons_zero, List.set_cons_succ, i64_w, i32_w]
    rfl
  refine pure_ (i := 5) (N := some 25) (v := ?_) (a' := ?_) #[true, true, true, true, true, true, false, false, false, false, false, false, false, false, false, false] rfl rfl (by kernel_rfl) (fun _ _ _ h => h) (Or.inl ⟨by rfl, ?_⟩) ?_ ?_
  rotate_left
  · intro w'
    go_simp
    with_reducible rfl
  rotate_left
  · simp only [Act.put, List.setIfInBounds_toArray, List.set_cons_zero, List.set_cons_succ, i64_w, i32_w]
    rfl
  refine pure_ (i := 6) (N := some 26) (v := ?_) (a' := ?_) #[true, true, true, true, true, true, true, false, false, false, false, false, false, false, false, false] rfl rfl (by kernel_rfl) (fun _ _ _ h => h) (Or.inl ⟨by rfl, ?_⟩) ?_ ?_
  rotate_left
  · intro w'
    go_simp
    with_reducible rfl
  rotate_left
  · simp only [Act.put, List.setIfInBounds_toArray, List.set_cons_zero, List.set_cons_succ, i64_w, i32_w]
    rfl
  refine take_ (i := 7) (N := some 27) (v := ?_) (a' := ?_) #[true, true, true, true, true, true, true, true, false, false, false, false, false, false, false, false] rfl rfl (by kernel_rfl) (fun _ _ _ h => h) (Or.inl ⟨by rfl, ?_⟩) hHeld ?_ ?_
  rotate_left
  · rintro w' ⟨h0_, h1_⟩
    go_simp
    with_reducible rfl
  rotate_left
  · simp only [Act.put, List.setIfInBounds_toArray, List.set_cons_zero, List.set_cons_succ, i64_w, i32_w]
    rfl
  refine pure_ (i := 8) (N := some 28) (v := ?_) (a' := ?_) #[true, true, true, true, true, true, true, true, true, false, false, false, false, false, false, false] rfl rfl (by kernel_rfl) (fun _ _ _ h => h) (Or.inl ⟨by rfl, ?_⟩) ?_ ?_
  rotate_left
  · intro w'
    go_simp
    with_reducible rfl
  rotate_left
  · simp only [Act.put, List.setIfInBounds_toArray, List.set_cons_zero, List.set_cons_succ, i64_w, i32_w]
    rfl
  refine pure_ (i := 9) (N := some 29) (v := ?_) (a' := ?_) #[true, true, true, true, true, true, true, true, true, true, false, false, false, false, false, false] rfl rfl (by kernel_rfl) (fun _ _ _ h => h) (Or.inl ⟨by rfl, ?_⟩) ?_ ?_
  rotate_left
  · intro w'
    go_simp
    with_reducible rfl
  rotate_left
  · simp only [Act.put, List.setIfInBounds_toArray, List.set_cons_zero, List.set_cons_succ, i64_w, i32_w]
    rfl
  refine pure_ (i := 10) (N := some 30) (v := ?_) (a' := ?_) #[true, true, true, true, true, true, true, true, true, true, true, false, false, false, false, false] rfl rfl (by kernel_rfl) (fun _ _ _ h => h) (Or.inl ⟨by rfl, ?_⟩) ?_ ?_
  rotate_left
  · intro w'
    go_simp
    with_reducible rfl
  rotate_left
  · simp only [Act.put, List.setIfInBounds_toArray, List.set_cons_zero, List.set_cons_succ, i64_w, i32_w]
    rfl
  refine pure_ (i := 11) (N := some 31) (v := ?_) (a' := ?_) #[true, true, true, true, true, true, true, true, true, true, true, true, false, false, false, false] rfl rfl (by kernel_rfl) (fun _ _ _ h => h) (Or.inl ⟨by rfl, ?_⟩) ?_ ?_
  rotate_left
  · intro w'
    go_simp
    with_reducible rfl
  rotate_left
  · simp only [Act.put, List.setIfInBounds_toArray, List.set_cons_zero, List.set_cons_succ, i64_w, i32_w]
    rfl
  refine last_ (i := 12) (N := none) #[true, true, true, true, true, true, true, true, true, true, true, true, true, false, false, false] rfl rfl (by kernel_rfl) (by decide) (fun K hK => ?_)
  refine skip_ (w1 := W1.drew.setCell ⟨bj, 6, none⟩ (.int .i64 i)) (by rfl) rfl ?_ ?_
  · go_simp
    try with_reducible rfl
  refine hK.out _ _ ?_
  clear hK K
  refine pure_ (i := 13) (N := some 32) (v := ?_) (a' := ?_) #[true, true, true, true, true, true, true, true, true, true, true, true, true, true, false, false] rfl rfl (by kernel_rfl) (fun _ _ _ h => h) (Or.inl ⟨by rfl, ?_⟩) ?_ ?_
  rotate_left
  · intro w'
    go_simp
    with_reducible rfl
  rotate_left
  · simp only [Act.put, List.setIfInBounds_toArray, List.set_cons_zero, List.set_cons_succ, i64_w, i32_w]
    rfl
  refine pure_ (i := 14) (N := some 33) (v := ?_) (a' := ?_) #[true, true, true, true, true, true, true, true, true, true, true, true, true, true, true, false] rfl rfl (by kernel_rfl) (fun _ _ _ h => h) (Or.inl ⟨by rfl, ?_⟩) ?_ ?_
  rotate_left
  · intro w'
    go_simp
    with_reducible rfl
  rotate_left
  · simp only [Act.put, List.setIfInBounds_toArray, List.set_cons_zero, List.set_cons_succ, i64_w, i32_w]
    rfl
  refine last_ (i := 15) (N := none) #[true, true, true, true, true, true, true, true, true, true, true, true, true, true, true, true] rfl rfl (by kernel_rfl) (by decide) (fun K hK => ?_)
  refine skip_ (w1 := (W1.drew.setCell ⟨bj, 6, none⟩ (.int .i64 i)).setCell ⟨bi, 6, none⟩ (.int .i64 j)) (by rfl) rfl ?_ ?_
  · go_simp
    try with_reducible rfl
  refine hK.out _ _ ?_
  clear hK K
  refine done_ (by kernel_rfl) ?_
  try go_wp2
  first | go_end0 | go_ret
  exact ⟨rfl, HSW.out, HKP.out⟩
end Go.Proofs.Ytihmblbnnhcdnaa.Print
