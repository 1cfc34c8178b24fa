/- The reader's walk from its label 'between': parentheses. -/
import Derived.Test.YtafminohaofjnaaXRead5
namespace Go.Proofs.Ytafminohaofjnaa.Print
set_option linter.unusedVariables false
set_option linter.unusedSimpArgs false
open Go.RowKit Go.Proofs.YtafminohaofjnaaW.PrintWords Go.Proofs.YtafminohaofjnaaW.PrintLast Go.Proofs.YtafminohaofjnaaW.PrintMore Go.Proofs.Ytafminohaofjnaa.Jumps
theorem w64' {n : Int} (h0 : -9223372036854775808 ≤ n) (h1 : n ≤ 9223372036854775807) : wrap64 n = n := by unfold wrap64; omega
theorem world_lift {c : Code} {Q : Exit → Act → World → Prop} {a : Act} {W : World} (P1 : World → Prop) (h : P1 W) (H : ∀ W, P1 W → c.wp Try.prog Q a W) : c.wp Try.prog Q a W := H W h

set_option maxHeartbeats 8000000 in
set_option maxRecDepth 100000 in
theorem chain_open (w0 : World) (s : ByteArray) (R : Res) (g bx base : Nat) (hs : s.size ≤ 262144) (hgb : g < base) (hbx : bx < base) (hgx : g < bx) (m : Nat) (u : Nat → Value) (v4 : Value) (w : World) (p : Nat) (ops : List Nat) (p0 : Nat) (ws : List S23) (out : List S45) (hw0 : RW w0 s g bx base w p ops p0 ws out true) (hm : 3 * (s.size - p) + 1 ≤ m) (hp : p < s.size) (hc : bt s (p : Int) = 40) (hR : R = sp0 s p ops p0 ws out) :
    ∀ r, At2 Try.f25 0 r → r.wp Try.prog (Out w0 s R g bx base m) { tmps := Fr g bx v4 u, defers := [] } w := by
  obtain ⟨c0, c1, f1, hgl⟩ := hw0.cells
  have hw := hw0
  have he2 : ((p : Int) == (s.size : Int)) = false := beq_eq_false_iff_ne.2 (by omega)
  have hsb : (s.size : Int) ≤ 262144 := by omega
  have hx0 := bt_nat s p hp
  have i0 : (0 : Int) ≤ (p : Int) := by omega
  have i1 : (p : Int) < (s.size : Int) := by omega
  have HBL : Aside0 (token_blank.f (bt s (p : Int)) = some false) := ⟨by rw [tblank_f, hc]; rfl⟩
  have e0 : (bt s (p : Int) == 10) = false := beq_eq_false_iff_ne.2 (by omega)
  have e1 : (bt s (p : Int) == 59) = false := beq_eq_false_iff_ne.2 (by omega)
  have e2 : (bt s (p : Int) == 40) = true := beq_iff_eq.2 hc
  have HW := Aside0.mk (fun a : Nat => (hw.drewN a).adv hp (by omega) hgx (x := (p : Int) + 1) (by omega))
  have HR := Aside0.mk (hR.trans (sp0_open_ hp hc))
  have hpl := pl_go hp (show bt s (p : Int) ≠ 10 by omega)
  have hpb := pl_bound (bytesOf s) p
  have hop := hw.ol
  clear hw0 hw hR hc
  refine find_wp2 rfl ?_
  unfold Fr
  go_wp2
  go_quiet (fail)
  go_wp2
  go_quiet (fail)
  go_wp2_with (first | (go_at_call 30; (with_reducible refine (token_blank.calls (bt s (p : Int)) _ _ HBL.out).mono ?_); rintro e_ w1 ⟨rfl, nd_, rfl⟩))
  refine world_lift (fun W => RW w0 s g bx base W (p + 1) ops p0 ws out true) ((HW.out _).drewN _) (fun w3 hw3 => ?_)
  obtain ⟨⟨bl, el, hr, hi, hj⟩, hbox, hbg, hle, hwl, htl, hol, hopl⟩ := hw3
  rw [hpl] at hr
  simp only at hr
  obtain ⟨⟨vo, vw, vt, hb, hO, hW, hT⟩, hlt, hsz⟩ := hr
  obtain ⟨A4, n4, rfl⟩ := Kd.R_slice hO
  have k4 : w3.cell? ⟨g, 4, none⟩ = some (.slice A4 (spots s ops).length n4) := (blk_cell hb 4).trans rfl
  have kf4 := blk_frozen hb 4
  have hg3 : g < w3.heap.size := blk_lt hb
  have HSP : Aside0 (Calls Try.prog 32 #[.pointer (some ⟨g, 0, none⟩), .int .i64 (p : Int)] w3.drew fun e w' => e = .returned (.agg #[.int .i64 (pl (bytesOf s) p).1, .int .i64 (pl (bytesOf s) p).2]) ∧ Below w3.drew.heap.size w3.drew w') := by
    have h := spot_calls w3.drew g s _ _ _ _ _ _ _ _ _ (p : Int) (blk_drew hb) (by omega) (by omega) (by omega)
    rw [show (p : Int) - (((p + 1 : Nat) : Int) - ((pl (bytesOf s) p).2 + 1) + 1) + 1 = (pl (bytesOf s) p).2 by omega] at h
    exact ⟨h⟩
  have hszd : base ≤ w3.drew.heap.size := hsz
  have HGd := Aside0.mk (blk_drew hb)
  have HOd := Aside0.mk (Kd.R_drew hO)
  have HWd := Aside0.mk (Kd.R_drew hW)
  have HTd := Aside0.mk (Kd.S_drew hT)
  have HXd := Aside0.mk (blk_drew hbox)
  have HBd := Aside0.mk (⟨below_drew1 hbg.b, fun i h1 h2 => hbg.k i h1 h2⟩ : Bg base g w0 w3.drew)
  have hcd : w3.drew.cell? ⟨g, 4, none⟩ = some (.slice A4 (spots s ops).length n4) := k4
  have HI := Aside0.mk (hi rfl)
  have hspl : (spots s ops).length = ops.length := by simp [spots]
  have HSL := Aside0.mk hspl
  clear hspl hb hO hW hT hbox hbg hi hj
  refine start_ (n := 13) (S := (fun w' => w'.cell? ⟨g, 4, none⟩ = some (.slice A4 (spots s ops).length n4))) (ds := [12]) #[false, false, false, false, false, false, false, false, false, false, false, false, false] (by kernel_rfl) rfl rfl hcd (fun hHeld => ?_)
  generalize w3.drew = wd at HGd HOd HWd HTd HBd HXd hszd HSP hcd hHeld ⊢
  refine pure_ (i := 0) (N := some 88) (v := ?_) (a' := ?_) #[true, false, false, false, false, false, false, false, false, false, false, false, false] rfl rfl (by kernel_rfl) (fun _ _ _ h => h) (Or.inl ⟨by rfl, ?_⟩) ?_ ?_
  rotate_left
  · intro w'
    go_simp
    with_reducible rfl
  rotate_left
  · simp only [Act.put, List.setIfInBounds_toArray, List.set_cons_zero, List.set_cons_succ, i64_w, i32_w]
    rfl
  refine pure_ (i := 1) (N := some 89) (v := ?_) (a' := ?_) #[true, true, false, false, false, false, false, false, false, false, false, false, false] rfl rfl (by kernel_rfl) (fun _ _ _ h => h) (Or.inl ⟨by rfl, ?_⟩) ?_ ?_
  rotate_left
  · intro w'
    go_simp
    with_reducible rfl
  rotate_left
  · simp only [Act.put, List.setIfInBounds_toArray, List.set_cons_zero, List.set_cons_succ, i64_w, i32_w]
    rfl
  refine pure_ (i := 2) (N := some 90) (v := ?_) (a' := ?_) #[true, true, true, false, false, false, false, false, false, false, false, false, false] rfl rfl (by kernel_rfl) (fun _ _ _ h => h) (Or.inl ⟨by rfl, ?_⟩) ?_ ?_
  rotate_left
  · intro w'
    go_simp
    with_reducible rfl
  rotate_left
  · simp only [Act.put, List.setIfInBounds_toArray, List.set_cons_zero, List.set_cons_succ, i64_w, i32_w]
    rfl
  refine pure_ (i := 3) (N := some 91) (v := ?_) (a' := ?_) #[true, true, true, true, false, false, false, false, false, false, false, false, false] rfl rfl (by kernel_rfl) (fun _ _ _ h => h) (Or.inl ⟨by rfl, ?_⟩) ?_ ?_
  rotate_left
  · intro w'
    go_simp
    with_reducible rfl
  rotate_left
  · simp only [Act.put, List.setIfInBounds_toArray, List.set_cons_zero, List.set_cons_succ, i64_w, i32_w]
    rfl
  refine take_ (i := 4) (N := some 92) (v := ?_) (a' := ?_) #[true, true, true, true, true, false, false, false, false, false, false, false, false] rfl rfl (by kernel_rfl) (fun _ _ _ h => h) (Or.inl ⟨by rfl, ?_⟩) hHeld ?_ ?_
  rotate_left
  · rintro w' h4
    go_simp
    with_reducible rfl
  rotate_left
  · simp only [Act.put, List.setIfInBounds_toArray, List.set_cons_zero, List.set_cons_succ, i64_w, i32_w]
    rfl
  refine pure_ (i := 5) (N := some 93) (v := ?_) (a' := ?_) #[true, true, true, true, true, true, false, false, false, false, false, false, false] rfl rfl (by kernel_rfl) (fun _ _ _ h => h) (Or.inl ⟨by rfl, ?_⟩) ?_ ?_
  rotate_left
  · intro w'
    go_simp
    with_reducible rfl
  rotate_left
  · simp only [Act.put, List.setIfInBounds_toArray, List.set_cons_zero, List.set_cons_succ, i64_w, i32_w]
    rfl
  refine pure_ (i := 6) (N := some 94) (v := ?_) (a' := ?_) #[true, true, true, true, true, true, true, false, false, false, false, false, false] rfl rfl (by kernel_rfl) (fun _ _ _ h => h) (Or.inl ⟨by rfl, ?_⟩) ?_ ?_
  rotate_left
  · intro w'
    go_simp
    with_reducible rfl
  rotate_left
  · simp only [Act.put, List.setIfInBounds_toArray, List.set_cons_zero, List.set_cons_succ, i64_w, i32_w]
    rfl
  refine one_ (i := 7) (N := some 95) #[true, true, true, true, true, true, true, true, false, false, false, false, false] rfl rfl (by kernel_rfl) (by decide) (fun K hK => ?_)
  refine goes_ Try.func32 (by kernel_rfl) rfl #[.pointer (some ⟨g, 0, none⟩), .int .i64 (p : Int)] (by rfl) rfl rfl (by (try simp only [List.map_toArray, List.map_cons, List.map_nil]); first | done | rfl) ?_
  (with_reducible refine (HSP.out).mono ?_)
  rintro e_ w4 ⟨rfl, hb4⟩
  have HG4 := Aside0.mk (blk_below HGd.out hb4)
  have HO4 := Aside0.mk (Kd.R_below HOd.out hb4)
  have HW4 := Aside0.mk (Kd.R_below HWd.out hb4)
  have HT4 := Aside0.mk (Kd.S_below HTd.out hb4)
  have HX4 := Aside0.mk (blk_below HXd.out hb4)
  have hs4 : base ≤ w4.heap.size := Nat.le_trans hszd hb4.size
  have HB4 := Aside0.mk (HBd.out.trans (Bg.of hb4 hszd (Nat.le_trans (Nat.le_of_lt hgb) hszd)))
  have h4c : w4.cell? ⟨g, 4, none⟩ = some (.slice A4 (spots s ops).length n4) := (blk_cell HG4.out 4).trans rfl
  clear hb4 HSP
  refine ⟨_, rfl, ?_⟩
  refine hK.out _ _ h4c (fun hHeld => ?_)
  clear hK K
  refine norm_ (a' := ?_) ?_ ?_
  rotate_left
  · show Act.put _ (some 95) _ = _
    simp only [Act.put, List.setIfInBounds_toArray, List.set_cons_zero, List.set_cons_succ, i64_w, i32_w]
    rfl
  refine one_ (i := 8) (N := some 96) #[true, true, true, true, true, true, true, true, true, false, false, false, false] rfl rfl (by kernel_rfl) (by decide) (fun K hK => ?_)
  refine value_ (v := .slice (some ⟨w4.heap.size, 0, none⟩) 1 1) (w1 := w4.alloc (.cells #[.int .i64 (pl (bytesOf s) p).1, .int .i64 (pl (bytesOf s) p).2] 30)) (by rfl) rfl ?_ ?_
  · go_simp
    try with_reducible rfl
  refine hK.out _ _ (pw_cell_below (below_alloc (Below.refl w4.heap.size w4) (.cells #[.int .i64 (pl (bytesOf s) p).1, .int .i64 (pl (bytesOf s) p).2] 30 (0, 0))) hHeld) (fun hHeld => ?_)
  clear hK K
  refine norm_ (a' := ?_) ?_ ?_
  rotate_left
  · show Act.put _ (some 96) _ = _
    simp only [Act.put, List.setIfInBounds_toArray, List.set_cons_zero, List.set_cons_succ, i64_w, i32_w]
    rfl
  refine one_ (i := 9) (N := some 97) #[true, true, true, true, true, true, true, true, true, true, false, false, false] rfl rfl (by kernel_rfl) (by decide) (fun K hK => ?_)
  refine Kd.R_append_step k30 (w0 := w4) base (by rfl) (.tmp 92) (.tmp 96) 62 30 (.agg #[(.int .i64 0), (.int .i64 0)]) 16 rfl Try.underlying62 info30 rfl (by decide) (by omega) _ (spots s ops) (⟨(pl (bytesOf s) p).1, (pl (bytesOf s) p).2⟩ : S30) [.int .i64 (pl (bytesOf s) p).1, .int .i64 (pl (bytesOf s) p).2] (fun k => base ≤ k) (fun _ => False) rfl rfl (k30_mkM _ _ _ (⟨(pl (bytesOf s) p).1, (pl (bytesOf s) p).2⟩ : S30)) (fun k hk => hk.elim) (fun k hk => Nat.le_trans hs4 hk) HO4.out (Below.refl _ _) hs4 (by rw [HSL.out]; omega) ?_
  intro v1 w5 ho hb5 hg5 hat
  rw [← spots_snoc] at ho
  have HW5 := Aside0.mk (Kd.R_over' HW4.out (Kd.R_typed HO4.out) (by decide) hg5)
  have HT5 := Aside0.mk (Kd.S_over' HT4.out (Kd.R_typed HO4.out) (by decide) hg5)
  have HG5 := Aside0.mk ((hb5.block g hgb).trans HG4.out)
  have HX5 := Aside0.mk ((hb5.block bx hbx).trans HX4.out)
  have HB5 := Aside0.mk (HB4.out.trans (Bg.of hb5 (Nat.le_refl base) (Nat.le_of_lt hgb)))
  have HO5 := Aside0.mk ho
  have hs5 : base ≤ w5.heap.size := Nat.le_trans hs4 hb5.size
  obtain ⟨A9, n9, rfl⟩ := Kd.R_slice HO5.out
  have d4 : w5.cell? ⟨g, 4, none⟩ = some (.slice A4 (spots s ops).length n4) := (blk_cell HG5.out 4).trans rfl
  have df4 := blk_frozen HG5.out 4
  have hg5l : g < w5.heap.size := blk_lt HG5.out
  obtain ⟨L9, hL9⟩ : ∃ L, spots s (ops ++ [p]) = L := ⟨_, rfl⟩
  rw [hL9] at HO5 ⊢
  have HL9 := Aside0.mk hL9
  clear ho hb5 hg5 hat hL9
  refine hK.out _ _ d4 (fun hHeld => ?_)
  clear hK K
  refine norm_ (a' := ?_) ?_ ?_
  rotate_left
  · show Act.put _ (some 97) _ = _
    simp only [Act.put, List.setIfInBounds_toArray, List.set_cons_zero, List.set_cons_succ, i64_w, i32_w]
    rfl
  refine pure_ (i := 10) (N := some 98) (v := ?_) (a' := ?_) #[true, true, true, true, true, true, true, true, true, true, true, false, false] rfl rfl (by kernel_rfl) (fun _ _ _ h => h) (Or.inl ⟨by rfl, ?_⟩) ?_ ?_
  rotate_left
  · intro w'
    go_simp
    with_reducible rfl
  rotate_left
  · simp only [Act.put, List.setIfInBounds_toArray, List.set_cons_zero, List.set_cons_succ, i64_w, i32_w]
    rfl
  refine pure_ (i := 11) (N := some 99) (v := ?_) (a' := ?_) #[true, true, true, true, true, true, true, true, true, true, true, true, false] rfl rfl (by kernel_rfl) (fun _ _ _ h => h) (Or.inl ⟨by rfl, ?_⟩) ?_ ?_
  rotate_left
  · intro w'
    go_simp
    with_reducible rfl
  rotate_left
  · simp only [Act.put, List.setIfInBounds_toArray, List.set_cons_zero, List.set_cons_succ, i64_w, i32_w]
    rfl
  refine last_ (i := 12) (N := none) #[true, true, true, true, true, true, true, true, true, true, true, true, true] rfl rfl (by kernel_rfl) (by decide) (fun K hK => ?_)
  refine skip_ (w1 := w5.setCell ⟨g, 4, none⟩ (.slice A9 L9.length n9)) (by rfl) rfl ?_ ?_
  · go_simp
    try with_reducible rfl
  refine hK.out _ _ ?_
  clear hK K
  refine done_ (by kernel_rfl) ?_
  go_wp2
  go_step3
  have K := (KeepBut.refl w5 g none).set_ 4 (.slice A9 L9.length n9)
  have e1 := Kd.R_keep HO5.out K (fun k hk => by omega)
  have e2 := Kd.R_keep HW5.out K (fun k hk => by omega)
  have e3 := Kd.S_keep HT5.out K (fun k hk => by omega)
  have e4 := blk_set HG5.out 4 (.slice A9 L9.length n9)
  have e5 := blk_far (p := ⟨g, 4, none⟩) HX5.out (by show bx ≠ g; omega) (.slice A9 L9.length n9)
  have e6 := HB5.out.set 4 (.slice A9 L9.length n9)
  have e7 := Nat.le_trans hs5 K.1
  have hfin : RW w0 s g bx base (w5.setCell ⟨g, 4, none⟩ (.slice A9 L9.length n9)) (p + 1) (ops ++ [p]) p0 ws out true := by
    generalize w5.setCell _ _ = WF at e1 e2 e3 e4 e5 e6 e7 ⊢
    rw [← HL9.out] at e1 e4
    have e8 : WF.heap[g]? = some (.cells (rcells s ((p + 1 : Nat) : Int) (pl (bytesOf s) p).1 (((p + 1 : Nat) : Int) - ((pl (bytesOf s) p).2 + 1) + 1) (.slice A9 (spots s (ops ++ [p])).length n9) bl el vw vt true) 64 (0, 0)) := e4
    have q4 : RS WF g base s ((p + 1 : Nat) : Int) (pl (bytesOf s) p).1 (((p + 1 : Nat) : Int) - ((pl (bytesOf s) p).2 + 1) + 1) (spots s (ops ++ [p])) bl el ws out true := ⟨⟨_, _, _, e8, e1, e2, e3⟩, hgb, e7⟩
    refine ⟨⟨bl, el, ?_, fun _ => HI.out, fun h => by cases h⟩, e5, e6, hle, hwl, htl, by rw [List.length_append, List.length_singleton]; omega, ?_⟩
    · rw [hpl]; exact q4
    · intro q hq
      rcases List.mem_append.1 hq with hq | hq
      · exact hopl q hq
      · simp at hq; omega
  refine jump_mk (l := 0) (v4 := .int .i64 (p : Int)) ?_ ?_ ?_ ?_ ?_ hfin HR.out (by show 3 * (s.size - (p + 1)) + 1 < m; omega) <;> rfl

/-- the place of the byte that was read last -/
theorem rw_spot {w0 w : World} {s : ByteArray} {g bx base p p0 : Nat} {ops : List Nat} {ws : List S23} {out : List S45} (hs : s.size ≤ 262144) (hgb : g < base) (hbx : bx < base) (hgx : g < bx) (hw : RW w0 s g bx base w (p + 1) ops p0 ws out true) (hp : p < s.size) (hc : bt s (p : Int) ≠ 10) :
    Calls Try.prog 32 #[.pointer (some ⟨g, 0, none⟩), .int .i64 (p : Int)] w fun e w' => e = .returned (.agg #[.int .i64 (pl (bytesOf s) p).1, .int .i64 (pl (bytesOf s) p).2]) ∧ Bg base g w0 w' ∧ w'.heap[bx]? = some (.cells #[.int .i64 0, .int .i64 0] 30 (0, 0)) := by
  obtain ⟨⟨bl, el, hr, hi, hj⟩, hbox, hbg, hle, hwl, htl, hol, hopl⟩ := hw
  have hpl := pl_go hp hc
  have hpb := pl_bound (bytesOf s) p
  rw [hpl] at hr
  simp only at hr
  obtain ⟨⟨vo, vw, vt, hb, hO, hW, hT⟩, hlt, hsz⟩ := hr
  refine (spot_calls w g s _ _ _ _ _ _ _ _ _ (p : Int) hb (by omega) (by omega) (by omega)).mono ?_
  rintro e w' ⟨he, hb'⟩
  rw [show (p : Int) - (((p + 1 : Nat) : Int) - ((pl (bytesOf s) p).2 + 1) + 1) + 1 = (pl (bytesOf s) p).2 by omega] at he
  exact ⟨he, hbg.trans (Bg.of hb' hsz (Nat.le_trans (Nat.le_of_lt hgb) hsz)), blk_below hbox hb'⟩

set_option maxHeartbeats 8000000 in
set_option maxRecDepth 100000 in
theorem chain_bad (w0 : World) (s : ByteArray) (R : Res) (g bx base : Nat) (hs : s.size ≤ 262144) (hgb : g < base) (hbx : bx < base) (hgx : g < bx) (m : Nat) (u : Nat → Value) (v4 : Value) (w : World) (p : Nat) (ops : List Nat) (p0 : Nat) (ws : List S23) (out : List S45) (hw0 : RW w0 s g bx base w p ops p0 ws out true) (hm : 3 * (s.size - p) + 1 ≤ m) (hp : p < s.size) (hc : bt s (p : Int) = 41) (ho : ops = []) (hR : R = sp0 s p ops p0 ws out) :
    ∀ r, At2 Try.f25 0 r → r.wp Try.prog (Out w0 s R g bx base m) { tmps := Fr g bx v4 u, defers := [] } w := by
  obtain ⟨c0, c1, f1, hgl⟩ := hw0.cells
  have hw := hw0
  have he2 : ((p : Int) == (s.size : Int)) = false := beq_eq_false_iff_ne.2 (by omega)
  have hsb : (s.size : Int) ≤ 262144 := by omega
  have hx0 := bt_nat s p hp
  have i0 : (0 : Int) ≤ (p : Int) := by omega
  have i1 : (p : Int) < (s.size : Int) := by omega
  have HBL : Aside0 (token_blank.f (bt s (p : Int)) = some false) := ⟨by rw [tblank_f, hc]; rfl⟩
  have e0 : (bt s (p : Int) == 10) = false := beq_eq_false_iff_ne.2 (by omega)
  have e1 : (bt s (p : Int) == 59) = false := beq_eq_false_iff_ne.2 (by omega)
  have e2 : (bt s (p : Int) == 40) = false := beq_eq_false_iff_ne.2 (by omega)
  have e3 : (bt s (p : Int) == 41) = true := beq_iff_eq.2 hc
  have c4 : Aside0 (∃ A4 n4, w.cell? ⟨g, 4, none⟩ = some (.slice A4 ops.length n4)) := by
    obtain ⟨⟨bl, el, hr, hi, hj⟩, _⟩ := hw
    obtain ⟨vo, vw, vt, hb, hO, _⟩ := hr.st
    obtain ⟨A4, n4, rfl⟩ := Kd.R_slice hO
    rw [show (spots s ops).length = ops.length by simp [spots]] at hb
    exact ⟨A4, n4, (blk_cell hb 4).trans rfl⟩
  obtain ⟨A4, n4, k4⟩ := c4.out
  clear c4
  have hz : ((ops.length : Int) == 0) = true := by rw [ho]; rfl
  have HR := Aside0.mk (show R = ([], (pl (bytesOf s) p).1, (pl (bytesOf s) p).2, 81) by rw [hR, ho]; exact sp0_bad hp hc)
  have hsp := Aside0.mk (fun a b : Nat => rw_spot hs hgb hbx hgx (((hw.drewN a).adv hp (by omega) hgx (x := (p : Int) + 1) (by omega)).drewN b) hp (by omega))
  clear hw0 hw hR hc ho
  refine find_wp2 rfl ?_
  unfold Fr
  go_wp2
  go_quiet (fail)
  go_wp2
  go_quiet (fail)
  go_wp2_with (first | (go_at_call 30; (with_reducible refine (token_blank.calls (bt s (p : Int)) _ _ HBL.out).mono ?_); rintro e_ w1 ⟨rfl, nd_, rfl⟩) | (go_at_call 32; (with_reducible refine (hsp.out _ _).mono ?_); rintro e_ w1 ⟨rfl, hb1_, hx1_⟩; have HBG1 := Aside0.mk hb1_; have HBX1 := Aside0.mk hx1_; have hbl : bx < w1.heap.size := blk_lt HBX1.out; have bf0 := blk_frozen HBX1.out 0; have bf1 := blk_frozen HBX1.out 1; have b0 : w1.cell? ⟨bx, 0, none⟩ = some (.int .i64 0) := (blk_cell HBX1.out 0).trans rfl; have b1 : w1.cell? ⟨bx, 1, none⟩ = some (.int .i64 0) := (blk_cell HBX1.out 1).trans rfl; clear hb1_ hx1_))
  have hfin := box_set HBX1.out HBG1.out hgx (pl (bytesOf s) p).1 (pl (bytesOf s) p).2
  refine bodyPost_ret (results_list (rs := [.cell 2 30, .tmp 3]) rfl (by simp) (.cell bx 30 #[.int .i64 (pl (bytesOf s) p).1, .int .i64 (pl (bytesOf s) p).2] (0, 0) _ rfl hfin.1 Try.underlying30 rfl (by kernel_rfl) (.tmp .nil))) rfl ?_
  rw [HR.out]
  exact ⟨rfl, hfin.2, fun h => absurd h (by simp)⟩

set_option maxHeartbeats 8000000 in
set_option maxRecDepth 100000 in
theorem chain_close (w0 : World) (s : ByteArray) (R : Res) (g bx base : Nat) (hs : s.size ≤ 262144) (hgb : g < base) (hbx : bx < base) (hgx : g < bx) (m : Nat) (u : Nat → Value) (v4 : Value) (w : World) (p : Nat) (ops : List Nat) (p0 : Nat) (ws : List S23) (out : List S45) (hw0 : RW w0 s g bx base w p ops p0 ws out true) (hm : 3 * (s.size - p) + 1 ≤ m) (hp : p < s.size) (hc : bt s (p : Int) = 41) (ho : ops ≠ []) (hR : R = sp0 s p ops p0 ws out) :
    ∀ r, At2 Try.f25 0 r → r.wp Try.prog (Out w0 s R g bx base m) { tmps := Fr g bx v4 u, defers := [] } w := by
  obtain ⟨c0, c1, f1, hgl⟩ := hw0.cells
  have hw := hw0
  have he2 : ((p : Int) == (s.size : Int)) = false := beq_eq_false_iff_ne.2 (by omega)
  have hsb : (s.size : Int) ≤ 262144 := by omega
  have hx0 := bt_nat s p hp
  have i0 : (0 : Int) ≤ (p : Int) := by omega
  have i1 : (p : Int) < (s.size : Int) := by omega
  have HBL : Aside0 (token_blank.f (bt s (p : Int)) = some false) := ⟨by rw [tblank_f, hc]; rfl⟩
  have e0 : (bt s (p : Int) == 10) = false := beq_eq_false_iff_ne.2 (by omega)
  have e1 : (bt s (p : Int) == 59) = false := beq_eq_false_iff_ne.2 (by omega)
  have e2 : (bt s (p : Int) == 40) = false := beq_eq_false_iff_ne.2 (by omega)
  have e3 : (bt s (p : Int) == 41) = true := beq_iff_eq.2 hc
  have HW := Aside0.mk (fun a : Nat => (hw.drewN a).adv hp (by omega) hgx (x := (p : Int) + 1) (by omega))
  have c4 : Aside0 (∃ A4 n4, w.cell? ⟨g, 4, none⟩ = some (.slice A4 ops.length n4)) := by
    obtain ⟨⟨bl, el, hr, hi, hj⟩, _⟩ := hw
    obtain ⟨vo, vw, vt, hb, hO, _⟩ := hr.st
    obtain ⟨A4, n4, rfl⟩ := Kd.R_slice hO
    rw [show (spots s ops).length = ops.length by simp [spots]] at hb
    exact ⟨A4, n4, (blk_cell hb 4).trans rfl⟩
  obtain ⟨A4, n4, k4⟩ := c4.out
  clear c4
  have hol0 : 0 < ops.length := List.length_pos_iff.2 ho
  have hz : ((ops.length : Int) == 0) = false := beq_eq_false_iff_ne.2 (by omega)
  have HR := Aside0.mk (hR.trans (sp0_close hp hc ho))
  have hpl := pl_go hp (show bt s (p : Int) ≠ 10 by omega)
  have hpb := pl_bound (bytesOf s) p
  clear hw0 hw hR hc
  refine find_wp2 rfl ?_
  unfold Fr
  go_wp2
  go_quiet (fail)
  go_wp2
  go_quiet (fail)
  go_wp2_with (first | (go_at_call 30; (with_reducible refine (token_blank.calls (bt s (p : Int)) _ _ HBL.out).mono ?_); rintro e_ w1 ⟨rfl, nd_, rfl⟩))
  clear k4
  refine world_lift (fun W => RW w0 s g bx base W (p + 1) ops p0 ws out true) ((HW.out _).drewN _) (fun w3 hw3 => ?_)
  obtain ⟨⟨bl, el, hr, hi, hj⟩, hbox, hbg, hle, hwl, htl, hol, hopl⟩ := hw3
  rw [hpl] at hr
  simp only at hr
  obtain ⟨⟨vo, vw, vt, hb, hO, hW, hT⟩, hlt, hsz⟩ := hr
  obtain ⟨A4, n4, rfl⟩ := Kd.R_slice hO
  have hn4 := (Kd.R_reads' hO).2.1
  have k4 : w3.cell? ⟨g, 4, none⟩ = some (.slice A4 (spots s ops).length n4) := (blk_cell hb 4).trans rfl
  have kf4 := blk_frozen hb 4
  have hg3 : g < w3.heap.size := blk_lt hb
  have hszd : base ≤ w3.drew.heap.size := hsz
  have HGd := Aside0.mk (blk_drew hb)
  have HOd := Aside0.mk (Kd.R_drew hO)
  have HWd := Aside0.mk (Kd.R_drew hW)
  have HTd := Aside0.mk (Kd.S_drew hT)
  have HXd := Aside0.mk (blk_drew hbox)
  have HBd := Aside0.mk (⟨below_drew1 hbg.b, fun i h1 h2 => hbg.k i h1 h2⟩ : Bg base g w0 w3.drew)
  have hcd : w3.drew.cell? ⟨g, 4, none⟩ = some (.slice A4 (spots s ops).length n4) := k4
  have hfd : w3.drew.frozen? ⟨g, 4, none⟩ = false := kf4
  have hgd : g < w3.drew.heap.size := hg3
  have HI := Aside0.mk (hi rfl)
  have hspl : (spots s ops).length = ops.length := by simp [spots]
  rw [hspl] at hcd k4 hn4
  have HSL := Aside0.mk hspl
  have j0 : (0 : Int) ≤ (ops.length : Int) - 1 := by omega
  have j0' : (1 : Int) ≤ (ops.length : Int) := by omega
  have j1 : (ops.length : Int) - 1 ≤ (n4 : Int) := by omega
  have j2 : ((ops.length : Int) - 1).toNat = ops.length - 1 := by omega
  have HJ2 := Aside0.mk j2
  have HWR : Aside0 (wrap64 ((ops.length : Int) - 1) = (ops.length : Int) - 1) := ⟨w64' (by omega) (by omega)⟩
  clear hspl hb hO hW hT hbox hbg hi hj j2
  refine start_ (n := 15) (S := (fun w' => w'.cell? ⟨g, 4, none⟩ = some (.slice A4 ops.length n4))) (ds := [14]) #[false, false, false, false, false, false, false, false, false, false, false, false, false, false, false] (by kernel_rfl) rfl rfl hcd (fun hHeld => ?_)
  generalize w3.drew = wd at HGd HOd HWd HTd HBd HXd hszd hgd hfd hcd hHeld ⊢
  refine pure_ (i := 0) (N := some 112) (v := ?_) (a' := ?_) #[true, false, false, false, false, false, false, false, false, false, false, false, false, false, false] rfl rfl (by kernel_rfl) (fun _ _ _ h => h) (Or.inl ⟨by rfl, ?_⟩) ?_ ?_
  rotate_left
  · intro w'
    go_simp
    with_reducible rfl
  rotate_left
  · simp only [Act.put, List.setIfInBounds_toArray, List.set_cons_zero, List.set_cons_succ, i64_w, i32_w]
    rfl
  refine pure_ (i := 1) (N := some 113) (v := ?_) (a' := ?_) #[true, true, false, false, false, false, false, false, false, false, false, false, false, false, false] rfl rfl (by kernel_rfl) (fun _ _ _ h => h) (Or.inl ⟨by rfl, ?_⟩) ?_ ?_
  rotate_left
  · intro w'
    go_simp
    with_reducible rfl
  rotate_left
  · simp only [Act.put, List.setIfInBounds_toArray, List.set_cons_zero, List.set_cons_succ, i64_w, i32_w]
    rfl
  refine pure_ (i := 2) (N := some 114) (v := ?_) (a' := ?_) #[true, true, true, false, false, false, false, false, false, false, false, false, false, false, false] rfl rfl (by kernel_rfl) (fun _ _ _ h => h) (Or.inl ⟨by rfl, ?_⟩) ?_ ?_
  rotate_left
  · intro w'
    go_simp
    with_reducible rfl
  rotate_left
  · simp only [Act.put, List.setIfInBounds_toArray, List.set_cons_zero, List.set_cons_succ, i64_w, i32_w]
    rfl
  refine pure_ (i := 3) (N := some 115) (v := ?_) (a' := ?_) #[true, true, true, true, false, false, false, false, false, false, false, false, false, false, false] rfl rfl (by kernel_rfl) (fun _ _ _ h => h) (Or.inl ⟨by rfl, ?_⟩) ?_ ?_
  rotate_left
  · intro w'
    go_simp
    with_reducible rfl
  rotate_left
  · simp only [Act.put, List.setIfInBounds_toArray, List.set_cons_zero, List.set_cons_succ, i64_w, i32_w]
    rfl
  refine take_ (i := 4) (N := some 116) (v := ?_) (a' := ?_) #[true, true, true, true, true, false, false, false, false, false, false, false, false, false, false] rfl rfl (by kernel_rfl) (fun _ _ _ h => h) (Or.inl ⟨by rfl, ?_⟩) hHeld ?_ ?_
  rotate_left
  · rintro w' h4
    go_simp
    with_reducible rfl
  rotate_left
  · simp only [Act.put, List.setIfInBounds_toArray, List.set_cons_zero, List.set_cons_succ, i64_w, i32_w]
    rfl
  refine pure_ (i := 5) (N := some 117) (v := ?_) (a' := ?_) #[true, true, true, true, true, true, false, false, false, false, false, false, false, false, false] rfl rfl (by kernel_rfl) (fun _ _ _ h => h) (Or.inl ⟨by rfl, ?_⟩) ?_ ?_
  rotate_left
  · intro w'
    go_simp
    with_reducible rfl
  rotate_left
  · simp only [Act.put, List.setIfInBounds_toArray, List.set_cons_zero, List.set_cons_succ, i64_w, i32_w]
    rfl
  refine pure_ (i := 6) (N := some 118) (v := ?_) (a' := ?_) #[true, true, true, true, true, true, true, false, false, false, false, false, false, false, false] rfl rfl (by kernel_rfl) (fun _ _ _ h => h) (Or.inl ⟨by rfl, ?_⟩) ?_ ?_
  rotate_left
  · intro w'
    go_simp
    with_reducible rfl
  rotate_left
  · simp only [Act.put, List.setIfInBounds_toArray, List.set_cons_zero, List.set_cons_succ, i64_w, i32_w]
    rfl
  refine pure_ (i := 7) (N := some 119) (v := ?_) (a' := ?_) #[true, true, true, true, true, true, true, true, false, false, false, false, false, false, false] rfl rfl (by kernel_rfl) (fun _ _ _ h => h) (Or.inl ⟨by rfl, ?_⟩) ?_ ?_
  rotate_left
  · intro w'
    go_simp
    with_reducible rfl
  rotate_left
  · simp only [Act.put, List.setIfInBounds_toArray, List.set_cons_zero, List.set_cons_succ, i64_w, i32_w]
    rfl
  refine take_ (i := 8) (N := some 120) (v := ?_) (a' := ?_) #[true, true, true, true, true, true, true, true, true, false, false, false, false, false, false] rfl rfl (by kernel_rfl) (fun _ _ _ h => h) (Or.inl ⟨by rfl, ?_⟩) hHeld ?_ ?_
  rotate_left
  · rintro w' h4
    go_simp
    with_reducible rfl
  rotate_left
  · simp only [Act.put, List.setIfInBounds_toArray, List.set_cons_zero, List.set_cons_succ, i64_w, i32_w]
    rfl
  refine pure_ (i := 9) (N := some 121) (v := ?_) (a' := ?_) #[true, true, true, true, true, true, true, true, true, true, false, false, false, false, false] rfl rfl (by kernel_rfl) (fun _ _ _ h => h) (Or.inl ⟨by rfl, ?_⟩) ?_ ?_
  rotate_left
  · intro w'
    go_simp
    with_reducible rfl
  rotate_left
  · simp only [Act.put, List.setIfInBounds_toArray, List.set_cons_zero, List.set_cons_succ, i64_w, i32_w]
    rfl
  refine pure_ (i := 10) (N := some 122) (v := ?_) (a' := ?_) #[true, true, true, true, true, true, true, true, true, true, true, false, false, false, false] rfl rfl (by kernel_rfl) (fun _ _ _ h => h) (Or.inl ⟨by rfl, ?_⟩) ?_ ?_
  rotate_left
  · intro w'
    go_simp; simp only [i64_w, HWR.out]
    with_reducible rfl
  rotate_left
  · simp only [Act.put, List.setIfInBounds_toArray, List.set_cons_zero, List.set_cons_succ, i64_w, i32_w]
    rfl
  refine pure_ (i := 11) (N := some 123) (v := ?_) (a' := ?_) #[true, true, true, true, true, true, true, true, true, true, true, true, false, false, false] rfl rfl (by kernel_rfl) (fun _ _ _ h => h) (Or.inl ⟨by rfl, ?_⟩) ?_ ?_
  rotate_left
  · intro w'
    go_simp
    with_reducible rfl
  rotate_left
  · simp only [Act.put, List.setIfInBounds_toArray, List.set_cons_zero, List.set_cons_succ, i64_w, i32_w]
    rfl
  refine pure_ (i := 12) (N := some 124) (v := ?_) (a' := ?_) #[true, true, true, true, true, true, true, true, true, true, true, true, true, false, false] rfl rfl (by kernel_rfl) (fun _ _ _ h => h) (Or.inl ⟨by rfl, ?_⟩) ?_ ?_
  rotate_left
  · intro w'
    go_simp
    with_reducible rfl
  rotate_left
  · simp only [Act.put, List.setIfInBounds_toArray, List.set_cons_zero, List.set_cons_succ, i64_w, i32_w]
    rfl
  refine pure_ (i := 13) (N := some 125) (v := ?_) (a' := ?_) #[true, true, true, true, true, true, true, true, true, true, true, true, true, true, false] rfl rfl (by kernel_rfl) (fun _ _ _ h => h) (Or.inl ⟨by rfl, ?_⟩) ?_ ?_
  rotate_left
  · intro w'
    go_simp
    with_reducible rfl
  rotate_left
  · simp only [Act.put, List.setIfInBounds_toArray, List.set_cons_zero, List.set_cons_succ, i64_w, i32_w]
    rfl
  refine last_ (i := 14) (N := none) #[true, true, true, true, true, true, true, true, true, true, true, true, true, true, true] rfl rfl (by kernel_rfl) (by decide) (fun K hK => ?_)
  refine skip_ (w1 := wd.setCell ⟨g, 4, none⟩ (.slice A4 (ops.length - 1) n4)) (by rfl) rfl ?_ ?_
  · go_simp
    try with_reducible rfl
  refine hK.out _ _ ?_
  clear hK K
  refine done_ (by kernel_rfl) ?_
  go_wp2
  go_step3
  rw [show ops.length - 1 = ops.dropLast.length by simp]
  have htk := Kd.R_take HOd.out (m := ops.length - 1) (by rw [HSL.out]; omega)
  have hdl : (spots s ops).take (ops.length - 1) = spots s ops.dropLast := by rw [List.dropLast_eq_take]; simp [spots, List.map_take]
  rw [hdl] at htk
  have hl2 : ops.length - 1 = (spots s ops.dropLast).length := by simp [spots]
  have hl3 : ops.dropLast.length = (spots s ops.dropLast).length := by simp [spots]
  rw [hl2] at htk
  rw [hl3]
  have K := (KeepBut.refl wd g none).set_ 4 (.slice A4 (spots s ops.dropLast).length n4)
  have e1 := Kd.R_keep htk K (fun k hk => by omega)
  have e2 := Kd.R_keep HWd.out K (fun k hk => by omega)
  have e3 := Kd.S_keep HTd.out K (fun k hk => by omega)
  have e4 := blk_set HGd.out 4 (.slice A4 (spots s ops.dropLast).length n4)
  have e5 := blk_far (p := ⟨g, 4, none⟩) HXd.out (by show bx ≠ g; omega) (.slice A4 (spots s ops.dropLast).length n4)
  have e6 := HBd.out.set 4 (.slice A4 (spots s ops.dropLast).length n4)
  have e7 := Nat.le_trans hszd K.1
  have hfin : RW w0 s g bx base (wd.setCell ⟨g, 4, none⟩ (.slice A4 (spots s ops.dropLast).length n4)) (p + 1) ops.dropLast p0 ws out true := by
    generalize wd.setCell _ _ = WF at e1 e2 e3 e4 e5 e6 e7 ⊢
    have e8 : WF.heap[g]? = some (.cells (rcells s ((p + 1 : Nat) : Int) (pl (bytesOf s) p).1 (((p + 1 : Nat) : Int) - ((pl (bytesOf s) p).2 + 1) + 1) (.slice A4 (spots s ops.dropLast).length n4) bl el vw vt true) 64 (0, 0)) := e4
    have q4 : RS WF g base s ((p + 1 : Nat) : Int) (pl (bytesOf s) p).1 (((p + 1 : Nat) : Int) - ((pl (bytesOf s) p).2 + 1) + 1) (spots s ops.dropLast) bl el ws out true := ⟨⟨_, _, _, e8, e1, e2, e3⟩, hgb, e7⟩
    refine ⟨⟨bl, el, ?_, fun _ => HI.out, fun h => by cases h⟩, e5, e6, hle, hwl, htl, by simp; omega, fun q hq => hopl q (List.dropLast_subset ops hq)⟩
    rw [hpl]; exact q4
  refine jump_mk (l := 0) (v4 := .int .i64 (p : Int)) ?_ ?_ ?_ ?_ ?_ hfin HR.out (by show 3 * (s.size - (p + 1)) + 1 < m; omega) <;> rfl

end Go.Proofs.Ytafminohaofjnaa.Print
