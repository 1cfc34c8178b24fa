/- The reader of a text: its block, and its small methods, walked. -/
import Derived.Test.YtafminohaofjnaaXEnt
namespace Go.Proofs.Ytafminohaofjnaa.Print
set_option linter.unusedVariables false
set_option linter.unusedSimpArgs false
open Go.RowKit Go.Proofs.YtafminohaofjnaaW.PrintWords Go.Proofs.YtafminohaofjnaaW.PrintLast Go.Proofs.YtafminohaofjnaaW.PrintMore
/-- the reader's block -/
def rcells (s : ByteArray) (p line b : Int) (vo : Value) (bl : Bool) (el : Int) (vw vt : Value) (ins : Bool) : Array Value := #[.string s, .int .i64 p, .int .i64 line, .int .i64 b, vo, .bool bl, .int .i64 el, vw, vt, .bool ins]
/-- the reader in memory: its block g, its rows in blocks from base on -/
structure RS (W : World) (g base : Nat) (s : ByteArray) (p line b : Int) (op : List S30) (bl : Bool) (el : Int) (ws : List S23) (out : List S45) (ins : Bool) : Prop where
  st : ∃ vo vw vt, W.heap[g]? = some (.cells (rcells s p line b vo bl el vw vt ins) 64 (0, 0)) ∧ Kd.R k30 30 W base (fun k => base ≤ k) vo op ∧ Kd.R k23 23 W base (fun k => base ≤ k) vw ws ∧ Kd.S k45 45 W base (fun k => base ≤ k ∧ ¬ some k = vw.ownBlock) vt out
  lt : g < base
  size : base ≤ W.heap.size
theorem RS.below {W W' : World} {g base : Nat} {s : ByteArray} {p line b : Int} {op : List S30} {bl : Bool} {el : Int} {ws : List S23} {out : List S45} {ins : Bool} (h : RS W g base s p line b op bl el ws out ins) (hb : Below W.heap.size W W') : RS W' g base s p line b op bl el ws out ins := by
  obtain ⟨⟨vo, vw, vt, h1, h2, h3, h4⟩, hlt, hsz⟩ := h
  exact ⟨⟨vo, vw, vt, blk_below h1 hb, Kd.R_below h2 hb, Kd.R_below h3 hb, Kd.S_below h4 hb⟩, hlt, Nat.le_trans hsz hb.size⟩
/-- what stays: all below g, and all below base but g -/
structure Bg (base g : Nat) (w w' : World) : Prop where
  b : Below g w w'
  k : ∀ i, i < base → i ≠ g → w'.heap[i]? = w.heap[i]?
theorem Bg.refl (base g : Nat) (w : World) : Bg base g w w := ⟨Below.refl _ _, fun _ _ _ => rfl⟩
theorem Bg.trans {base g : Nat} {w w1 w2 : World} (h : Bg base g w w1) (k : Bg base g w1 w2) : Bg base g w w2 := ⟨h.b.trans k.b, fun i h1 h2 => (k.k i h1 h2).trans (h.k i h1 h2)⟩
theorem Bg.set {base g : Nat} {w w1 : World} (h : Bg base g w w1) (j : Nat) (u : Value) : Bg base g w (w1.setCell ⟨g, j, none⟩ u) := ⟨h.b.setCell (Nat.le_refl g) _, fun i h1 h2 => (Below.heap_setCell w1 ⟨g, j, none⟩ u i h2).trans (h.k i h1 h2)⟩
theorem below_to {A B : Nat} {w w' : World} (h : Below A w w') (hB : B ≤ A) : Below B w w' := ⟨h.os, h.tape, h.output, h.size, fun i hi => h.block i (Nat.lt_of_lt_of_le hi hB)⟩
theorem Bg.of {base g A : Nat} {w w1 : World} (h : Below A w w1) (h1 : base ≤ A) (h2 : g ≤ A) : Bg base g w w1 := ⟨below_to h h2, fun i hi _ => h.block i (by omega)⟩
/-- numbers of the reader's block are written -/
theorem RS.sets {W W' : World} {g base : Nat} {s : ByteArray} {p' line' b' : Int} {op : List S30} {bl' : Bool} {el' : Int} {ws : List S23} {out : List S45} {ins' : Bool} {vo vw vt : Value}
    (h2 : Kd.R k30 30 W base (fun k => base ≤ k) vo op) (h3 : Kd.R k23 23 W base (fun k => base ≤ k) vw ws) (h4 : Kd.S k45 45 W base (fun k => base ≤ k ∧ ¬ some k = vw.ownBlock) vt out) (hlt : g < base) (hsz : base ≤ W.heap.size)
    (hk : KeepBut W W' g none) (hb : W'.heap[g]? = some (.cells (rcells s p' line' b' vo bl' el' vw vt ins') 64 (0, 0))) : RS W' g base s p' line' b' op bl' el' ws out ins' :=
  ⟨⟨vo, vw, vt, hb, Kd.R_keep h2 hk (fun k hk => by omega), Kd.R_keep h3 hk (fun k hk => by omega), Kd.S_keep h4 hk (fun k hk => by omega)⟩, hlt, Nat.le_trans hsz hk.1⟩
set_option maxHeartbeats 400000 in
theorem spot_calls (w : World) (g : Nat) (s : ByteArray) (p line b : Int) (vo : Value) (bl : Bool) (el : Int) (vw vt : Value) (ins : Bool) (q : Int) (hb : w.heap[g]? = some (.cells (rcells s p line b vo bl el vw vt ins) 64 (0, 0)))
    (h1 : 0 ≤ b) (h2 : b ≤ q) (h3 : q ≤ 1000000) :
    Calls Try.prog 32 #[.pointer (some ⟨g, 0, none⟩), .int .i64 q] w fun e w' => e = .returned (.agg #[.int .i64 line, .int .i64 (q - b + 1)]) ∧ Below w.heap.size w w' := by
  have c2 : w.cell? ⟨g, 2, none⟩ = some (.int .i64 line) := (blk_cell hb 2).trans rfl
  have c3 : w.cell? ⟨g, 3, none⟩ = some (.int .i64 b) := (blk_cell hb 3).trans rfl
  have hlt : g < w.heap.size := blk_lt hb
  clear hb
  go_enter Try.func32, Try.ntmps32
  go_wp2
  go_region
  go_wp2
  refine bodyPost_ret (results_cell_row rfl _ _ w.heap.size 30 #[.int .i64 line, .int .i64 (q - b + 1)] (0, 0) _ rfl (blk_drew (blk_new _ _)) Try.underlying30 rfl (by kernel_rfl)) rfl ?_
  exact ⟨rfl, below_drew1 (below_alloc (Below.refl _ _) _)⟩

set_option maxHeartbeats 400000 in
theorem close_nil (w : World) (g base : Nat) (s : ByteArray) (p line b : Int) (op : List S30) (bl : Bool) (el : Int) (out : List S45) (ins : Bool) (h : RS w g base s p line b op bl el [] out ins) :
    Calls Try.prog 34 #[.pointer (some ⟨g, 0, none⟩)] w fun e w' => e = .returned (.tuple #[]) ∧ RS w' g base s p line b op false 0 [] out false ∧ Bg base g w w' := by
  obtain ⟨ws, hws⟩ : ∃ ws : List S23, ws = [] := ⟨_, rfl⟩
  rw [← hws] at h
  have hlen : (ws.length : Int) = 0 := by rw [hws]; rfl
  obtain ⟨⟨vo, vw, vt, hb, hO, hW, hT⟩, hlt, hsz⟩ := h
  obtain ⟨A4, n4, rfl⟩ := Kd.R_slice hO
  obtain ⟨A7, n7, rfl⟩ := Kd.R_slice hW
  obtain ⟨A8, n8, rfl⟩ := Kd.R_slice (Kd.S_R hT)
  have c5 : w.cell? ⟨g, 5, none⟩ = some (.bool bl) := (blk_cell hb 5).trans rfl
  have c6 : w.cell? ⟨g, 6, none⟩ = some (.int .i64 el) := (blk_cell hb 6).trans rfl
  have c7 : w.cell? ⟨g, 7, none⟩ = some (.slice A7 ws.length n7) := (blk_cell hb 7).trans rfl
  have c9 : w.cell? ⟨g, 9, none⟩ = some (.bool ins) := (blk_cell hb 9).trans rfl
  have f5 := blk_frozen hb 5
  have f6 := blk_frozen hb 6
  have f7 := blk_frozen hb 7
  have f9 := blk_frozen hb 9
  have hgl : g < w.heap.size := blk_lt hb
  have HBK := Aside0.mk hb
  have HO := Aside0.mk hO
  have HW := Aside0.mk hW
  have HT := Aside0.mk hT
  clear hb hO hW hT
  have HWS := Aside0.mk hws
  clear hws
  go_enter Try.func34, Try.ntmps34
  go_wp2
  go_end0
  have K := ((((KeepBut.refl w g none).set_ 5 (.bool false)).set_ 6 (.int .i64 0)).set_ 7 (.slice none 0 0)).set_ 9 (.bool false)
  refine ⟨rfl, ⟨⟨_, .slice none 0 0, _, (blk_set (blk_set (blk_set (blk_set HBK.out 5 _) 6 _) 7 _) 9 _).trans rfl, Kd.R_keep HO.out K (fun k hk => by omega), Kd.R_nil _ _ _ _ _, Kd.S_mono (Kd.S_keep HT.out K (fun k hk => by omega)) (fun k hk => ⟨hk.1, by simp [Value.ownBlock]⟩)⟩, hlt, Nat.le_trans hsz K.1⟩, ?_⟩
  exact ((((Bg.refl base g w).set _ _).set _ _).set _ _).set _ _

set_option maxHeartbeats 2000000 in
set_option maxRecDepth 100000 in
theorem close_some (w : World) (g base : Nat) (s : ByteArray) (p line b : Int) (op : List S30) (bl : Bool) (el : Int) (ws : List S23) (out : List S45) (ins : Bool) (h : RS w g base s p line b op bl el ws out ins) (hne : 0 < ws.length) (hol : out.length ≤ 1000000) :
    Calls Try.prog 34 #[.pointer (some ⟨g, 0, none⟩)] w fun e w' => e = .returned (.tuple #[]) ∧ RS w' g base s p line b op false 0 [] (out ++ [⟨bl, el, ws⟩]) false ∧ Bg base g w w' := by
  obtain ⟨⟨vo, vw, vt, hb, hO, hW, hT⟩, hlt, hsz⟩ := h
  obtain ⟨A4, n4, rfl⟩ := Kd.R_slice hO
  obtain ⟨A7, n7, rfl⟩ := Kd.R_slice hW
  obtain ⟨A8, n8, rfl⟩ := Kd.R_slice (Kd.S_R hT)
  have c5 : w.cell? ⟨g, 5, none⟩ = some (.bool bl) := (blk_cell hb 5).trans rfl
  have c6 : w.cell? ⟨g, 6, none⟩ = some (.int .i64 el) := (blk_cell hb 6).trans rfl
  have c7 : w.cell? ⟨g, 7, none⟩ = some (.slice A7 ws.length n7) := (blk_cell hb 7).trans rfl
  have c8 : w.cell? ⟨g, 8, none⟩ = some (.slice A8 out.length n8) := (blk_cell hb 8).trans rfl
  have c9 : w.cell? ⟨g, 9, none⟩ = some (.bool ins) := (blk_cell hb 9).trans rfl
  have f5 := blk_frozen hb 5
  have f6 := blk_frozen hb 6
  have f7 := blk_frozen hb 7
  have f8 := blk_frozen hb 8
  have f9 := blk_frozen hb 9
  have hgl : g < w.heap.size := blk_lt hb
  have HBK := Aside0.mk hb
  have HO := Aside0.mk hO
  have HW := Aside0.mk hW
  have HT := Aside0.mk hT
  clear hb hO hW hT
  have hne' : (0 : Int) < (ws.length : Int) := by omega
  go_enter Try.func34, Try.ntmps34
  go_wp2
  have HBd := Aside0.mk (below_drew1 (Below.refl w.heap.size w))
  have HOd := Aside0.mk (Kd.R_drew HO.out)
  have HWd := Aside0.mk (Kd.R_drew HW.out)
  have HTd := Aside0.mk (Kd.S_drew HT.out)
  have HWL := Aside0.mk (blk_drew HBK.out)
  have hcd : w.drew.cell? ⟨g, 5, none⟩ = some (.bool bl) ∧ w.drew.cell? ⟨g, 6, none⟩ = some (.int .i64 el) ∧ w.drew.cell? ⟨g, 7, none⟩ = some (.slice A7 ws.length n7) ∧ w.drew.cell? ⟨g, 8, none⟩ = some (.slice A8 out.length n8) := ⟨c5, c6, c7, c8⟩
  refine start_ (n := 14) (S := (fun w' => w'.cell? ⟨g, 5, none⟩ = some (.bool bl) ∧ w'.cell? ⟨g, 6, none⟩ = some (.int .i64 el) ∧ w'.cell? ⟨g, 7, none⟩ = some (.slice A7 ws.length n7) ∧ w'.cell? ⟨g, 8, none⟩ = some (.slice A8 out.length n8))) (ds := [13]) #[false, false, false, false, false, false, false, false, false, false, false, false, false, false] (by kernel_rfl) rfl rfl hcd (fun hHeld => ?_)
  generalize w.drew = wd at HBd HOd HWd HTd HWL hcd hHeld ⊢
  refine pure_ (i := 0) (N := some 9) (v := ?_) (a' := ?_) #[true, false, false, false, false, false, false, false, false, false, false, false, false, false] rfl rfl (by kernel_rfl) (fun _ _ _ h => h) (Or.inl ⟨by rfl, ?_⟩) ?_ ?_
  rotate_left
  · intro w'
    go_simp
    with_reducible rfl
  rotate_left
  · simp only [Act.put, List.setIfInBounds_toArray, List.set_cons_zero, List.set_cons_succ, i64_w, i32_w]
    rfl
  refine pure_ (i := 1) (N := some 10) (v := ?_) (a' := ?_) #[true, true, false, false, false, false, false, false, false, false, false, false, false, false] rfl rfl (by kernel_rfl) (fun _ _ _ h => h) (Or.inl ⟨by rfl, ?_⟩) ?_ ?_
  rotate_left
  · intro w'
    go_simp
    with_reducible rfl
  rotate_left
  · simp only [Act.put, List.setIfInBounds_toArray, List.set_cons_zero, List.set_cons_succ, i64_w, i32_w]
    rfl
  refine pure_ (i := 2) (N := some 11) (v := ?_) (a' := ?_) #[true, true, true, false, false, false, false, false, false, false, false, false, false, false] rfl rfl (by kernel_rfl) (fun _ _ _ h => h) (Or.inl ⟨by rfl, ?_⟩) ?_ ?_
  rotate_left
  · intro w'
    go_simp
    with_reducible rfl
  rotate_left
  · simp only [Act.put, List.setIfInBounds_toArray, List.set_cons_zero, List.set_cons_succ, i64_w, i32_w]
    rfl
  refine pure_ (i := 3) (N := some 12) (v := ?_) (a' := ?_) #[true, true, true, true, false, false, false, false, false, false, false, false, false, false] rfl rfl (by kernel_rfl) (fun _ _ _ h => h) (Or.inl ⟨by rfl, ?_⟩) ?_ ?_
  rotate_left
  · intro w'
    go_simp
    with_reducible rfl
  rotate_left
  · simp only [Act.put, List.setIfInBounds_toArray, List.set_cons_zero, List.set_cons_succ, i64_w, i32_w]
    rfl
  refine take_ (i := 4) (N := some 13) (v := ?_) (a' := ?_) #[true, true, true, true, true, false, false, false, false, false, false, false, false, false] rfl rfl (by kernel_rfl) (fun _ _ _ h => h) (Or.inl ⟨by rfl, ?_⟩) hHeld ?_ ?_
  rotate_left
  · rintro w' ⟨h5, h6, h7, h8⟩
    go_simp
    with_reducible rfl
  rotate_left
  · simp only [Act.put, List.setIfInBounds_toArray, List.set_cons_zero, List.set_cons_succ, i64_w, i32_w]
    rfl
  refine pure_ (i := 5) (N := some 14) (v := ?_) (a' := ?_) #[true, true, true, true, true, true, false, false, false, false, false, false, false, false] rfl rfl (by kernel_rfl) (fun _ _ _ h => h) (Or.inl ⟨by rfl, ?_⟩) ?_ ?_
  rotate_left
  · intro w'
    go_simp
    with_reducible rfl
  rotate_left
  · simp only [Act.put, List.setIfInBounds_toArray, List.set_cons_zero, List.set_cons_succ, i64_w, i32_w]
    rfl
  refine pure_ (i := 6) (N := some 15) (v := ?_) (a' := ?_) #[true, true, true, true, true, true, true, false, false, false, false, false, false, false] rfl rfl (by kernel_rfl) (fun _ _ _ h => h) (Or.inl ⟨by rfl, ?_⟩) ?_ ?_
  rotate_left
  · intro w'
    go_simp
    with_reducible rfl
  rotate_left
  · simp only [Act.put, List.setIfInBounds_toArray, List.set_cons_zero, List.set_cons_succ, i64_w, i32_w]
    rfl
  refine pure_ (i := 7) (N := some 16) (v := ?_) (a' := ?_) #[true, true, true, true, true, true, true, true, false, false, false, false, false, false] rfl rfl (by kernel_rfl) (fun _ _ _ h => h) (Or.inl ⟨by rfl, ?_⟩) ?_ ?_
  rotate_left
  · intro w'
    go_simp
    with_reducible rfl
  rotate_left
  · simp only [Act.put, List.setIfInBounds_toArray, List.set_cons_zero, List.set_cons_succ, i64_w, i32_w]
    rfl
  refine take_ (i := 8) (N := some 17) (v := ?_) (a' := ?_) #[true, true, true, true, true, true, true, true, true, false, false, false, false, false] rfl rfl (by kernel_rfl) (fun _ _ _ h => h) (Or.inl ⟨by rfl, ?_⟩) hHeld ?_ ?_
  rotate_left
  · rintro w' ⟨h5, h6, h7, h8⟩
    go_simp
    with_reducible rfl
  rotate_left
  · simp only [Act.put, List.setIfInBounds_toArray, List.set_cons_zero, List.set_cons_succ, i64_w, i32_w]
    rfl
  refine one_ (i := 9) (N := some 18) #[true, true, true, true, true, true, true, true, true, true, false, false, false, false] rfl rfl (by kernel_rfl) (by decide) (fun K hK => ?_)
  refine value_ (v := .slice (some ⟨wd.heap.size, 0, none⟩) 1 1) (w1 := wd.alloc (.cells #[.bool bl, .int .i64 el, .slice A7 ws.length n7] 45)) (by rfl) rfl ?_ ?_
  · go_simp
    try with_reducible rfl
  refine hK.out _ _ (have ha := (below_alloc (Below.refl wd.heap.size wd) (.cells #[.bool bl, .int .i64 el, .slice A7 ws.length n7] 45 (0, 0))); ⟨pw_cell_below ha hHeld.1, pw_cell_below ha hHeld.2.1, pw_cell_below ha hHeld.2.2.1, pw_cell_below ha hHeld.2.2.2⟩) (fun hHeld => ?_)
  clear hK K
  refine norm_ (a' := ?_) ?_ ?_
  rotate_left
  · show Act.put _ (some 18) _ = _
    simp only [Act.put, List.setIfInBounds_toArray, List.set_cons_zero, List.set_cons_succ, i64_w, i32_w]
    rfl
  refine one_ (i := 10) (N := some 19) #[true, true, true, true, true, true, true, true, true, true, true, false, false, false] rfl rfl (by kernel_rfl) (by decide) (fun K hK => ?_)
  refine Kd.S_append_step k45 (w0 := wd) base (by rfl) (.tmp 13) (.tmp 18) 28 45 (.agg #[(.bool false), (.int .i64 0), (.slice none 0 0)]) 40 rfl Try.underlying28 info45 rfl (by decide) (by omega) _ out (⟨bl, el, ws⟩ : S45) [.bool bl, .int .i64 el, .slice A7 ws.length n7] (fun k => base ≤ k) (fun k => some k = (Value.slice A7 ws.length n7).ownBlock) rfl rfl (k45_mkM _ _ _ (⟨bl, el, ws⟩ : S45) (Kd.R_tight rfl HWd.out)) (fun k hk => ⟨Kd.R_base HWd.out k hk.symm, fun e => Kd.S_away HTd.out (g := k) (fun j hj e2 => hj.2 (e2 ▸ hk)) e⟩) (fun k hk => Nat.le_trans (by have := HBd.out.size; omega) hk) HTd.out (Below.refl _ _) (by have := HBd.out.size; omega) (by omega) ?_
  intro v1 w5 ho hb5 hg5 hat
  obtain ⟨out9, ho9⟩ : ∃ o, out ++ [(⟨bl, el, ws⟩ : S45)] = o := ⟨_, rfl⟩
  rw [ho9] at ho
  have HO9 := Aside0.mk ho9
  clear ho9
  have HO5 := Aside0.mk (Kd.R_over' HOd.out (Kd.S_typed HTd.out) (by decide) hg5)
  have HT5 := Aside0.mk ho
  have HB5 := Aside0.mk hb5
  have hgo : some g ≠ (Value.slice A8 out.length n8).ownBlock := fun e => by have := Kd.R_base (Kd.S_R HTd.out) g e.symm; omega
  have hB5 := blk_grown HWL.out hg5 hgo
  have HW5 := Aside0.mk (blk_set hB5 8 v1)
  have d5 : w5.cell? ⟨g, 5, none⟩ = some (.bool bl) := (blk_cell hB5 5).trans rfl
  have d6 : w5.cell? ⟨g, 6, none⟩ = some (.int .i64 el) := (blk_cell hB5 6).trans rfl
  have d7 : w5.cell? ⟨g, 7, none⟩ = some (.slice A7 ws.length n7) := (blk_cell hB5 7).trans rfl
  have d8 : w5.cell? ⟨g, 8, none⟩ = some (.slice A8 out.length n8) := (blk_cell hB5 8).trans rfl
  have d9 : w5.cell? ⟨g, 9, none⟩ = some (.bool ins) := (blk_cell hB5 9).trans rfl
  have e5 := blk_frozen hB5 5
  have e6 := blk_frozen hB5 6
  have e7 := blk_frozen hB5 7
  have e8 := blk_frozen hB5 8
  have e9 := blk_frozen hB5 9
  have hg5l : g < w5.heap.size := blk_lt hB5
  obtain ⟨A9, n9, rfl⟩ := Kd.R_slice (Kd.S_R HT5.out)
  clear ho hb5 hg5 hat hB5 hgo
  refine hK.out _ _ ⟨d5, d6, d7, d8⟩ (fun hHeld => ?_)
  clear hK K
  refine norm_ (a' := ?_) ?_ ?_
  rotate_left
  · show Act.put _ (some 19) _ = _
    simp only [Act.put, List.setIfInBounds_toArray, List.set_cons_zero, List.set_cons_succ, i64_w, i32_w]
    rfl
  refine pure_ (i := 11) (N := some 20) (v := ?_) (a' := ?_) #[true, true, true, true, true, true, true, true, true, true, true, true, false, false] rfl rfl (by kernel_rfl) (fun _ _ _ h => h) (Or.inl ⟨by rfl, ?_⟩) ?_ ?_
  rotate_left
  · intro w'
    go_simp
    with_reducible rfl
  rotate_left
  · simp only [Act.put, List.setIfInBounds_toArray, List.set_cons_zero, List.set_cons_succ, i64_w, i32_w]
    rfl
  refine pure_ (i := 12) (N := some 21) (v := ?_) (a' := ?_) #[true, true, true, true, true, true, true, true, true, true, true, true, true, false] rfl rfl (by kernel_rfl) (fun _ _ _ h => h) (Or.inl ⟨by rfl, ?_⟩) ?_ ?_
  rotate_left
  · intro w'
    go_simp
    with_reducible rfl
  rotate_left
  · simp only [Act.put, List.setIfInBounds_toArray, List.set_cons_zero, List.set_cons_succ, i64_w, i32_w]
    rfl
  refine last_ (i := 13) (N := none) #[true, true, true, true, true, true, true, true, true, true, true, true, true, true] rfl rfl (by kernel_rfl) (by decide) (fun K hK => ?_)
  refine skip_ (w1 := w5.setCell ⟨g, 8, none⟩ (.slice A9 out9.length n9)) (by rfl) rfl ?_ ?_
  · go_simp
    try with_reducible rfl
  refine hK.out _ _ ?_
  clear hK K
  refine done_ (by kernel_rfl) ?_
  go_wp2
  go_end0
  have K := (((((KeepBut.refl w5 g none).set_ 8 (.slice A9 out9.length n9)).set_ 5 (.bool false)).set_ 6 (.int .i64 0)).set_ 7 (.slice none 0 0)).set_ 9 (.bool false)
  have e1 := blk_set (blk_set (blk_set (blk_set HW5.out 5 (.bool false)) 6 (.int .i64 0)) 7 (.slice none 0 0)) 9 (.bool false)
  have e2 := Kd.R_keep HO5.out K (fun k hk => by omega)
  have e3 := Kd.S_keep HT5.out K (fun k hk => by omega)
  have e4 := Nat.le_trans hsz (Nat.le_trans (Nat.le_trans HBd.out.size HB5.out.size) K.1)
  rw [HO9.out]
  generalize hWF : ((((w5.setCell _ _).setCell _ _).setCell _ _).setCell _ _).setCell _ _ = WF at e1 e2 e3 e4 ⊢
  have e5 : WF.heap[g]? = some (.cells (rcells s p line b (.slice A4 op.length n4) false 0 (.slice none 0 0) (.slice A9 out9.length n9) false) 64 (0, 0)) := e1
  have q1 : Kd.R k30 30 WF base (fun k => base ≤ k) (.slice A4 op.length n4) op := e2
  have q2 : Kd.S k45 45 WF base (fun k => base ≤ k ∧ ¬ some k = (Value.slice none 0 0).ownBlock) (.slice A9 out9.length n9) out9 := Kd.S_mono e3 (fun k hk => ⟨hk, by simp [Value.ownBlock]⟩)
  have q4 : RS WF g base s p line b op false 0 [] out9 false := ⟨⟨_, _, _, e5, q1, Kd.R_nil _ _ _ _ _, q2⟩, hlt, e4⟩
  refine ⟨rfl, q4, ?_⟩
  subst hWF
  have hw5 := (Bg.of HBd.out hsz (Nat.le_of_lt hgl)).trans (Bg.of HB5.out (Nat.le_refl base) (Nat.le_of_lt hlt))
  exact ((((hw5.set _ _).set _ _).set _ _).set _ _).set _ _

/-- the rows of entries behind a close -/
def closeL (bl : Bool) (el : Int) (ws : List S23) (out : List S45) : List S45 := if ws.isEmpty = true then out else out ++ [⟨bl, el, ws⟩]
theorem close_calls (w : World) (g base : Nat) (s : ByteArray) (p line b : Int) (op : List S30) (bl : Bool) (el : Int) (ws : List S23) (out : List S45) (ins : Bool) (h : RS w g base s p line b op bl el ws out ins) (hol : out.length ≤ 1000000) :
    Calls Try.prog 34 #[.pointer (some ⟨g, 0, none⟩)] w fun e w' => e = .returned (.tuple #[]) ∧ RS w' g base s p line b op false 0 [] (closeL bl el ws out) false ∧ Bg base g w w' := by
  cases ws with
  | nil => exact close_nil w g base s p line b op bl el out ins h
  | cons a ws => exact close_some w g base s p line b op bl el (a :: ws) out ins h (by simp) hol
theorem RS.set2 {W : World} {g base : Nat} {s : ByteArray} {p line b line' b' : Int} {op : List S30} {bl : Bool} {el : Int} {ws : List S23} {out : List S45} {ins : Bool} (h : RS W g base s p line b op bl el ws out ins) :
    RS ((W.setCell ⟨g, 2, none⟩ (.int .i64 line')).setCell ⟨g, 3, none⟩ (.int .i64 b')) g base s p line' b' op bl el ws out ins ∧ Bg base g W ((W.setCell ⟨g, 2, none⟩ (.int .i64 line')).setCell ⟨g, 3, none⟩ (.int .i64 b')) := by
  obtain ⟨⟨vo, vw, vt, h1, h2, h3, h4⟩, hlt, hsz⟩ := h
  exact ⟨RS.sets h2 h3 h4 hlt hsz (((KeepBut.refl W g none).set_ 2 _).set_ 3 _) ((blk_set (blk_set h1 2 _) 3 _).trans rfl), ((Bg.refl base g W).set _ _).set _ _⟩

set_option maxHeartbeats 400000 in
theorem ended_open (w : World) (g base : Nat) (s : ByteArray) (p line b : Int) (op : List S30) (bl : Bool) (el : Int) (ws : List S23) (out : List S45) (ins : Bool) (h : RS w g base s p line b op bl el ws out ins) (hol : out.length ≤ 1000000) (hl0 : 0 ≤ line) (hl1 : line ≤ 1000000) (hop : 0 < op.length) :
    Calls Try.prog 31 #[.pointer (some ⟨g, 0, none⟩)] w fun e w' => e = .returned (.tuple #[]) ∧ RS w' g base s p (line + 1) p op bl el ws out ins ∧ Bg base g w w' := by
  have h2 := Aside0.mk (h.set2 (line' := line + 1) (b' := p))
  obtain ⟨⟨vo, vw, vt, hb, hO, hW, hT⟩, hlt, hsz⟩ := h
  obtain ⟨A4, n4, rfl⟩ := Kd.R_slice hO
  obtain ⟨A7, n7, rfl⟩ := Kd.R_slice hW
  obtain ⟨A8, n8, rfl⟩ := Kd.R_slice (Kd.S_R hT)
  have c1 : w.cell? ⟨g, 1, none⟩ = some (.int .i64 p) := (blk_cell hb 1).trans rfl
  have c2 : w.cell? ⟨g, 2, none⟩ = some (.int .i64 line) := (blk_cell hb 2).trans rfl
  have c3 : w.cell? ⟨g, 3, none⟩ = some (.int .i64 b) := (blk_cell hb 3).trans rfl
  have c4 : w.cell? ⟨g, 4, none⟩ = some (.slice A4 op.length n4) := (blk_cell hb 4).trans rfl
  have f2 := blk_frozen hb 2
  have f3 := blk_frozen hb 3
  have hgl : g < w.heap.size := blk_lt hb
  have hop0 : ((op.length : Int) == 0) = false := beq_eq_false_iff_ne.2 (by omega)
  clear hb hO hW hT
  go_enter Try.func31, Try.ntmps31
  go_wp2
  go_end0
  exact ⟨rfl, h2.out.1, h2.out.2⟩

set_option maxHeartbeats 400000 in
theorem ended_nil (w : World) (g base : Nat) (s : ByteArray) (p line b : Int) (bl : Bool) (el : Int) (ws : List S23) (out : List S45) (ins : Bool) (h : RS w g base s p line b [] bl el ws out ins) (hol : out.length ≤ 1000000) (hl0 : 0 ≤ line) (hl1 : line ≤ 1000000) :
    Calls Try.prog 31 #[.pointer (some ⟨g, 0, none⟩)] w fun e w' => e = .returned (.tuple #[]) ∧ RS w' g base s p (line + 1) p [] false 0 [] (closeL bl el ws out) false ∧ Bg base g w w' := by
  obtain ⟨op, hop⟩ : ∃ op : List S30, op = [] := ⟨_, rfl⟩
  rw [← hop] at h ⊢
  have h2 := Aside0.mk (h.set2 (line' := line + 1) (b' := p))
  obtain ⟨⟨vo, vw, vt, hb, hO, hW, hT⟩, hlt, hsz⟩ := h
  obtain ⟨A4, n4, rfl⟩ := Kd.R_slice hO
  obtain ⟨A7, n7, rfl⟩ := Kd.R_slice hW
  obtain ⟨A8, n8, rfl⟩ := Kd.R_slice (Kd.S_R hT)
  have c1 : w.cell? ⟨g, 1, none⟩ = some (.int .i64 p) := (blk_cell hb 1).trans rfl
  have c2 : w.cell? ⟨g, 2, none⟩ = some (.int .i64 line) := (blk_cell hb 2).trans rfl
  have c3 : w.cell? ⟨g, 3, none⟩ = some (.int .i64 b) := (blk_cell hb 3).trans rfl
  have c4 : w.cell? ⟨g, 4, none⟩ = some (.slice A4 op.length n4) := (blk_cell hb 4).trans rfl
  have f2 := blk_frozen hb 2
  have f3 := blk_frozen hb 3
  have hgl : g < w.heap.size := blk_lt hb
  have hop0 : ((op.length : Int) == 0) = true := by rw [hop]; rfl
  have HOP := Aside0.mk hop
  clear hb hO hW hT hop
  go_enter Try.func31, Try.ntmps31
  go_wp2_with (go_at_call 34; (with_reducible refine (close_calls _ g base s p (line + 1) p op bl el ws out ins h2.out.1 hol).mono ?_); rintro e w1 ⟨rfl, hr, hbl⟩; have HR := Aside0.mk hr; have HB := Aside0.mk (h2.out.2.trans hbl); clear hr hbl)
  go_end0
  exact ⟨rfl, HR.out, HB.out⟩

set_option maxHeartbeats 2000000 in
set_option maxRecDepth 100000 in
theorem put_bare (w : World) (g base : Nat) (s : ByteArray) (p line b : Int) (op : List S30) (bl : Bool) (el : Int) (ws : List S23) (out : List S45) (ins : Bool) (a e : Nat) (h : RS w g base s p line b op bl el ws out ins) (hwl : ws.length ≤ 1000000) (hs : s.size ≤ 1000000) (hb0 : 0 ≤ b) (hba : b ≤ a) (hae : a ≤ e) (hes : e ≤ s.size) :
    Calls Try.prog 33 #[.pointer (some ⟨g, 0, none⟩), .int .i64 (a : Int), .int .i64 (e : Int), .bool false] w fun e_ w' => e_ = .returned (.tuple #[]) ∧ RS w' g base s p line b op bl el (ws ++ [⟨s.extract a e, false, line, (a : Int) - b + 1⟩]) out ins ∧ Bg base g w w' := by
  have hbk : ∃ vo vw vt, w.heap[g]? = some (.cells (rcells s p line b vo bl el vw vt ins) 64 (0, 0)) := by obtain ⟨⟨vo, vw, vt, hb, _⟩, _⟩ := h; exact ⟨vo, vw, vt, hb⟩
  have HSP : Aside0 (Calls Try.prog 32 #[.pointer (some ⟨g, 0, none⟩), .int .i64 (a : Int)] w fun e w' => e = .returned (.agg #[.int .i64 line, .int .i64 ((a : Int) - b + 1)]) ∧ Below w.heap.size w w') := by
    obtain ⟨vo, vw, vt, hb⟩ := hbk
    exact ⟨spot_calls w g s p line b vo bl el vw vt ins (a : Int) hb hb0 hba (by omega)⟩
  obtain ⟨⟨vo, vw, vt, hb, hO, hW, hT⟩, hlt, hsz⟩ := h
  obtain ⟨A4, n4, rfl⟩ := Kd.R_slice hO
  obtain ⟨A7, n7, rfl⟩ := Kd.R_slice hW
  obtain ⟨A8, n8, rfl⟩ := Kd.R_slice (Kd.S_R hT)
  have hgl : g < w.heap.size := blk_lt hb
  have HBK := Aside0.mk hb
  have HO := Aside0.mk hO
  have HW := Aside0.mk hW
  have HT := Aside0.mk hT
  clear hb hO hW hT
  have i0 : (0 : Int) ≤ (a : Int) := by omega
  have i1 : (a : Int) ≤ (e : Int) := by omega
  have i2 : (e : Int) ≤ (s.size : Int) := by omega
  go_enter Try.func33, Try.ntmps33
  go_wp2_with (go_at_call 32; (with_reducible refine (HSP.out).mono ?_); rintro e_ w1 ⟨rfl, hb1⟩; have HB1 := Aside0.mk hb1; have HBK1 := Aside0.mk (blk_below HBK.out hb1); have HO1 := Aside0.mk (Kd.R_below HO.out hb1); have HW1 := Aside0.mk (Kd.R_below HW.out hb1); have HT1 := Aside0.mk (Kd.S_below HT.out hb1); have k0 : w1.cell? ⟨g, 0, none⟩ = some (.string s) := (blk_cell HBK1.out 0).trans rfl; have hgl1 : g < w1.heap.size := blk_lt HBK1.out; clear hb1)
  go_region
  have HK2 : Aside0 (((w1.alloc (.cells #[.int .i64 line, .int .i64 ((a : Int) - b + 1)] 30)).alloc (.cells #[.string (s.extract a e), .bool false, .int .i64 line, .int .i64 ((a : Int) - b + 1)] 23)).drew.heap[w1.heap.size + 1]? = some (.cells #[.string (s.extract a e), .bool false, .int .i64 line, .int .i64 ((a : Int) - b + 1)] 23 (0, 0))) := ⟨by
    have := blk_new (w1.alloc (.cells #[.int .i64 line, .int .i64 ((a : Int) - b + 1)] 30 (0, 0))) (.cells #[.string (s.extract a e), .bool false, .int .i64 line, .int .i64 ((a : Int) - b + 1)] 23 (0, 0))
    rw [show (w1.alloc (.cells #[.int .i64 line, .int .i64 ((a : Int) - b + 1)] 30 (0, 0))).heap.size = w1.heap.size + 1 by simp] at this
    exact blk_drew this⟩
  have hB12 : Below w1.heap.size w1 ((w1.alloc (.cells #[.int .i64 line, .int .i64 ((a : Int) - b + 1)] 30)).alloc (.cells #[.string (s.extract a e), .bool false, .int .i64 line, .int .i64 ((a : Int) - b + 1)] 23)).drew := below_drew1 (below_alloc (below_alloc (Below.refl _ _) _) _)
  generalize ((w1.alloc _).alloc _).drew = w3 at HK2 hB12 ⊢
  have HK3 := HK2
  have HBK3 := Aside0.mk (blk_below HBK1.out hB12)
  have HO3 := Aside0.mk (Kd.R_below HO1.out hB12)
  have HW3 := Aside0.mk (Kd.R_below HW1.out hB12)
  have HT3 := Aside0.mk (Kd.S_below HT1.out hB12)
  have HB3 := Aside0.mk (HB1.out.trans (below_to hB12 HB1.out.size))
  obtain ⟨nb, hnb⟩ : ∃ nb, nb = w1.heap.size + 1 := ⟨_, rfl⟩
  rw [← hnb] at HK3 ⊢
  have hgn : g ≠ nb := by omega
  have hnw : Aside0 (some nb ≠ (Value.slice A7 ws.length n7).ownBlock) := ⟨fun e => by have h1 := Kd.R_lt HW.out nb e.symm; have h2 := HB1.out.size; omega⟩
  have hbn : base ≤ nb := by have := HB1.out.size; omega
  clear HK2 hB12 HBK1 HO1 HW1 HT1 HB1 HSP hbk k0 hgl1 hnb
  have k7 : w3.cell? ⟨g, 7, none⟩ = some (.slice A7 ws.length n7) := (blk_cell HBK3.out 7).trans rfl
  have m0 : w3.cell? ⟨nb, 0, none⟩ = some (.string (s.extract a e)) := (blk_cell HK3.out 0).trans rfl
  have m1 : w3.cell? ⟨nb, 1, none⟩ = some (.bool false) := (blk_cell HK3.out 1).trans rfl
  have m2 : w3.cell? ⟨nb, 2, none⟩ = some (.int .i64 line) := (blk_cell HK3.out 2).trans rfl
  have m3 : w3.cell? ⟨nb, 3, none⟩ = some (.int .i64 ((a : Int) - b + 1)) := (blk_cell HK3.out 3).trans rfl
  have hg3 : g < w3.heap.size := blk_lt HBK3.out
  have hn3 : nb < w3.heap.size := blk_lt HK3.out
  go_wp2
  have HBd := Aside0.mk (below_drew1 (Below.refl w3.heap.size w3))
  have HOd := Aside0.mk (Kd.R_drew HO3.out)
  have HWd := Aside0.mk (Kd.R_drew HW3.out)
  have HTd := Aside0.mk (Kd.S_drew HT3.out)
  have HWL := Aside0.mk (blk_drew HBK3.out)
  have HNL := Aside0.mk (blk_drew HK3.out)
  have hcd : w3.drew.cell? ⟨g, 7, none⟩ = some (.slice A7 ws.length n7) ∧ w3.drew.cell? ⟨nb, 0, none⟩ = some (.string (s.extract a e)) ∧ w3.drew.cell? ⟨nb, 1, none⟩ = some (.bool false) ∧ w3.drew.cell? ⟨nb, 2, none⟩ = some (.int .i64 line) ∧ w3.drew.cell? ⟨nb, 3, none⟩ = some (.int .i64 ((a : Int) - b + 1)) := ⟨k7, m0, m1, m2, m3⟩
  have hb3 : base ≤ w3.heap.size := by have := HB3.out.size; omega
  refine start_ (n := 13) (S := (fun w' => w'.cell? ⟨g, 7, none⟩ = some (.slice A7 ws.length n7) ∧ w'.cell? ⟨nb, 0, none⟩ = some (.string (s.extract a e)) ∧ w'.cell? ⟨nb, 1, none⟩ = some (.bool false) ∧ w'.cell? ⟨nb, 2, none⟩ = some (.int .i64 line) ∧ w'.cell? ⟨nb, 3, none⟩ = some (.int .i64 ((a : Int) - b + 1)))) (ds := [12]) #[false, false, false, false, false, false, false, false, false, false, false, false, false] (by kernel_rfl) rfl rfl hcd (fun hHeld => ?_)
  generalize w3.drew = wd at HBd HOd HWd HTd HWL HNL hcd hHeld ⊢
  refine pure_ (i := 0) (N := some 37) (v := ?_) (a' := ?_) #[true, false, false, false, false, false, false, false, false, false, false, false, false] rfl rfl (by kernel_rfl) (fun _ _ _ h => h) (Or.inl ⟨by rfl, ?_⟩) ?_ ?_
  rotate_left
  · intro w'
    go_simp
    with_reducible rfl
  rotate_left
  · simp only [Act.put, List.setIfInBounds_toArray, List.set_cons_zero, List.set_cons_succ, i64_w, i32_w]
    rfl
  refine pure_ (i := 1) (N := some 38) (v := ?_) (a' := ?_) #[true, true, false, false, false, false, false, false, false, false, false, false, false] rfl rfl (by kernel_rfl) (fun _ _ _ h => h) (Or.inl ⟨by rfl, ?_⟩) ?_ ?_
  rotate_left
  · intro w'
    go_simp
    with_reducible rfl
  rotate_left
  · simp only [Act.put, List.setIfInBounds_toArray, List.set_cons_zero, List.set_cons_succ, i64_w, i32_w]
    rfl
  refine pure_ (i := 2) (N := some 39) (v := ?_) (a' := ?_) #[true, true, true, false, false, false, false, false, false, false, false, false, false] rfl rfl (by kernel_rfl) (fun _ _ _ h => h) (Or.inl ⟨by rfl, ?_⟩) ?_ ?_
  rotate_left
  · intro w'
    go_simp
    with_reducible rfl
  rotate_left
  · simp only [Act.put, List.setIfInBounds_toArray, List.set_cons_zero, List.set_cons_succ, i64_w, i32_w]
    rfl
  refine pure_ (i := 3) (N := some 40) (v := ?_) (a' := ?_) #[true, true, true, true, false, false, false, false, false, false, false, false, false] rfl rfl (by kernel_rfl) (fun _ _ _ h => h) (Or.inl ⟨by rfl, ?_⟩) ?_ ?_
  rotate_left
  · intro w'
    go_simp
    with_reducible rfl
  rotate_left
  · simp only [Act.put, List.setIfInBounds_toArray, List.set_cons_zero, List.set_cons_succ, i64_w, i32_w]
    rfl
  refine pure_ (i := 4) (N := some 41) (v := ?_) (a' := ?_) #[true, true, true, true, true, false, false, false, false, false, false, false, false] rfl rfl (by kernel_rfl) (fun _ _ _ h => h) (Or.inl ⟨by rfl, ?_⟩) ?_ ?_
  rotate_left
  · intro w'
    go_simp
    with_reducible rfl
  rotate_left
  · simp only [Act.put, List.setIfInBounds_toArray, List.set_cons_zero, List.set_cons_succ, i64_w, i32_w]
    rfl
  refine take_ (i := 5) (N := some 42) (v := ?_) (a' := ?_) #[true, true, true, true, true, true, false, false, false, false, false, false, false] rfl rfl (by kernel_rfl) (fun _ _ _ h => h) (Or.inl ⟨by rfl, ?_⟩) hHeld ?_ ?_
  rotate_left
  · rintro w' ⟨h7, h0, h1, h2, h3⟩
    go_simp
    with_reducible rfl
  rotate_left
  · simp only [Act.put, List.setIfInBounds_toArray, List.set_cons_zero, List.set_cons_succ, i64_w, i32_w]
    rfl
  refine take_ (i := 6) (N := some 43) (v := ?_) (a' := ?_) #[true, true, true, true, true, true, true, false, false, false, false, false, false] rfl rfl (by kernel_rfl) (fun _ _ _ h => h) (Or.inl ⟨by rfl, ?_⟩) hHeld ?_ ?_
  rotate_left
  · rintro w' ⟨h7, h0, h1, h2, h3⟩
    go_simp
    with_reducible rfl
  rotate_left
  · simp only [Act.put, List.setIfInBounds_toArray, List.set_cons_zero, List.set_cons_succ, i64_w, i32_w]
    rfl
  refine one_ (i := 7) (N := some 44) #[true, true, true, true, true, true, true, true, false, false, false, false, false] rfl rfl (by kernel_rfl) (by decide) (fun K hK => ?_)
  refine value_ (v := .slice (some ⟨wd.heap.size, 0, none⟩) 1 1) (w1 := wd.alloc (.cells #[.string (s.extract a e), .bool false, .int .i64 line, .int .i64 ((a : Int) - b + 1)] 23)) (by rfl) rfl ?_ ?_
  · go_simp
    try with_reducible rfl
  refine hK.out _ _ (have ha := (below_alloc (Below.refl wd.heap.size wd) (.cells #[.string (s.extract a e), .bool false, .int .i64 line, .int .i64 ((a : Int) - b + 1)] 23 (0, 0))); ⟨pw_cell_below ha hHeld.1, pw_cell_below ha hHeld.2.1, pw_cell_below ha hHeld.2.2.1, pw_cell_below ha hHeld.2.2.2.1, pw_cell_below ha hHeld.2.2.2.2⟩) (fun hHeld => ?_)
  clear hK K
  refine norm_ (a' := ?_) ?_ ?_
  rotate_left
  · show Act.put _ (some 44) _ = _
    simp only [Act.put, List.setIfInBounds_toArray, List.set_cons_zero, List.set_cons_succ, i64_w, i32_w]
    rfl
  refine one_ (i := 8) (N := some 45) #[true, true, true, true, true, true, true, true, true, false, false, false, false] rfl rfl (by kernel_rfl) (by decide) (fun K hK => ?_)
  refine Kd.R_append_step k23 (w0 := wd) base (by rfl) (.tmp 42) (.tmp 44) 43 23 (.agg #[(.string ⟨#[]⟩), (.bool false), (.int .i64 0), (.int .i64 0)]) 40 rfl Try.underlying43 info23 rfl (by decide) (by omega) _ ws (⟨s.extract a e, false, line, (a : Int) - b + 1⟩ : S23) [.string (s.extract a e), .bool false, .int .i64 line, .int .i64 ((a : Int) - b + 1)] (fun k => base ≤ k) (fun _ => False) rfl rfl (k23_mkM _ _ _ (⟨s.extract a e, false, line, (a : Int) - b + 1⟩ : S23)) (fun k hk => hk.elim) (fun k hk => Nat.le_trans (by have := HBd.out.size; omega) hk) HWd.out (Below.refl _ _) (by have := HBd.out.size; omega) (by omega) ?_
  intro v1 w5 ho hb5 hg5 hat
  obtain ⟨ws9, hws9⟩ : ∃ o, ws ++ [(⟨s.extract a e, false, line, (a : Int) - b + 1⟩ : S23)] = o := ⟨_, rfl⟩
  rw [hws9] at ho
  have HWS9 := Aside0.mk hws9
  clear hws9
  have HO5 := Aside0.mk (Kd.R_over' HOd.out (Kd.R_typed HWd.out) (by decide) hg5)
  have HW5 := Aside0.mk ho
  have HT5 := Aside0.mk (Kd.S_after HTd.out hg5 hat)
  have HB5 := Aside0.mk hb5
  have hgo : some g ≠ (Value.slice A7 ws.length n7).ownBlock := fun e => by have := Kd.R_base HWd.out g e.symm; omega
  have hB5 := blk_grown HWL.out hg5 hgo
  have HWB5 := Aside0.mk (blk_set hB5 7 v1)
  have d7 : w5.cell? ⟨g, 7, none⟩ = some (.slice A7 ws.length n7) := (blk_cell hB5 7).trans rfl
  have e7 := blk_frozen hB5 7
  have hg5l : g < w5.heap.size := blk_lt hB5
  have hN5 := blk_grown HNL.out hg5 hnw.out
  have d0 : w5.cell? ⟨nb, 0, none⟩ = some (.string (s.extract a e)) := (blk_cell hN5 0).trans rfl
  have d1 : w5.cell? ⟨nb, 1, none⟩ = some (.bool false) := (blk_cell hN5 1).trans rfl
  have d2 : w5.cell? ⟨nb, 2, none⟩ = some (.int .i64 line) := (blk_cell hN5 2).trans rfl
  have d3 : w5.cell? ⟨nb, 3, none⟩ = some (.int .i64 ((a : Int) - b + 1)) := (blk_cell hN5 3).trans rfl
  obtain ⟨A9, n9, rfl⟩ := Kd.R_slice HW5.out
  clear ho hb5 hg5 hat hB5 hgo hN5
  refine hK.out _ _ ⟨d7, d0, d1, d2, d3⟩ (fun hHeld => ?_)
  clear hK K
  refine norm_ (a' := ?_) ?_ ?_
  rotate_left
  · show Act.put _ (some 45) _ = _
    simp only [Act.put, List.setIfInBounds_toArray, List.set_cons_zero, List.set_cons_succ, i64_w, i32_w]
    rfl
  refine pure_ (i := 9) (N := some 46) (v := ?_) (a' := ?_) #[true, true, true, true, true, true, true, true, true, true, false, false, false] rfl rfl (by kernel_rfl) (fun _ _ _ h => h) (Or.inl ⟨by rfl, ?_⟩) ?_ ?_
  rotate_left
  · intro w'
    go_simp
    with_reducible rfl
  rotate_left
  · simp only [Act.put, List.setIfInBounds_toArray, List.set_cons_zero, List.set_cons_succ, i64_w, i32_w]
    rfl
  refine pure_ (i := 10) (N := some 47) (v := ?_) (a' := ?_) #[true, true, true, true, true, true, true, true, true, true, true, false, false] rfl rfl (by kernel_rfl) (fun _ _ _ h => h) (Or.inl ⟨by rfl, ?_⟩) ?_ ?_
  rotate_left
  · intro w'
    go_simp
    with_reducible rfl
  rotate_left
  · simp only [Act.put, List.setIfInBounds_toArray, List.set_cons_zero, List.set_cons_succ, i64_w, i32_w]
    rfl
  refine pure_ (i := 11) (N := some 48) (v := ?_) (a' := ?_) #[true, true, true, true, true, true, true, true, true, true, true, true, false] rfl rfl (by kernel_rfl) (fun _ _ _ h => h) (Or.inl ⟨by rfl, ?_⟩) ?_ ?_
  rotate_left
  · intro w'
    go_simp
    with_reducible rfl
  rotate_left
  · simp only [Act.put, List.setIfInBounds_toArray, List.set_cons_zero, List.set_cons_succ, i64_w, i32_w]
    rfl
  refine last_ (i := 12) (N := none) #[true, true, true, true, true, true, true, true, true, true, true, true, true] rfl rfl (by kernel_rfl) (by decide) (fun K hK => ?_)
  refine skip_ (w1 := w5.setCell ⟨g, 7, none⟩ (.slice A9 ws9.length n9)) (by rfl) rfl ?_ ?_
  · go_simp
    try with_reducible rfl
  refine hK.out _ _ ?_
  clear hK K
  refine done_ (by kernel_rfl) ?_
  go_wp2
  go_end0
  rw [HWS9.out]
  have K := (KeepBut.refl w5 g none).set_ 7 (.slice A9 ws9.length n9)
  have e1 := HWB5.out
  have e2 := Kd.R_keep HO5.out K (fun k hk => by omega)
  have e3 := Kd.S_keep HT5.out K (fun k hk => by omega)
  have e6 := Kd.R_keep HW5.out K (fun k hk => by omega)
  have e4 := Nat.le_trans hsz (Nat.le_trans HB3.out.size (Nat.le_trans (Nat.le_trans HBd.out.size HB5.out.size) K.1))
  have e8 : Bg base g w (w5.setCell ⟨g, 7, none⟩ (.slice A9 ws9.length n9)) := ((Bg.of HB3.out hsz (Nat.le_of_lt hgl)).trans ((Bg.of HBd.out hb3 (Nat.le_of_lt hg3)).trans (Bg.of HB5.out (Nat.le_refl base) (Nat.le_of_lt hlt)))).set _ _
  generalize w5.setCell _ _ = WF at e1 e2 e3 e4 e6 e8 ⊢
  have e5 : WF.heap[g]? = some (.cells (rcells s p line b (.slice A4 op.length n4) bl el (.slice A9 ws9.length n9) (.slice A8 out.length n8) ins) 64 (0, 0)) := e1
  have q4 : RS WF g base s p line b op bl el ws9 out ins := ⟨⟨_, _, _, e5, e2, e6, e3⟩, hlt, e4⟩
  exact ⟨rfl, q4, e8⟩

set_option maxHeartbeats 2000000 in
set_option maxRecDepth 100000 in
theorem put_quoted (w : World) (g base : Nat) (s : ByteArray) (p line b : Int) (op : List S30) (bl : Bool) (el : Int) (ws : List S23) (out : List S45) (ins : Bool) (a e : Nat) (h : RS w g base s p line b op bl el ws out ins) (hwl : ws.length ≤ 1000000) (hs : s.size ≤ 1000000) (hb0 : 0 ≤ b) (hba : b ≤ a) (hae : a + 2 ≤ e) (hes : e ≤ s.size) :
    Calls Try.prog 33 #[.pointer (some ⟨g, 0, none⟩), .int .i64 (a : Int), .int .i64 (e : Int), .bool true] w fun e_ w' => e_ = .returned (.tuple #[]) ∧ RS w' g base s p line b op bl el (ws ++ [⟨s.extract (a + 1) (e - 1), true, line, (a : Int) - b + 1⟩]) out ins ∧ Bg base g w w' := by
  have hbk : ∃ vo vw vt, w.heap[g]? = some (.cells (rcells s p line b vo bl el vw vt ins) 64 (0, 0)) := by obtain ⟨⟨vo, vw, vt, hb, _⟩, _⟩ := h; exact ⟨vo, vw, vt, hb⟩
  have HSP : Aside0 (Calls Try.prog 32 #[.pointer (some ⟨g, 0, none⟩), .int .i64 (a : Int)] w fun e w' => e = .returned (.agg #[.int .i64 line, .int .i64 ((a : Int) - b + 1)]) ∧ Below w.heap.size w w') := by
    obtain ⟨vo, vw, vt, hb⟩ := hbk
    exact ⟨spot_calls w g s p line b vo bl el vw vt ins (a : Int) hb hb0 hba (by omega)⟩
  obtain ⟨⟨vo, vw, vt, hb, hO, hW, hT⟩, hlt, hsz⟩ := h
  obtain ⟨A4, n4, rfl⟩ := Kd.R_slice hO
  obtain ⟨A7, n7, rfl⟩ := Kd.R_slice hW
  obtain ⟨A8, n8, rfl⟩ := Kd.R_slice (Kd.S_R hT)
  have hgl : g < w.heap.size := blk_lt hb
  have HBK := Aside0.mk hb
  have HO := Aside0.mk hO
  have HW := Aside0.mk hW
  have HT := Aside0.mk hT
  clear hb hO hW hT
  have i0 : (0 : Int) ≤ (a : Int) := by omega
  have q0 : (0 : Int) ≤ (a : Int) + 1 := by omega
  have q1 : (a : Int) + 1 ≤ (e : Int) - 1 := by omega
  have q2 : (e : Int) - 1 ≤ (s.size : Int) := by omega
  have i1 : (a : Int) ≤ (e : Int) := by omega
  have i2 : (e : Int) ≤ (s.size : Int) := by omega
  go_enter Try.func33, Try.ntmps33
  go_wp2_with (go_at_call 32; (with_reducible refine (HSP.out).mono ?_); rintro e_ w1 ⟨rfl, hb1⟩; have HB1 := Aside0.mk hb1; have HBK1 := Aside0.mk (blk_below HBK.out hb1); have HO1 := Aside0.mk (Kd.R_below HO.out hb1); have HW1 := Aside0.mk (Kd.R_below HW.out hb1); have HT1 := Aside0.mk (Kd.S_below HT.out hb1); have k0 : w1.cell? ⟨g, 0, none⟩ = some (.string s) := (blk_cell HBK1.out 0).trans rfl; have hgl1 : g < w1.heap.size := blk_lt HBK1.out; clear hb1)
  go_region
  have HK2 : Aside0 (((w1.alloc (.cells #[.int .i64 line, .int .i64 ((a : Int) - b + 1)] 30)).alloc (.cells #[.string (s.extract a e), .bool true, .int .i64 line, .int .i64 ((a : Int) - b + 1)] 23)).drew.heap[w1.heap.size + 1]? = some (.cells #[.string (s.extract a e), .bool true, .int .i64 line, .int .i64 ((a : Int) - b + 1)] 23 (0, 0))) := ⟨by
    have := blk_new (w1.alloc (.cells #[.int .i64 line, .int .i64 ((a : Int) - b + 1)] 30 (0, 0))) (.cells #[.string (s.extract a e), .bool true, .int .i64 line, .int .i64 ((a : Int) - b + 1)] 23 (0, 0))
    rw [show (w1.alloc (.cells #[.int .i64 line, .int .i64 ((a : Int) - b + 1)] 30 (0, 0))).heap.size = w1.heap.size + 1 by simp] at this
    exact blk_drew this⟩
  have hB12 : Below w1.heap.size w1 ((w1.alloc (.cells #[.int .i64 line, .int .i64 ((a : Int) - b + 1)] 30)).alloc (.cells #[.string (s.extract a e), .bool true, .int .i64 line, .int .i64 ((a : Int) - b + 1)] 23)).drew := below_drew1 (below_alloc (below_alloc (Below.refl _ _) _) _)
  generalize ((w1.alloc _).alloc _).drew = w2 at HK2 hB12 ⊢
  have HBK2 := Aside0.mk (blk_below HBK1.out hB12)
  have HO2 := Aside0.mk (Kd.R_below HO1.out hB12)
  have HW2 := Aside0.mk (Kd.R_below HW1.out hB12)
  have HT2 := Aside0.mk (Kd.S_below HT1.out hB12)
  have HB2 := Aside0.mk (HB1.out.trans (below_to hB12 HB1.out.size))
  obtain ⟨nb, hnb⟩ : ∃ nb, nb = w1.heap.size + 1 := ⟨_, rfl⟩
  rw [← hnb] at HK2 ⊢
  have hgn : g ≠ nb := by omega
  have hbn : w.heap.size ≤ nb := by have := HB1.out.size; omega
  clear hB12 HBK1 HO1 HW1 HT1 HB1 HSP hbk k0 hgl1 hnb
  have k0 : w2.cell? ⟨g, 0, none⟩ = some (.string s) := (blk_cell HBK2.out 0).trans rfl
  have n0 : w2.cell? ⟨nb, 0, none⟩ = some (.string (s.extract a e)) := (blk_cell HK2.out 0).trans rfl
  have nf := blk_frozen HK2.out 0
  have hg2 : g < w2.heap.size := blk_lt HBK2.out
  have hn2 : nb < w2.heap.size := blk_lt HK2.out
  go_wp2
  have HW2' := Kd.R_mono (ok' := fun k => base ≤ k ∧ k < w.heap.size) (Kd.R_below (Kd.R_bound HW.out) HB2.out) (fun k hk => ⟨hk.1, hk.2.2.1⟩)
  have HO2' := Kd.R_mono (ok' := fun k => base ≤ k ∧ k < w.heap.size) (Kd.R_below (Kd.R_bound HO.out) HB2.out) (fun k hk => ⟨hk.1, hk.2.2.1⟩)
  have HT2' := Kd.S_old HT.out HB2.out
  have HBK3 := Aside0.mk (blk_far (p := ⟨nb, 0, none⟩) HBK2.out hgn (.string (s.extract (a + 1) (e - 1))))
  have HK3 : Aside0 ((w2.setCell ⟨nb, 0, none⟩ (.string (s.extract (a + 1) (e - 1)))).heap[nb]? = some (.cells #[.string (s.extract (a + 1) (e - 1)), .bool true, .int .i64 line, .int .i64 ((a : Int) - b + 1)] 23 (0, 0))) := ⟨(blk_set HK2.out 0 _).trans rfl⟩
  have HO3 := Aside0.mk (Kd.R_mono (ok' := fun k => base ≤ k) (Kd.R_far (p := ⟨nb, 0, none⟩) HO2' (fun k hk => by show k ≠ nb; omega) (.string (s.extract (a + 1) (e - 1)))) (fun k hk => hk.1))
  have HW3 := Aside0.mk (Kd.R_mono (ok' := fun k => base ≤ k) (Kd.R_far (p := ⟨nb, 0, none⟩) HW2' (fun k hk => by show k ≠ nb; omega) (.string (s.extract (a + 1) (e - 1)))) (fun k hk => hk.1))
  have HT3 := Aside0.mk (Kd.S_mono (ok' := fun k => base ≤ k ∧ ¬ some k = (Value.slice A7 ws.length n7).ownBlock) (Kd.S_far (p := ⟨nb, 0, none⟩) HT2' (fun k hk => by show k ≠ nb; omega) (.string (s.extract (a + 1) (e - 1)))) (fun k hk => hk.1))
  have HB3 := Aside0.mk (HB2.out.setCell (p := ⟨nb, 0, none⟩) hbn (.string (s.extract (a + 1) (e - 1))))
  have hnw : Aside0 (some nb ≠ (Value.slice A7 ws.length n7).ownBlock) := ⟨fun e => by have h1 := Kd.R_lt HW.out nb e.symm; omega⟩
  clear HBK2 HO2 HW2 HT2 HB2 HW2' HO2' HT2' HK2 n0 nf hg2 hn2 k0 q0 q1 q2
  generalize w2.setCell _ _ = w3 at HBK3 HK3 HO3 HW3 HT3 HB3 ⊢
  have k7 : w3.cell? ⟨g, 7, none⟩ = some (.slice A7 ws.length n7) := (blk_cell HBK3.out 7).trans rfl
  have m0 : w3.cell? ⟨nb, 0, none⟩ = some (.string (s.extract (a + 1) (e - 1))) := (blk_cell HK3.out 0).trans rfl
  have m1 : w3.cell? ⟨nb, 1, none⟩ = some (.bool true) := (blk_cell HK3.out 1).trans rfl
  have m2 : w3.cell? ⟨nb, 2, none⟩ = some (.int .i64 line) := (blk_cell HK3.out 2).trans rfl
  have m3 : w3.cell? ⟨nb, 3, none⟩ = some (.int .i64 ((a : Int) - b + 1)) := (blk_cell HK3.out 3).trans rfl
  have hg3 : g < w3.heap.size := blk_lt HBK3.out
  have hn3 : nb < w3.heap.size := blk_lt HK3.out
  go_wp2
  have HBd := Aside0.mk (below_drew1 (Below.refl w3.heap.size w3))
  have HOd := Aside0.mk (Kd.R_drew HO3.out)
  have HWd := Aside0.mk (Kd.R_drew HW3.out)
  have HTd := Aside0.mk (Kd.S_drew HT3.out)
  have HWL := Aside0.mk (blk_drew HBK3.out)
  have HNL := Aside0.mk (blk_drew HK3.out)
  have hcd : w3.drew.cell? ⟨g, 7, none⟩ = some (.slice A7 ws.length n7) ∧ w3.drew.cell? ⟨nb, 0, none⟩ = some (.string (s.extract (a + 1) (e - 1))) ∧ w3.drew.cell? ⟨nb, 1, none⟩ = some (.bool true) ∧ w3.drew.cell? ⟨nb, 2, none⟩ = some (.int .i64 line) ∧ w3.drew.cell? ⟨nb, 3, none⟩ = some (.int .i64 ((a : Int) - b + 1)) := ⟨k7, m0, m1, m2, m3⟩
  have hb3 : base ≤ w3.heap.size := by have := HB3.out.size; omega
  refine start_ (n := 13) (S := (fun w' => w'.cell? ⟨g, 7, none⟩ = some (.slice A7 ws.length n7) ∧ w'.cell? ⟨nb, 0, none⟩ = some (.string (s.extract (a + 1) (e - 1))) ∧ w'.cell? ⟨nb, 1, none⟩ = some (.bool true) ∧ w'.cell? ⟨nb, 2, none⟩ = some (.int .i64 line) ∧ w'.cell? ⟨nb, 3, none⟩ = some (.int .i64 ((a : Int) - b + 1)))) (ds := [12]) #[false, false, false, false, false, false, false, false, false, false, false, false, false] (by kernel_rfl) rfl rfl hcd (fun hHeld => ?_)
  generalize w3.drew = wd at HBd HOd HWd HTd HWL HNL hcd hHeld ⊢
  refine pure_ (i := 0) (N := some 37) (v := ?_) (a' := ?_) #[true, false, false, false, false, false, false, false, false, false, false, false, false] rfl rfl (by kernel_rfl) (fun _ _ _ h => h) (Or.inl ⟨by rfl, ?_⟩) ?_ ?_
  rotate_left
  · intro w'
    go_simp
    with_reducible rfl
  rotate_left
  · simp only [Act.put, List.setIfInBounds_toArray, List.set_cons_zero, List.set_cons_succ, i64_w, i32_w]
    rfl
  refine pure_ (i := 1) (N := some 38) (v := ?_) (a' := ?_) #[true, true, false, false, false, false, false, false, false, false, false, false, false] rfl rfl (by kernel_rfl) (fun _ _ _ h => h) (Or.inl ⟨by rfl, ?_⟩) ?_ ?_
  rotate_left
  · intro w'
    go_simp
    with_reducible rfl
  rotate_left
  · simp only [Act.put, List.setIfInBounds_toArray, List.set_cons_zero, List.set_cons_succ, i64_w, i32_w]
    rfl
  refine pure_ (i := 2) (N := some 39) (v := ?_) (a' := ?_) #[true, true, true, false, false, false, false, false, false, false, false, false, false] rfl rfl (by kernel_rfl) (fun _ _ _ h => h) (Or.inl ⟨by rfl, ?_⟩) ?_ ?_
  rotate_left
  · intro w'
    go_simp
    with_reducible rfl
  rotate_left
  · simp only [Act.put, List.setIfInBounds_toArray, List.set_cons_zero, List.set_cons_succ, i64_w, i32_w]
    rfl
  refine pure_ (i := 3) (N := some 40) (v := ?_) (a' := ?_) #[true, true, true, true, false, false, false, false, false, false, false, false, false] rfl rfl (by kernel_rfl) (fun _ _ _ h => h) (Or.inl ⟨by rfl, ?_⟩) ?_ ?_
  rotate_left
  · intro w'
    go_simp
    with_reducible rfl
  rotate_left
  · simp only [Act.put, List.setIfInBounds_toArray, List.set_cons_zero, List.set_cons_succ, i64_w, i32_w]
    rfl
  refine pure_ (i := 4) (N := some 41) (v := ?_) (a' := ?_) #[true, true, true, true, true, false, false, false, false, false, false, false, false] rfl rfl (by kernel_rfl) (fun _ _ _ h => h) (Or.inl ⟨by rfl, ?_⟩) ?_ ?_
  rotate_left
  · intro w'
    go_simp
    with_reducible rfl
  rotate_left
  · simp only [Act.put, List.setIfInBounds_toArray, List.set_cons_zero, List.set_cons_succ, i64_w, i32_w]
    rfl
  refine take_ (i := 5) (N := some 42) (v := ?_) (a' := ?_) #[true, true, true, true, true, true, false, false, false, false, false, false, false] rfl rfl (by kernel_rfl) (fun _ _ _ h => h) (Or.inl ⟨by rfl, ?_⟩) hHeld ?_ ?_
  rotate_left
  · rintro w' ⟨h7, h0, h1, h2, h3⟩
    go_simp
    with_reducible rfl
  rotate_left
  · simp only [Act.put, List.setIfInBounds_toArray, List.set_cons_zero, List.set_cons_succ, i64_w, i32_w]
    rfl
  refine take_ (i := 6) (N := some 43) (v := ?_) (a' := ?_) #[true, true, true, true, true, true, true, false, false, false, false, false, false] rfl rfl (by kernel_rfl) (fun _ _ _ h => h) (Or.inl ⟨by rfl, ?_⟩) hHeld ?_ ?_
  rotate_left
  · rintro w' ⟨h7, h0, h1, h2, h3⟩
    go_simp
    with_reducible rfl
  rotate_left
  · simp only [Act.put, List.setIfInBounds_toArray, List.set_cons_zero, List.set_cons_succ, i64_w, i32_w]
    rfl
  refine one_ (i := 7) (N := some 44) #[true, true, true, true, true, true, true, true, false, false, false, false, false] rfl rfl (by kernel_rfl) (by decide) (fun K hK => ?_)
  refine value_ (v := .slice (some ⟨wd.heap.size, 0, none⟩) 1 1) (w1 := wd.alloc (.cells #[.string (s.extract (a + 1) (e - 1)), .bool true, .int .i64 line, .int .i64 ((a : Int) - b + 1)] 23)) (by rfl) rfl ?_ ?_
  · go_simp
    try with_reducible rfl
  refine hK.out _ _ (have ha := (below_alloc (Below.refl wd.heap.size wd) (.cells #[.string (s.extract (a + 1) (e - 1)), .bool true, .int .i64 line, .int .i64 ((a : Int) - b + 1)] 23 (0, 0))); ⟨pw_cell_below ha hHeld.1, pw_cell_below ha hHeld.2.1, pw_cell_below ha hHeld.2.2.1, pw_cell_below ha hHeld.2.2.2.1, pw_cell_below ha hHeld.2.2.2.2⟩) (fun hHeld => ?_)
  clear hK K
  refine norm_ (a' := ?_) ?_ ?_
  rotate_left
  · show Act.put _ (some 44) _ = _
    simp only [Act.put, List.setIfInBounds_toArray, List.set_cons_zero, List.set_cons_succ, i64_w, i32_w]
    rfl
  refine one_ (i := 8) (N := some 45) #[true, true, true, true, true, true, true, true, true, false, false, false, false] rfl rfl (by kernel_rfl) (by decide) (fun K hK => ?_)
  refine Kd.R_append_step k23 (w0 := wd) base (by rfl) (.tmp 42) (.tmp 44) 43 23 (.agg #[(.string ⟨#[]⟩), (.bool false), (.int .i64 0), (.int .i64 0)]) 40 rfl Try.underlying43 info23 rfl (by decide) (by omega) _ ws (⟨s.extract (a + 1) (e - 1), true, line, (a : Int) - b + 1⟩ : S23) [.string (s.extract (a + 1) (e - 1)), .bool true, .int .i64 line, .int .i64 ((a : Int) - b + 1)] (fun k => base ≤ k) (fun _ => False) rfl rfl (k23_mkM _ _ _ (⟨s.extract (a + 1) (e - 1), true, line, (a : Int) - b + 1⟩ : S23)) (fun k hk => hk.elim) (fun k hk => Nat.le_trans (by have := HBd.out.size; omega) hk) HWd.out (Below.refl _ _) (by have := HBd.out.size; omega) (by omega) ?_
  intro v1 w5 ho hb5 hg5 hat
  obtain ⟨ws9, hws9⟩ : ∃ o, ws ++ [(⟨s.extract (a + 1) (e - 1), true, line, (a : Int) - b + 1⟩ : S23)] = o := ⟨_, rfl⟩
  rw [hws9] at ho
  have HWS9 := Aside0.mk hws9
  clear hws9
  have HO5 := Aside0.mk (Kd.R_over' HOd.out (Kd.R_typed HWd.out) (by decide) hg5)
  have HW5 := Aside0.mk ho
  have HT5 := Aside0.mk (Kd.S_after HTd.out hg5 hat)
  have HB5 := Aside0.mk hb5
  have hgo : some g ≠ (Value.slice A7 ws.length n7).ownBlock := fun e => by have := Kd.R_base HWd.out g e.symm; omega
  have hB5 := blk_grown HWL.out hg5 hgo
  have HWB5 := Aside0.mk (blk_set hB5 7 v1)
  have d7 : w5.cell? ⟨g, 7, none⟩ = some (.slice A7 ws.length n7) := (blk_cell hB5 7).trans rfl
  have e7 := blk_frozen hB5 7
  have hg5l : g < w5.heap.size := blk_lt hB5
  have hN5 := blk_grown HNL.out hg5 hnw.out
  have d0 : w5.cell? ⟨nb, 0, none⟩ = some (.string (s.extract (a + 1) (e - 1))) := (blk_cell hN5 0).trans rfl
  have d1 : w5.cell? ⟨nb, 1, none⟩ = some (.bool true) := (blk_cell hN5 1).trans rfl
  have d2 : w5.cell? ⟨nb, 2, none⟩ = some (.int .i64 line) := (blk_cell hN5 2).trans rfl
  have d3 : w5.cell? ⟨nb, 3, none⟩ = some (.int .i64 ((a : Int) - b + 1)) := (blk_cell hN5 3).trans rfl
  obtain ⟨A9, n9, rfl⟩ := Kd.R_slice HW5.out
  clear ho hb5 hg5 hat hB5 hgo hN5
  refine hK.out _ _ ⟨d7, d0, d1, d2, d3⟩ (fun hHeld => ?_)
  clear hK K
  refine norm_ (a' := ?_) ?_ ?_
  rotate_left
  · show Act.put _ (some 45) _ = _
    simp only [Act.put, List.setIfInBounds_toArray, List.set_cons_zero, List.set_cons_succ, i64_w, i32_w]
    rfl
  refine pure_ (i := 9) (N := some 46) (v := ?_) (a' := ?_) #[true, true, true, true, true, true, true, true, true, true, false, false, false] rfl rfl (by kernel_rfl) (fun _ _ _ h => h) (Or.inl ⟨by rfl, ?_⟩) ?_ ?_
  rotate_left
  · intro w'
    go_simp
    with_reducible rfl
  rotate_left
  · simp only [Act.put, List.setIfInBounds_toArray, List.set_cons_zero, List.set_cons_succ, i64_w, i32_w]
    rfl
  refine pure_ (i := 10) (N := some 47) (v := ?_) (a' := ?_) #[true, true, true, true, true, true, true, true, true, true, true, false, false] rfl rfl (by kernel_rfl) (fun _ _ _ h => h) (Or.inl ⟨by rfl, ?_⟩) ?_ ?_
  rotate_left
  · intro w'
    go_simp
    with_reducible rfl
  rotate_left
  · simp only [Act.put, List.setIfInBounds_toArray, List.set_cons_zero, List.set_cons_succ, i64_w, i32_w]
    rfl
  refine pure_ (i := 11) (N := some 48) (v := ?_) (a' := ?_) #[true, true, true, true, true, true, true, true, true, true, true, true, false] rfl rfl (by kernel_rfl) (fun _ _ _ h => h) (Or.inl ⟨by rfl, ?_⟩) ?_ ?_
  rotate_left
  · intro w'
    go_simp
    with_reducible rfl
  rotate_left
  · simp only [Act.put, List.setIfInBounds_toArray, List.set_cons_zero, List.set_cons_succ, i64_w, i32_w]
    rfl
  refine last_ (i := 12) (N := none) #[true, true, true, true, true, true, true, true, true, true, true, true, true] rfl rfl (by kernel_rfl) (by decide) (fun K hK => ?_)
  refine skip_ (w1 := w5.setCell ⟨g, 7, none⟩ (.slice A9 ws9.length n9)) (by rfl) rfl ?_ ?_
  · go_simp
    try with_reducible rfl
  refine hK.out _ _ ?_
  clear hK K
  refine done_ (by kernel_rfl) ?_
  go_wp2
  go_end0
  rw [HWS9.out]
  have K := (KeepBut.refl w5 g none).set_ 7 (.slice A9 ws9.length n9)
  have e1 := HWB5.out
  have e2 := Kd.R_keep HO5.out K (fun k hk => by omega)
  have e3 := Kd.S_keep HT5.out K (fun k hk => by omega)
  have e6 := Kd.R_keep HW5.out K (fun k hk => by omega)
  have e4 := Nat.le_trans hsz (Nat.le_trans HB3.out.size (Nat.le_trans (Nat.le_trans HBd.out.size HB5.out.size) K.1))
  have e8 : Bg base g w (w5.setCell ⟨g, 7, none⟩ (.slice A9 ws9.length n9)) := ((Bg.of HB3.out hsz (Nat.le_of_lt hgl)).trans ((Bg.of HBd.out hb3 (Nat.le_of_lt hg3)).trans (Bg.of HB5.out (Nat.le_refl base) (Nat.le_of_lt hlt)))).set _ _
  generalize w5.setCell _ _ = WF at e1 e2 e3 e4 e6 e8 ⊢
  have e5 : WF.heap[g]? = some (.cells (rcells s p line b (.slice A4 op.length n4) bl el (.slice A9 ws9.length n9) (.slice A8 out.length n8) ins) 64 (0, 0)) := e1
  have q4 : RS WF g base s p line b op bl el ws9 out ins := ⟨⟨_, _, _, e5, e2, e6, e3⟩, hlt, e4⟩
  exact ⟨rfl, q4, e8⟩

theorem put_calls (w : World) (g base : Nat) (s : ByteArray) (p line b : Int) (op : List S30) (bl : Bool) (el : Int) (ws : List S23) (out : List S45) (ins : Bool) (a e : Nat) (q : Bool) (h : RS w g base s p line b op bl el ws out ins) (hwl : ws.length ≤ 1000000) (hs : s.size ≤ 1000000) (hb0 : 0 ≤ b) (hba : b ≤ a) (hae : a ≤ e) (hq : q = true → a + 2 ≤ e) (hes : e ≤ s.size) :
    Calls Try.prog 33 #[.pointer (some ⟨g, 0, none⟩), .int .i64 (a : Int), .int .i64 (e : Int), .bool q] w fun e_ w' => e_ = .returned (.tuple #[]) ∧ RS w' g base s p line b op bl el (ws ++ [⟨if q = true then s.extract (a + 1) (e - 1) else s.extract a e, q, line, (a : Int) - b + 1⟩]) out ins ∧ Bg base g w w' := by
  cases q with
  | false => exact put_bare w g base s p line b op bl el ws out ins a e h hwl hs hb0 hba hae hes
  | true => exact put_quoted w g base s p line b op bl el ws out ins a e h hwl hs hb0 hba (hq rfl) hes

end Go.Proofs.Ytafminohaofjnaa.Print
