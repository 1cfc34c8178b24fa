/- The sheet of a text that is being laid, and its methods put and gap, walked. -/
import Derived.Test.YtafminohaofjnaaXRead1
import Derived.Test.YtafminohaofjnaaXStands
namespace Go.Proofs.Ytafminohaofjnaa.Print
open Go.RowKit Go.Proofs.YtafminohaofjnaaW.PrintWords Go.Proofs.YtafminohaofjnaaW.PrintLast Go.Proofs.YtafminohaofjnaaW.PrintMore
set_option linter.unusedVariables false
set_option linter.unusedSimpArgs false
/-- the sheet in memory: its block g, the text T, o parentheses open -/
structure Sh (W : World) (g base : Nat) (T : List Int) (o : Nat) : Prop where
  st : ∃ v, W.heap[g]? = some (.cells #[v, .int .i64 (pl T T.length).1, .int .i64 (pl T T.length).2, .int .i64 (o : Int)] 39 (0, 0)) ∧ Kd.R (Kd.int .u8) 5 W base (fun k => base ≤ k) v T
  lt : g < base
  size : base ≤ W.heap.size
theorem Sh.below {W W' : World} {g base : Nat} {T : List Int} {o : Nat} (h : Sh W g base T o) (hb : Below W.heap.size W W') : Sh W' g base T o := by
  obtain ⟨⟨v, h1, h2⟩, hlt, hsz⟩ := h
  exact ⟨⟨v, blk_below h1 hb, Kd.R_below h2 hb⟩, hlt, Nat.le_trans hsz hb.size⟩
/-- what stays: all below base but g, and all that are no rows of bytes -/
structure Fp (base g : Nat) (w w' : World) : Prop where
  b : Bg base g w w'
  s : w.heap.size ≤ w'.heap.size
  t : ∀ k cells t, w.heap[k]? = some (.cells cells t (0, 0)) → t ≠ 5 → k ≠ g → w'.heap[k]? = w.heap[k]?
theorem Fp.refl (base g : Nat) (w : World) : Fp base g w w := ⟨Bg.refl _ _ _, Nat.le_refl _, fun _ _ _ _ _ _ => rfl⟩
theorem Fp.trans {base g : Nat} {w w1 w2 : World} (h : Fp base g w w1) (k : Fp base g w1 w2) : Fp base g w w2 :=
  ⟨h.b.trans k.b, Nat.le_trans h.s k.s, fun i c t h1 h2 h3 => (k.t i c t ((h.t i c t h1 h2 h3).trans h1) h2 h3).trans (h.t i c t h1 h2 h3)⟩
theorem Fp.of {base g : Nat} {w w1 : World} (hb : Below w.heap.size w w1) (hs : base ≤ w.heap.size) (hg : g ≤ base) : Fp base g w w1 :=
  ⟨Bg.of hb hs (Nat.le_trans hg hs), hb.size, fun i c t h1 _ _ => hb.block i (blk_lt h1)⟩
theorem Fp.set {base g : Nat} {w w1 : World} (h : Fp base g w w1) (j : Nat) (u : Value) : Fp base g w (w1.setCell ⟨g, j, none⟩ u) :=
  ⟨h.b.set j u, Nat.le_trans h.s (by simp [World.setCell]), fun i c t h1 h2 h3 => (Below.heap_setCell w1 ⟨g, j, none⟩ u i h3).trans (h.t i c t h1 h2 h3)⟩
theorem Fp.grown {base g : Nat} {w w1 : World} {v : Value} (hb : Below base w w1) (hg : w.grownBy w1 v.ownBlock) (hgb : g ≤ base) (hv : ∀ k, v.ownBlock = some k → ∃ cells, w.heap[k]? = some (.cells cells 5 (0, 0))) : Fp base g w w1 :=
  ⟨Bg.of hb (Nat.le_refl _) hgb, hg.size, fun i c t h1 h2 h3 => hg.block i (blk_lt h1) (fun he => by
    obtain ⟨cs, hc⟩ := hv i he.symm
    rw [h1] at hc
    injection hc with hc
    injection hc with _ hc
    exact h2 hc)⟩
set_option maxHeartbeats 40000000 in
set_option maxRecDepth 100000 in
theorem sput_calls (s : ByteArray) (T : List Int) (o g base : Nat) (w : World) (hsh : Sh w g base T o) (hl : T.length + s.size ≤ 262144) :
    Calls Try.prog 16 #[.pointer (some ⟨g, 0, none⟩), .string s] w fun e w' => e = .returned (.tuple #[]) ∧ Sh w' g base (T ++ bytesOf s) o ∧ Fp base g w w' := by
  have hu39 := Try.underlying39
  have hgl := hsh.lt
  have HSH := Aside0.mk (show Sh w g base (T ++ (bytesOf s).take 0) o by rw [List.take_zero, List.append_nil]; exact hsh)
  have HF := Aside0.mk (Fp.refl base g w)
  have HSB := Aside0.mk hsh.size
  clear hsh
  go_enter Try.func16, Try.ntmps16
  go_wp2
  go_loopw [4] (fun i wr => ∃ k : Nat, k ≤ s.size ∧ i = .int .i64 k ∧ Aside0 (Sh wr g base (T ++ (bytesOf s).take k) o) ∧ Aside0 (Fp base g w wr)) (fun i _ => s.size - (intOf i).toNat)
  case atStart => exact ⟨0, Nat.zero_le _, rfl, HSH, HF⟩
  case round =>
    clear HSH HF
    obtain ⟨k, hk, rfl, HSH, HF⟩ := hrel
    by_cases hlt : k < s.size
    · have hXl : (T ++ (bytesOf s).take k).length = T.length + k := by rw [List.length_append, List.length_take, bytesOf_length]; omega
      have hnx : T ++ (bytesOf s).take (k + 1) = (T ++ (bytesOf s).take k) ++ [bt s (k : Int)] := by rw [List.take_add_one, bt_get hlt, List.append_assoc]; rfl
      generalize T ++ (bytesOf s).take k = X at HSH hXl hnx
      have HNX := Aside0.mk hnx
      clear hnx
      obtain ⟨⟨v, h1, h2⟩, _, hsz⟩ := HSH.out
      obtain ⟨A7, n7, e7_⟩ := Kd.R_slice h2
      subst e7_
      have HG := Aside0.mk h1
      have HR := Aside0.mk h2
      have hpb := pl_bound X X.length
      have hls : pl (X ++ [bt s (k : Int)]) (X ++ [bt s (k : Int)]).length = stepP (pl X X.length) (bt s (k : Int)) := by
        have h3 : (X ++ [bt s (k : Int)])[X.length]? = some (bt s (k : Int)) := by simp
        rw [List.length_append]
        show pl (X ++ [bt s (k : Int)]) (X.length + 1) = _
        rw [pl_succ h3, pl_pre _ _ (Nat.le_refl _)]
      generalize hpx : pl X X.length = px at HG hpb hls
      obtain ⟨line, col⟩ := px
      have HLS := Aside0.mk hls
      clear h1 h2 hls HSH hpx
      simp only at hpb HG
      have k7 : wr.cell? ⟨g, 0, none⟩ = some (.slice A7 X.length n7) := (blk_cell HG.out 0).trans rfl
      have hg3 : g < wr.heap.size := blk_lt HG.out
      have hx8 : ((s[k]'hlt).toNat : Int) = bt s (k : Int) := bt_at s (k : Int) hlt
      have p8 : ((0 : Int) ≤ (k : Int)) = True := eq_true (by omega)
      have q8 : ((k : Int) < (s.size : Int)) = True := eq_true (by omega)
      have hX9 : X.length + 1 ≤ 262144 := by omega
      clear hXl
      go_wp2
      have HBd := Aside0.mk (below_drew1 (Below.refl wr.heap.size wr))
      have HRd := Aside0.mk (Kd.R_drew HR.out)
      have HGd := Aside0.mk (blk_drew HG.out)
      have hcd : wr.drew.cell? ⟨g, 0, none⟩ = some (.slice A7 X.length n7) := k7
      refine start_ (n := 13) (S := (fun w' => w'.cell? ⟨g, 0, none⟩ = some (.slice A7 X.length n7))) (ds := [12]) #[false, false, false, false, false, false, false, false, false, false, false, false, false] (by kernel_rfl) rfl rfl hcd (fun hHeld => ?_)
      generalize wr.drew = wd at HBd HRd HGd hcd hHeld ⊢
      refine pure_ (i := 0) (N := some 11) (v := ?_) (a' := ?_) #[true, false, false, false, false, false, false, false, false, false, false, false, false] rfl rfl (by kernel_rfl) (fun _ _ _ h => h) (Or.inl ⟨by rfl, ?_⟩) ?_ ?_
      rotate_left
      · intro w'
        go_simp
        with_reducible rfl
      rotate_left
      · simp only [Act.put, List.setIfInBounds_toArray, List.set_cons_zero, List.set_cons_succ, i64_w, i32_w]
        rfl
      refine pure_ (i := 1) (N := some 12) (v := ?_) (a' := ?_) #[true, true, false, false, false, false, false, false, false, false, false, false, false] rfl rfl (by kernel_rfl) (fun _ _ _ h => h) (Or.inl ⟨by rfl, ?_⟩) ?_ ?_
      rotate_left
      · intro w'
        go_simp
        with_reducible rfl
      rotate_left
      · simp only [Act.put, List.setIfInBounds_toArray, List.set_cons_zero, List.set_cons_succ, i64_w, i32_w]
        rfl
      refine pure_ (i := 2) (N := some 13) (v := ?_) (a' := ?_) #[true, true, true, false, false, false, false, false, false, false, false, false, false] rfl rfl (by kernel_rfl) (fun _ _ _ h => h) (Or.inl ⟨by rfl, ?_⟩) ?_ ?_
      rotate_left
      · intro w'
        go_simp
        with_reducible rfl
      rotate_left
      · simp only [Act.put, List.setIfInBounds_toArray, List.set_cons_zero, List.set_cons_succ, i64_w, i32_w]
        rfl
      refine pure_ (i := 3) (N := some 14) (v := ?_) (a' := ?_) #[true, true, true, true, false, false, false, false, false, false, false, false, false] rfl rfl (by kernel_rfl) (fun _ _ _ h => h) (Or.inl ⟨by rfl, ?_⟩) ?_ ?_
      rotate_left
      · intro w'
        go_simp
        with_reducible rfl
      rotate_left
      · simp only [Act.put, List.setIfInBounds_toArray, List.set_cons_zero, List.set_cons_succ, i64_w, i32_w]
        rfl
      refine take_ (i := 4) (N := some 15) (v := ?_) (a' := ?_) #[true, true, true, true, true, false, false, false, false, false, false, false, false] rfl rfl (by kernel_rfl) (fun _ _ _ h => h) (Or.inl ⟨by rfl, ?_⟩) hHeld ?_ ?_
      rotate_left
      · rintro w' h7
        go_simp
        with_reducible rfl
      rotate_left
      · simp only [Act.put, List.setIfInBounds_toArray, List.set_cons_zero, List.set_cons_succ, i64_w, i32_w]
        rfl
      refine pure_ (i := 5) (N := some 16) (v := ?_) (a' := ?_) #[true, true, true, true, true, true, false, false, false, false, false, false, false] rfl rfl (by kernel_rfl) (fun _ _ _ h => h) (Or.inl ⟨by rfl, ?_⟩) ?_ ?_
      rotate_left
      · intro w'
        go_simp
        with_reducible rfl
      rotate_left
      · simp only [Act.put, List.setIfInBounds_toArray, List.set_cons_zero, List.set_cons_succ, i64_w, i32_w]
        rfl
      refine pure_ (i := 6) (N := some 17) (v := ?_) (a' := ?_) #[true, true, true, true, true, true, true, false, false, false, false, false, false] rfl rfl (by kernel_rfl) (fun _ _ _ h => h) (Or.inl ⟨by rfl, ?_⟩) ?_ ?_
      rotate_left
      · intro w'
        go_simp
        with_reducible rfl
      rotate_left
      · simp only [Act.put, List.setIfInBounds_toArray, List.set_cons_zero, List.set_cons_succ, i64_w, i32_w]
        rfl
      refine pure_ (i := 7) (N := some 18) (v := ?_) (a' := ?_) #[true, true, true, true, true, true, true, true, false, false, false, false, false] rfl rfl (by kernel_rfl) (fun _ _ _ h => h) (Or.inl ⟨by rfl, ?_⟩) ?_ ?_
      rotate_left
      · intro w'
        go_simp
        with_reducible rfl
      rotate_left
      · simp only [Act.put, List.setIfInBounds_toArray, List.set_cons_zero, List.set_cons_succ, i64_w, i32_w]
        rfl
      refine one_ (i := 8) (N := some 19) #[true, true, true, true, true, true, true, true, true, false, false, false, false] rfl rfl (by kernel_rfl) (by decide) (fun K hK => ?_)
      refine value_ (v := .slice (some ⟨wd.heap.size, 0, none⟩) 1 1) (w1 := wd.alloc (.cells #[.int .u8 (bt s (k : Int))] 5)) (by rfl) rfl ?_ ?_
      · go_simp
        try with_reducible rfl
      refine hK.out _ _ (have ha := (below_alloc (Below.refl wd.heap.size wd) (.cells #[.int .u8 (bt s (k : Int))] 5 (0, 0))); pw_cell_below ha hHeld) (fun hHeld => ?_)
      clear hK K
      refine norm_ (a' := ?_) ?_ ?_
      rotate_left
      · show Act.put _ (some 19) _ = _
        simp only [Act.put, List.setIfInBounds_toArray, List.set_cons_zero, List.set_cons_succ, i64_w, i32_w]
        rfl
      refine one_ (i := 9) (N := some 20) #[true, true, true, true, true, true, true, true, true, true, false, false, false] rfl rfl (by kernel_rfl) (by decide) (fun K hK => ?_)
      refine Kd.R_append_step (Kd.int .u8) (w0 := wd) base (by rfl) (.tmp 15) (.tmp 19) 37 5 (.int .u8 0) 1 rfl Try.underlying37 info5 rfl (by decide) (by omega) _ X (bt s (k : Int)) [.int .u8 (bt s (k : Int))] (fun k => base ≤ k) (fun _ => False) rfl rfl rfl (fun k hk => hk.elim) (fun k hk => Nat.le_trans (by have := HBd.out.size; omega) hk) HRd.out (Below.refl _ _) (by have := HBd.out.size; omega) (by omega) ?_
      intro v1 w5 ho hb5 hg5 hat
      obtain ⟨X9, hX9⟩ : ∃ o, X ++ [bt s (k : Int)] = o := ⟨_, rfl⟩
      rw [hX9] at ho
      have HX9 := Aside0.mk hX9
      clear hX9
      have HR5 := Aside0.mk ho
      have HF5 := Aside0.mk (Fp.grown (g := g) hb5 hg5 (Nat.le_of_lt hgl) (Kd.R_typed HRd.out))
      have HB5 := Aside0.mk hb5
      have hgo : some g ≠ (Value.slice A7 X.length n7).ownBlock := fun e => by have := Kd.R_base HRd.out g e.symm; omega
      have hG5 := blk_grown HGd.out hg5 hgo
      have HG5 := Aside0.mk (blk_set hG5 0 v1)
      have d7 : w5.cell? ⟨g, 0, none⟩ = some (.slice A7 X.length n7) := (blk_cell hG5 0).trans rfl
      have e7 := blk_frozen hG5 0
      have hg5l : g < w5.heap.size := blk_lt hG5
      obtain ⟨A9, n9, e9⟩ := Kd.R_slice HR5.out
      subst e9
      clear ho hb5 hg5 hat hG5 hgo
      refine hK.out _ _ d7 (fun hHeld => ?_)
      clear hK K
      refine norm_ (a' := ?_) ?_ ?_
      rotate_left
      · show Act.put _ (some 20) _ = _
        simp only [Act.put, List.setIfInBounds_toArray, List.set_cons_zero, List.set_cons_succ, i64_w, i32_w]
        rfl
      refine pure_ (i := 10) (N := some 21) (v := ?_) (a' := ?_) #[true, true, true, true, true, true, true, true, true, true, true, false, false] rfl rfl (by kernel_rfl) (fun _ _ _ h => h) (Or.inl ⟨by rfl, ?_⟩) ?_ ?_
      rotate_left
      · intro w'
        go_simp
        with_reducible rfl
      rotate_left
      · simp only [Act.put, List.setIfInBounds_toArray, List.set_cons_zero, List.set_cons_succ, i64_w, i32_w]
        rfl
      refine pure_ (i := 11) (N := some 22) (v := ?_) (a' := ?_) #[true, true, true, true, true, true, true, true, true, true, true, true, false] rfl rfl (by kernel_rfl) (fun _ _ _ h => h) (Or.inl ⟨by rfl, ?_⟩) ?_ ?_
      rotate_left
      · intro w'
        go_simp
        with_reducible rfl
      rotate_left
      · simp only [Act.put, List.setIfInBounds_toArray, List.set_cons_zero, List.set_cons_succ, i64_w, i32_w]
        rfl
      refine last_ (i := 12) (N := none) #[true, true, true, true, true, true, true, true, true, true, true, true, true] rfl rfl (by kernel_rfl) (by decide) (fun K hK => ?_)
      refine skip_ (w1 := w5.setCell ⟨g, 0, none⟩ (.slice A9 X9.length n9)) (by rfl) rfl ?_ ?_
      · go_simp
        try with_reducible rfl
      refine hK.out _ _ ?_
      clear hK K
      refine done_ (by kernel_rfl) ?_
      have HG6 : Aside0 ((w5.setCell ⟨g, 0, none⟩ (.slice A9 X9.length n9)).heap[g]? = some (.cells #[.slice A9 X9.length n9, .int .i64 line, .int .i64 col, .int .i64 (o : Int)] 39 (0, 0))) := ⟨HG5.out.trans rfl⟩
      have hokg : ∀ k_, base ≤ k_ → k_ ≠ g := fun k_ h_ => by omega
      have HR6 := Aside0.mk (Kd.R_far (p := ⟨g, 0, none⟩) HR5.out hokg (.slice A9 X9.length n9))
      have HF6 := Aside0.mk ((HF.out.trans ((Fp.of HBd.out hsz (Nat.le_of_lt hgl)).trans HF5.out)).set 0 (.slice A9 X9.length n9))
      clear HG5 HR5 HF5 HB5 d7 e7 hg5l HGd HRd HBd HF HG HR k7 hg3 hcd hHeld
      generalize w5.setCell ⟨g, 0, none⟩ (.slice A9 X9.length n9) = w6 at HG6 HR6 HF6 ⊢
      have hls9 : pl X9 X9.length = stepP (line, col) (bt s (k : Int)) := by rw [← HX9.out]; exact HLS.out
      have HL9 := Aside0.mk hls9
      have hsz6 := HF6.out.s
      have HS6 := Aside0.mk hsz6
      clear hls9 HLS hsz6
      have c1 : w6.cell? ⟨g, 1, none⟩ = some (.int .i64 line) := (blk_cell HG6.out 1).trans rfl
      have c2 : w6.cell? ⟨g, 2, none⟩ = some (.int .i64 col) := (blk_cell HG6.out 2).trans rfl
      have f1 := blk_frozen HG6.out 1
      have f2 := blk_frozen HG6.out 2
      have g2 := Aside0.mk (blk_put (cs' := #[.slice A9 X9.length n9, .int .i64 line, .int .i64 (col + 1), .int .i64 (o : Int)]) HG6.out 2 (.int .i64 (col + 1)) rfl)
      have hsb : base ≤ w.heap.size := by have := HSB.out; omega
      by_cases hc : bt s (k : Int) = 10
      · have hc1 : (bt s (k : Int) == 10) = true := beq_iff_eq.2 hc
        have HC := Aside0.mk hc
        clear hc
        go_wp2
        go_roundw
        case rel =>
          have g3 := blk_put (cs' := #[.slice A9 X9.length n9, .int .i64 (line + 1), .int .i64 (col + 1), .int .i64 (o : Int)]) g2.out 1 (.int .i64 (line + 1)) rfl
          have g4 := blk_put (cs' := #[.slice A9 X9.length n9, .int .i64 (line + 1), .int .i64 1, .int .i64 (o : Int)]) g3 2 (.int .i64 1) rfl
          refine ⟨k + 1, by omega, by go_num, ⟨?_⟩, ⟨((HF6.out.set 2 _).set 1 _).set 2 _⟩⟩
          rw [HNX.out, HX9.out]
          refine ⟨⟨.slice A9 X9.length n9, ?_, Kd.R_far (p := ⟨g, 2, none⟩) (Kd.R_far (p := ⟨g, 1, none⟩) (Kd.R_far (p := ⟨g, 2, none⟩) HR6.out hokg _) hokg _) hokg _⟩, hgl, ?_⟩
          · rw [HL9.out]
            unfold stepP
            rw [if_pos HC.out]
            exact g4
          · exact Nat.le_trans hsb (((HF6.out.set 2 _).set 1 _).set 2 _).s
        case measure => simp [intOf]; omega
      · have hc1 : (bt s (k : Int) == 10) = false := beq_eq_false_iff_ne.2 hc
        have HC := Aside0.mk hc
        clear hc
        go_wp2
        go_roundw
        case rel =>
          refine ⟨k + 1, by omega, by go_num, ⟨?_⟩, ⟨HF6.out.set 2 _⟩⟩
          rw [HNX.out, HX9.out]
          refine ⟨⟨.slice A9 X9.length n9, ?_, Kd.R_far (p := ⟨g, 2, none⟩) HR6.out hokg _⟩, hgl, ?_⟩
          · rw [HL9.out]
            unfold stepP
            rw [if_neg HC.out]
            exact g2.out
          · exact Nat.le_trans hsb (HF6.out.set 2 _).s
        case measure => simp [intOf]; omega
    · obtain rfl : k = s.size := by omega
      go_wp2
      go_end0
      rw [List.take_of_length_le (by rw [bytesOf_length]; exact Nat.le_refl _)] at HSH
      exact ⟨rfl, HSH.out, HF.out⟩
end Go.Proofs.Ytafminohaofjnaa.Print
