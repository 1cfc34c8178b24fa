/- Pop and Push of a queue's row of rumors, walked. -/
import Derived.Test.YtihmblbnnhcdnaaXHeapM
namespace Go.Proofs.Ytihmblbnnhcdnaa.Print
open Go.RowKit Go.Maps Go.ChangeMaps Go.Proofs.YtihmblbnnhcdnaaW.PrintWords Go.Proofs.YtihmblbnnhcdnaaW.PrintLast Go.Proofs.YtihmblbnnhcdnaaW.PrintMore
set_option linter.unusedVariables false
set_option linter.unusedSimpArgs false
theorem mPush (w : World) (a : Addr) : (method 241 68 (.pointer (some a)) "Push").run Try.prog w = .ok (89, .pointer (some a)) w := by kernel_rfl
theorem mPop (w : World) (a : Addr) : (method 241 68 (.pointer (some a)) "Pop").run Try.prog w = .ok (88, .pointer (some a)) w := by kernel_rfl
theorem mLen0 (w : World) (a : Addr) : (method 241 68 (.pointer (some a)) "Len").run Try.prog w = (do let v ← loadVar 55 a; pure (85, v) : Sem (FuncId × Value)).run Try.prog w := by kernel_rfl
theorem mLess0 (w : World) (a : Addr) : (method 241 68 (.pointer (some a)) "Less").run Try.prog w = (do let v ← loadVar 55 a; pure (86, v) : Sem (FuncId × Value)).run Try.prog w := by kernel_rfl
theorem mSwap0 (w : World) (a : Addr) : (method 241 68 (.pointer (some a)) "Swap").run Try.prog w = (do let v ← loadVar 55 a; pure (87, v) : Sem (FuncId × Value)).run Try.prog w := by kernel_rfl
theorem mLen (w : World) (g : Nat) (A : Option Addr) (n c : Nat) (hc : w.cell? ⟨g, 2, none⟩ = some (.slice A n c)) : (method 241 68 (.pointer (some ⟨g, 2, none⟩)) "Len").run Try.prog w = .ok (85, .slice A n c) w := by
  rw [mLen0]
  go_simp
theorem mLess (w : World) (g : Nat) (A : Option Addr) (n c : Nat) (hc : w.cell? ⟨g, 2, none⟩ = some (.slice A n c)) : (method 241 68 (.pointer (some ⟨g, 2, none⟩)) "Less").run Try.prog w = .ok (86, .slice A n c) w := by
  rw [mLess0]
  go_simp
theorem mSwap (w : World) (g : Nat) (A : Option Addr) (n c : Nat) (hc : w.cell? ⟨g, 2, none⟩ = some (.slice A n c)) : (method 241 68 (.pointer (some ⟨g, 2, none⟩)) "Swap").run Try.prog w = .ok (87, .slice A n c) w := by
  rw [mSwap0]
  go_simp
/-- a queue in memory: its block, its row of rumors -/
structure Rq (w : World) (g : Nat) (t last : Int) (mp : Value) (v : Value) (hs : Hs) : Prop where
  box : w.heap[g]? = some (.cells #[.int .i64 t, .int .i64 last, v, mp] 57 (0, 0))
  ho : Ho w v hs
theorem Rq.below {w w' : World} {g : Nat} {t last : Int} {mp v : Value} {hs : Hs} (h : Rq w g t last mp v hs) (hb : Below w.heap.size w w') : Rq w' g t last mp v hs := ⟨blk_below h.box hb, h.ho.below hb⟩
theorem Rq.apart {w : World} {g : Nat} {t last : Int} {mp v : Value} {hs : Hs} (h : Rq w g t last mp v hs) {k : Nat} (hk : HoS v hs k) : k ≠ g := by
  rcases hk with hk | ⟨p, hp, rfl⟩
  · obtain ⟨cells, hc⟩ := Kd.R_typed h.ho.row k hk
    exact blk_ne hc h.box (by decide)
  · obtain ⟨i, hi, e⟩ := List.getElem_of_mem hp
    exact blk_ne (h.ho.one i p.1 p.2 (by rw [List.getElem?_eq_getElem hi, e])) h.box (by decide)
theorem Rq.cell {w : World} {g : Nat} {t last : Int} {mp v : Value} {hs : Hs} (h : Rq w g t last mp v hs) : w.cell? ⟨g, 2, none⟩ = some v := (blk_cell h.box 2).trans rfl
/-- the row is taken over by another one, the header with it -/
theorem Rq.put {w : World} {g : Nat} {t last : Int} {mp v v' : Value} {hs' : Hs} (h : w.heap[g]? = some (.cells #[.int .i64 t, .int .i64 last, v, mp] 57 (0, 0))) (h' : Ho w v' hs') (hg : ∀ k, HoS v' hs' k → k ≠ g) : Rq (w.setCell ⟨g, 2, none⟩ v') g t last mp v' hs' :=
  ⟨blk_put h 2 _ rfl, h'.kept (S := fun k => k = g) ((Kp.of (Below.refl _ _)).set g 2 v' (fun _ => rfl)) hg⟩
/-- the last one is left away -/
theorem Ho.init {w : World} {A : Option Addr} {n c : Nat} {hs : Hs} {x : Nat × One} (h : Ho w (.slice A n c) (hs ++ [x])) : Ho w (.slice A hs.length c) hs := by
  have hr := Kd.R_take (m := hs.length) h.row (by rw [List.length_map]; simp)
  refine ⟨?_, fun i b o e => h.one i b o ?_, ?_⟩
  · have e : ((hs ++ [x]).map (·.1)).take hs.length = hs.map (·.1) := by
      rw [List.map_append, List.take_append_of_le_length (by rw [List.length_map]; exact Nat.le_refl _), List.take_of_length_le (by rw [List.length_map]; exact Nat.le_refl _)]
    rw [e] at hr
    exact hr
  · rw [List.getElem?_append_left (List.getElem?_eq_some_iff.1 e).1]
    exact e
  · have hn := h.nod
    rw [List.map_append] at hn
    exact (List.nodup_append.1 hn).1
set_option maxHeartbeats 8000000 in
set_option maxRecDepth 100000 in
theorem rpop_calls (w : World) (g : Nat) (t last : Int) (mp v : Value) (hs : Hs) (b : Nat) (o : One) (h : Rq w g t last mp v (hs ++ [(b, o)])) (hl : hs.length ≤ 1000000) :
    Calls Try.prog 88 #[.pointer (some ⟨g, 2, none⟩)] w fun e w' => ∃ v', e = .returned (.iface 62 (.pointer (some ⟨b, 0, none⟩))) ∧ Rq w' g t last mp v' hs ∧ w'.heap[b]? = some (.cells (oneC o hs.length) 66 (0, 0)) ∧ v'.ownBlock = v.ownBlock ∧ Kp w w' (fun k => k = g) := by
  obtain ⟨m, hm⟩ : ∃ m, m = hs.length := ⟨_, rfl⟩
  have hi : (hs ++ [(b, o)])[m]? = some (b, o) := by rw [hm]; simp
  obtain ⟨r, c, rfl, hcl, hcm, ci, fi, hr⟩ := h.ho.at hi
  have hlen : (hs ++ [(b, o)]).length = m + 1 := by rw [hm]; simp
  rw [hlen] at h hcl ⊢
  have hc := h.cell
  have HB0 := Aside0.mk h
  have HBO := Aside0.mk (h.ho.one _ _ _ hi)
  have hml : m ≤ 1000000 := by omega
  have HM := Aside0.mk hm
  have hwm : wrap64 (m : Int) = (m : Int) := by unfold wrap64; omega
  have hm0 : 0 ≤ (m : Int) := by omega
  have hmc : (m : Int) ≤ (c : Int) := by omega
  have hmc' : m ≤ c := by omega
  clear h hi hlen hl hm
  go_enter Try.func88, Try.ntmps88
  go_wp2
  repeat (go_quiet (fail); try go_wp2)
  go_upto_region 2 with (fail)
  have hq : Rq (w.drewN nq).drew g t last mp (.slice (some ⟨r, 0, none⟩) (m + 1) c) (hs ++ [(b, o)]) := HB0.out.below (below_drew1 (pw_below_drewN (Below.refl _ _) _))
  have HB := Aside0.mk hq
  have HKP : Aside0 (Below w.heap.size w (w.drewN nq).drew) := ⟨below_drew1 (pw_below_drewN (Below.refl _ _) _)⟩
  clear hq ci fi hc
  generalize w.drewN nq = W1 at HB HKP ⊢
  refine start_ (n := 12) (S := (fun w' => w'.cell? ⟨g, 2, none⟩ = some (.slice (some ⟨r, 0, none⟩) (m + 1) c))) (ds := [11]) #[false, false, false, false, false, false, false, false, false, false, false, false] (by kernel_rfl) rfl rfl HB.out.cell (fun hHeld => ?_)
  generalize W1.drew = wd at HB HKP hHeld ⊢
  refine pure_ (i := 0) (N := some 14) (v := ?_) (a' := ?_) #[true, false, false, false, false, false, false, false, false, false, false, false] rfl rfl (by kernel_rfl) (fun _ _ _ h => h) (Or.inl ⟨by rfl, ?_⟩) ?_ ?_
  rotate_left
  · intro w'
    go_simp
    with_reducible rfl
  rotate_left
  · simp only [Act.put, List.setIfInBounds_toArray, List.set_cons_zero, List.set_cons_succ, i64_w, i32_w]
    rfl
  refine pure_ (i := 1) (N := some 15) (v := ?_) (a' := ?_) #[true, true, false, false, false, false, false, false, false, false, false, false] rfl rfl (by kernel_rfl) (fun _ _ _ h => h) (Or.inl ⟨by rfl, ?_⟩) ?_ ?_
  rotate_left
  · intro w'
    go_simp
    with_reducible rfl
  rotate_left
  · simp only [Act.put, List.setIfInBounds_toArray, List.set_cons_zero, List.set_cons_succ, i64_w, i32_w]
    rfl
  refine pure_ (i := 2) (N := some 16) (v := ?_) (a' := ?_) #[true, true, true, false, false, false, false, false, false, false, false, false] rfl rfl (by kernel_rfl) (fun _ _ _ h => h) (Or.inl ⟨by rfl, ?_⟩) ?_ ?_
  rotate_left
  · intro w'
    go_simp
    with_reducible rfl
  rotate_left
  · simp only [Act.put, List.setIfInBounds_toArray, List.set_cons_zero, List.set_cons_succ, i64_w, i32_w]
    rfl
  refine take_ (i := 3) (N := some 17) (v := ?_) (a' := ?_) #[true, true, true, true, false, false, false, false, false, false, false, false] rfl rfl (by kernel_rfl) (fun _ _ _ h => h) (Or.inl ⟨by rfl, ?_⟩) hHeld ?_ ?_
  rotate_left
  · rintro w' h0_
    go_simp
    with_reducible rfl
  rotate_left
  · simp only [Act.put, List.setIfInBounds_toArray, List.set_cons_zero, List.set_cons_succ, i64_w, i32_w]
    rfl
  refine pure_ (i := 4) (N := some 18) (v := ?_) (a' := ?_) #[true, true, true, true, true, false, false, false, false, false, false, false] rfl rfl (by kernel_rfl) (fun _ _ _ h => h) (Or.inl ⟨by rfl, ?_⟩) ?_ ?_
  rotate_left
  · intro w'
    go_simp
    with_reducible rfl
  rotate_left
  · simp only [Act.put, List.setIfInBounds_toArray, List.set_cons_zero, List.set_cons_succ, i64_w, i32_w]
    rfl
  refine pure_ (i := 5) (N := some 19) (v := ?_) (a' := ?_) #[true, true, true, true, true, true, false, false, false, false, false, false] rfl rfl (by kernel_rfl) (fun _ _ _ h => h) (Or.inl ⟨by rfl, ?_⟩) ?_ ?_
  rotate_left
  · intro w'
    go_simp
    with_reducible rfl
  rotate_left
  · simp only [Act.put, List.setIfInBounds_toArray, List.set_cons_zero, List.set_cons_succ, i64_w, i32_w]
    rfl
  refine take_ (i := 6) (N := some 20) (v := ?_) (a' := ?_) #[true, true, true, true, true, true, true, false, false, false, false, false] rfl rfl (by kernel_rfl) (fun _ _ _ h => h) (Or.inl ⟨by rfl, ?_⟩) hHeld ?_ ?_
  rotate_left
  · rintro w' h0_
    go_simp
    with_reducible rfl
  rotate_left
  · simp only [Act.put, List.setIfInBounds_toArray, List.set_cons_zero, List.set_cons_succ, i64_w, i32_w]
    rfl
  refine pure_ (i := 7) (N := some 21) (v := ?_) (a' := ?_) #[true, true, true, true, true, true, true, true, false, false, false, false] rfl rfl (by kernel_rfl) (fun _ _ _ h => h) (Or.inl ⟨by rfl, ?_⟩) ?_ ?_
  rotate_left
  · intro w'
    go_simp
    with_reducible rfl
  rotate_left
  · simp only [Act.put, List.setIfInBounds_toArray, List.set_cons_zero, List.set_cons_succ, i64_w, i32_w]
    rfl
  refine pure_ (i := 8) (N := some 22) (v := ?_) (a' := ?_) #[true, true, true, true, true, true, true, true, true, false, false, false] rfl rfl (by kernel_rfl) (fun _ _ _ h => h) (Or.inl ⟨by rfl, ?_⟩) ?_ ?_
  rotate_left
  · intro w'
    go_simp
    with_reducible rfl
  rotate_left
  · simp only [Act.put, List.setIfInBounds_toArray, List.set_cons_zero, List.set_cons_succ, i64_w, i32_w]
    rfl
  refine pure_ (i := 9) (N := some 23) (v := ?_) (a' := ?_) #[true, true, true, true, true, true, true, true, true, true, false, false] rfl rfl (by kernel_rfl) (fun _ _ _ h => h) (Or.inl ⟨by rfl, ?_⟩) ?_ ?_
  rotate_left
  · intro w'
    go_simp
    with_reducible rfl
  rotate_left
  · simp only [Act.put, List.setIfInBounds_toArray, List.set_cons_zero, List.set_cons_succ, i64_w, i32_w]
    rfl
  refine pure_ (i := 10) (N := some 24) (v := ?_) (a' := ?_) #[true, true, true, true, true, true, true, true, true, true, true, false] rfl rfl (by kernel_rfl) (fun _ _ _ h => h) (Or.inl ⟨by rfl, ?_⟩) ?_ ?_
  rotate_left
  · intro w'
    go_simp
    with_reducible rfl
  rotate_left
  · simp only [Act.put, List.setIfInBounds_toArray, List.set_cons_zero, List.set_cons_succ, i64_w, i32_w]
    rfl
  refine last_ (i := 11) (N := none) #[true, true, true, true, true, true, true, true, true, true, true, true] rfl rfl (by kernel_rfl) (by decide) (fun K hK => ?_)
  have hc_ := HB.out.cell
  have hf_ := blk_frozen HB.out.box 2
  refine skip_ (w1 := wd.setCell ⟨g, 2, none⟩ (.slice (some ⟨r, 0, none⟩) m c)) (by rfl) rfl ?_ ?_
  · go_simp
    try with_reducible rfl
  refine hK.out _ _ ?_
  clear hK K
  refine done_ (by kernel_rfl) ?_
  try go_wp2
  go_ret
  have hho : Ho wd (.slice (some ⟨r, 0, none⟩) hs.length c) hs := HB.out.ho.init
  rw [← HM.out] at hho
  refine ⟨_, rfl, Rq.put HB.out.box hho (fun k hk => HB.out.apart ?_), ?_, rfl, (Kp.of HKP.out).set g 2 _ (fun _ => rfl)⟩
  · rcases hk with hk | ⟨p, hp, e⟩
    · exact Or.inl hk
    · exact Or.inr ⟨p, List.mem_append_left _ hp, e⟩
  · rw [← HM.out]
    have hb := blk_below HBO.out HKP.out
    exact blk_far hb (blk_ne hb HB.out.box (by decide)) _
structure StopAt (P : Prop) : Prop where
  out : P
theorem stop_ {P : Prop} (h : StopAt P) : P := h.out
theorem blk_grown' {W W' : World} {row : Option Nat} {B : Nat} {o : Obj} (h : W.heap[B]? = some o) (hg : W.grownBy W' row) (hne : some B ≠ row) : W'.heap[B]? = some o := (hg.block B (Array.getElem?_eq_some_iff.1 h).1 hne).trans h
theorem row_typed {W : World} {base e : Nat} {ok : Nat → Prop} {v : Value} {xs : List Nat} (h : kP.R e W base ok v xs) {b : Nat} {t : TypeId} {cs : Array Value} (hb : W.heap[b]? = some (.cells cs t (0, 0))) (ht : t ≠ e) : some b ≠ v.ownBlock := fun h' => by
  obtain ⟨cells, hc⟩ := Kd.R_typed h b h'.symm
  exact blk_ne hb hc ht rfl
theorem asOne (w : World) (b : Nat) : (Instr.typeAssert (.iface 62 (.pointer (some ⟨b, 0, none⟩))) 20 62 false).run Try.prog w = .ok (.pointer (some ⟨b, 0, none⟩)) w := by kernel_rfl
theorem infoP : (Try.prog.info? 62).map (fun i => (i.zero, i.size, i.bytes)) = some (some (.pointer none), 1, 8) := by kernel_rfl
theorem one_CP (W : World) (b : Nat) : kP.C (W.alloc (.cells #[.pointer (some ⟨b, 0, none⟩)] 62)) (some ⟨W.heap.size, 0, none⟩) 1 [b] := by
  have ho : (W.alloc (.cells #[.pointer (some ⟨b, 0, none⟩)] 62)).ownsRow 0 62 1 (.slice (some ⟨W.heap.size, 0, none⟩) 1 1) 1 (encs encP [b]) := ⟨rfl, Or.inr ⟨W.heap.size, 1, #[.pointer (some ⟨b, 0, none⟩)], rfl, Nat.zero_le _, blk_new W _, Nat.le_refl _, by unfold maxLen; omega, rfl, rfl⟩⟩
  obtain ⟨A, c, e, _, hC⟩ := Kd.R_reads (Kd.R_of_own (h1 := encP_one) (ok := fun _ => True) (xs := [b]) ho (fun _ _ => trivial))
  injection e with e1 e2 e3
  subst e1
  exact hC
theorem oneC_get (o : One) (x : Int) : (oneC o x)[6]? = some (.int .i64 x) := rfl
theorem Ho.typed {w : World} {v : Value} {hs : Hs} (h : Ho w v hs) {b : Nat} {t : TypeId} {cs : Array Value} (hb : w.heap[b]? = some (.cells cs t (0, 0))) (ht : t ≠ 62) : some b ≠ v.ownBlock := fun e => by
  obtain ⟨cells, hc⟩ := Kd.R_typed h.row b e.symm
  exact blk_ne hb hc ht rfl
set_option maxHeartbeats 8000000 in
set_option maxRecDepth 100000 in
theorem rpush_calls (w : World) (g : Nat) (t last : Int) (mp v : Value) (hs : Hs) (b : Nat) (o : One) (z : Int) (h : Rq w g t last mp v hs) (hb : w.heap[b]? = some (.cells (oneC o z) 66 (0, 0))) (hn : ∀ p ∈ hs, p.1 ≠ b) (hl : hs.length ≤ 1000000) :
    Calls Try.prog 89 #[.pointer (some ⟨g, 2, none⟩), .iface 62 (.pointer (some ⟨b, 0, none⟩))] w fun e w' => ∃ v', e = .returned (.tuple #[]) ∧ Rq w' g t last mp v' (hs ++ [(b, o)]) ∧ (v'.ownBlock = v.ownBlock ∨ ∃ k, v'.ownBlock = some k ∧ w.heap.size ≤ k) ∧ Kp w w' (fun k => k = g ∨ k = b ∨ v.ownBlock = some k) := by
  obtain ⟨A, c, rfl, hcl, hcm⟩ := h.ho.form
  have hc := h.cell
  have zb : w.cell? ⟨b, 6, none⟩ = some (.int .i64 z) := (blk_cell hb 6).trans rfl
  have fb := blk_frozen hb 6
  have lb := blk_lt hb
  have hgb : b ≠ g := blk_ne hb h.box (by decide)
  have HB1 := Aside0.mk (one_put hb hs.length)
  have HBX1 := Aside0.mk (blk_far (p := ⟨b, 6, none⟩) h.box (fun e => hgb e.symm) (.int .i64 hs.length))
  have HR1 : Aside0 (kP.R 62 (w.setCell ⟨b, 6, none⟩ (.int .i64 hs.length)) 0 (fun _ => True) (.slice A hs.length c) (hs.map (·.1))) := by
    have h1 : kP.R 62 w 0 (fun k => (Value.slice A hs.length c).ownBlock = some k) (.slice A hs.length c) (hs.map (·.1)) := ⟨fun k hk => hk, h.ho.row.2.imp_ (fun _ _ hp => hp)⟩
    exact ⟨Kd.R_mono (Kd.R_far (p := ⟨b, 6, none⟩) h1 (fun k hk e => h.ho.typed hb (by decide) (by rw [hk]; exact congrArg some e.symm)) _) (fun _ _ => trivial)⟩
  have HO1 : Aside0 (∀ (i k : Nat) (q : One), hs[i]? = some (k, q) → (w.setCell ⟨b, 6, none⟩ (.int .i64 hs.length)).heap[k]? = some (.cells (oneC q i) 66 (0, 0))) := ⟨fun i k q hq => blk_far (h.ho.one i k q hq) (hn (k, q) (List.mem_of_getElem? hq)) _⟩
  have HK1 : Aside0 (Kp w (w.setCell ⟨b, 6, none⟩ (.int .i64 hs.length)) (fun k => k = g ∨ k = b ∨ (Value.slice A hs.length c).ownBlock = some k)) := ⟨(Kp.of (Below.refl _ _)).set b 6 _ (fun _ => Or.inr (Or.inl rfl))⟩
  have HN := Aside0.mk hn
  have HND := Aside0.mk h.ho.nod
  have hta := fun w => asOne w b
  clear h hn hb
  go_enter Try.func89, Try.ntmps89
  go_upto_region 2 with (fail)
  clear zb fb
  generalize w.setCell ⟨b, 6, none⟩ (.int .i64 hs.length) = w1 at HB1 HBX1 HR1 HO1 HK1 ⊢
  have hc1 : w1.cell? ⟨g, 2, none⟩ = some (.slice A hs.length c) := (blk_cell HBX1.out 2).trans rfl
  have hf1 := blk_frozen HBX1.out 2
  clear hc
  go_wp2_with ((with_reducible refine gate_dst (N := 20) rfl ?_); refine stop_ ?_)
  refine StopAt.mk ?_
  refine Kd.R_append_rows kP 0 ?hg (.tmp 17) (.tmp 19) 55 62 (.pointer none) 8 ?ho Try.underlying55 infoP rfl (by decide) (by omega) (.slice A hs.length c) (hs.map (·.1)) [b] (some ⟨w1.heap.size, 0, none⟩) 1 1 (fun _ => True) (fun _ => False) ?h1 ?h2 (Kd.R_alloc HR1.out _) (one_CP w1 b) (fun _ _ h => h) (fun _ h => h.elim) (fun _ _ => trivial) (Below.refl 0 _) (Nat.zero_le _) (by rw [List.length_map]; omega) ?_; (case hg => rfl); (case ho => rfl); (case h1 => rfl); (case h2 => rfl)
  intro v' w3 hr_ hb_ hg_ hat_
  obtain ⟨A', c', e', _, _⟩ := Kd.R_reads hr_
  subst e'
  have HR3 := Aside0.mk hr_
  have HG3 := Aside0.mk hg_
  have HAT := Aside0.mk hat_
  have hx_ := blk_grown' (blk_below HBX1.out (below_alloc (Below.refl w1.heap.size w1) (.cells #[.pointer (some ⟨b, 0, none⟩)] 62))) hg_ (row_typed (Kd.R_alloc HR1.out (.cells #[.pointer (some ⟨b, 0, none⟩)] 62)) (blk_below HBX1.out (below_alloc (Below.refl w1.heap.size w1) (.cells #[.pointer (some ⟨b, 0, none⟩)] 62))) (by decide))
  have HBX3 := Aside0.mk hx_
  have hc3 := (blk_cell hx_ 2).trans rfl
  have hf3 := blk_frozen hx_ 2
  clear hr_ hb_ hg_ hat_ hx_
  try go_wp2
  first | go_end0 | go_ret
  have hgr := HG3.out
  have hrt : ∀ (k : Nat) (x : Int) (q : One), w1.heap[k]? = some (.cells (oneC q x) 66 (0, 0)) → w3.heap[k]? = some (.cells (oneC q x) 66 (0, 0)) := fun k x q hk =>
    blk_grown' (blk_below hk (below_alloc (Below.refl w1.heap.size w1) (.cells #[.pointer (some ⟨b, 0, none⟩)] 62))) hgr (row_typed (Kd.R_alloc HR1.out (.cells #[.pointer (some ⟨b, 0, none⟩)] 62)) (blk_below hk (below_alloc (Below.refl w1.heap.size w1) (.cells #[.pointer (some ⟨b, 0, none⟩)] 62))) (by decide))
  have hho : Ho w3 (.slice A' (hs.map (·.1) ++ [b]).length c') (hs ++ [(b, o)]) := by
    refine ⟨?_, fun i k q hq => ?_, ?_⟩
    · rw [List.map_append]
      exact HR3.out
    · rcases Nat.lt_or_ge i hs.length with h1 | h1
      · rw [List.getElem?_append_left h1] at hq
        exact hrt _ _ _ (HO1.out i k q hq)
      · have hi : i = hs.length := by
          have := (List.getElem?_eq_some_iff.1 hq).1
          simp at this
          omega
        subst hi
        simp at hq
        obtain ⟨rfl, rfl⟩ := hq
        exact hrt _ _ _ HB1.out
    · rw [List.map_append, List.nodup_append]
      exact ⟨HND.out, by simp, fun a ha c hc e => by
        simp at hc
        obtain ⟨p, hp, rfl⟩ := List.mem_map.1 ha
        exact HN.out p hp (e.trans hc)⟩
  have hlen : (hs.map (·.1) ++ [b]).length = hs.length + 1 := by simp
  have hat := HAT.out
  rw [hlen] at hho hat
  refine ⟨_, rfl, Rq.put HBX3.out hho (fun k hk => ?_), ?_, ?_⟩
  · rcases hk with hk | ⟨p, hp, rfl⟩
    · obtain ⟨cells, hc⟩ := Kd.R_typed hho.row k hk
      exact blk_ne hc HBX3.out (by decide)
    · obtain ⟨i, hi, e⟩ := List.getElem_of_mem hp
      exact blk_ne (hho.one i p.1 p.2 (by rw [List.getElem?_eq_getElem hi, e])) HBX3.out (by decide)
  · rcases hat with h1 | ⟨k, h1, h2⟩
    · exact Or.inl h1
    · refine Or.inr ⟨k, h1, Nat.le_trans HK1.out.size (Nat.le_trans ?_ h2)⟩
      exact (below_alloc (Below.refl w1.heap.size w1) (.cells #[.pointer (some ⟨b, 0, none⟩)] 62)).size
  · refine Kp.set ((HK1.out.trans (Kp.of (S := fun _ => False) (below_alloc (Below.refl _ _) _)) (fun _ _ h => h.elim)).trans (Kp.grown (S := fun k => (Value.slice A hs.length c).ownBlock = some k) hgr (fun k hk => hk)) (fun j _ hj => Or.inr (Or.inr hj))) g 2 _ (fun _ => Or.inl rfl)
end Go.Proofs.Ytihmblbnnhcdnaa.Print
