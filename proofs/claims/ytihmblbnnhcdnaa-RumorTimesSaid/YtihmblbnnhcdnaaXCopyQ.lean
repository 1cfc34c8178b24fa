/- A queue's Copy, walked. -/
import Derived.Test.YtihmblbnnhcdnaaXPm
namespace Go.Proofs.Ytihmblbnnhcdnaa.Print
open Go.RowKit Go.Maps Go.ChangeMaps Go.Proofs.YtihmblbnnhcdnaaW.PrintWords Go.Proofs.YtihmblbnnhcdnaaW.PrintLast Go.Proofs.YtihmblbnnhcdnaaW.PrintMore
set_option linter.unusedVariables false
set_option linter.unusedSimpArgs false
/-- one more in the row -/
theorem Ho.snoc {w1 w3 : World} {v v' : Value} {hs : Hs} {b : Nat} {o : One} (h : Ho w1 v hs) (hb : w1.heap[b]? = some (.cells (oneC o hs.length) 66 (0, 0))) (hn : ∀ p ∈ hs, p.1 ≠ b) (hr : kP.R 62 w3 0 (fun _ => True) v' (hs.map (·.1) ++ [b])) (hg : (w1.alloc (.cells #[.pointer (some ⟨b, 0, none⟩)] 62)).grownBy w3 v.ownBlock) : Ho w3 v' (hs ++ [(b, o)]) := by
  have hrt : ∀ (k : Nat) (x : Int) (q : One), w1.heap[k]? = some (.cells (oneC q x) 66 (0, 0)) → w3.heap[k]? = some (.cells (oneC q x) 66 (0, 0)) := fun k x q hk =>
    blk_grown' (blk_below hk (below_alloc (Below.refl w1.heap.size w1) (.cells #[.pointer (some ⟨b, 0, none⟩)] 62))) hg (row_typed (Kd.R_alloc h.row (.cells #[.pointer (some ⟨b, 0, none⟩)] 62)) (blk_below hk (below_alloc (Below.refl w1.heap.size w1) (.cells #[.pointer (some ⟨b, 0, none⟩)] 62))) (by decide))
  refine ⟨?_, fun i k q hq => ?_, ?_⟩
  · rw [List.map_append]
    exact hr
  · rcases Nat.lt_or_ge i hs.length with h1 | h1
    · rw [List.getElem?_append_left h1] at hq
      exact hrt _ _ _ (h.one i k q hq)
    · have hi : i = hs.length := by
        have := (List.getElem?_eq_some_iff.1 hq).1
        simp at this
        omega
      subst hi
      simp at hq
      obtain ⟨rfl, rfl⟩ := hq
      exact hrt _ _ _ hb
  · rw [List.map_append, List.nodup_append]
    exact ⟨h.nod, by simp, fun a ha c hc e => by
      simp at hc
      obtain ⟨p, hp, rfl⟩ := List.mem_map.1 ha
      exact hn p hp (e.trans hc)⟩
theorem at1_map {hs hs' : Hs} (h : hs'.map (·.2) = hs.map (·.2)) : at1 hs' = at1 hs := by
  funext k
  unfold at1
  rw [← List.getElem?_map, ← List.getElem?_map, h]
theorem Qw.below' {w w' : World} {g mb n : Nat} {t last : Int} {v : Value} {hs : Hs} (h : Qw w g mb n t last v hs) (hb : Below w.heap.size w w') : Qw w' g mb n t last v hs := by
  obtain ⟨f, hp, hf⟩ := h.map
  exact ⟨h.rq.below hb, h.heap, ⟨f, hp.below hb, hf⟩, h.addr, h.wf⟩
set_option maxHeartbeats 40000000 in
set_option maxRecDepth 100000 in
theorem copyq_calls (w : World) (g mb n : Nat) (t last : Int) (v : Value) (hs : Hs) (h : Qw w g mb n t last v hs) (hl : hs.length ≤ 900000) :
    Calls Try.prog 15 #[.pointer (some ⟨g, 0, none⟩)] w fun e w' => ∃ g' mb' v' hs', e = .returned (.pointer (some ⟨g', 0, none⟩)) ∧ Qw w' g' mb' hs.length t last v' hs' ∧ hs'.map (·.2) = hs.map (·.2) ∧ w.heap.size ≤ g' ∧ w.heap.size ≤ mb' ∧ (∀ p ∈ hs', w.heap.size ≤ p.1) ∧ (∀ k, v'.ownBlock = some k → w.heap.size ≤ k) ∧ Below w.heap.size w w' := by
  have hmm := @run_makeMap Try.prog
  have HQW := Aside0.mk h
  have HLL := Aside0.mk hl
  have HQd := Aside0.mk (h.below' (below_drew1 (Below.refl w.heap.size w)))
  have HBd := Aside0.mk (below_drew1 (Below.refl w.heap.size w))
  clear h hl
  go_enter Try.func15, Try.ntmps15
  go_upto_region 3 with (fail)
  refine start_ (n := 12) (S := (fun w' => w'.cell? ⟨g, 0, none⟩ = some (.int .i64 t) ∧ w'.cell? ⟨g, 1, none⟩ = some (.int .i64 last))) (ds := [10]) #[false, false, false, false, false, false, false, false, false, false, false, false] (by kernel_rfl) rfl rfl ⟨(blk_cell HQd.out.rq.box 0).trans rfl, (blk_cell HQd.out.rq.box 1).trans rfl⟩ (fun hHeld => ?_)
  generalize w.drew = wd at HQd HBd hHeld ⊢
  refine pure_ (i := 0) (N := some 9) (v := ?_) (a' := ?_) #[true, false, false, false, false, false, false, false, false, false, false, false] rfl rfl (by kernel_rfl) (fun _ _ _ h => h) (Or.inl ⟨by rfl, ?_⟩) ?_ ?_
  rotate_left
  · intro w'
    go_simp
    with_reducible rfl
  rotate_left
  · simp only [Act.put, List.setIfInBounds_toArray, List.set_cons_zero, List.set_cons_succ, i64_w, i32_w]
    rfl
  refine pure_ (i := 1) (N := some 10) (v := ?_) (a' := ?_) #[true, true, false, false, false, false, false, false, false, false, false, false] rfl rfl (by kernel_rfl) (fun _ _ _ h => h) (Or.inl ⟨by rfl, ?_⟩) ?_ ?_
  rotate_left
  · intro w'
    go_simp
    with_reducible rfl
  rotate_left
  · simp only [Act.put, List.setIfInBounds_toArray, List.set_cons_zero, List.set_cons_succ, i64_w, i32_w]
    rfl
  refine pure_ (i := 2) (N := some 11) (v := ?_) (a' := ?_) #[true, true, true, false, false, false, false, false, false, false, false, false] rfl rfl (by kernel_rfl) (fun _ _ _ h => h) (Or.inl ⟨by rfl, ?_⟩) ?_ ?_
  rotate_left
  · intro w'
    go_simp
    with_reducible rfl
  rotate_left
  · simp only [Act.put, List.setIfInBounds_toArray, List.set_cons_zero, List.set_cons_succ, i64_w, i32_w]
    rfl
  refine take_ (i := 3) (N := some 12) (v := ?_) (a' := ?_) #[true, true, true, true, false, false, false, false, false, false, false, false] rfl rfl (by kernel_rfl) (fun _ _ _ h => h) (Or.inl ⟨by rfl, ?_⟩) hHeld ?_ ?_
  rotate_left
  · rintro w' ⟨h0_, h1_⟩
    go_simp
    with_reducible rfl
  rotate_left
  · simp only [Act.put, List.setIfInBounds_toArray, List.set_cons_zero, List.set_cons_succ, i64_w, i32_w]
    rfl
  refine pure_ (i := 4) (N := some 13) (v := ?_) (a' := ?_) #[true, true, true, true, true, false, false, false, false, false, false, false] rfl rfl (by kernel_rfl) (fun _ _ _ h => h) (Or.inl ⟨by rfl, ?_⟩) ?_ ?_
  rotate_left
  · intro w'
    go_simp
    with_reducible rfl
  rotate_left
  · simp only [Act.put, List.setIfInBounds_toArray, List.set_cons_zero, List.set_cons_succ, i64_w, i32_w]
    rfl
  refine pure_ (i := 5) (N := some 14) (v := ?_) (a' := ?_) #[true, true, true, true, true, true, false, false, false, false, false, false] rfl rfl (by kernel_rfl) (fun _ _ _ h => h) (Or.inl ⟨by rfl, ?_⟩) ?_ ?_
  rotate_left
  · intro w'
    go_simp
    with_reducible rfl
  rotate_left
  · simp only [Act.put, List.setIfInBounds_toArray, List.set_cons_zero, List.set_cons_succ, i64_w, i32_w]
    rfl
  refine pure_ (i := 6) (N := some 15) (v := ?_) (a' := ?_) #[true, true, true, true, true, true, true, false, false, false, false, false] rfl rfl (by kernel_rfl) (fun _ _ _ h => h) (Or.inl ⟨by rfl, ?_⟩) ?_ ?_
  rotate_left
  · intro w'
    go_simp
    with_reducible rfl
  rotate_left
  · simp only [Act.put, List.setIfInBounds_toArray, List.set_cons_zero, List.set_cons_succ, i64_w, i32_w]
    rfl
  refine take_ (i := 7) (N := some 16) (v := ?_) (a' := ?_) #[true, true, true, true, true, true, true, true, false, false, false, false] rfl rfl (by kernel_rfl) (fun _ _ _ h => h) (Or.inl ⟨by rfl, ?_⟩) hHeld ?_ ?_
  rotate_left
  · rintro w' ⟨h0_, h1_⟩
    go_simp
    with_reducible rfl
  rotate_left
  · simp only [Act.put, List.setIfInBounds_toArray, List.set_cons_zero, List.set_cons_succ, i64_w, i32_w]
    rfl
  refine one_ (i := 8) (N := some 17) #[true, true, true, true, true, true, true, true, true, false, false, false] rfl rfl (by kernel_rfl) (by decide) (fun K hK => ?_)
  refine value_ (w1 := wd.alloc (.map #[] 0)) (v := .map (some wd.heap.size)) (by rfl) rfl ?_ ?_
  · go_simp
    try with_reducible rfl
  have HP1 := Aside0.mk (Pm.made wd)
  have hba := below_alloc (Below.refl wd.heap.size wd) (.map #[] 0)
  have HQ1 := Aside0.mk (HQd.out.rq.below hba)
  have HB1 := Aside0.mk (below_step HBd.out hba)
  have HMB := Aside0.mk HBd.out.size
  clear hba
  generalize wd.alloc (.map #[] 0) = w1 at HP1 HQ1 HB1 ⊢
  generalize wd.heap.size = mb' at HP1 HMB ⊢
  refine hK.out _ _ ⟨(blk_cell HQ1.out.box 0).trans rfl, (blk_cell HQ1.out.box 1).trans rfl⟩ (fun hHeld => ?_)
  clear hK K
  refine norm_ (a' := ?_) ?_ ?_
  rotate_left
  · show Act.put _ (some 17) _ = _
    simp only [Act.put, List.setIfInBounds_toArray, List.set_cons_zero, List.set_cons_succ, i64_w, i32_w]
    rfl
  refine pure_ (i := 9) (N := some 18) (v := ?_) (a' := ?_) #[true, true, true, true, true, true, true, true, true, true, false, false] rfl rfl (by kernel_rfl) (fun _ _ _ h => h) (Or.inl ⟨by rfl, ?_⟩) ?_ ?_
  rotate_left
  · intro w'
    go_simp
    with_reducible rfl
  rotate_left
  · simp only [Act.put, List.setIfInBounds_toArray, List.set_cons_zero, List.set_cons_succ, i64_w, i32_w]
    rfl
  refine last_ (i := 10) (N := some 19) #[true, true, true, true, true, true, true, true, true, true, true, false] rfl rfl (by kernel_rfl) (by decide) (fun K hK => ?_)
  refine box_step (N := 19) ?hw ?hd (cs := #[.int .i64 t, .int .i64 last, .slice none 0 0, .map (some mb')]) (t := 57) ?hr ?_; (case hw => rfl); (case hd => rfl); (case hr => first | (go_simp; done) | (go_simp; rfl))
  intro g' hg_ w2 hb_ hbe_
  have HX2 := Aside0.mk hb_
  have HG2 := Aside0.mk (show w.heap.size ≤ g' by rw [hg_]; exact HB1.out.size)
  have HP2 := Aside0.mk (HP1.out.below hbe_)
  have HB2 := Aside0.mk (below_step HB1.out hbe_)
  clear hb_ hg_ hbe_
  refine hK.out _ _ ?_
  clear hK K
  refine norm_ (a' := ?_) ?_ ?_
  rotate_left
  · show Act.put _ (some 19) _ = _
    simp only [Act.put, List.setIfInBounds_toArray, List.set_cons_zero, List.set_cons_succ, i64_w, i32_w]
    rfl
  refine pure_ (i := 11) (N := some 3) (v := ?_) (a' := ?_) #[true, true, true, true, true, true, true, true, true, true, true, true] rfl rfl (by kernel_rfl) (fun _ _ _ h => h) (Or.inl ⟨by rfl, ?_⟩) ?_ ?_
  rotate_left
  · intro w'
    go_simp
    with_reducible rfl
  rotate_left
  · simp only [Act.put, List.setIfInBounds_toArray, List.set_cons_zero, List.set_cons_succ, i64_w, i32_w]
    rfl
  refine done_ (by kernel_rfl) ?_
  go_upto_region 4 with (fail)
  have HQ2 := Aside0.mk (HQW.out.rq.below HB2.out)
  obtain ⟨A, c, rfl, hcl, hcm⟩ := HQW.out.rq.ho.form
  have hc2 := HQ2.out.cell
  have HE := Aside0.mk HQ2.out
  clear hmm HQd HBd HP1 HQ1 HB1
  have hll := HLL.out
  go_wp2
  go_loopw [25] (fun u wr => ∃ (i : Nat) (v' : Value) (hc : Hs), i ≤ hs.length ∧ u = .int .i64 i ∧ Aside0 (Rq wr g' t last (.map (some mb')) v' hc) ∧ Aside0 (hc.map (·.2) = (hs.take i).map (·.2)) ∧ Aside0 (∃ f, Pm wr mb' i f ∧ ∀ a, 0 ≤ a → a ≤ 4294967295 → ∀ b, f a = some b ↔ ∃ o, (b, o) ∈ hc ∧ o.m.f0 = a) ∧ Aside0 ((∀ p ∈ hc, w.heap.size ≤ p.1) ∧ ∀ k, v'.ownBlock = some k → w.heap.size ≤ k) ∧ Aside0 (Below w.heap.size w wr)) (fun u _ => hs.length - (intOf u).toNat)
  case atStart =>
    have q1 : Rq w2 g' t last (.map (some mb')) (.slice none 0 0) [] := ⟨HX2.out, ⟨Kd.R_nil _ _ _ _ _, fun i b o h => by simp at h, by simp⟩⟩
    have q2 : ∃ f, Pm w2 mb' 0 f ∧ ∀ a, 0 ≤ a → a ≤ 4294967295 → ∀ b, f a = some b ↔ ∃ o, (b, o) ∈ ([] : Hs) ∧ o.m.f0 = a := ⟨_, HP2.out, fun a _ _ b => by simp⟩
    have q3 : (∀ p ∈ ([] : Hs), w.heap.size ≤ p.1) ∧ ∀ k, (Value.slice none 0 0).ownBlock = some k → w.heap.size ≤ k := ⟨fun p hp => (by cases hp), fun k hk => (by cases hk)⟩
    exact ⟨0, .slice none 0 0, [], Nat.zero_le _, rfl, ⟨q1⟩, ⟨rfl⟩, ⟨q2⟩, ⟨q3⟩, HB2⟩
  case round =>
    clear HX2 HP2 HE hc2 HQ2 HB2
    obtain ⟨i, v', hc, hi, rfl, HR, HM, HPM, HFR, HB⟩ := hrel
    have HQr := Aside0.mk (HQW.out.rq.below HB.out)
    by_cases hlt : (i : Int) < (hs.length : Int)
    · obtain ⟨bi, oi, ei⟩ := get_some (hs := hs) (k := i) (by omega)
      obtain ⟨r, c', eA, _, _, ci, _, _⟩ := HQr.out.ho.at ei
      injection eA with eA _ _
      subst eA
      have hi0 : 0 ≤ (i : Int) := by omega
      have hbi := HQr.out.ho.one _ _ _ ei
      have o0_ : wr.cell? ⟨bi, 0, none⟩ = some (.int .u32 oi.m.f0) := (blk_cell hbi 0).trans rfl
      have o1_ : wr.cell? ⟨bi, 1, none⟩ = some (.int .u32 oi.m.f1) := (blk_cell hbi 1).trans rfl
      have o2_ : wr.cell? ⟨bi, 2, none⟩ = some (.int .u8 oi.m.f2) := (blk_cell hbi 2).trans rfl
      have o3_ : wr.cell? ⟨bi, 3, none⟩ = some (.string oi.m.f3) := (blk_cell hbi 3).trans rfl
      have o4_ : wr.cell? ⟨bi, 4, none⟩ = some (.int .i64 oi.sent) := (blk_cell hbi 4).trans rfl
      have o5_ : wr.cell? ⟨bi, 5, none⟩ = some (.int .i64 oi.tm) := (blk_cell hbi 5).trans rfl
      have o6_ : wr.cell? ⟨bi, 6, none⟩ = some (.int .i64 i) := (blk_cell hbi 6).trans rfl
      have HEI := Aside0.mk ei
      clear hbi ei HQr
      go_upto_region 8 with (fail)
      have hba := below_alloc (Below.refl wr.heap.size wr) (.cells #[.int .u32 oi.m.f0, .int .u32 oi.m.f1, .int .u8 oi.m.f2, .string oi.m.f3, .int .i64 oi.sent, .int .i64 oi.tm, .int .i64 i] 66)
      have hlen : hc.length = i := by
        have h1 := congrArg List.length HM.out
        rw [List.length_map, List.length_map, List.length_take] at h1
        omega
      have HO3 : Aside0 ((wr.alloc (.cells #[.int .u32 oi.m.f0, .int .u32 oi.m.f1, .int .u8 oi.m.f2, .string oi.m.f3, .int .i64 oi.sent, .int .i64 oi.tm, .int .i64 i] 66)).heap[wr.heap.size]? = some (.cells (oneC oi i) 66 (0, 0))) := ⟨blk_new wr _⟩
      have HR3 := Aside0.mk (HR.out.below hba)
      have HB3 := Aside0.mk (below_step HB.out hba)
      obtain ⟨f, hpm, hf⟩ := HPM.out
      have HP3 := Aside0.mk (hpm.below hba)
      have HFM := Aside0.mk hf
      have HNB : Aside0 (∀ p ∈ hc, p.1 ≠ wr.heap.size) := ⟨fun p hp e => by have := HR.out.ho.lt (Or.inr ⟨p, hp, rfl⟩); omega⟩
      have HBP := Aside0.mk HB.out.size
      have HLEN := Aside0.mk hlen
      clear hba hpm hf HR HPM HB o0_ o1_ o2_ o3_ o4_ o5_ o6_ ci
      generalize wr.alloc (.cells #[.int .u32 oi.m.f0, .int .u32 oi.m.f1, .int .u8 oi.m.f2, .string oi.m.f3, .int .i64 oi.sent, .int .i64 oi.tm, .int .i64 i] 66) = w3 at HO3 HR3 HB3 HP3 ⊢
      generalize wr.heap.size = bp at HO3 HNB HBP ⊢
      obtain ⟨A', c2', rfl, hcl', hcm'⟩ := HR3.out.ho.form
      rw [hlen] at HR3 HFR hcl'
      clear hlen
      have hc3 := HR3.out.cell
      have hf3 := blk_frozen HR3.out.box 2
      go_wp2_with ((with_reducible refine gate_dst (N := 38) rfl ?_); refine stop_ ?_)
      refine StopAt.mk ?_
      refine Kd.R_append_rows kP 0 ?hg (.tmp 36) (.tmp 37) 55 62 (.pointer none) 8 ?ho Try.underlying55 infoP rfl (by decide) (by omega) (.slice A' i c2') (hc.map (·.1)) [bp] (some ⟨w3.heap.size, 0, none⟩) 1 1 (fun _ => True) (fun _ => False) ?h1 ?h2 (Kd.R_alloc HR3.out.ho.row _) (one_CP w3 bp) (fun _ _ h => h) (fun _ h => h.elim) (fun _ _ => trivial) (Below.refl 0 _) (Nat.zero_le _) (by rw [List.length_map, HLEN.out]; omega) ?_
      case hg => rfl
      case ho => rfl
      case h1 => rfl
      case h2 => rfl
      intro v'' w4 hr_ hb_ hg_ hat_
      obtain ⟨A'', c'', e'', _, _⟩ := Kd.R_reads hr_
      have hlen4 : (hc.map (·.1) ++ [bp]).length = i + 1 := by simp [HLEN.out]
      rw [hlen4] at e''
      subst e''
      have hba := below_alloc (Below.refl w3.heap.size w3) (.cells #[.pointer (some ⟨bp, 0, none⟩)] 62)
      have HR4 := Aside0.mk (HR3.out.ho.snoc (by rw [HLEN.out]; exact HO3.out) HNB.out hr_ hg_)
      have hbx4 := blk_grown' (blk_below HR3.out.box hba) hg_ (row_typed (Kd.R_alloc HR3.out.ho.row _) (blk_below HR3.out.box hba) (by decide))
      have HBX4 := Aside0.mk hbx4
      have HP4 := Aside0.mk ((HP3.out.below hba).kept hg_ (fun e => by obtain ⟨cells, hcc⟩ := Kd.R_typed HR3.out.ho.row mb' e.symm; exact HP3.out.ne hcc rfl))
      have HO4 := Aside0.mk (blk_grown' (blk_below HO3.out hba) hg_ (row_typed (Kd.R_alloc HR3.out.ho.row _) (blk_below HO3.out hba) (by decide)))
      have HV4 : Aside0 (∀ k, (Value.slice A'' (i + 1) c'').ownBlock = some k → w.heap.size ≤ k) := ⟨fun k hk => by
        rcases hat_ with e | ⟨k', e, hle⟩
        · rw [e] at hk; exact HFR.out.2 k hk
        · rw [e] at hk; injection hk with hk; have := HB3.out.size; have := hba.size; omega⟩
      have HB4 : Aside0 (Below w.heap.size w w4) := ⟨(below_step HB3.out hba).trans ((Kp.grown (S := fun k => (Value.slice A' i c2').ownBlock = some k) hg_ (fun k hk => hk)).below (below_step HB3.out hba).size (fun k hk => HFR.out.2 k hk))⟩
      have hc4 := (blk_cell hbx4 2).trans rfl
      have hf4 := blk_frozen hbx4 2
      clear hr_ hb_ hg_ hat_ hlen4 hba hbx4 hc3 hf3 HR3 HP3 HO3 HB3
      go_upto_region 9 with (fail)
      have HQ6 := Aside0.mk (Rq.put HBX4.out HR4.out (fun k hk => by
        rcases hk with hk | ⟨p, hp, rfl⟩
        · obtain ⟨cells, hcc⟩ := Kd.R_typed HR4.out.row k hk
          exact blk_ne hcc HBX4.out (by decide)
        · obtain ⟨j, hj, e⟩ := List.getElem_of_mem hp
          exact blk_ne (HR4.out.one j p.1 p.2 (by rw [List.getElem?_eq_getElem hj, e])) HBX4.out (by decide)))
      have hk6 : Kp w4 (w4.setCell ⟨g', 2, none⟩ (.slice A'' (i + 1) c'')) (fun k => k = g') := (Kp.of (Below.refl _ _)).set g' 2 _ (fun _ => rfl)
      have HP6 := Aside0.mk (HP4.out.kp hk6 (HP4.out.ne HBX4.out))
      have HO6 := Aside0.mk (blk_far HO4.out (p := ⟨g', 2, none⟩) (blk_ne HO4.out HBX4.out (by decide)) (.slice A'' (i + 1) c''))
      have HB6 := Aside0.mk (HB4.out.trans (hk6.below HB4.out.size (fun k hk => by rw [hk]; exact HG2.out)))
      clear hk6 hc4 hf4 HR4 HP4 HO4 HB4 HBX4
      generalize w4.setCell ⟨g', 2, none⟩ (.slice A'' (i + 1) c'') = w6 at HQ6 HP6 HO6 HB6 ⊢
      have hbd := below_drew1 (Below.refl w6.heap.size w6)
      have HQ7 := Aside0.mk (HQ6.out.below hbd)
      have HP7 := Aside0.mk (HP6.out.below hbd)
      have HO7 := Aside0.mk (blk_below HO6.out hbd)
      have HB7 := Aside0.mk (below_step HB6.out hbd)
      have HWI := Aside0.mk (HQW.out.wf (bi, oi) (List.mem_of_getElem? HEI.out))
      have HIB := Aside0.mk (show i ≤ 1000000000 by omega)
      clear hbd HQ6 HP6 HO6 HB6
      refine start_ (n := 8) (S := (fun w' => w'.cell? ⟨g', 3, none⟩ = some (.map (some mb')) ∧ w'.cell? ⟨bp, 0, none⟩ = some (.int .u32 oi.m.f0))) (ds := [7]) #[false, false, false, false, false, false, false, false] (by kernel_rfl) rfl rfl ⟨(blk_cell HQ7.out.box 3).trans rfl, (blk_cell HO7.out 0).trans rfl⟩ (fun hHeld => ?_)
      generalize w6.drew = wd at HQ7 HP7 HO7 HB7 hHeld ⊢
      refine pure_ (i := 0) (N := some 41) (v := ?_) (a' := ?_) #[true, false, false, false, false, false, false, false] rfl rfl (by kernel_rfl) (fun _ _ _ h => h) (Or.inl ⟨by rfl, ?_⟩) ?_ ?_
      rotate_left
      · intro w'
        go_simp
        with_reducible rfl
      rotate_left
      · simp only [Act.put, List.setIfInBounds_toArray, List.set_cons_zero, List.set_cons_succ, i64_w, i32_w]
        rfl
      refine pure_ (i := 1) (N := some 42) (v := ?_) (a' := ?_) #[true, true, false, false, false, false, false, false] rfl rfl (by kernel_rfl) (fun _ _ _ h => h) (Or.inl ⟨by rfl, ?_⟩) ?_ ?_
      rotate_left
      · intro w'
        go_simp
        with_reducible rfl
      rotate_left
      · simp only [Act.put, List.setIfInBounds_toArray, List.set_cons_zero, List.set_cons_succ, i64_w, i32_w]
        rfl
      refine pure_ (i := 2) (N := some 43) (v := ?_) (a' := ?_) #[true, true, true, false, false, false, false, false] rfl rfl (by kernel_rfl) (fun _ _ _ h => h) (Or.inl ⟨by rfl, ?_⟩) ?_ ?_
      rotate_left
      · intro w'
        go_simp
        with_reducible rfl
      rotate_left
      · simp only [Act.put, List.setIfInBounds_toArray, List.set_cons_zero, List.set_cons_succ, i64_w, i32_w]
        rfl
      refine take_ (i := 3) (N := some 44) (v := ?_) (a' := ?_) #[true, true, true, true, false, false, false, false] rfl rfl (by kernel_rfl) (fun _ _ _ h => h) (Or.inl ⟨by rfl, ?_⟩) hHeld ?_ ?_
      rotate_left
      · rintro w' ⟨h0_, h1_⟩
        go_simp
        with_reducible rfl
      rotate_left
      · simp only [Act.put, List.setIfInBounds_toArray, List.set_cons_zero, List.set_cons_succ, i64_w, i32_w]
        rfl
      refine pure_ (i := 4) (N := some 45) (v := ?_) (a' := ?_) #[true, true, true, true, true, false, false, false] rfl rfl (by kernel_rfl) (fun _ _ _ h => h) (Or.inl ⟨by rfl, ?_⟩) ?_ ?_
      rotate_left
      · intro w'
        go_simp
        with_reducible rfl
      rotate_left
      · simp only [Act.put, List.setIfInBounds_toArray, List.set_cons_zero, List.set_cons_succ, i64_w, i32_w]
        rfl
      refine pure_ (i := 5) (N := some 46) (v := ?_) (a' := ?_) #[true, true, true, true, true, true, false, false] rfl rfl (by kernel_rfl) (fun _ _ _ h => h) (Or.inl ⟨by rfl, ?_⟩) ?_ ?_
      rotate_left
      · intro w'
        go_simp
        with_reducible rfl
      rotate_left
      · simp only [Act.put, List.setIfInBounds_toArray, List.set_cons_zero, List.set_cons_succ, i64_w, i32_w]
        rfl
      refine take_ (i := 6) (N := some 47) (v := ?_) (a' := ?_) #[true, true, true, true, true, true, true, false] rfl rfl (by kernel_rfl) (fun _ _ _ h => h) (Or.inl ⟨by rfl, ?_⟩) hHeld ?_ ?_
      rotate_left
      · rintro w' ⟨h0_, h1_⟩
        go_simp
        with_reducible rfl
      rotate_left
      · simp only [Act.put, List.setIfInBounds_toArray, List.set_cons_zero, List.set_cons_succ, i64_w, i32_w]
        rfl
      refine last_ (i := 7) (N := none) #[true, true, true, true, true, true, true, true] rfl rfl (by kernel_rfl) (by decide) (fun K hK => ?_)
      obtain ⟨w8, hrun_, hp_, hg_⟩ := HP7.out.put HWI.out.1 HWI.out.2 HIB.out bp
      refine skip_ (w1 := w8) (by rfl) rfl ?_ ?_
      · go_simp
        try with_reducible rfl
      have HP8 := Aside0.mk hp_
      have HG8 := Aside0.mk hg_
      clear hrun_ hp_ hg_
      refine hK.out _ _ ?_
      clear hK K
      refine done_ (by kernel_rfl) ?_
      have hk8 : Kp wd w8 (fun k => k = mb') := Kp.grown HG8.out (fun k hk => (Option.some.inj hk).symm)
      have HQ8 : Aside0 (Rq w8 g' t last (.map (some mb')) (.slice A'' (i + 1) c'') (hc ++ [(bp, oi)])) := by
        refine ⟨⟨(hk8.block g' (blk_lt HQ7.out.box) (fun e => HP7.out.ne HQ7.out.box e.symm)).trans HQ7.out.box, HQ7.out.ho.kept hk8 (fun k hk' e => ?_)⟩⟩
        subst e
        rcases hk' with hk' | ⟨p, hp, e⟩
        · obtain ⟨cells, hcc⟩ := Kd.R_typed HQ7.out.ho.row k hk'
          exact HP7.out.ne hcc rfl
        · obtain ⟨j, hj, e2⟩ := List.getElem_of_mem hp
          exact HP7.out.ne (HQ7.out.ho.one j p.1 p.2 (by rw [List.getElem?_eq_getElem hj, e2])) e.symm
      have HB8 := Aside0.mk (HB7.out.trans (hk8.below HB7.out.size (fun k hk => by rw [hk]; exact HMB.out)))
      have q5 : (hc ++ [(bp, oi)]).map (·.2) = (hs.take (i + 1)).map (·.2) := by
        rw [List.map_append, HM.out, List.take_add_one, HEI.out, List.map_append]; rfl
      have hdis : ∀ (b : Nat) (o : One), (b, o) ∈ hc → o.m.f0 ≠ oi.m.f0 := fun b o ho e => by
        have h1 : o ∈ (hs.take i).map (·.2) := by rw [← HM.out]; exact List.mem_map.2 ⟨(b, o), ho, rfl⟩
        obtain ⟨p, hp, e1⟩ := List.mem_map.1 h1
        have hn := HQW.out.addr
        have hsp : hs = hs.take i ++ hs.drop i := (List.take_append_drop i hs).symm
        rw [hsp, List.map_append, List.nodup_append] at hn
        have hdr : (bi, oi) ∈ hs.drop i := by
          obtain ⟨hj', e3⟩ := List.getElem?_eq_some_iff.1 HEI.out
          rw [List.drop_eq_getElem_cons hj', e3]
          exact List.mem_cons_self ..
        exact hn.2.2 p.2.m.f0 (List.mem_map.2 ⟨p, hp, rfl⟩) oi.m.f0 (List.mem_map.2 ⟨(bi, oi), hdr, rfl⟩) (by rw [e1]; exact e)
      have q6 : ∀ a, 0 ≤ a → a ≤ 4294967295 → ∀ b, fput f oi.m.f0 (some bp) a = some b ↔ ∃ o, (b, o) ∈ hc ++ [(bp, oi)] ∧ o.m.f0 = a := fun a ha0 ha1 b => by
        unfold fput
        by_cases e : a = oi.m.f0
        · rw [if_pos e]
          constructor
          · intro hb
            injection hb with hb
            subst hb
            exact ⟨oi, List.mem_append_right _ (by simp), e.symm⟩
          · rintro ⟨o, ho, he⟩
            rcases List.mem_append.1 ho with ho | ho
            · exact absurd (he.trans e) (hdis b o ho)
            · have : (b, o) = (bp, oi) := by simpa using ho
              injection this with t1 _
              rw [t1]
        · rw [if_neg e, HFM.out a ha0 ha1 b]
          constructor
          · rintro ⟨o, ho, he⟩
            exact ⟨o, List.mem_append_left _ ho, he⟩
          · rintro ⟨o, ho, he⟩
            rcases List.mem_append.1 ho with ho | ho
            · exact ⟨o, ho, he⟩
            · have : (b, o) = (bp, oi) := by simpa using ho
              injection this with _ t2
              subst t2
              exact absurd he.symm e
      have q7 : (∀ p ∈ hc ++ [(bp, oi)], w.heap.size ≤ p.1) ∧ ∀ k, (Value.slice A'' (i + 1) c'').ownBlock = some k → w.heap.size ≤ k := ⟨fun p hp => by
        rcases List.mem_append.1 hp with hp | hp
        · exact HFR.out.1 p hp
        · obtain rfl : p = (bp, oi) := by simpa using hp
          exact HBP.out, HV4.out⟩
      have HREL := Aside0.mk (And.intro q5 (And.intro q6 q7))
      clear q5 q6 q7 hdis hk8 HQ7 HP7 HO7 HB7
      have HIL := Aside0.mk (show i < hs.length by omega)
      try go_wp2
      go_roundw
      case rel =>
        refine ⟨_, _, _, ⟨i + 1, by have := HIL.out; omega, ?_, .slice A'' (i + 1) c'', hc ++ [(bp, oi)], HQ8, ⟨by rw [← List.map_take]; exact HREL.out.1⟩, ⟨⟨_, HP8.out, HREL.out.2.1⟩⟩, ⟨⟨fun a b h => HREL.out.2.2.1 (a, b) h, HREL.out.2.2.2⟩⟩⟩, rfl, rfl, rfl⟩
        go_num
      case measure => have := HIL.out; simp [intOf, wrap64]; omega
    · obtain rfl : i = hs.length := by omega
      go_wp2
      go_ret
      have hm := HM.out
      rw [List.take_length] at hm
      have hlen : hc.length = hs.length := by
        have h1 := congrArg List.length hm
        rw [List.length_map, List.length_map] at h1
        exact h1
      have hadd : hc.map (fun p => p.2.m.f0) = hs.map (fun p => p.2.m.f0) := by
        have h1 := congrArg (List.map (fun o : One => o.m.f0)) hm
        rw [List.map_map, List.map_map] at h1
        exact h1
      have hqw : Qw wr g' mb' hs.length t last v' hc := ⟨HR.out, by rw [hlen, at1_map hm]; exact HQW.out.heap, HPM.out, by rw [hadd]; exact HQW.out.addr, fun p hp => by
        have h1 : p.2 ∈ hs.map (·.2) := by rw [← hm]; exact List.mem_map.2 ⟨p, hp, rfl⟩
        obtain ⟨q, hq, e⟩ := List.mem_map.1 h1
        rw [← e]
        exact HQW.out.wf q hq⟩
      exact ⟨g', rfl, mb', v', hc, hqw, hm, HG2.out, HMB.out, fun a b h => HFR.out.1 (a, b) h, HFR.out.2, HB.out⟩
end Go.Proofs.Ytihmblbnnhcdnaa.Print
