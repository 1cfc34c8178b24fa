/- A queue's Add, walked. -/
import Derived.Test.YtihmblbnnhcdnaaXCkP
namespace Go.Proofs.Ytihmblbnnhcdnaa.Print
open Go.RowKit Go.Maps Go.ChangeMaps Go.Proofs.YtihmblbnnhcdnaaW.PrintWords Go.Proofs.YtihmblbnnhcdnaaW.PrintLast Go.Proofs.YtihmblbnnhcdnaaW.PrintMore
set_option linter.unusedVariables false
set_option linter.unusedSimpArgs false
set_option maxHeartbeats 8000000 in
set_option maxRecDepth 100000 in
theorem addq_bad (w : World) (g mb n : Nat) (t last : Int) (v : Value) (hs : Hs) (m : Mem) (h : Qw w g mb n t last v hs) (hm : mayM m = false) :
    Calls Try.prog 10 #[.pointer (some ⟨g, 0, none⟩), .agg #[.int .u32 m.f0, .int .u32 m.f1, .int .u8 m.f2, .string m.f3]] w fun e w' => e = .returned (.tuple #[.bool false, .int .i64 170]) ∧ Below w.heap.size w w' := by
  have HQW := Aside0.mk h
  have hck := check_f m
  rw [hm] at hck
  have HCK : Aside0 (member_Check.f m.f0 m.f1 m.f2 m.f3 = some 170) := ⟨hck⟩
  have HB1 := Aside0.mk (below_alloc (Below.refl w.heap.size w) (.cells #[.int .u32 m.f0, .int .u32 m.f1, .int .u8 m.f2, .string m.f3] 33))
  have HM1 := Aside0.mk (blk_new w (.cells #[.int .u32 m.f0, .int .u32 m.f1, .int .u8 m.f2, .string m.f3] 33))
  clear hck h
  go_enter Try.func10, Try.ntmps10
  go_upto_region 1 with (fail)
  generalize w.alloc (.cells #[.int .u32 m.f0, .int .u32 m.f1, .int .u8 m.f2, .string m.f3] 33) = w1 at HB1 HM1 ⊢
  generalize hbm : w.heap.size = bm at HM1 ⊢
  have HBM := Aside0.mk hbm
  clear hbm
  have m0_ : w1.cell? ⟨bm, 0, none⟩ = some (.int .u32 m.f0) := (blk_cell HM1.out 0).trans rfl
  have m1_ : w1.cell? ⟨bm, 1, none⟩ = some (.int .u32 m.f1) := (blk_cell HM1.out 1).trans rfl
  have m2_ : w1.cell? ⟨bm, 2, none⟩ = some (.int .u8 m.f2) := (blk_cell HM1.out 2).trans rfl
  have m3_ : w1.cell? ⟨bm, 3, none⟩ = some (.string m.f3) := (blk_cell HM1.out 3).trans rfl
  go_wp2_with (first | (go_at_call 24; (with_reducible refine (member_Check.calls m.f0 m.f1 m.f2 m.f3 170 _ HCK.out).mono ?_); rintro e w2 ⟨rfl, hb⟩; have HB2 := Aside0.mk (below_step HB1.out hb); clear hb))
  refine bodyPost_ret (results_tmp2 rfl _ _ _) rfl ?_
  exact ⟨rfl, HB2.out⟩
set_option maxHeartbeats 8000000 in
set_option maxRecDepth 100000 in
theorem addq_new (w : World) (g mb n : Nat) (t last : Int) (v : Value) (hs : Hs) (m : Mem) (h : Qw w g mb n t last v hs) (hm : mayM m = true) (hno : ∀ p ∈ hs, p.2.m.f0 ≠ m.f0) (h0 : 0 ≤ m.f0) (h1 : m.f0 ≤ 4294967295) (hn : n ≤ 1000000000) (hl : hs.length ≤ 900000) (hla : 0 ≤ last ∧ last ≤ 1000000000) :
    Calls Try.prog 10 #[.pointer (some ⟨g, 0, none⟩), .agg #[.int .u32 m.f0, .int .u32 m.f1, .int .u8 m.f2, .string m.f3]] w fun e w' => ∃ v' bo hs', e = .returned (.tuple #[.bool true, .int .i64 0]) ∧ Qw w' g mb (n + 1) t (last + 1) v' hs' ∧ hs'.Perm ((bo, ⟨m, 0, last + 1⟩) :: hs) ∧ w.heap.size ≤ bo ∧ (v'.ownBlock = v.ownBlock ∨ ∃ k, v'.ownBlock = some k ∧ w.heap.size ≤ k) ∧ Kp w w' (fun k => k = g ∨ k = mb ∨ HoS v hs k) := by
  obtain ⟨f, hpm, hf⟩ := h.map
  have hfn : f m.f0 = none := by
    cases e : f m.f0 with
    | none => rfl
    | some b =>
      obtain ⟨o, ho, he⟩ := (hf m.f0 h0 h1 b).1 e
      exact absurd he (hno _ ho)
  have HWF := Aside0.mk (And.intro h0 h1)
  have HNN := Aside0.mk hn
  have HLL := Aside0.mk hl
  have HI := Aside0.mk h.heap
  have HF := Aside0.mk (fun a h0 h1 (_ : a ≠ m.f0) b => hf a h0 h1 b)
  have HNO := Aside0.mk hno
  have HAD := Aside0.mk h.addr
  have HWS := Aside0.mk h.wf
  have HSUB : Aside0 (∀ k, HoS v hs k → HoS v hs k) := ⟨fun k hk => hk⟩
  have HP0 := Aside0.mk hpm
  have hlw : wrap64 (last + 1) = last + 1 := by obtain ⟨a1, a2⟩ := hla; unfold wrap64; omega
  clear hpm hf hno hn hl hla h0 h1
  have HQW := Aside0.mk h
  have hck := check_f m
  rw [hm] at hck
  have HCK : Aside0 (member_Check.f m.f0 m.f1 m.f2 m.f3 = some 0) := ⟨hck⟩
  have HB1 := Aside0.mk (below_alloc (Below.refl w.heap.size w) (.cells #[.int .u32 m.f0, .int .u32 m.f1, .int .u8 m.f2, .string m.f3] 33))
  have HM1 := Aside0.mk (blk_new w (.cells #[.int .u32 m.f0, .int .u32 m.f1, .int .u8 m.f2, .string m.f3] 33))
  clear hck h
  go_enter Try.func10, Try.ntmps10
  go_upto_region 1 with (fail)
  generalize w.alloc (.cells #[.int .u32 m.f0, .int .u32 m.f1, .int .u8 m.f2, .string m.f3] 33) = w1 at HB1 HM1 ⊢
  generalize hbm : w.heap.size = bm at HM1 ⊢
  have HBM := Aside0.mk hbm
  clear hbm
  have m0_ : w1.cell? ⟨bm, 0, none⟩ = some (.int .u32 m.f0) := (blk_cell HM1.out 0).trans rfl
  have m1_ : w1.cell? ⟨bm, 1, none⟩ = some (.int .u32 m.f1) := (blk_cell HM1.out 1).trans rfl
  have m2_ : w1.cell? ⟨bm, 2, none⟩ = some (.int .u8 m.f2) := (blk_cell HM1.out 2).trans rfl
  have m3_ : w1.cell? ⟨bm, 3, none⟩ = some (.string m.f3) := (blk_cell HM1.out 3).trans rfl
  go_upto_region 4 with (first | (go_at_call 24; (with_reducible refine (member_Check.calls m.f0 m.f1 m.f2 m.f3 0 _ HCK.out).mono ?_); rintro e w2 ⟨rfl, hb⟩; have HB2 := Aside0.mk (below_step HB1.out hb); have HM2 := Aside0.mk (blk_below HM1.out hb); clear hb m0_ m1_ m2_ m3_))
  have HQ2 := Aside0.mk (HQW.out.rq.below HB2.out)
  have HP2 := Aside0.mk (HP0.out.below HB2.out)
  have m0_ : w2.cell? ⟨bm, 0, none⟩ = some (.int .u32 m.f0) := (blk_cell HM2.out 0).trans rfl
  have q3_ : w2.cell? ⟨g, 3, none⟩ = some (.map (some mb)) := (blk_cell HQ2.out.box 3).trans rfl
  have hlk := fun k => ((HP2.out.below (pw_below_drewN (Below.refl w2.heap.size w2) k)).look HWF.out.1 HWF.out.2)
  rw [hfn] at hlk
  unfold pv at hlk
  go_upto_region 6 with (fail)
  go_quiet (fail)
  go_upto_region 11 with (fail)
  have HBN := Aside0.mk (pw_below_drewN (Below.refl w2.heap.size w2) nq)
  have HQ := Aside0.mk (HQ2.out.below HBN.out)
  have HPm := Aside0.mk (HP2.out.below HBN.out)
  have HM := Aside0.mk (blk_below HM2.out HBN.out)
  have HK : Aside0 (Kp w (w2.drewN nq) (fun k => k = g ∨ k = mb ∨ HoS v hs k)) := ⟨Kp.of (below_step HB2.out HBN.out)⟩
  clear HQ2 HP2 HM2 HB2 hlk m0_ q3_ HBN HQW HP0
  generalize w2.drewN nq = W at HQ HPm HM HK ⊢
  have hc1 : W.cell? ⟨g, 1, none⟩ = some (.int .i64 last) := (blk_cell HQ.out.box 1).trans rfl
  have hf1 := blk_frozen HQ.out.box 1
  go_upto_region 12 with (fail)
  have hst_ := HQ.out
  have HQ3 : Aside0 (Rq (W.setCell ⟨g, 1, none⟩ (.int .i64 (last + 1))) g t (last + 1) (.map (some mb)) v hs) := ⟨⟨blk_put hst_.box 1 _ rfl, hst_.ho.kept (S := fun k => k = g) ((Kp.of (Below.refl _ _)).set g 1 _ (fun _ => rfl)) (fun k hk => hst_.apart hk)⟩⟩
  have HP3 : Aside0 (Pm (W.setCell ⟨g, 1, none⟩ (.int .i64 (last + 1))) mb n f) := ⟨HPm.out.kp (S := fun k => k = g) ((Kp.of (Below.refl _ _)).set g 1 _ (fun _ => rfl)) (HPm.out.ne hst_.box)⟩
  have HM3 : Aside0 ((W.setCell ⟨g, 1, none⟩ (.int .i64 (last + 1))).heap[bm]? = some (.cells #[.int .u32 m.f0, .int .u32 m.f1, .int .u8 m.f2, .string m.f3] 33 (0, 0))) := ⟨blk_far HM.out (blk_ne HM.out hst_.box (by decide)) _⟩
  have HK3 : Aside0 (Kp w (W.setCell ⟨g, 1, none⟩ (.int .i64 (last + 1))) (fun k => k = g ∨ k = mb ∨ HoS v hs k)) := ⟨HK.out.set g 1 _ (fun _ => Or.inl rfl)⟩
  clear hst_ HQ HPm HM HK hc1 hf1
  generalize W.setCell ⟨g, 1, none⟩ (.int .i64 (last + 1)) = W3 at HQ3 HP3 HM3 HK3 ⊢
  have HQd := Aside0.mk (HQ3.out.below (below_drew1 (Below.refl _ _)))
  have HPd := Aside0.mk (HP3.out.below (below_drew1 (Below.refl _ _)))
  have HMd := Aside0.mk (blk_below HM3.out (below_drew1 (Below.refl W3.heap.size W3)))
  have HKd := Aside0.mk (HK3.out.trans (Kp.of (S := fun _ => False) (below_drew1 (Below.refl _ _))) (fun _ _ h => h.elim))
  clear HQ3 HP3 HM3 HK3
  refine start_ (n := 8) (S := (fun w' => w'.cell? ⟨bm, 0, none⟩ = some (.int .u32 m.f0) ∧ w'.cell? ⟨bm, 1, none⟩ = some (.int .u32 m.f1) ∧ w'.cell? ⟨bm, 2, none⟩ = some (.int .u8 m.f2) ∧ w'.cell? ⟨bm, 3, none⟩ = some (.string m.f3) ∧ w'.cell? ⟨g, 1, none⟩ = some (.int .i64 (last + 1)))) (ds := [6]) #[false, false, false, false, false, false, false, false] (by kernel_rfl) rfl rfl ⟨(blk_cell HMd.out 0).trans rfl, (blk_cell HMd.out 1).trans rfl, (blk_cell HMd.out 2).trans rfl, (blk_cell HMd.out 3).trans rfl, (blk_cell HQd.out.box 1).trans rfl⟩ (fun hHeld => ?_)
  generalize W3.drew = wd at HQd HPd HMd HKd hHeld ⊢
  refine take_ (i := 0) (N := some 51) (v := ?_) (a' := ?_) #[true, false, false, false, false, false, false, false] rfl rfl (by kernel_rfl) (fun _ _ _ h => h) (Or.inl ⟨by rfl, ?_⟩) hHeld ?_ ?_
  rotate_left
  · rintro w' ⟨h0_, h1_, h2_, h3_, h4_⟩
    go_simp
    with_reducible rfl
  rotate_left
  · simp only [Act.put, List.setIfInBounds_toArray, List.set_cons_zero, List.set_cons_succ, i64_w, i32_w]
    rfl
  refine pure_ (i := 1) (N := some 52) (v := ?_) (a' := ?_) #[true, true, false, false, false, false, false, false] rfl rfl (by kernel_rfl) (fun _ _ _ h => h) (Or.inl ⟨by rfl, ?_⟩) ?_ ?_
  rotate_left
  · intro w'
    go_simp
    with_reducible rfl
  rotate_left
  · simp only [Act.put, List.setIfInBounds_toArray, List.set_cons_zero, List.set_cons_succ, i64_w, i32_w]
    rfl
  refine pure_ (i := 2) (N := some 53) (v := ?_) (a' := ?_) #[true, true, true, false, false, false, false, false] rfl rfl (by kernel_rfl) (fun _ _ _ h => h) (Or.inl ⟨by rfl, ?_⟩) ?_ ?_
  rotate_left
  · intro w'
    go_simp
    with_reducible rfl
  rotate_left
  · simp only [Act.put, List.setIfInBounds_toArray, List.set_cons_zero, List.set_cons_succ, i64_w, i32_w]
    rfl
  refine pure_ (i := 3) (N := some 54) (v := ?_) (a' := ?_) #[true, true, true, true, false, false, false, false] rfl rfl (by kernel_rfl) (fun _ _ _ h => h) (Or.inl ⟨by rfl, ?_⟩) ?_ ?_
  rotate_left
  · intro w'
    go_simp
    with_reducible rfl
  rotate_left
  · simp only [Act.put, List.setIfInBounds_toArray, List.set_cons_zero, List.set_cons_succ, i64_w, i32_w]
    rfl
  refine take_ (i := 4) (N := some 55) (v := ?_) (a' := ?_) #[true, true, true, true, true, false, false, false] rfl rfl (by kernel_rfl) (fun _ _ _ h => h) (Or.inl ⟨by rfl, ?_⟩) hHeld ?_ ?_
  rotate_left
  · rintro w' ⟨h0_, h1_, h2_, h3_, h4_⟩
    go_simp
    with_reducible rfl
  rotate_left
  · simp only [Act.put, List.setIfInBounds_toArray, List.set_cons_zero, List.set_cons_succ, i64_w, i32_w]
    rfl
  refine pure_ (i := 5) (N := some 56) (v := ?_) (a' := ?_) #[true, true, true, true, true, true, false, false] rfl rfl (by kernel_rfl) (fun _ _ _ h => h) (Or.inl ⟨by rfl, ?_⟩) ?_ ?_
  rotate_left
  · intro w'
    go_simp
    with_reducible rfl
  rotate_left
  · simp only [Act.put, List.setIfInBounds_toArray, List.set_cons_zero, List.set_cons_succ, i64_w, i32_w]
    rfl
  refine last_ (i := 6) (N := some 57) #[true, true, true, true, true, true, true, false] rfl rfl (by kernel_rfl) (by decide) (fun K hK => ?_)
  refine box_step (N := 57) ?hw ?hd (cs := oneC ⟨m, 0, last + 1⟩ 0) (t := 66) ?hr ?_; (case hw => rfl); (case hd => rfl); (case hr => first | (go_simp; done) | (go_simp; rfl))
  intro bo hbo_ w4 hb4_ hbe_
  have HO4 := Aside0.mk hb4_
  have HBO := Aside0.mk hbo_
  have HBS := Aside0.mk (show w.heap.size ≤ bo by rw [hbo_]; exact HKd.out.size)
  have HQ4 := Aside0.mk (HQd.out.below hbe_)
  have HP4 := Aside0.mk (HPd.out.below hbe_)
  have HM4 := Aside0.mk (blk_below HMd.out hbe_)
  have HK4 := Aside0.mk (HKd.out.trans (Kp.of (S := fun _ => False) hbe_) (fun _ _ h => h.elim))
  clear hb4_ hbo_ hbe_
  refine hK.out _ _ ?_
  clear hK K
  refine norm_ (a' := ?_) ?_ ?_
  rotate_left
  · show Act.put _ (some 57) _ = _
    simp only [Act.put, List.setIfInBounds_toArray, List.set_cons_zero, List.set_cons_succ, i64_w, i32_w]
    rfl
  refine pure_ (i := 7) (N := some 9) (v := ?_) (a' := ?_) #[true, true, true, true, true, true, true, true] rfl rfl (by kernel_rfl) (fun _ _ _ h => h) (Or.inl ⟨by rfl, ?_⟩) ?_ ?_
  rotate_left
  · intro w'
    go_simp
    with_reducible rfl
  rotate_left
  · simp only [Act.put, List.setIfInBounds_toArray, List.set_cons_zero, List.set_cons_succ, i64_w, i32_w]
    rfl
  refine done_ (by kernel_rfl) ?_
  go_upto_region 13 with (fail)
  have HQ5 := Aside0.mk (HQ4.out.below (below_drew1 (Below.refl _ _)))
  have HP5 := Aside0.mk (HP4.out.below (below_drew1 (Below.refl _ _)))
  have HM5 := Aside0.mk (blk_below HM4.out (below_drew1 (Below.refl w4.heap.size w4)))
  have HO5 := Aside0.mk (blk_below HO4.out (below_drew1 (Below.refl w4.heap.size w4)))
  have HK5 := Aside0.mk (HK4.out.trans (Kp.of (S := fun _ => False) (below_drew1 (Below.refl _ _))) (fun _ _ h => h.elim))
  have HFR := Aside0.mk (fun k (hk : HoS v hs k) => show k ≠ bo from by have h1 := HQd.out.ho.lt hk; rw [HBO.out]; omega)
  clear HQ4 HP4 HM4 HO4 HK4
  refine start_ (n := 8) (S := (fun w' => w'.cell? ⟨g, 3, none⟩ = some (.map (some mb)) ∧ w'.cell? ⟨bm, 0, none⟩ = some (.int .u32 m.f0))) (ds := [7]) #[false, false, false, false, false, false, false, false] (by kernel_rfl) rfl rfl ⟨(blk_cell HQ5.out.box 3).trans rfl, (blk_cell HM5.out 0).trans rfl⟩ (fun hHeld => ?_)
  generalize w4.drew = wd at HQ5 HP5 HM5 HO5 HK5 hHeld ⊢
  refine pure_ (i := 0) (N := some 58) (v := ?_) (a' := ?_) #[true, false, false, false, false, false, false, false] rfl rfl (by kernel_rfl) (fun _ _ _ h => h) (Or.inl ⟨by rfl, ?_⟩) ?_ ?_
  rotate_left
  · intro w'
    go_simp
    with_reducible rfl
  rotate_left
  · simp only [Act.put, List.setIfInBounds_toArray, List.set_cons_zero, List.set_cons_succ, i64_w, i32_w]
    rfl
  refine pure_ (i := 1) (N := some 59) (v := ?_) (a' := ?_) #[true, true, false, false, false, false, false, false] rfl rfl (by kernel_rfl) (fun _ _ _ h => h) (Or.inl ⟨by rfl, ?_⟩) ?_ ?_
  rotate_left
  · intro w'
    go_simp
    with_reducible rfl
  rotate_left
  · simp only [Act.put, List.setIfInBounds_toArray, List.set_cons_zero, List.set_cons_succ, i64_w, i32_w]
    rfl
  refine pure_ (i := 2) (N := some 60) (v := ?_) (a' := ?_) #[true, true, true, false, false, false, false, false] rfl rfl (by kernel_rfl) (fun _ _ _ h => h) (Or.inl ⟨by rfl, ?_⟩) ?_ ?_
  rotate_left
  · intro w'
    go_simp
    with_reducible rfl
  rotate_left
  · simp only [Act.put, List.setIfInBounds_toArray, List.set_cons_zero, List.set_cons_succ, i64_w, i32_w]
    rfl
  refine take_ (i := 3) (N := some 61) (v := ?_) (a' := ?_) #[true, true, true, true, false, false, false, false] rfl rfl (by kernel_rfl) (fun _ _ _ h => h) (Or.inl ⟨by rfl, ?_⟩) hHeld ?_ ?_
  rotate_left
  · rintro w' ⟨h0_, h1_⟩
    go_simp
    with_reducible rfl
  rotate_left
  · simp only [Act.put, List.setIfInBounds_toArray, List.set_cons_zero, List.set_cons_succ, i64_w, i32_w]
    rfl
  refine pure_ (i := 4) (N := some 62) (v := ?_) (a' := ?_) #[true, true, true, true, true, false, false, false] rfl rfl (by kernel_rfl) (fun _ _ _ h => h) (Or.inl ⟨by rfl, ?_⟩) ?_ ?_
  rotate_left
  · intro w'
    go_simp
    with_reducible rfl
  rotate_left
  · simp only [Act.put, List.setIfInBounds_toArray, List.set_cons_zero, List.set_cons_succ, i64_w, i32_w]
    rfl
  refine take_ (i := 5) (N := some 63) (v := ?_) (a' := ?_) #[true, true, true, true, true, true, false, false] rfl rfl (by kernel_rfl) (fun _ _ _ h => h) (Or.inl ⟨by rfl, ?_⟩) hHeld ?_ ?_
  rotate_left
  · rintro w' ⟨h0_, h1_⟩
    go_simp
    with_reducible rfl
  rotate_left
  · simp only [Act.put, List.setIfInBounds_toArray, List.set_cons_zero, List.set_cons_succ, i64_w, i32_w]
    rfl
  refine pure_ (i := 6) (N := some 64) (v := ?_) (a' := ?_) #[true, true, true, true, true, true, true, false] rfl rfl (by kernel_rfl) (fun _ _ _ h => h) (Or.inl ⟨by rfl, ?_⟩) ?_ ?_
  rotate_left
  · intro w'
    go_simp
    with_reducible rfl
  rotate_left
  · simp only [Act.put, List.setIfInBounds_toArray, List.set_cons_zero, List.set_cons_succ, i64_w, i32_w]
    rfl
  refine last_ (i := 7) (N := none) #[true, true, true, true, true, true, true, true] rfl rfl (by kernel_rfl) (by decide) (fun K hK => ?_)
  obtain ⟨w6, hrun_, hp_, hg_⟩ := HP5.out.put HWF.out.1 HWF.out.2 HNN.out bo
  refine skip_ (w1 := w6) (by rfl) rfl ?_ ?_
  · go_simp
    try with_reducible rfl
  have HP6 := Aside0.mk hp_
  have HG6 := Aside0.mk hg_
  clear hrun_ hp_ hg_
  refine hK.out _ _ ?_
  clear hK K
  refine done_ (by kernel_rfl) ?_
  have hmb := fun (k : Nat) (h : some k ≠ some mb) => h
  have HQ6 : Aside0 (Rq w6 g t (last + 1) (.map (some mb)) v hs) := by
    have hne : g ≠ mb := fun e => HP5.out.ne HQ5.out.box e.symm
    have hk : Kp wd w6 (fun k => k = mb) := Kp.grown HG6.out (fun k hk => (Option.some.inj hk).symm)
    refine ⟨⟨(hk.block g (blk_lt HQ5.out.box) hne).trans HQ5.out.box, HQ5.out.ho.kept hk (fun k hk' e => ?_)⟩⟩
    subst e
    rcases hk' with hk' | ⟨p, hp, e⟩
    · obtain ⟨cells, hc⟩ := Kd.R_typed HQ5.out.ho.row k hk'
      exact HP5.out.ne hc rfl
    · obtain ⟨i, hi, e2⟩ := List.getElem_of_mem hp
      have hb := HQ5.out.ho.one i p.1 p.2 (by rw [List.getElem?_eq_getElem hi, e2])
      exact HP5.out.ne hb e.symm
  have HO6 : Aside0 (w6.heap[bo]? = some (.cells (oneC ⟨m, 0, last + 1⟩ 0) 66 (0, 0))) := ⟨blk_grown' HO5.out HG6.out (fun e => HP5.out.ne HO5.out (Option.some.inj e).symm)⟩
  have HK6 : Aside0 (Kp w w6 (fun k => k = g ∨ k = mb ∨ HoS v hs k)) := ⟨HK5.out.trans (Kp.grown (S := fun k => k = mb) HG6.out (fun k hk => (Option.some.inj hk).symm)) (fun k _ hk => Or.inr (Or.inl hk))⟩
  have HMN : Aside0 (mb ≠ g ∧ mb ≠ bo ∧ ¬ HoS v hs mb) := by
    refine ⟨⟨HP6.out.ne HQ6.out.box, HP6.out.ne HO6.out, fun hk => ?_⟩⟩
    rcases hk with hk | ⟨p, hp, e⟩
    · obtain ⟨cells, hc⟩ := Kd.R_typed HQ6.out.ho.row mb hk
      exact HP6.out.ne hc rfl
    · obtain ⟨i, hi, e2⟩ := List.getElem_of_mem hp
      have hb := HQ6.out.ho.one i p.1 p.2 (by rw [List.getElem?_eq_getElem hi, e2])
      exact HP6.out.ne hb e.symm
  have HPU := Aside0.mk (hpush_calls w6 g t (last + 1) (.map (some mb)) v hs bo ⟨m, 0, last + 1⟩ 0 HQ6.out HI.out HO6.out (fun p hp => HFR.out p.1 (Or.inr ⟨p, hp, rfl⟩)) HLL.out)
  clear HQ5 HP5 HM5 HO5 HK5 HG6 hmb HQd HPd HMd HKd
  go_wp2_with (first | (go_at_call 27; refine HPU.out.mono ?_; rintro e w7 ⟨v7, hs7, rfl, h1_, h2_, h3_, h5_, h4_⟩; have HQ7 := Aside0.mk h1_; have HR7 := Aside0.mk h2_; have HI7 := Aside0.mk h3_; have HK7 := Aside0.mk h4_; have HV7 := Aside0.mk h5_; clear h1_ h2_ h3_ h4_ h5_ HPU))
  refine bodyPost_ret (results_tmp2 rfl _ _ _) rfl ?_
  have hin : ∀ (b : Nat) (o : One), (b, o) ∈ hs7 ↔ (b, o) = (bo, ⟨m, 0, last + 1⟩) ∨ (b, o) ∈ hs := fun b o => HR7.out.mem_iff.trans List.mem_cons
  refine ⟨v7, bo, hs7, rfl, ⟨HQ7.out, HI7.out, ⟨fput f m.f0 (some bo), HP6.out.kp HK7.out (fun h => ?_), fun a ha0 ha1 b => ?_⟩, ?_, fun p hp => ?_⟩, HR7.out, HBS.out, (HV7.out.imp (fun e => e) (fun ⟨k, e, hle⟩ => ⟨k, e, Nat.le_trans HK6.out.size hle⟩)), HK6.out.trans HK7.out (fun k hk hk' => ?_)⟩
  · rcases h with h | h | h
    · exact HMN.out.1 h
    · exact HMN.out.2.1 h
    · exact HMN.out.2.2 h
  · unfold fput
    by_cases e : a = m.f0
    · rw [if_pos e]
      constructor
      · intro hb
        injection hb with hb
        subst hb
        exact ⟨_, (hin _ _).2 (Or.inl rfl), e.symm⟩
      · rintro ⟨o, ho, he⟩
        rcases (hin b o).1 ho with ho | ho
        · injection ho with ho _
          rw [ho]
        · exact absurd (he.trans e) (HNO.out _ ho)
    · rw [if_neg e, HF.out a ha0 ha1 e b]
      constructor
      · rintro ⟨o, ho, he⟩
        exact ⟨o, (hin b o).2 (Or.inr ho), he⟩
      · rintro ⟨o, ho, he⟩
        rcases (hin b o).1 ho with ho | ho
        · injection ho with _ ho
          subst ho
          exact absurd he.symm e
        · exact ⟨o, ho, he⟩
  · refine ((HR7.out.map (fun p => p.2.m.f0)).nodup_iff).2 ?_
    rw [List.map_cons, List.nodup_cons]
    refine ⟨fun hm_ => ?_, HAD.out⟩
    obtain ⟨p, hp, he⟩ := List.mem_map.1 hm_
    exact HNO.out p hp he
  · rcases (hin p.1 p.2).1 hp with hp | hp
    · rw [show p = (bo, ⟨m, 0, last + 1⟩) from hp]; exact HWF.out
    · exact HWS.out _ hp
  · rcases hk' with hk' | hk' | hk'
    · exact Or.inl hk'
    · have := HBS.out; omega
    · exact Or.inr (Or.inr (HSUB.out k hk'))
set_option maxHeartbeats 8000000 in
set_option maxRecDepth 100000 in
theorem addq_weak (w : World) (g mb n : Nat) (t last : Int) (v : Value) (hs : Hs) (m : Mem) (h : Qw w g mb n t last v hs) (hm : mayM m = true) (b0 : Nat) (x0 : One) (hin : (b0, x0) ∈ hs) (hx : x0.m.f0 = m.f0) (h0 : 0 ≤ m.f0) (h1 : m.f0 ≤ 4294967295) (hc : cmpM m x0.m ≤ 0) :
    Calls Try.prog 10 #[.pointer (some ⟨g, 0, none⟩), .agg #[.int .u32 m.f0, .int .u32 m.f1, .int .u8 m.f2, .string m.f3]] w fun e w' => e = .returned (.tuple #[.bool false, .int .i64 0]) ∧ Below w.heap.size w w' := by
  obtain ⟨f, hpm, hf⟩ := h.map
  have hfn : f m.f0 = some b0 := (hf m.f0 h0 h1 b0).2 ⟨x0, hin, hx⟩
  obtain ⟨i0, hi0l, hi0⟩ := List.getElem_of_mem hin
  have hi0' : hs[i0]? = some (b0, x0) := by rw [List.getElem?_eq_getElem hi0l, hi0]
  have HX0 := Aside0.mk (h.rq.ho.one i0 b0 x0 hi0')
  have HWF := Aside0.mk (And.intro h0 h1)
  have HP0 := Aside0.mk hpm
  have hcf := cmp_f m x0.m
  obtain ⟨q, hq⟩ : ∃ q, q = cmpM m x0.m := ⟨_, rfl⟩
  rw [← hq] at hcf hc
  have HCM : Aside0 (member_Cmp.f m.f0 m.f1 m.f2 m.f3 x0.m.f0 x0.m.f1 x0.m.f2 x0.m.f3 = some q) := ⟨hcf⟩
  have hq0 : q ≤ 0 := hc
  clear hq hcf hi0 hi0' hi0l hpm hf hin hx h0 h1 hc
  have HQW := Aside0.mk h
  have hck := check_f m
  rw [hm] at hck
  have HCK : Aside0 (member_Check.f m.f0 m.f1 m.f2 m.f3 = some 0) := ⟨hck⟩
  have HB1 := Aside0.mk (below_alloc (Below.refl w.heap.size w) (.cells #[.int .u32 m.f0, .int .u32 m.f1, .int .u8 m.f2, .string m.f3] 33))
  have HM1 := Aside0.mk (blk_new w (.cells #[.int .u32 m.f0, .int .u32 m.f1, .int .u8 m.f2, .string m.f3] 33))
  clear hck h
  go_enter Try.func10, Try.ntmps10
  go_upto_region 1 with (fail)
  generalize w.alloc (.cells #[.int .u32 m.f0, .int .u32 m.f1, .int .u8 m.f2, .string m.f3] 33) = w1 at HB1 HM1 ⊢
  generalize hbm : w.heap.size = bm at HM1 ⊢
  have HBM := Aside0.mk hbm
  clear hbm
  have m0_ : w1.cell? ⟨bm, 0, none⟩ = some (.int .u32 m.f0) := (blk_cell HM1.out 0).trans rfl
  have m1_ : w1.cell? ⟨bm, 1, none⟩ = some (.int .u32 m.f1) := (blk_cell HM1.out 1).trans rfl
  have m2_ : w1.cell? ⟨bm, 2, none⟩ = some (.int .u8 m.f2) := (blk_cell HM1.out 2).trans rfl
  have m3_ : w1.cell? ⟨bm, 3, none⟩ = some (.string m.f3) := (blk_cell HM1.out 3).trans rfl
  go_upto_region 4 with (first | (go_at_call 24; (with_reducible refine (member_Check.calls m.f0 m.f1 m.f2 m.f3 0 _ HCK.out).mono ?_); rintro e w2 ⟨rfl, hb⟩; have HB2 := Aside0.mk (below_step HB1.out hb); have HM2 := Aside0.mk (blk_below HM1.out hb); clear hb m0_ m1_ m2_ m3_))
  have HQ2 := Aside0.mk (HQW.out.rq.below HB2.out)
  have HP2 := Aside0.mk (HP0.out.below HB2.out)
  have m0_ : w2.cell? ⟨bm, 0, none⟩ = some (.int .u32 m.f0) := (blk_cell HM2.out 0).trans rfl
  have q3_ : w2.cell? ⟨g, 3, none⟩ = some (.map (some mb)) := (blk_cell HQ2.out.box 3).trans rfl
  have hlk := fun k => ((HP2.out.below (pw_below_drewN (Below.refl w2.heap.size w2) k)).look HWF.out.1 HWF.out.2)
  rw [hfn] at hlk
  unfold pv at hlk
  go_upto_region 6 with (fail)
  go_quiet (fail)
  go_upto_region 8 with (fail)
  have HBN := Aside0.mk (pw_below_drewN (Below.refl w2.heap.size w2) nq)
  have HB3 := Aside0.mk (below_step HB2.out HBN.out)
  have HM3 := Aside0.mk (blk_below HM2.out HBN.out)
  clear HQ2 HP2 HM2 HB2 hlk m0_ q3_ HBN
  generalize w2.drewN nq = w3 at HB3 HM3 ⊢
  have HBd := Aside0.mk (below_drew1 HB3.out)
  have HMd := Aside0.mk (blk_below HM3.out (below_drew1 (Below.refl w3.heap.size w3)))
  have HOd := Aside0.mk (blk_below HX0.out HBd.out)
  clear HB3 HM3
  refine start_ (n := 7) (S := (fun w' => w'.cell? ⟨bm, 0, none⟩ = some (.int .u32 m.f0) ∧ w'.cell? ⟨bm, 1, none⟩ = some (.int .u32 m.f1) ∧ w'.cell? ⟨bm, 2, none⟩ = some (.int .u8 m.f2) ∧ w'.cell? ⟨bm, 3, none⟩ = some (.string m.f3) ∧ w'.cell? ⟨b0, 0, none⟩ = some (.int .u32 x0.m.f0) ∧ w'.cell? ⟨b0, 1, none⟩ = some (.int .u32 x0.m.f1) ∧ w'.cell? ⟨b0, 2, none⟩ = some (.int .u8 x0.m.f2) ∧ w'.cell? ⟨b0, 3, none⟩ = some (.string x0.m.f3))) (ds := [5]) #[false, false, false, false, false, false, false] (by kernel_rfl) rfl rfl ⟨(blk_cell HMd.out 0).trans rfl, (blk_cell HMd.out 1).trans rfl, (blk_cell HMd.out 2).trans rfl, (blk_cell HMd.out 3).trans rfl, (blk_cell HOd.out 0).trans rfl, (blk_cell HOd.out 1).trans rfl, (blk_cell HOd.out 2).trans rfl, (blk_cell HOd.out 3).trans rfl⟩ (fun hHeld => ?_)
  generalize w3.drew = wd at HMd HOd HBd hHeld ⊢
  refine take_ (i := 0) (N := some 28) (v := ?_) (a' := ?_) #[true, false, false, false, false, false, false] rfl rfl (by kernel_rfl) (fun _ _ _ h => h) (Or.inl ⟨by rfl, ?_⟩) hHeld ?_ ?_
  rotate_left
  · rintro w' ⟨h0_, h1_, h2_, h3_, h4_, h5_, h6_, h7_⟩
    go_simp
    with_reducible rfl
  rotate_left
  · simp only [Act.put, List.setIfInBounds_toArray, List.set_cons_zero, List.set_cons_succ, i64_w, i32_w]
    rfl
  refine pure_ (i := 1) (N := some 29) (v := ?_) (a' := ?_) #[true, true, false, false, false, false, false] rfl rfl (by kernel_rfl) (fun _ _ _ h => h) (Or.inl ⟨by rfl, ?_⟩) ?_ ?_
  rotate_left
  · intro w'
    go_simp
    with_reducible rfl
  rotate_left
  · simp only [Act.put, List.setIfInBounds_toArray, List.set_cons_zero, List.set_cons_succ, i64_w, i32_w]
    rfl
  refine pure_ (i := 2) (N := some 30) (v := ?_) (a' := ?_) #[true, true, true, false, false, false, false] rfl rfl (by kernel_rfl) (fun _ _ _ h => h) (Or.inl ⟨by rfl, ?_⟩) ?_ ?_
  rotate_left
  · intro w'
    go_simp
    with_reducible rfl
  rotate_left
  · simp only [Act.put, List.setIfInBounds_toArray, List.set_cons_zero, List.set_cons_succ, i64_w, i32_w]
    rfl
  refine pure_ (i := 3) (N := some 31) (v := ?_) (a' := ?_) #[true, true, true, true, false, false, false] rfl rfl (by kernel_rfl) (fun _ _ _ h => h) (Or.inl ⟨by rfl, ?_⟩) ?_ ?_
  rotate_left
  · intro w'
    go_simp
    with_reducible rfl
  rotate_left
  · simp only [Act.put, List.setIfInBounds_toArray, List.set_cons_zero, List.set_cons_succ, i64_w, i32_w]
    rfl
  refine take_ (i := 4) (N := some 32) (v := ?_) (a' := ?_) #[true, true, true, true, true, false, false] rfl rfl (by kernel_rfl) (fun _ _ _ h => h) (Or.inl ⟨by rfl, ?_⟩) hHeld ?_ ?_
  rotate_left
  · rintro w' ⟨h0_, h1_, h2_, h3_, h4_, h5_, h6_, h7_⟩
    go_simp
    with_reducible rfl
  rotate_left
  · simp only [Act.put, List.setIfInBounds_toArray, List.set_cons_zero, List.set_cons_succ, i64_w, i32_w]
    rfl
  refine last_ (i := 5) (N := some 33) #[true, true, true, true, true, true, false] rfl rfl (by kernel_rfl) (by decide) (fun K hK => ?_)
  refine goes_ Try.func25 (by kernel_rfl) rfl #[.agg #[.int .u32 m.f0, .int .u32 m.f1, .int .u8 m.f2, .string m.f3], .agg #[.int .u32 x0.m.f0, .int .u32 x0.m.f1, .int .u8 x0.m.f2, .string x0.m.f3]] (by rfl) rfl rfl (by (try simp only [List.map_toArray, List.map_cons, List.map_nil]); first | done | rfl) ?_
  (with_reducible refine (member_Cmp.calls m.f0 m.f1 m.f2 m.f3 x0.m.f0 x0.m.f1 x0.m.f2 x0.m.f3 q _ HCM.out).mono ?_)
  rintro e_ w8 ⟨rfl, hb8⟩
  have HB8 := Aside0.mk (below_step HBd.out hb8)
  have HM8 := Aside0.mk (blk_below HMd.out hb8)
  clear hb8
  refine ⟨_, rfl, ?_⟩
  refine hK.out _ _ ?_
  clear hK K
  refine norm_ (a' := ?_) ?_ ?_
  rotate_left
  · show Act.put _ (some 33) _ = _
    simp only [Act.put, List.setIfInBounds_toArray, List.set_cons_zero, List.set_cons_succ, i64_w, i32_w]
    rfl
  refine pure_ (i := 6) (N := some 34) (v := ?_) (a' := ?_) #[true, true, true, true, true, true, true] rfl rfl (by kernel_rfl) (fun _ _ _ h => h) (Or.inl ⟨by rfl, ?_⟩) ?_ ?_
  rotate_left
  · intro w'
    go_simp
    with_reducible rfl
  rotate_left
  · simp only [Act.put, List.setIfInBounds_toArray, List.set_cons_zero, List.set_cons_succ, i64_w, i32_w]
    rfl
  refine done_ (by kernel_rfl) ?_
  go_wp2
  refine bodyPost_ret (results_tmp2 rfl _ _ _) rfl ?_
  exact ⟨rfl, HB8.out⟩
set_option maxHeartbeats 8000000 in
set_option maxRecDepth 100000 in
theorem addq_over (w : World) (g mb n : Nat) (t last : Int) (v : Value) (hs : Hs) (m : Mem) (h : Qw w g mb n t last v hs) (hm : mayM m = true) (b0 : Nat) (x0 : One) (hin : (b0, x0) ∈ hs) (hx : x0.m.f0 = m.f0) (h0 : 0 ≤ m.f0) (h1 : m.f0 ≤ 4294967295) (hc : ¬ cmpM m x0.m ≤ 0) (hn : n ≤ 1000000000) (hl : hs.length ≤ 900000) (hla : 0 ≤ last ∧ last ≤ 1000000000) :
    Calls Try.prog 10 #[.pointer (some ⟨g, 0, none⟩), .agg #[.int .u32 m.f0, .int .u32 m.f1, .int .u8 m.f2, .string m.f3]] w fun e w' => ∃ v' bo hs' hr, e = .returned (.tuple #[.bool true, .int .i64 0]) ∧ Qw w' g mb (n + 1) t (last + 1) v' hs' ∧ hs'.Perm ((bo, ⟨m, 0, last + 1⟩) :: hr) ∧ ((b0, x0) :: hr).Perm hs ∧ w.heap.size ≤ bo ∧ (v'.ownBlock = v.ownBlock ∨ ∃ k, v'.ownBlock = some k ∧ w.heap.size ≤ k) ∧ Kp w w' (fun k => k = g ∨ k = mb ∨ HoS v hs k) := by
  obtain ⟨f, hpm, hf⟩ := h.map
  have hfn : f m.f0 = some b0 := (hf m.f0 h0 h1 b0).2 ⟨x0, hin, hx⟩
  obtain ⟨i0, hi0l, hi0⟩ := List.getElem_of_mem hin
  have hi0' : hs[i0]? = some (b0, x0) := by rw [List.getElem?_eq_getElem hi0l, hi0]
  have HX0 := Aside0.mk (h.rq.ho.one i0 b0 x0 hi0')
  have HWF := Aside0.mk (And.intro h0 h1)
  have HP0 := Aside0.mk hpm
  have hcf := cmp_f m x0.m
  obtain ⟨q, hq⟩ : ∃ q, q = cmpM m x0.m := ⟨_, rfl⟩
  rw [← hq] at hcf hc
  have HCM : Aside0 (member_Cmp.f m.f0 m.f1 m.f2 m.f3 x0.m.f0 x0.m.f1 x0.m.f2 x0.m.f3 = some q) := ⟨hcf⟩
  have hq0 : ¬ q ≤ 0 := hc
  have HNN := Aside0.mk hn
  have hlw : wrap64 (last + 1) = last + 1 := by obtain ⟨a1, a2⟩ := hla; unfold wrap64; omega
  have HRM : Aside0 (∀ W, Below w.heap.size w W → Calls Try.prog 26 #[.iface 68 (.pointer (some ⟨g, 2, none⟩)), .int .i64 i0] W fun e w' => ∃ v' hs', e = .returned (.iface 62 (.pointer (some ⟨b0, 0, none⟩))) ∧ Rq w' g t last (.map (some mb)) v' hs' ∧ ((b0, x0) :: hs').Perm hs ∧ Heap.IsH lessO hs'.length (at1 hs') ∧ w'.heap[b0]? = some (.cells (oneC x0 hs'.length) 66 (0, 0)) ∧ v'.ownBlock = v.ownBlock ∧ Kp W w' (fun k => k = g ∨ HoS v hs k)) := ⟨fun W hW => hremove_calls W g t last (.map (some mb)) v hs i0 b0 x0 (h.rq.below hW) h.heap hi0' hl⟩
  have HL0 := Aside0.mk hl
  have HF0 := Aside0.mk hf
  have HX := Aside0.mk hx
  clear hq hcf hi0 hi0' hi0l hpm hf hin hx h0 h1 hc hn hl hla
  have HQW := Aside0.mk h
  have hck := check_f m
  rw [hm] at hck
  have HCK : Aside0 (member_Check.f m.f0 m.f1 m.f2 m.f3 = some 0) := ⟨hck⟩
  have HB1 := Aside0.mk (below_alloc (Below.refl w.heap.size w) (.cells #[.int .u32 m.f0, .int .u32 m.f1, .int .u8 m.f2, .string m.f3] 33))
  have HM1 := Aside0.mk (blk_new w (.cells #[.int .u32 m.f0, .int .u32 m.f1, .int .u8 m.f2, .string m.f3] 33))
  clear hck h
  go_enter Try.func10, Try.ntmps10
  go_upto_region 1 with (fail)
  generalize w.alloc (.cells #[.int .u32 m.f0, .int .u32 m.f1, .int .u8 m.f2, .string m.f3] 33) = w1 at HB1 HM1 ⊢
  generalize hbm : w.heap.size = bm at HM1 ⊢
  have HBM := Aside0.mk hbm
  clear hbm
  have m0_ : w1.cell? ⟨bm, 0, none⟩ = some (.int .u32 m.f0) := (blk_cell HM1.out 0).trans rfl
  have m1_ : w1.cell? ⟨bm, 1, none⟩ = some (.int .u32 m.f1) := (blk_cell HM1.out 1).trans rfl
  have m2_ : w1.cell? ⟨bm, 2, none⟩ = some (.int .u8 m.f2) := (blk_cell HM1.out 2).trans rfl
  have m3_ : w1.cell? ⟨bm, 3, none⟩ = some (.string m.f3) := (blk_cell HM1.out 3).trans rfl
  go_upto_region 4 with (first | (go_at_call 24; (with_reducible refine (member_Check.calls m.f0 m.f1 m.f2 m.f3 0 _ HCK.out).mono ?_); rintro e w2 ⟨rfl, hb⟩; have HB2 := Aside0.mk (below_step HB1.out hb); have HM2 := Aside0.mk (blk_below HM1.out hb); clear hb m0_ m1_ m2_ m3_))
  have HQ2 := Aside0.mk (HQW.out.rq.below HB2.out)
  have HP2 := Aside0.mk (HP0.out.below HB2.out)
  have m0_ : w2.cell? ⟨bm, 0, none⟩ = some (.int .u32 m.f0) := (blk_cell HM2.out 0).trans rfl
  have q3_ : w2.cell? ⟨g, 3, none⟩ = some (.map (some mb)) := (blk_cell HQ2.out.box 3).trans rfl
  have hlk := fun k => ((HP2.out.below (pw_below_drewN (Below.refl w2.heap.size w2) k)).look HWF.out.1 HWF.out.2)
  rw [hfn] at hlk
  unfold pv at hlk
  go_upto_region 6 with (fail)
  go_quiet (fail)
  go_upto_region 8 with (fail)
  have HBN := Aside0.mk (pw_below_drewN (Below.refl w2.heap.size w2) nq)
  have HB3 := Aside0.mk (below_step HB2.out HBN.out)
  have HM3 := Aside0.mk (blk_below HM2.out HBN.out)
  clear HQ2 HP2 HM2 HB2 hlk m0_ q3_ HBN
  generalize w2.drewN nq = w3 at HB3 HM3 ⊢
  have HBd := Aside0.mk (below_drew1 HB3.out)
  have HMd := Aside0.mk (blk_below HM3.out (below_drew1 (Below.refl w3.heap.size w3)))
  have HOd := Aside0.mk (blk_below HX0.out HBd.out)
  clear HB3 HM3
  refine start_ (n := 7) (S := (fun w' => w'.cell? ⟨bm, 0, none⟩ = some (.int .u32 m.f0) ∧ w'.cell? ⟨bm, 1, none⟩ = some (.int .u32 m.f1) ∧ w'.cell? ⟨bm, 2, none⟩ = some (.int .u8 m.f2) ∧ w'.cell? ⟨bm, 3, none⟩ = some (.string m.f3) ∧ w'.cell? ⟨b0, 0, none⟩ = some (.int .u32 x0.m.f0) ∧ w'.cell? ⟨b0, 1, none⟩ = some (.int .u32 x0.m.f1) ∧ w'.cell? ⟨b0, 2, none⟩ = some (.int .u8 x0.m.f2) ∧ w'.cell? ⟨b0, 3, none⟩ = some (.string x0.m.f3))) (ds := [5]) #[false, false, false, false, false, false, false] (by kernel_rfl) rfl rfl ⟨(blk_cell HMd.out 0).trans rfl, (blk_cell HMd.out 1).trans rfl, (blk_cell HMd.out 2).trans rfl, (blk_cell HMd.out 3).trans rfl, (blk_cell HOd.out 0).trans rfl, (blk_cell HOd.out 1).trans rfl, (blk_cell HOd.out 2).trans rfl, (blk_cell HOd.out 3).trans rfl⟩ (fun hHeld => ?_)
  generalize w3.drew = wd at HMd HOd HBd hHeld ⊢
  refine take_ (i := 0) (N := some 28) (v := ?_) (a' := ?_) #[true, false, false, false, false, false, false] rfl rfl (by kernel_rfl) (fun _ _ _ h => h) (Or.inl ⟨by rfl, ?_⟩) hHeld ?_ ?_
  rotate_left
  · rintro w' ⟨h0_, h1_, h2_, h3_, h4_, h5_, h6_, h7_⟩
    go_simp
    with_reducible rfl
  rotate_left
  · simp only [Act.put, List.setIfInBounds_toArray, List.set_cons_zero, List.set_cons_succ, i64_w, i32_w]
    rfl
  refine pure_ (i := 1) (N := some 29) (v := ?_) (a' := ?_) #[true, true, false, false, false, false, false] rfl rfl (by kernel_rfl) (fun _ _ _ h => h) (Or.inl ⟨by rfl, ?_⟩) ?_ ?_
  rotate_left
  · intro w'
    go_simp
    with_reducible rfl
  rotate_left
  · simp only [Act.put, List.setIfInBounds_toArray, List.set_cons_zero, List.set_cons_succ, i64_w, i32_w]
    rfl
  refine pure_ (i := 2) (N := some 30) (v := ?_) (a' := ?_) #[true, true, true, false, false, false, false] rfl rfl (by kernel_rfl) (fun _ _ _ h => h) (Or.inl ⟨by rfl, ?_⟩) ?_ ?_
  rotate_left
  · intro w'
    go_simp
    with_reducible rfl
  rotate_left
  · simp only [Act.put, List.setIfInBounds_toArray, List.set_cons_zero, List.set_cons_succ, i64_w, i32_w]
    rfl
  refine pure_ (i := 3) (N := some 31) (v := ?_) (a' := ?_) #[true, true, true, true, false, false, false] rfl rfl (by kernel_rfl) (fun _ _ _ h => h) (Or.inl ⟨by rfl, ?_⟩) ?_ ?_
  rotate_left
  · intro w'
    go_simp
    with_reducible rfl
  rotate_left
  · simp only [Act.put, List.setIfInBounds_toArray, List.set_cons_zero, List.set_cons_succ, i64_w, i32_w]
    rfl
  refine take_ (i := 4) (N := some 32) (v := ?_) (a' := ?_) #[true, true, true, true, true, false, false] rfl rfl (by kernel_rfl) (fun _ _ _ h => h) (Or.inl ⟨by rfl, ?_⟩) hHeld ?_ ?_
  rotate_left
  · rintro w' ⟨h0_, h1_, h2_, h3_, h4_, h5_, h6_, h7_⟩
    go_simp
    with_reducible rfl
  rotate_left
  · simp only [Act.put, List.setIfInBounds_toArray, List.set_cons_zero, List.set_cons_succ, i64_w, i32_w]
    rfl
  refine last_ (i := 5) (N := some 33) #[true, true, true, true, true, true, false] rfl rfl (by kernel_rfl) (by decide) (fun K hK => ?_)
  refine goes_ Try.func25 (by kernel_rfl) rfl #[.agg #[.int .u32 m.f0, .int .u32 m.f1, .int .u8 m.f2, .string m.f3], .agg #[.int .u32 x0.m.f0, .int .u32 x0.m.f1, .int .u8 x0.m.f2, .string x0.m.f3]] (by rfl) rfl rfl (by (try simp only [List.map_toArray, List.map_cons, List.map_nil]); first | done | rfl) ?_
  (with_reducible refine (member_Cmp.calls m.f0 m.f1 m.f2 m.f3 x0.m.f0 x0.m.f1 x0.m.f2 x0.m.f3 q _ HCM.out).mono ?_)
  rintro e_ w8 ⟨rfl, hb8⟩
  have HB8 := Aside0.mk (below_step HBd.out hb8)
  have HM8 := Aside0.mk (blk_below HMd.out hb8)
  clear hb8
  refine ⟨_, rfl, ?_⟩
  refine hK.out _ _ ?_
  clear hK K
  refine norm_ (a' := ?_) ?_ ?_
  rotate_left
  · show Act.put _ (some 33) _ = _
    simp only [Act.put, List.setIfInBounds_toArray, List.set_cons_zero, List.set_cons_succ, i64_w, i32_w]
    rfl
  refine pure_ (i := 6) (N := some 34) (v := ?_) (a' := ?_) #[true, true, true, true, true, true, true] rfl rfl (by kernel_rfl) (fun _ _ _ h => h) (Or.inl ⟨by rfl, ?_⟩) ?_ ?_
  rotate_left
  · intro w'
    go_simp
    with_reducible rfl
  rotate_left
  · simp only [Act.put, List.setIfInBounds_toArray, List.set_cons_zero, List.set_cons_succ, i64_w, i32_w]
    rfl
  refine done_ (by kernel_rfl) ?_
  go_upto_region 10 with (fail)
  have HB9 := Aside0.mk (below_drew1 HB8.out)
  have HO9 := Aside0.mk (blk_below HX0.out HB9.out)
  have HM9 := Aside0.mk (blk_below HM8.out (below_drew1 (Below.refl w8.heap.size w8)))
  clear HB8
  refine start_ (n := 9) (S := (fun w' => w'.cell? ⟨b0, 6, none⟩ = some (.int .i64 i0))) (ds := [8]) #[false, false, false, false, false, false, false, false, false] (by kernel_rfl) rfl rfl ((blk_cell HO9.out 6).trans rfl) (fun hHeld => ?_)
  generalize w8.drew = wd at HO9 HB9 HM9 hHeld ⊢
  refine pure_ (i := 0) (N := some 35) (v := ?_) (a' := ?_) #[true, false, false, false, false, false, false, false, false] rfl rfl (by kernel_rfl) (fun _ _ _ h => h) (Or.inl ⟨by rfl, ?_⟩) ?_ ?_
  rotate_left
  · intro w'
    go_simp
    with_reducible rfl
  rotate_left
  · simp only [Act.put, List.setIfInBounds_toArray, List.set_cons_zero, List.set_cons_succ, i64_w, i32_w]
    rfl
  refine pure_ (i := 1) (N := some 36) (v := ?_) (a' := ?_) #[true, true, false, false, false, false, false, false, false] rfl rfl (by kernel_rfl) (fun _ _ _ h => h) (Or.inl ⟨by rfl, ?_⟩) ?_ ?_
  rotate_left
  · intro w'
    go_simp
    with_reducible rfl
  rotate_left
  · simp only [Act.put, List.setIfInBounds_toArray, List.set_cons_zero, List.set_cons_succ, i64_w, i32_w]
    rfl
  refine pure_ (i := 2) (N := some 37) (v := ?_) (a' := ?_) #[true, true, true, false, false, false, false, false, false] rfl rfl (by kernel_rfl) (fun _ _ _ h => h) (Or.inl ⟨by rfl, ?_⟩) ?_ ?_
  rotate_left
  · intro w'
    go_simp
    with_reducible rfl
  rotate_left
  · simp only [Act.put, List.setIfInBounds_toArray, List.set_cons_zero, List.set_cons_succ, i64_w, i32_w]
    rfl
  refine pure_ (i := 4) (N := some 39) (v := ?_) (a' := ?_) #[true, true, true, false, true, false, false, false, false] rfl rfl (by kernel_rfl) (fun _ _ _ h => h) (Or.inl ⟨by rfl, ?_⟩) ?_ ?_
  rotate_left
  · intro w'
    go_simp
    with_reducible rfl
  rotate_left
  · simp only [Act.put, List.setIfInBounds_toArray, List.set_cons_zero, List.set_cons_succ, i64_w, i32_w]
    rfl
  refine pure_ (i := 5) (N := some 40) (v := ?_) (a' := ?_) #[true, true, true, false, true, true, false, false, false] rfl rfl (by kernel_rfl) (fun _ _ _ h => h) (Or.inl ⟨by rfl, ?_⟩) ?_ ?_
  rotate_left
  · intro w'
    go_simp
    with_reducible rfl
  rotate_left
  · simp only [Act.put, List.setIfInBounds_toArray, List.set_cons_zero, List.set_cons_succ, i64_w, i32_w]
    rfl
  refine pure_ (i := 6) (N := some 41) (v := ?_) (a' := ?_) #[true, true, true, false, true, true, true, false, false] rfl rfl (by kernel_rfl) (fun _ _ _ h => h) (Or.inl ⟨by rfl, ?_⟩) ?_ ?_
  rotate_left
  · intro w'
    go_simp
    with_reducible rfl
  rotate_left
  · simp only [Act.put, List.setIfInBounds_toArray, List.set_cons_zero, List.set_cons_succ, i64_w, i32_w]
    rfl
  refine take_ (i := 7) (N := some 42) (v := ?_) (a' := ?_) #[true, true, true, false, true, true, true, true, false] rfl rfl (by kernel_rfl) (fun _ _ _ h => h) (Or.inl ⟨by rfl, ?_⟩) hHeld ?_ ?_
  rotate_left
  · rintro w' h0_
    go_simp
    with_reducible rfl
  rotate_left
  · simp only [Act.put, List.setIfInBounds_toArray, List.set_cons_zero, List.set_cons_succ, i64_w, i32_w]
    rfl
  refine pure_ (i := 3) (N := some 38) (v := ?_) (a' := ?_) #[true, true, true, true, true, true, true, true, false] rfl rfl (by kernel_rfl) (fun _ _ _ h => h) (Or.inl ⟨by rfl, ?_⟩) ?_ ?_
  rotate_left
  · intro w'
    go_simp
    with_reducible rfl
  rotate_left
  · simp only [Act.put, List.setIfInBounds_toArray, List.set_cons_zero, List.set_cons_succ, i64_w, i32_w]
    rfl
  refine last_ (i := 8) (N := some 43) #[true, true, true, true, true, true, true, true, true] rfl rfl (by kernel_rfl) (by decide) (fun K hK => ?_)
  refine goes_ Try.func26 (by kernel_rfl) rfl #[.iface 68 (.pointer (some ⟨g, 2, none⟩)), .int .i64 i0] (by rfl) rfl rfl (by (try simp only [List.map_toArray, List.map_cons, List.map_nil]); first | done | rfl) ?_
  refine (HRM.out _ HB9.out).mono ?_
  rintro e_ W ⟨v1, hs1, rfl, h1_, h2_, h3_, _, h4_, h5_⟩
  have HQ := Aside0.mk h1_
  have HR1 := Aside0.mk h2_
  have HI := Aside0.mk h3_
  have HV1 := Aside0.mk h4_
  have HKr := Aside0.mk h5_
  clear h1_ h2_ h3_ h4_ h5_
  refine ⟨_, rfl, ?_⟩
  refine hK.out _ _ ?_
  clear hK K
  refine norm_ (a' := ?_) ?_ ?_
  rotate_left
  · show Act.put _ (some 43) _ = _
    simp only [Act.put, List.setIfInBounds_toArray, List.set_cons_zero, List.set_cons_succ, i64_w, i32_w]
    rfl
  refine done_ (by kernel_rfl) ?_
  go_upto_region 11 with (fail)
  have hq9 := HQW.out.rq.below HB9.out
  have hp9 := HP0.out.below HB9.out
  have hnm : ¬ (mb = g ∨ HoS v hs mb) := by
    rintro (e | hk)
    · exact hp9.ne hq9.box e
    · rcases hk with hk | ⟨p, hp, e⟩
      · obtain ⟨cells, hc⟩ := Kd.R_typed hq9.ho.row mb hk
        exact hp9.ne hc rfl
      · obtain ⟨i, hi, e2⟩ := List.getElem_of_mem hp
        have hb := hq9.ho.one i p.1 p.2 (by rw [List.getElem?_eq_getElem hi, e2])
        exact hp9.ne hb e.symm
  have HPm := Aside0.mk (hp9.kp HKr.out hnm)
  have hnb : ¬ (bm = g ∨ HoS v hs bm) := by
    rintro (e | hk)
    · have := blk_lt HQW.out.rq.box
      rw [← e, ← HBM.out] at this
      omega
    · have := HQW.out.rq.ho.lt hk
      rw [← HBM.out] at this
      omega
  have HM := Aside0.mk ((HKr.out.block bm (blk_lt HM9.out) hnb).trans HM9.out)
  have HK : Aside0 (Kp w W (fun k => k = g ∨ k = mb ∨ HoS v hs k)) := ⟨(Kp.of (S := fun k => k = g ∨ k = mb ∨ HoS v hs k) HB9.out).trans HKr.out (fun k _ hk => by
    rcases hk with hk | hk
    · exact Or.inl hk
    · exact Or.inr (Or.inr hk))⟩
  have HLL : Aside0 (hs1.length ≤ 900000) := ⟨by have h1 := HR1.out.length_eq; simp only [List.length_cons] at h1; have := HL0.out; omega⟩
  have hadd : (((b0, x0) :: hs1).map (fun p => p.2.m.f0)).Nodup := ((HR1.out.map (fun p => p.2.m.f0)).nodup_iff).2 HQW.out.addr
  rw [List.map_cons, List.nodup_cons] at hadd
  have HNO : Aside0 (∀ p ∈ hs1, p.2.m.f0 ≠ m.f0) := ⟨fun p hp e => hadd.1 (by show x0.m.f0 ∈ _; rw [HX.out, ← e]; exact List.mem_map.2 ⟨p, hp, rfl⟩)⟩
  have HAD := Aside0.mk hadd.2
  have HWS : Aside0 (∀ p ∈ hs1, 0 ≤ p.2.m.f0 ∧ p.2.m.f0 ≤ 4294967295) := ⟨fun p hp => HQW.out.wf p (HR1.out.mem_iff.1 (List.mem_cons_of_mem _ hp))⟩
  have HSUB : Aside0 (∀ k, HoS v1 hs1 k → HoS v hs k) := ⟨fun k hk => by
    rcases hk with hk | ⟨p, hp, e⟩
    · rw [HV1.out] at hk; exact Or.inl hk
    · exact Or.inr ⟨p, HR1.out.mem_iff.1 (List.mem_cons_of_mem _ hp), e⟩⟩
  have HF : Aside0 (∀ a, 0 ≤ a → a ≤ 4294967295 → a ≠ m.f0 → ∀ b, f a = some b ↔ ∃ o, (b, o) ∈ hs1 ∧ o.m.f0 = a) := ⟨fun a ha0 ha1 hne b => (HF0.out a ha0 ha1 b).trans ⟨fun ⟨o, ho, he⟩ => by
    rcases List.mem_cons.1 (HR1.out.mem_iff.2 ho) with h1 | h1
    · injection h1 with _ h1
      subst h1
      exact absurd (he.symm.trans HX.out) hne
    · exact ⟨o, h1, he⟩, fun ⟨o, ho, he⟩ => ⟨o, HR1.out.mem_iff.1 (List.mem_cons_of_mem _ ho), he⟩⟩⟩
  clear hq9 hp9 hnm hnb hadd HB9 HO9 HM9 HKr HQW HP0 HX0 HF0 HM8
  have hc1 : W.cell? ⟨g, 1, none⟩ = some (.int .i64 last) := (blk_cell HQ.out.box 1).trans rfl
  have hf1 := blk_frozen HQ.out.box 1
  go_upto_region 12 with (fail)
  have hst_ := HQ.out
  have HQ3 : Aside0 (Rq (W.setCell ⟨g, 1, none⟩ (.int .i64 (last + 1))) g t (last + 1) (.map (some mb)) v1 hs1) := ⟨⟨blk_put hst_.box 1 _ rfl, hst_.ho.kept (S := fun k => k = g) ((Kp.of (Below.refl _ _)).set g 1 _ (fun _ => rfl)) (fun k hk => hst_.apart hk)⟩⟩
  have HP3 : Aside0 (Pm (W.setCell ⟨g, 1, none⟩ (.int .i64 (last + 1))) mb n f) := ⟨HPm.out.kp (S := fun k => k = g) ((Kp.of (Below.refl _ _)).set g 1 _ (fun _ => rfl)) (HPm.out.ne hst_.box)⟩
  have HM3 : Aside0 ((W.setCell ⟨g, 1, none⟩ (.int .i64 (last + 1))).heap[bm]? = some (.cells #[.int .u32 m.f0, .int .u32 m.f1, .int .u8 m.f2, .string m.f3] 33 (0, 0))) := ⟨blk_far HM.out (blk_ne HM.out hst_.box (by decide)) _⟩
  have HK3 : Aside0 (Kp w (W.setCell ⟨g, 1, none⟩ (.int .i64 (last + 1))) (fun k => k = g ∨ k = mb ∨ HoS v hs k)) := ⟨HK.out.set g 1 _ (fun _ => Or.inl rfl)⟩
  clear hst_ HQ HPm HM HK hc1 hf1
  generalize W.setCell ⟨g, 1, none⟩ (.int .i64 (last + 1)) = W3 at HQ3 HP3 HM3 HK3 ⊢
  have HQd := Aside0.mk (HQ3.out.below (below_drew1 (Below.refl _ _)))
  have HPd := Aside0.mk (HP3.out.below (below_drew1 (Below.refl _ _)))
  have HMd := Aside0.mk (blk_below HM3.out (below_drew1 (Below.refl W3.heap.size W3)))
  have HKd := Aside0.mk (HK3.out.trans (Kp.of (S := fun _ => False) (below_drew1 (Below.refl _ _))) (fun _ _ h => h.elim))
  clear HQ3 HP3 HM3 HK3
  refine start_ (n := 8) (S := (fun w' => w'.cell? ⟨bm, 0, none⟩ = some (.int .u32 m.f0) ∧ w'.cell? ⟨bm, 1, none⟩ = some (.int .u32 m.f1) ∧ w'.cell? ⟨bm, 2, none⟩ = some (.int .u8 m.f2) ∧ w'.cell? ⟨bm, 3, none⟩ = some (.string m.f3) ∧ w'.cell? ⟨g, 1, none⟩ = some (.int .i64 (last + 1)))) (ds := [6]) #[false, false, false, false, false, false, false, false] (by kernel_rfl) rfl rfl ⟨(blk_cell HMd.out 0).trans rfl, (blk_cell HMd.out 1).trans rfl, (blk_cell HMd.out 2).trans rfl, (blk_cell HMd.out 3).trans rfl, (blk_cell HQd.out.box 1).trans rfl⟩ (fun hHeld => ?_)
  generalize W3.drew = wd at HQd HPd HMd HKd hHeld ⊢
  refine take_ (i := 0) (N := some 51) (v := ?_) (a' := ?_) #[true, false, false, false, false, false, false, false] rfl rfl (by kernel_rfl) (fun _ _ _ h => h) (Or.inl ⟨by rfl, ?_⟩) hHeld ?_ ?_
  rotate_left
  · rintro w' ⟨h0_, h1_, h2_, h3_, h4_⟩
    go_simp
    with_reducible rfl
  rotate_left
  · simp only [Act.put, List.setIfInBounds_toArray, List.set_cons_zero, List.set_cons_succ, i64_w, i32_w]
    rfl
  refine pure_ (i := 1) (N := some 52) (v := ?_) (a' := ?_) #[true, true, false, false, false, false, false, false] rfl rfl (by kernel_rfl) (fun _ _ _ h => h) (Or.inl ⟨by rfl, ?_⟩) ?_ ?_
  rotate_left
  · intro w'
    go_simp
    with_reducible rfl
  rotate_left
  · simp only [Act.put, List.setIfInBounds_toArray, List.set_cons_zero, List.set_cons_succ, i64_w, i32_w]
    rfl
  refine pure_ (i := 2) (N := some 53) (v := ?_) (a' := ?_) #[true, true, true, false, false, false, false, false] rfl rfl (by kernel_rfl) (fun _ _ _ h => h) (Or.inl ⟨by rfl, ?_⟩) ?_ ?_
  rotate_left
  · intro w'
    go_simp
    with_reducible rfl
  rotate_left
  · simp only [Act.put, List.setIfInBounds_toArray, List.set_cons_zero, List.set_cons_succ, i64_w, i32_w]
    rfl
  refine pure_ (i := 3) (N := some 54) (v := ?_) (a' := ?_) #[true, true, true, true, false, false, false, false] rfl rfl (by kernel_rfl) (fun _ _ _ h => h) (Or.inl ⟨by rfl, ?_⟩) ?_ ?_
  rotate_left
  · intro w'
    go_simp
    with_reducible rfl
  rotate_left
  · simp only [Act.put, List.setIfInBounds_toArray, List.set_cons_zero, List.set_cons_succ, i64_w, i32_w]
    rfl
  refine take_ (i := 4) (N := some 55) (v := ?_) (a' := ?_) #[true, true, true, true, true, false, false, false] rfl rfl (by kernel_rfl) (fun _ _ _ h => h) (Or.inl ⟨by rfl, ?_⟩) hHeld ?_ ?_
  rotate_left
  · rintro w' ⟨h0_, h1_, h2_, h3_, h4_⟩
    go_simp
    with_reducible rfl
  rotate_left
  · simp only [Act.put, List.setIfInBounds_toArray, List.set_cons_zero, List.set_cons_succ, i64_w, i32_w]
    rfl
  refine pure_ (i := 5) (N := some 56) (v := ?_) (a' := ?_) #[true, true, true, true, true, true, false, false] rfl rfl (by kernel_rfl) (fun _ _ _ h => h) (Or.inl ⟨by rfl, ?_⟩) ?_ ?_
  rotate_left
  · intro w'
    go_simp
    with_reducible rfl
  rotate_left
  · simp only [Act.put, List.setIfInBounds_toArray, List.set_cons_zero, List.set_cons_succ, i64_w, i32_w]
    rfl
  refine last_ (i := 6) (N := some 57) #[true, true, true, true, true, true, true, false] rfl rfl (by kernel_rfl) (by decide) (fun K hK => ?_)
  refine box_step (N := 57) ?hw ?hd (cs := oneC ⟨m, 0, last + 1⟩ 0) (t := 66) ?hr ?_; (case hw => rfl); (case hd => rfl); (case hr => first | (go_simp; done) | (go_simp; rfl))
  intro bo hbo_ w4 hb4_ hbe_
  have HO4 := Aside0.mk hb4_
  have HBO := Aside0.mk hbo_
  have HBS := Aside0.mk (show w.heap.size ≤ bo by rw [hbo_]; exact HKd.out.size)
  have HQ4 := Aside0.mk (HQd.out.below hbe_)
  have HP4 := Aside0.mk (HPd.out.below hbe_)
  have HM4 := Aside0.mk (blk_below HMd.out hbe_)
  have HK4 := Aside0.mk (HKd.out.trans (Kp.of (S := fun _ => False) hbe_) (fun _ _ h => h.elim))
  clear hb4_ hbo_ hbe_
  refine hK.out _ _ ?_
  clear hK K
  refine norm_ (a' := ?_) ?_ ?_
  rotate_left
  · show Act.put _ (some 57) _ = _
    simp only [Act.put, List.setIfInBounds_toArray, List.set_cons_zero, List.set_cons_succ, i64_w, i32_w]
    rfl
  refine pure_ (i := 7) (N := some 9) (v := ?_) (a' := ?_) #[true, true, true, true, true, true, true, true] rfl rfl (by kernel_rfl) (fun _ _ _ h => h) (Or.inl ⟨by rfl, ?_⟩) ?_ ?_
  rotate_left
  · intro w'
    go_simp
    with_reducible rfl
  rotate_left
  · simp only [Act.put, List.setIfInBounds_toArray, List.set_cons_zero, List.set_cons_succ, i64_w, i32_w]
    rfl
  refine done_ (by kernel_rfl) ?_
  go_upto_region 13 with (fail)
  have HQ5 := Aside0.mk (HQ4.out.below (below_drew1 (Below.refl _ _)))
  have HP5 := Aside0.mk (HP4.out.below (below_drew1 (Below.refl _ _)))
  have HM5 := Aside0.mk (blk_below HM4.out (below_drew1 (Below.refl w4.heap.size w4)))
  have HO5 := Aside0.mk (blk_below HO4.out (below_drew1 (Below.refl w4.heap.size w4)))
  have HK5 := Aside0.mk (HK4.out.trans (Kp.of (S := fun _ => False) (below_drew1 (Below.refl _ _))) (fun _ _ h => h.elim))
  have HFR := Aside0.mk (fun k (hk : HoS v1 hs1 k) => show k ≠ bo from by have h1 := HQd.out.ho.lt hk; rw [HBO.out]; omega)
  clear HQ4 HP4 HM4 HO4 HK4
  refine start_ (n := 8) (S := (fun w' => w'.cell? ⟨g, 3, none⟩ = some (.map (some mb)) ∧ w'.cell? ⟨bm, 0, none⟩ = some (.int .u32 m.f0))) (ds := [7]) #[false, false, false, false, false, false, false, false] (by kernel_rfl) rfl rfl ⟨(blk_cell HQ5.out.box 3).trans rfl, (blk_cell HM5.out 0).trans rfl⟩ (fun hHeld => ?_)
  generalize w4.drew = wd at HQ5 HP5 HM5 HO5 HK5 hHeld ⊢
  refine pure_ (i := 0) (N := some 58) (v := ?_) (a' := ?_) #[true, false, false, false, false, false, false, false] rfl rfl (by kernel_rfl) (fun _ _ _ h => h) (Or.inl ⟨by rfl, ?_⟩) ?_ ?_
  rotate_left
  · intro w'
    go_simp
    with_reducible rfl
  rotate_left
  · simp only [Act.put, List.setIfInBounds_toArray, List.set_cons_zero, List.set_cons_succ, i64_w, i32_w]
    rfl
  refine pure_ (i := 1) (N := some 59) (v := ?_) (a' := ?_) #[true, true, false, false, false, false, false, false] rfl rfl (by kernel_rfl) (fun _ _ _ h => h) (Or.inl ⟨by rfl, ?_⟩) ?_ ?_
  rotate_left
  · intro w'
    go_simp
    with_reducible rfl
  rotate_left
  · simp only [Act.put, List.setIfInBounds_toArray, List.set_cons_zero, List.set_cons_succ, i64_w, i32_w]
    rfl
  refine pure_ (i := 2) (N := some 60) (v := ?_) (a' := ?_) #[true, true, true, false, false, false, false, false] rfl rfl (by kernel_rfl) (fun _ _ _ h => h) (Or.inl ⟨by rfl, ?_⟩) ?_ ?_
  rotate_left
  · intro w'
    go_simp
    with_reducible rfl
  rotate_left
  · simp only [Act.put, List.setIfInBounds_toArray, List.set_cons_zero, List.set_cons_succ, i64_w, i32_w]
    rfl
  refine take_ (i := 3) (N := some 61) (v := ?_) (a' := ?_) #[true, true, true, true, false, false, false, false] rfl rfl (by kernel_rfl) (fun _ _ _ h => h) (Or.inl ⟨by rfl, ?_⟩) hHeld ?_ ?_
  rotate_left
  · rintro w' ⟨h0_, h1_⟩
    go_simp
    with_reducible rfl
  rotate_left
  · simp only [Act.put, List.setIfInBounds_toArray, List.set_cons_zero, List.set_cons_succ, i64_w, i32_w]
    rfl
  refine pure_ (i := 4) (N := some 62) (v := ?_) (a' := ?_) #[true, true, true, true, true, false, false, false] rfl rfl (by kernel_rfl) (fun _ _ _ h => h) (Or.inl ⟨by rfl, ?_⟩) ?_ ?_
  rotate_left
  · intro w'
    go_simp
    with_reducible rfl
  rotate_left
  · simp only [Act.put, List.setIfInBounds_toArray, List.set_cons_zero, List.set_cons_succ, i64_w, i32_w]
    rfl
  refine take_ (i := 5) (N := some 63) (v := ?_) (a' := ?_) #[true, true, true, true, true, true, false, false] rfl rfl (by kernel_rfl) (fun _ _ _ h => h) (Or.inl ⟨by rfl, ?_⟩) hHeld ?_ ?_
  rotate_left
  · rintro w' ⟨h0_, h1_⟩
    go_simp
    with_reducible rfl
  rotate_left
  · simp only [Act.put, List.setIfInBounds_toArray, List.set_cons_zero, List.set_cons_succ, i64_w, i32_w]
    rfl
  refine pure_ (i := 6) (N := some 64) (v := ?_) (a' := ?_) #[true, true, true, true, true, true, true, false] rfl rfl (by kernel_rfl) (fun _ _ _ h => h) (Or.inl ⟨by rfl, ?_⟩) ?_ ?_
  rotate_left
  · intro w'
    go_simp
    with_reducible rfl
  rotate_left
  · simp only [Act.put, List.setIfInBounds_toArray, List.set_cons_zero, List.set_cons_succ, i64_w, i32_w]
    rfl
  refine last_ (i := 7) (N := none) #[true, true, true, true, true, true, true, true] rfl rfl (by kernel_rfl) (by decide) (fun K hK => ?_)
  obtain ⟨w6, hrun_, hp_, hg_⟩ := HP5.out.put HWF.out.1 HWF.out.2 HNN.out bo
  refine skip_ (w1 := w6) (by rfl) rfl ?_ ?_
  · go_simp
    try with_reducible rfl
  have HP6 := Aside0.mk hp_
  have HG6 := Aside0.mk hg_
  clear hrun_ hp_ hg_
  refine hK.out _ _ ?_
  clear hK K
  refine done_ (by kernel_rfl) ?_
  have hmb := fun (k : Nat) (h : some k ≠ some mb) => h
  have HQ6 : Aside0 (Rq w6 g t (last + 1) (.map (some mb)) v1 hs1) := by
    have hne : g ≠ mb := fun e => HP5.out.ne HQ5.out.box e.symm
    have hk : Kp wd w6 (fun k => k = mb) := Kp.grown HG6.out (fun k hk => (Option.some.inj hk).symm)
    refine ⟨⟨(hk.block g (blk_lt HQ5.out.box) hne).trans HQ5.out.box, HQ5.out.ho.kept hk (fun k hk' e => ?_)⟩⟩
    subst e
    rcases hk' with hk' | ⟨p, hp, e⟩
    · obtain ⟨cells, hc⟩ := Kd.R_typed HQ5.out.ho.row k hk'
      exact HP5.out.ne hc rfl
    · obtain ⟨i, hi, e2⟩ := List.getElem_of_mem hp
      have hb := HQ5.out.ho.one i p.1 p.2 (by rw [List.getElem?_eq_getElem hi, e2])
      exact HP5.out.ne hb e.symm
  have HO6 : Aside0 (w6.heap[bo]? = some (.cells (oneC ⟨m, 0, last + 1⟩ 0) 66 (0, 0))) := ⟨blk_grown' HO5.out HG6.out (fun e => HP5.out.ne HO5.out (Option.some.inj e).symm)⟩
  have HK6 : Aside0 (Kp w w6 (fun k => k = g ∨ k = mb ∨ HoS v hs k)) := ⟨HK5.out.trans (Kp.grown (S := fun k => k = mb) HG6.out (fun k hk => (Option.some.inj hk).symm)) (fun k _ hk => Or.inr (Or.inl hk))⟩
  have HMN : Aside0 (mb ≠ g ∧ mb ≠ bo ∧ ¬ HoS v1 hs1 mb) := by
    refine ⟨⟨HP6.out.ne HQ6.out.box, HP6.out.ne HO6.out, fun hk => ?_⟩⟩
    rcases hk with hk | ⟨p, hp, e⟩
    · obtain ⟨cells, hc⟩ := Kd.R_typed HQ6.out.ho.row mb hk
      exact HP6.out.ne hc rfl
    · obtain ⟨i, hi, e2⟩ := List.getElem_of_mem hp
      have hb := HQ6.out.ho.one i p.1 p.2 (by rw [List.getElem?_eq_getElem hi, e2])
      exact HP6.out.ne hb e.symm
  have HPU := Aside0.mk (hpush_calls w6 g t (last + 1) (.map (some mb)) v1 hs1 bo ⟨m, 0, last + 1⟩ 0 HQ6.out HI.out HO6.out (fun p hp => HFR.out p.1 (Or.inr ⟨p, hp, rfl⟩)) HLL.out)
  clear HQ5 HP5 HM5 HO5 HK5 HG6 hmb HQd HPd HMd HKd
  go_wp2_with (first | (go_at_call 27; refine HPU.out.mono ?_; rintro e w7 ⟨v7, hs7, rfl, h1_, h2_, h3_, h5_, h4_⟩; have HQ7 := Aside0.mk h1_; have HR7 := Aside0.mk h2_; have HI7 := Aside0.mk h3_; have HK7 := Aside0.mk h4_; have HV7 := Aside0.mk h5_; clear h1_ h2_ h3_ h4_ h5_ HPU))
  refine bodyPost_ret (results_tmp2 rfl _ _ _) rfl ?_
  have hin : ∀ (b : Nat) (o : One), (b, o) ∈ hs7 ↔ (b, o) = (bo, ⟨m, 0, last + 1⟩) ∨ (b, o) ∈ hs1 := fun b o => HR7.out.mem_iff.trans List.mem_cons
  refine ⟨v7, bo, hs7, hs1, rfl, ⟨HQ7.out, HI7.out, ⟨fput f m.f0 (some bo), HP6.out.kp HK7.out (fun h => ?_), fun a ha0 ha1 b => ?_⟩, ?_, fun p hp => ?_⟩, HR7.out, HR1.out, HBS.out, (HV7.out.imp (fun e => e.trans HV1.out) (fun ⟨k, e, hle⟩ => ⟨k, e, Nat.le_trans HK6.out.size hle⟩)), HK6.out.trans HK7.out (fun k hk hk' => ?_)⟩
  · rcases h with h | h | h
    · exact HMN.out.1 h
    · exact HMN.out.2.1 h
    · exact HMN.out.2.2 h
  · unfold fput
    by_cases e : a = m.f0
    · rw [if_pos e]
      constructor
      · intro hb
        injection hb with hb
        subst hb
        exact ⟨_, (hin _ _).2 (Or.inl rfl), e.symm⟩
      · rintro ⟨o, ho, he⟩
        rcases (hin b o).1 ho with ho | ho
        · injection ho with ho _
          rw [ho]
        · exact absurd (he.trans e) (HNO.out _ ho)
    · rw [if_neg e, HF.out a ha0 ha1 e b]
      constructor
      · rintro ⟨o, ho, he⟩
        exact ⟨o, (hin b o).2 (Or.inr ho), he⟩
      · rintro ⟨o, ho, he⟩
        rcases (hin b o).1 ho with ho | ho
        · injection ho with _ ho
          subst ho
          exact absurd he.symm e
        · exact ⟨o, ho, he⟩
  · refine ((HR7.out.map (fun p => p.2.m.f0)).nodup_iff).2 ?_
    rw [List.map_cons, List.nodup_cons]
    refine ⟨fun hm_ => ?_, HAD.out⟩
    obtain ⟨p, hp, he⟩ := List.mem_map.1 hm_
    exact HNO.out p hp he
  · rcases (hin p.1 p.2).1 hp with hp | hp
    · rw [show p = (bo, ⟨m, 0, last + 1⟩) from hp]; exact HWF.out
    · exact HWS.out _ hp
  · rcases hk' with hk' | hk' | hk'
    · exact Or.inl hk'
    · have := HBS.out; omega
    · exact Or.inr (Or.inr (HSUB.out k hk'))
end Go.Proofs.Ytihmblbnnhcdnaa.Print
