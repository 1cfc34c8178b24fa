/- MemberLattice, walked. -/
import Derived.Test.YtognmibankcefaaXMerged
import Derived.Test.YtognmibankcefaaXEqual
namespace Go.Proofs.Ytognmibankcefaa.Print
open Go.RowKit Go.Maps Go.ChangeMaps Go.Proofs.YtognmibankcefaaW.PrintWords Go.Proofs.YtognmibankcefaaW.PrintLast Go.Proofs.YtognmibankcefaaW.PrintMore
set_option linter.unusedVariables false
set_option linter.unusedSimpArgs false
theorem info25 : (Try.prog.info? 25).map (fun i => (i.zero, i.size, i.bytes)) = some (some (.agg #[.int .u32 0, .int .u32 0, .int .u8 0, .string ⟨#[]⟩]), 4, 32) := by kernel_rfl
attribute [local go_sem high] eqA25
def seen (l : List Mem) (y : Mem) (q : Nat) : Bool := (l.take q).any (fun x => eqM x y)
theorem seen_succ (l : List Mem) (y : Mem) (q : Nat) (h : q < l.length) : seen l y (q + 1) = (seen l y q || eqM (rd_T25 l (q : Int)) y) := by
  unfold seen
  rw [List.take_add_one, List.getElem?_eq_getElem h, List.any_append, rd_mem l q h]
  simp
theorem seen_all (l : List Mem) (y : Mem) (h : y ∈ l) : seen l y l.length = true := by
  unfold seen
  rw [List.take_length, List.any_eq_true]
  exact ⟨y, h, (eqM_iff y y).2 rfl⟩
theorem far_of {v v0 : Value} {n g : Nat} (h : v.ownBlock = v0.ownBlock ∨ ∃ b, v.ownBlock = some b ∧ n ≤ b) (h0 : v0.ownBlock = none) (hg : g < n) : some g ≠ v.ownBlock := by
  intro e
  rcases h with h | ⟨b, h, hb⟩
  · rw [h, h0] at e
    cases e
  · rw [h] at e
    injection e with e
    omega
set_option maxHeartbeats 8000000 in
set_option maxRecDepth 100000 in
theorem lattice_law (w : World) (A : Option Addr) (c : Nat) (l : List Mem) (p : Nat) (hC : Kd.C k25 w A l.length l) (hc : l.length ≤ c) (hp : p ≤ 255) (hwf : ∀ x ∈ l, 0 ≤ x.f0 ∧ x.f0 ≤ 4294967295) :
    Calls Try.prog 5 #[.slice A l.length c, .int .u8 p] w fun e w' => e = .returned (.bool true) ∧ Below w.heap.size w w' := by
  have hu25 := Try.underlying25
  have HC := Aside0.mk hC
  have HWF := Aside0.mk hwf
  clear hC hwf
  by_cases hbig : (l.length : Int) > 100
  · go_enter Try.func5, Try.ntmps5
    go_wp2_with (first | (go_at_call 13; (with_reducible refine (wakes_true _).mono ?_); rintro e w1 ⟨rfl, h1_⟩; have HB1 := Aside0.mk h1_; clear h1_))
    go_ret
    exact ⟨rfl, HB1.out⟩
  · have hl100 : l.length ≤ 100 := by omega
    obtain ⟨kf, r, hf, hr⟩ := few_law l (by omega)
    have HF := Aside0.mk hf
    clear hf
    cases r with
    | false =>
      go_enter Try.func5, Try.ntmps5
      go_wp2_with (first
        | (go_at_call 14; (with_reducible refine (hearsaylaw17_few.calls kf A c l false _ HC.out hc HF.out).mono ?_); rintro e w1 ⟨rfl, h1_⟩; have HB1 := Aside0.mk (Drawn0.below h1_); clear h1_)
        | (go_at_call 13; (with_reducible refine (wakes_true _).mono ?_); rintro e w2 ⟨rfl, h1_⟩; have HB2 := Aside0.mk (below_step HB1.out h1_); clear h1_))
      go_ret
      exact ⟨rfl, HB2.out⟩
    | true =>
      have HFW := Aside0.mk (hr rfl)
      clear hr
      obtain ⟨L, hL⟩ : ∃ L, L = runM [] (rot l 0) := ⟨_, rfl⟩
      have hL2 : L = runM [] (rot (l ++ l) p) := by
        rw [hL]
        have h1 := Tops.of_run HFW.out (rot l 0) (fun y hy => (rot_mem l 0 y).1 hy)
        have h2 := Tops.of_run HFW.out (rot (l ++ l) p) (fun y hy => by have := (rot_mem (l ++ l) p y).1 hy; simpa using this)
        have e : (fun y => y ∈ rot (l ++ l) p) = (fun y => y ∈ rot l 0) := by funext y; rw [rot_mem, rot_mem]; simp
        rw [e] at h2
        exact h1.unique h2
      have HT := Aside0.mk (Tops.of_run HFW.out (rot l 0) (fun y hy => (rot_mem l 0 y).1 hy))
      rw [← hL] at HT
      have hm1 := fun W (hW : Below w.heap.size w W) => merged_calls W A c l 0 (Kd.C_below HC.out hW) hc (by omega) (by omega) HWF.out
      have hm2 := fun W A2 c2 (hW : Kd.C k25 W A2 (l ++ l).length (l ++ l)) (h : (l ++ l).length ≤ c2) => merged_calls W A2 c2 (l ++ l) p hW h (by simp; omega) hp (fun x hx => HWF.out x (by simpa using hx))
      rw [← hL] at hm1
      rw [← hL2] at hm2
      simp only [List.length_append] at hm2
      have HM1 := Aside0.mk hm1
      have HM2 := Aside0.mk hm2
      clear hm1 hm2 hL hL2
      go_enter Try.func5, Try.ntmps5
      go_upto_region 4 with (first
        | (go_at_call 14; (with_reducible refine (hearsaylaw17_few.calls kf A c l true _ HC.out hc HF.out).mono ?_); rintro e w1 ⟨rfl, h1_⟩; have HB1 := Aside0.mk (Drawn0.below h1_); clear h1_)
        | (go_at_call 15; refine (HM1.out _ HB1.out).mono ?_; rintro e w2 ⟨g, b, rfl, h1_, h2_, h3_, h4_, h5_⟩; have HV2 := Aside0.mk h1_; have HL32 := Aside0.mk h2_; have HB2 := Aside0.mk (below_step HB1.out h5_); clear h1_ h2_ h3_ h4_ h5_))
      go_upto_region 5 with (first
        | ((with_reducible refine gate_dst (N := 26) rfl ?_); refine Kd.R_append_rows k25 (w0 := w) w.heap.size ?hg (.const (.slice none 0 0)) (.tmp 25) 32 25 (.agg #[.int .u32 0, .int .u32 0, .int .u8 0, .string ⟨#[]⟩]) 32 ?ho Try.underlying32 info25 rfl (by decide) (by omega) (.slice none 0 0) [] l A l.length c (fun _ => True) (fun _ => False) ?h1 ?h2 (Kd.R_nil _ _ _ _ _) (Kd.C_below HC.out HB2.out) (fun _ _ h => h) (fun _ h => h.elim) (fun _ _ => trivial) HB2.out HB2.out.size (by simp; omega) ?_; (case hg => rfl); (case ho => rfl); (case h1 => rfl); (case h2 => rfl); intro v1 w3 hr1_ hb1_ hg1_ ha1_; have HR1 := Aside0.mk hr1_; have HB3 := Aside0.mk hb1_; have HV3 := Aside0.mk (Vw.kept HV2.out (row := none) hg1_ (by simp) (by simp)); have HA1 := Aside0.mk ha1_; have HLT3 := Aside0.mk (And.intro HV2.out.ltg HV2.out.ltb); clear hr1_ hb1_ hg1_ ha1_)
        | ((with_reducible refine gate_dst (N := 28) rfl ?_); refine Kd.R_append_rows k25 (w0 := w) w.heap.size ?hg (.tmp 26) (.tmp 27) 32 25 (.agg #[.int .u32 0, .int .u32 0, .int .u8 0, .string ⟨#[]⟩]) 32 ?ho Try.underlying32 info25 rfl (by decide) (by omega) v1 l l A l.length c (fun _ => True) (fun _ => False) ?h1 ?h2 HR1.out (Kd.C_below HC.out HB3.out) (fun _ _ h => h) (fun _ h => h.elim) (fun _ _ => trivial) HB3.out HB3.out.size (by omega) ?_; (case hg => rfl); (case ho => rfl); (case h1 => rfl); (case h2 => rfl); intro v2 w4 hr1_ hb1_ hg1_ ha1_; obtain ⟨A2, c2, rfl, hle_, hcc_⟩ := Kd.R_reads hr1_; simp only [List.length_append] at hle_ hcc_; have HR2 := Aside0.mk hcc_; have HLE := Aside0.mk hle_; have HB4 := Aside0.mk hb1_; have HV4 := Aside0.mk (Vw.kept HV3.out hg1_ (far_of HA1.out rfl HLT3.out.1) (far_of HA1.out rfl HLT3.out.2)); clear hr1_ hb1_ hg1_ ha1_ hle_ hcc_)
        | (go_at_call 15; (with_reducible refine (HM2.out _ A2 c2 HR2.out HLE.out).mono ?_); rintro e w5 ⟨g2, b2, rfl, h1_, h2_, h3_, h4_, h5_⟩; have HW5 := Aside0.mk h1_; have HV5 := Aside0.mk (HV4.out.below h5_); have HB5 := Aside0.mk (below_step HB4.out h5_); clear h1_ h2_ h3_ h4_ h5_))
      go_upto_region 7 with (first | (go_at_call 18; (with_reducible refine (same_calls _ g b g2 b2 L L HV5.out HW5.out).mono ?_); rintro e w6 ⟨rr, rfl, h1_, h2_⟩; obtain rfl := h1_.2 rfl; have HV6 := Aside0.mk (HV5.out.below h2_); have HB6 := Aside0.mk (below_step HB5.out h2_); clear h1_ h2_))
      clear HW5 HV5 HV4 HV3 HV2 HB1 HB2 HB3 HB4 HB5 HR1 HR2 HA1 HLE HLT3 HM1 HM2
      go_wp2
      go_loopw [7] (fun i wr => ∃ k : Nat, k ≤ l.length ∧ i = .int .i64 k ∧ Aside0 (Below w6.heap.size w6 wr)) (fun i _ => l.length - (intOf i).toNat)
      case atStart => exact ⟨0, Nat.zero_le _, rfl, ⟨Below.refl _ _⟩⟩
      case round =>
        obtain ⟨k, hk, rfl, HB⟩ := hrel
        by_cases hlt : (k : Int) < (l.length : Int)
        · have HLT := Aside0.mk (show k < l.length by omega)
          have hk0 : 0 ≤ (k : Int) := by omega
          obtain ⟨ad, eA, x0_, x1_, x2_, x3_⟩ := at_T25 (Kd.C_below HC.out (below_step HB6.out HB.out)) (k : Int) hk0 hlt
          cases eA
          simp only [Int.toNat_natCast] at x0_ x1_ x2_ x3_
          obtain ⟨x, hx⟩ : ∃ x, x = rd_T25 l (k : Int) := ⟨_, rfl⟩
          have HX := Aside0.mk (wf_at HWF.out (k : Int))
          have hxl : x ∈ l := by rw [hx, rd_mem l k (by omega)]; exact List.getElem_mem _
          rw [← hx] at HX x0_ x1_ x2_ x3_
          have HXX := Aside0.mk hx
          have HXL := Aside0.mk hxl
          clear hxl
          have HAT := Aside0.mk (fun W (hW : Below w6.heap.size w6 W) => at_T25 (Kd.C_below HC.out (below_step HB6.out hW)) (k : Int) hk0 hlt)
          simp only [Int.toNat_natCast, ← hx] at HAT
          clear hx
          have hck := check_f x
          cases hm : mayM x with
          | false =>
            rw [hm] at hck
            have HCK : Aside0 (member_Check.f x.f0 x.f1 x.f2 x.f3 = some 170) := ⟨hck⟩
            clear hck
            go_wp2_with (first | (go_at_call 9; (with_reducible refine (member_Check.calls x.f0 x.f1 x.f2 x.f3 170 _ HCK.out).mono ?_); rintro e w7 ⟨rfl, h1_⟩; have HB7 := Aside0.mk (below_step HB.out h1_); clear h1_ x0_ x1_ x2_ x3_))
            go_roundw
            case rel => exact ⟨k + 1, by have := HLT.out; omega, by go_num, HB7⟩
            case measure => have := HLT.out; simp [intOf, wrap64]; omega
          | true =>
            rw [hm] at hck
            have HCK : Aside0 (member_Check.f x.f0 x.f1 x.f2 x.f3 = some 0) := ⟨hck⟩
            clear hck
            obtain ⟨z, hzL, ez, gz⟩ := HT.out.top x ((rot_mem l 0 x).2 HXL.out) hm
            have hz : getL L x.f0 = some z := by rw [← ez]; exact get_of HT.out.ord hzL
            have HGC : Aside0 (∀ W : World, Vw W g b L → Calls Try.prog 20 #[.pointer (some ⟨g, 0, none⟩), .int .u32 x.f0] W fun e w' => e = .returned (.tuple #[.agg #[.int .u32 z.f0, .int .u32 z.f1, .int .u8 z.f2, .string z.f3], .int .i64 0]) ∧ Below W.heap.size W w') := ⟨fun W hV => by have k := get_calls W g b L x.f0 HX.out.1 HX.out.2 hV; rw [hz] at k; exact k⟩
            have HCM := Aside0.mk (cmp_f z x)
            have hcz := (ge_iff z x).2 gz
            obtain ⟨q, hq⟩ : ∃ q, q = cmpM z x := ⟨_, rfl⟩
            rw [← hq] at HCM hcz
            have hq0 : ¬ q < 0 := by omega
            clear hq hcz hz hzL ez gz
            go_upto_region 11 with (first | (go_at_call 9; (with_reducible refine (member_Check.calls x.f0 x.f1 x.f2 x.f3 0 _ HCK.out).mono ?_); rintro e w7 ⟨rfl, h1_⟩; have HB7 := Aside0.mk (below_step HB.out h1_); clear h1_ x0_ x1_ x2_ x3_))
            obtain ⟨ad', eA, x0_, x1_, x2_, x3_⟩ := HAT.out _ HB7.out
            cases eA
            go_upto_region 12 with (first | (go_at_call 20; (with_reducible refine (HGC.out _ (HV6.out.below HB7.out)).mono ?_); rintro e w8 ⟨rfl, h1_⟩; have HB8 := Aside0.mk (below_step HB7.out h1_); clear h1_ x0_ x1_ x2_ x3_))
            have hba := below_alloc (Below.refl w8.heap.size w8) (.cells #[.int .u32 z.f0, .int .u32 z.f1, .int .u8 z.f2, .string z.f3] 25)
            have HZ := Aside0.mk (blk_new w8 (.cells #[.int .u32 z.f0, .int .u32 z.f1, .int .u8 z.f2, .string z.f3] 25))
            have HB9 := Aside0.mk (below_step HB8.out hba)
            clear hba
            generalize w8.alloc (.cells #[.int .u32 z.f0, .int .u32 z.f1, .int .u8 z.f2, .string z.f3] 25) = w9 at HZ HB9 ⊢
            generalize w8.heap.size = bz at HZ ⊢
            have z0_ : w9.cell? ⟨bz, 0, none⟩ = some (.int .u32 z.f0) := (blk_cell HZ.out 0).trans rfl
            have z1_ : w9.cell? ⟨bz, 1, none⟩ = some (.int .u32 z.f1) := (blk_cell HZ.out 1).trans rfl
            have z2_ : w9.cell? ⟨bz, 2, none⟩ = some (.int .u8 z.f2) := (blk_cell HZ.out 2).trans rfl
            have z3_ : w9.cell? ⟨bz, 3, none⟩ = some (.string z.f3) := (blk_cell HZ.out 3).trans rfl
            obtain ⟨ad', eA, x0_, x1_, x2_, x3_⟩ := HAT.out _ HB9.out
            cases eA
            have HBd := Aside0.mk (below_drew1 HB9.out)
            have hs12 : w9.drew.cell? ⟨bz, 0, none⟩ = some (.int .u32 z.f0) ∧ w9.drew.cell? ⟨bz, 1, none⟩ = some (.int .u32 z.f1) ∧ w9.drew.cell? ⟨bz, 2, none⟩ = some (.int .u8 z.f2) ∧ w9.drew.cell? ⟨bz, 3, none⟩ = some (.string z.f3) ∧ w9.drew.cell? (ad.add (k * 4)) = some (.int .u32 x.f0) ∧ w9.drew.cell? ⟨(ad.add (k * 4)).block, (ad.add (k * 4)).off + 1, none⟩ = some (.int .u32 x.f1) ∧ w9.drew.cell? ⟨(ad.add (k * 4)).block, (ad.add (k * 4)).off + 2, none⟩ = some (.int .u8 x.f2) ∧ w9.drew.cell? ⟨(ad.add (k * 4)).block, (ad.add (k * 4)).off + 3, none⟩ = some (.string x.f3) := ⟨z0_, z1_, z2_, z3_, x0_, x1_, x2_, x3_⟩
            clear z0_ z1_ z2_ z3_ x0_ x1_ x2_ x3_
            refine start_ (n := 11) (S := (fun w' => w'.cell? ⟨bz, 0, none⟩ = some (.int .u32 z.f0) ∧ w'.cell? ⟨bz, 1, none⟩ = some (.int .u32 z.f1) ∧ w'.cell? ⟨bz, 2, none⟩ = some (.int .u8 z.f2) ∧ w'.cell? ⟨bz, 3, none⟩ = some (.string z.f3) ∧ w'.cell? (ad.add (k * 4)) = some (.int .u32 x.f0) ∧ w'.cell? ⟨(ad.add (k * 4)).block, (ad.add (k * 4)).off + 1, none⟩ = some (.int .u32 x.f1) ∧ w'.cell? ⟨(ad.add (k * 4)).block, (ad.add (k * 4)).off + 2, none⟩ = some (.int .u8 x.f2) ∧ w'.cell? ⟨(ad.add (k * 4)).block, (ad.add (k * 4)).off + 3, none⟩ = some (.string x.f3))) (ds := [8]) #[false, false, false, false, false, false, false, false, false, false, false] (by kernel_rfl) rfl rfl hs12 (fun hHeld => ?_)
            generalize w9.drew = wd at HBd hs12 hHeld ⊢
            refine pure_ (i := 0) (N := some 58) (v := ?_) (a' := ?_) #[true, false, false, false, false, false, false, false, false, false, false] rfl rfl (by kernel_rfl) (fun _ _ _ h => h) (Or.inl ⟨by rfl, ?_⟩) ?_ ?_
            rotate_left
            · intro w'
              go_simp
              with_reducible rfl
            rotate_left
            · simp only [Act.put, List.setIfInBounds_toArray, List.set_cons_zero, List.set_cons_succ, i64_w, i32_w]
              rfl
            refine pure_ (i := 1) (N := some 59) (v := ?_) (a' := ?_) #[true, true, false, false, false, false, false, false, false, false, false] rfl rfl (by kernel_rfl) (fun _ _ _ h => h) (Or.inl ⟨by rfl, ?_⟩) ?_ ?_
            rotate_left
            · intro w'
              go_simp
              with_reducible rfl
            rotate_left
            · simp only [Act.put, List.setIfInBounds_toArray, List.set_cons_zero, List.set_cons_succ, i64_w, i32_w]
              rfl
            refine pure_ (i := 2) (N := some 60) (v := ?_) (a' := ?_) #[true, true, true, false, false, false, false, false, false, false, false] rfl rfl (by kernel_rfl) (fun _ _ _ h => h) (Or.inl ⟨by rfl, ?_⟩) ?_ ?_
            rotate_left
            · intro w'
              go_simp
              with_reducible rfl
            rotate_left
            · simp only [Act.put, List.setIfInBounds_toArray, List.set_cons_zero, List.set_cons_succ, i64_w, i32_w]
              rfl
            refine take_ (i := 3) (N := some 61) (v := ?_) (a' := ?_) #[true, true, true, true, false, false, false, false, false, false, false] rfl rfl (by kernel_rfl) (fun _ _ _ h => h) (Or.inl ⟨by rfl, ?_⟩) hHeld ?_ ?_
            rotate_left
            · rintro w' ⟨h0_, h1_, h2_, h3_, h4_, h5_, h6_, h7_⟩
              go_simp
              with_reducible rfl
            rotate_left
            · simp only [Act.put, List.setIfInBounds_toArray, List.set_cons_zero, List.set_cons_succ, i64_w, i32_w]
              rfl
            refine pure_ (i := 4) (N := some 62) (v := ?_) (a' := ?_) #[true, true, true, true, true, false, false, false, false, false, false] rfl rfl (by kernel_rfl) (fun _ _ _ h => h) (Or.inl ⟨by rfl, ?_⟩) ?_ ?_
            rotate_left
            · intro w'
              go_simp
              with_reducible rfl
            rotate_left
            · simp only [Act.put, List.setIfInBounds_toArray, List.set_cons_zero, List.set_cons_succ, i64_w, i32_w]
              rfl
            refine pure_ (i := 5) (N := some 63) (v := ?_) (a' := ?_) #[true, true, true, true, true, true, false, false, false, false, false] rfl rfl (by kernel_rfl) (fun _ _ _ h => h) (Or.inl ⟨by rfl, ?_⟩) ?_ ?_
            rotate_left
            · intro w'
              go_simp
              with_reducible rfl
            rotate_left
            · simp only [Act.put, List.setIfInBounds_toArray, List.set_cons_zero, List.set_cons_succ, i64_w, i32_w]
              rfl
            refine pure_ (i := 6) (N := some 64) (v := ?_) (a' := ?_) #[true, true, true, true, true, true, true, false, false, false, false] rfl rfl (by kernel_rfl) (fun _ _ _ h => h) (Or.inl ⟨by rfl, ?_⟩) ?_ ?_
            rotate_left
            · intro w'
              go_simp
              with_reducible rfl
            rotate_left
            · simp only [Act.put, List.setIfInBounds_toArray, List.set_cons_zero, List.set_cons_succ, i64_w, i32_w]
              rfl
            refine take_ (i := 7) (N := some 65) (v := ?_) (a' := ?_) #[true, true, true, true, true, true, true, true, false, false, false] rfl rfl (by kernel_rfl) (fun _ _ _ h => h) (Or.inl ⟨by rfl, ?_⟩) hHeld ?_ ?_
            rotate_left
            · rintro w' ⟨h0_, h1_, h2_, h3_, h4_, h5_, h6_, h7_⟩
              go_simp
              with_reducible rfl
            rotate_left
            · simp only [Act.put, List.setIfInBounds_toArray, List.set_cons_zero, List.set_cons_succ, i64_w, i32_w]
              rfl
            refine last_ (i := 8) (N := some 66) #[true, true, true, true, true, true, true, true, true, false, false] rfl rfl (by kernel_rfl) (by decide) (fun K hK => ?_)
            refine goes_ Try.func11 (by kernel_rfl) rfl #[.agg #[.int .u32 z.f0, .int .u32 z.f1, .int .u8 z.f2, .string z.f3], .agg #[.int .u32 x.f0, .int .u32 x.f1, .int .u8 x.f2, .string x.f3]] (by rfl) rfl rfl (by (try simp only [List.map_toArray, List.map_cons, List.map_nil]); first | done | rfl) ?_
            (with_reducible refine (member_Cmp.calls z.f0 z.f1 z.f2 z.f3 x.f0 x.f1 x.f2 x.f3 q _ HCM.out).mono ?_)
            rintro e_ w10 ⟨rfl, hb8⟩
            have HB10 := Aside0.mk (below_step HBd.out hb8)
            clear hb8
            refine ⟨_, rfl, ?_⟩
            refine hK.out _ _ ?_
            clear hK K
            refine norm_ (a' := ?_) ?_ ?_
            rotate_left
            · show Act.put _ (some 66) _ = _
              simp only [Act.put, List.setIfInBounds_toArray, List.set_cons_zero, List.set_cons_succ, i64_w, i32_w]
              rfl
            refine pure_ (i := 9) (N := some 67) (v := ?_) (a' := ?_) #[true, true, true, true, true, true, true, true, true, true, false] rfl rfl (by kernel_rfl) (fun _ _ _ h => h) (Or.inl ⟨by rfl, ?_⟩) ?_ ?_
            rotate_left
            · intro w'
              go_simp
              with_reducible rfl
            rotate_left
            · simp only [Act.put, List.setIfInBounds_toArray, List.set_cons_zero, List.set_cons_succ, i64_w, i32_w]
              rfl
            refine pure_ (i := 10) (N := some 68) (v := ?_) (a' := ?_) #[true, true, true, true, true, true, true, true, true, true, true] rfl rfl (by kernel_rfl) (fun _ _ _ h => h) (Or.inl ⟨by rfl, ?_⟩) ?_ ?_
            rotate_left
            · intro w'
              go_simp
              with_reducible rfl
            rotate_left
            · simp only [Act.put, List.setIfInBounds_toArray, List.set_cons_zero, List.set_cons_succ, i64_w, i32_w]
              rfl
            refine done_ (by kernel_rfl) ?_
            try go_wp2
            go_roundw
            case rel => exact ⟨k + 1, by have := HLT.out; omega, by go_num, HB10⟩
            case measure => have := HLT.out; simp [intOf, wrap64]; omega
        · go_upto_region 15 with (first | (go_at_call 16; (with_reducible refine (list_calls _ g b L (HV6.out.below HB.out) (by have := HL32.out; omega)).mono ?_); rintro e w7 ⟨v, rfl, h1_, h2_⟩; obtain ⟨pp, cap, rfl, hcap, hcm, hpp⟩ := rowP h1_ rfl; have HP := Aside0.mk hpp; have HB7 := Aside0.mk (below_step (below_step HB6.out HB.out) h2_); clear h1_ h2_ hpp))
          have hL32 := HL32.out
          go_wp2
          go_loopw [11] (fun i wq => ∃ m : Nat, m ≤ L.length ∧ i = .int .i64 m ∧ Aside0 (Below w7.heap.size w7 wq)) (fun i _ => L.length - (intOf i).toNat)
          case atStart => exact ⟨0, Nat.zero_le _, rfl, ⟨Below.refl _ _⟩⟩
          case round =>
            obtain ⟨m, hm, rfl, HBq⟩ := hrel
            by_cases hlt2 : (m : Int) < (L.length : Int)
            · obtain ⟨gr, rfl, hrow, _⟩ := HP.out (by omega)
              have HLT2 := Aside0.mk (show m < L.length by omega)
              have hm0 : 0 ≤ (m : Int) := by omega
              obtain ⟨y, hy⟩ : ∃ y, L[m]? = some y := ⟨L[m]'(by omega), List.getElem?_eq_getElem (by omega)⟩
              have HY := Aside0.mk hy
              have HYL := Aside0.mk ((rot_mem l 0 y).1 (HT.out.sub y (List.mem_of_getElem? hy)).1)
              have HROW := Aside0.mk hrow
              clear hy hrow
              go_wp2
              go_loopw [12, 13] (fun vi vj wp => ∃ q : Nat, q ≤ l.length ∧ vi = .bool (seen l y q) ∧ vj = .int .i64 q ∧ Aside0 (Below w7.heap.size w7 wp)) (fun _ vj _ => l.length - (intOf vj).toNat)
              case atStart => exact ⟨0, Nat.zero_le _, rfl, rfl, HBq⟩
              case round =>
                obtain ⟨q, hq, rfl, rfl, HBp⟩ := hrel
                by_cases hlt3 : (q : Int) < (l.length : Int)
                · have HLT3 := Aside0.mk (show q < l.length by omega)
                  have hq0 : 0 ≤ (q : Int) := by omega
                  have HS := Aside0.mk (seen_succ l y q (by omega))
                  obtain ⟨ad, eA, x0_, x1_, x2_, x3_⟩ := at_T25 (Kd.C_below HC.out (below_step HB7.out HBp.out)) (q : Int) hq0 hlt3
                  cases eA
                  simp only [Int.toNat_natCast] at x0_ x1_ x2_ x3_
                  obtain ⟨x, hx⟩ : ∃ x, x = rd_T25 l (q : Int) := ⟨_, rfl⟩
                  rw [← hx] at HS x0_ x1_ x2_ x3_
                  clear hx
                  have c0 : wr.cell? ⟨gr, m * 4, none⟩ = some (.int .u32 y.f0) := (HROW.out.below HBp.out).at HY.out 0 (by omega) _ rfl
                  have c1 : wr.cell? ⟨gr, m * 4 + 1, none⟩ = some (.int .u32 y.f1) := (HROW.out.below HBp.out).at HY.out 1 (by omega) _ rfl
                  have c2 : wr.cell? ⟨gr, m * 4 + 2, none⟩ = some (.int .u8 y.f2) := (HROW.out.below HBp.out).at HY.out 2 (by omega) _ rfl
                  have c3 : wr.cell? ⟨gr, m * 4 + 3, none⟩ = some (.string y.f3) := (HROW.out.below HBp.out).at HY.out 3 (by omega) _ rfl
                  cases hs : seen l y q with
                  | true =>
                    rw [hs] at HS
                    go_wp2
                    repeat (go_quiet (fail); try go_wp2)
                    go_roundw
                    case rel => exact ⟨q + 1, by have := HLT3.out; omega, by rw [HS.out]; rfl, by go_num, ⟨by first | exact HBp.out | exact below_drew1 HBp.out | exact pw_below_drewN HBp.out _⟩⟩
                    case measure => have := HLT3.out; simp [intOf, wrap64]; omega
                  | false =>
                    rw [hs] at HS
                    go_wp2
                    repeat (go_quiet (fail); try go_wp2)
                    go_roundw
                    case rel => exact ⟨q + 1, by have := HLT3.out; omega, by rw [HS.out]; rfl, by go_num, ⟨by first | exact HBp.out | exact below_drew1 HBp.out | exact pw_below_drewN HBp.out _⟩⟩
                    case measure => have := HLT3.out; simp [intOf, wrap64]; omega
                · have eq : q = l.length := by omega
                  subst eq
                  have hs := seen_all l y HYL.out
                  rw [hs]
                  go_wp2
                  go_roundw
                  case rel => exact ⟨m + 1, by have := HLT2.out; omega, by go_num, HBp⟩
                  case measure => have := HLT2.out; simp [intOf, wrap64]; omega
            · go_wp2_with (first | (go_at_call 13; (with_reducible refine (wakes_true _).mono ?_); rintro e w8 ⟨rfl, h1_⟩; have HB8 := Aside0.mk (below_step (below_step HB7.out HBq.out) h1_); clear h1_))
              go_ret
              exact ⟨rfl, HB8.out⟩
end Go.Proofs.Ytognmibankcefaa.Print
