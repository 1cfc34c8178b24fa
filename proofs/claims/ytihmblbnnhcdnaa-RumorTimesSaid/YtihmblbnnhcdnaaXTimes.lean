/- RumorTimes, walked. -/
import Derived.Test.YtihmblbnnhcdnaaXVqM
namespace Go.Proofs.Ytihmblbnnhcdnaa.Print
open Go.RowKit Go.Maps Go.ChangeMaps Go.Proofs.YtihmblbnnhcdnaaW.PrintWords Go.Proofs.YtihmblbnnhcdnaaW.PrintLast Go.Proofs.YtihmblbnnhcdnaaW.PrintMore
set_option linter.unusedVariables false
set_option linter.unusedSimpArgs false
attribute [local go_sem high] eqA33
theorem add_sent {L : List One} {nx : Int} {m : Mem} (h : ∀ x ∈ L, x.sent = 0) : ∀ x ∈ (addL L nx m).2.2.1, x.sent = 0 := by
  unfold addL
  split
  · exact h
  · split
    · split
      · exact h
      · intro x hx
        rcases List.mem_cons.1 hx with rfl | hx
        · rfl
        · exact h x ((out_sub L m.f0).subset hx)
    · intro x hx
      rcases List.mem_cons.1 hx with rfl | hx
      · rfl
      · exact h x hx
theorem eq_same (y : Mem) (w : World) : (binOp .eql 33 (.agg #[.int .u32 y.f0, .int .u32 y.f1, .int .u8 y.f2, .string y.f3]) (.agg #[.int .u32 y.f0, .int .u32 y.f1, .int .u8 y.f2, .string y.f3])).run Try.prog w = .ok (.bool true) w := by
  go_simp
theorem eq_far (y x : Mem) (h : y.f0 ≠ x.f0) (w : World) : (binOp .eql 33 (.agg #[.int .u32 y.f0, .int .u32 y.f1, .int .u8 y.f2, .string y.f3]) (.agg #[.int .u32 x.f0, .int .u32 x.f1, .int .u8 x.f2, .string x.f3])).run Try.prog w = .ok (.bool false) w := by
  have hb : (y.f0 == x.f0) = false := by simpa using h
  go_simp
theorem info_i64 : (Try.prog.info? 3).map (fun i => (i.zero, i.size, i.bytes)) = some (some (.int .i64 0), 1, 8) := by kernel_rfl
theorem at_B {w : World} {A : Option Addr} {n : Nat} {xs : List Int} (h : (Kd.int .u8).C w A n xs) {i : Nat} {x : Int} (hx : xs[i]? = some x) : ∃ ad, A = some ad ∧ w.cell? (ad.add i) = some (.int .u8 x) := by
  have hil : i < xs.length := (List.getElem?_eq_some_iff.1 hx).1
  have hn : xs.length = n := h.1
  obtain ⟨ad, c, e, _, hK, hc0⟩ := Kd.C_get h 0 (i : Int) (by omega) (by omega)
  have e9 : xs.getD ((i : Int)).toNat 0 = x := by rw [Int.toNat_natCast, List.getD_eq_getElem?_getD, hx]; rfl
  rw [e9] at hK
  rw [Int.toNat_natCast] at hc0
  have hc : ∀ j u, c[j]? = some u → w.cell? (ad.add (i * 1 + j)) = some u := hc0
  have hK' : c = [.int .u8 x] := hK
  subst hK'
  have h0 := hc 0 _ rfl
  rw [Nat.mul_one, Nat.add_zero] at h0
  exact ⟨ad, e, h0⟩
theorem RT_at {W : World} {base n c : Nat} {At : Option Addr} {xs : List Int} (h : (Kd.int .i64).R 3 W base (fun _ => True) (.slice At n c) xs) {i : Nat} {x : Int} (hx : xs[i]? = some x) : ∃ gt, At = some ⟨gt, 0, none⟩ ∧ W.cell? ⟨gt, i, none⟩ = some (.int .i64 x) ∧ W.frozen? ⟨gt, i, none⟩ = false ∧ gt < W.heap.size ∧ (∀ z : Int, (Kd.int .i64).R 3 (W.setCell ⟨gt, i, none⟩ (.int .i64 z)) base (fun _ => True) (.slice At n c) (xs.set i z)) := by
  have hil : i < xs.length := (List.getElem?_eq_some_iff.1 hx).1
  obtain ⟨hn, _, _⟩ := Kd.R_reads' h
  obtain ⟨gt, cap, e, _, hlt, _⟩ := Kd.R_form h (by omega)
  injection e with e1 e2 e3
  subst e1
  subst e3
  subst hn
  obtain ⟨h1, h2⟩ := Kd.R_cell 0 h (i : Int) (by omega) (by omega)
  have e5 : rdOf 0 xs (i : Int) = x := by
    unfold rdOf
    rw [Int.toNat_natCast, List.getD_eq_getElem?_getD, hx]; rfl
  rw [e5, Int.toNat_natCast] at h1
  rw [Int.toNat_natCast] at h2
  refine ⟨gt, rfl, h1, h2, hlt, fun z => ?_⟩
  have h3 := (Kd.R_put h (i : Int) z).1
  rw [Int.toNat_natCast] at h3
  exact h3
theorem RI_kp {W W' : World} {base : Nat} {v : Value} {xs : List Int} {S : Nat → Prop} (h : (Kd.int .i64).R 3 W base (fun _ => True) v xs) (hk : Kp W W' S) (hS : ∀ k, v.ownBlock = some k → ¬ S k) : (Kd.int .i64).R 3 W' base (fun _ => True) v xs := by
  have h1 : (Kd.int .i64).R 3 W base (fun k => v.ownBlock = some k) v xs := ⟨fun k hk => hk, h.2.imp_ (fun _ _ hp => hp)⟩
  exact Kd.R_mono (Kd.R_step h1 (fun k ho hlt => hk.block k hlt (hS k ho))) (fun _ _ => trivial)
theorem Qs.notQ {w : World} {g mb : Nat} {t last : Int} {v : Value} {hs : Hs} {L : List One} (h : Qs w g mb t last v hs L) {k : Nat} {cells : Array Value} {tt : TypeId} (hc : w.heap[k]? = some (.cells cells tt (0, 0))) (h1 : tt ≠ 57 ∧ tt ≠ 62 ∧ tt ≠ 66) : ¬ QB g mb v hs k := fun hk => by
  rcases h.typ hk hc with e | e | e
  · exact h1.1 e
  · exact h1.2.1 e
  · exact h1.2.2 e
/-- the blocks of two rows of other types -/
theorem rows_ne {w : World} {b1 b2 : Nat} {v1 v2 : Value} {xs : List Mem} {ys : List Int} (h1 : Kd.R k33 33 w b1 (fun _ => True) v1 xs) (h2 : (Kd.int .i64).R 3 w b2 (fun _ => True) v2 ys) : ∀ j, v1.ownBlock = some j → ¬ v2.ownBlock = some j := fun j hj hj' => by
  obtain ⟨cells, hc⟩ := Kd.R_typed h1 j hj
  obtain ⟨cells', hc'⟩ := Kd.R_typed h2 j hj'
  exact blk_ne hc hc' (by decide) rfl
theorem f_zero (f : Mem → Int) (G : List Mem) : (fun y : Mem => f y + cnt (G.take 0) y.f0) = f := by
  funext y
  rw [List.take_zero, cnt_nil]
  omega
theorem nodup_far {G : List Mem} (hn : (G.map (·.f0)).Nodup) {r s : Nat} {a b : Mem} (hr : G[r]? = some a) (hs : G[s]? = some b) (h : s < r) : a.f0 ≠ b.f0 := by
  intro e
  have h1 : b ∈ G.take r := by
    have : (G.take r)[s]? = some b := by rw [List.getElem?_take, if_pos h]; exact hs
    exact List.mem_of_getElem? this
  exact take_fresh hn hr b h1 e.symm
theorem take_cnt {G : List Mem} {r : Nat} {m : Mem} (h : G[r]? = some m) (a : Int) : cnt (G.take (r + 1)) a = cnt (G.take r) a + (if m.f0 = a then 1 else 0) := by
  rw [List.take_add_one, h]
  exact cnt_snoc m _ a
theorem rises_at {V : List Mem} (h : Rises V) {b q : Nat} {x y : Mem} (hb : V[b]? = some y) (hq : V[q]? = some x) (hne : b ≠ q) : y.f0 ≠ x.f0 := by
  obtain ⟨hb', eb⟩ := List.getElem?_eq_some_iff.1 hb
  obtain ⟨hq', eq⟩ := List.getElem?_eq_some_iff.1 hq
  intro e
  have h2 := List.pairwise_iff_getElem.1 h
  rcases Nat.lt_or_gt_of_ne hne with hlt | hlt
  · have := h2 b q hb' hq' hlt; rw [eb, eq] at this; omega
  · have := h2 q b hq' hb' hlt; rw [eb, eq] at this; omega
set_option maxHeartbeats 40000000 in
set_option maxRecDepth 100000 in
theorem times_law (w : World) (tm : Int) (A : Option Addr) (c : Nat) (l : List Mem) (B : Option Addr) (cb : Nat) (bs : List Int) (htm : 0 ≤ tm ∧ tm ≤ 255) (hC : Kd.C k33 w A l.length l) (hc : l.length ≤ c) (hwf : ∀ x ∈ l, Opens.wfM x) (hB : (Kd.int .u8).C w B bs.length bs) (hcb : bs.length ≤ cb) (hbw : ∀ b ∈ bs, 0 ≤ b ∧ b ≤ 255) (hbl : bs.length ≤ 281474976710656) :
    Calls Try.prog 5 #[.int .u8 tm, .slice A l.length c, .slice B bs.length cb] w fun e w' => e = .returned (.bool true) ∧ Below w.heap.size w w' := by
  have hu33 := Try.underlying33
  have HC := Aside0.mk hC
  have HWF := Aside0.mk hwf
  have HBC := Aside0.mk hB
  have HBW := Aside0.mk hbw
  clear hC hwf hB hbw
  by_cases hbig : (l.length : Int) > 60
  · go_enter Try.func5, Try.ntmps5
    go_wp2_with (first | (go_at_call 7; (with_reducible refine (wakesR_true _).mono ?_); rintro e w1 ⟨rfl, h1_⟩; have HB1 := Aside0.mk h1_; clear h1_))
    go_ret
    exact ⟨rfl, HB1.out⟩
  · have hl60 : l.length ≤ 60 := by omega
    obtain ⟨K, hKd⟩ : ∃ K, K = tm % 64 + 1 := ⟨_, rfl⟩
    have HK : Aside0 (1 ≤ K ∧ K ≤ 64) := ⟨by omega⟩
    obtain ⟨h255, h0⟩ := And.intro htm.2 htm.1
    clear htm
    go_enter Try.func5, Try.ntmps5
    go_upto_region 4 with (fail)
    simp only [← hKd]
    clear hKd h255 h0
    go_upto_region 5 with (first | (go_at_call 8; (with_reducible refine (newq_s _ K HK.out.1 HK.out.2).mono ?_); rintro e w1 ⟨g, mb, v, hs, rfl, h1_, h2_, h3_⟩; have HQ1 := Aside0.mk h1_; have HG1 := Aside0.mk h2_; have HB1 := Aside0.mk h3_; clear h1_ h2_ h3_))
    go_upto_region 8 with (first | (go_at_call 20; (with_reducible refine (new_calls _).mono ?_); rintro e w2 ⟨gv, bv, rfl, h1_, h2_, h3_, h4_⟩; have HV2 := Aside0.mk h1_; have HGV := Aside0.mk (And.intro (Nat.le_trans HB1.out.size h2_) (Nat.le_trans HB1.out.size h3_)); have HNE := Aside0.mk (show bv ≠ mb from fun e => by have := HQ1.out.lt (Or.inr (Or.inl rfl)); omega); have HQ2 := Aside0.mk (HQ1.out.below h4_); have HB2 := Aside0.mk (below_step HB1.out h4_); clear h1_ h2_ h3_ h4_ HQ1 HB1))
    go_wp2
    go_loopw [11] (fun i wr => ∃ (k : Nat) (v : Value) (hs : Hs) (last : Int) (L : List One) (V : List Mem), k ≤ l.length ∧ i = .int .i64 k ∧ Aside0 (Qs wr g mb K last v hs L) ∧ Aside0 (Vw wr gv bv V) ∧ Aside0 ((memsL L).Perm V ∧ V.length ≤ k ∧ last ≤ (k : Int) ∧ ∀ x ∈ L, x.sent = 0) ∧ Aside0 (Below w.heap.size w wr) ∧ Aside0 (∀ j, QB g mb v hs j → w.heap.size ≤ j)) (fun i _ => l.length - (intOf i).toNat)
    case atStart => exact ⟨0, v, hs, 0, [], [], Nat.zero_le _, rfl, HQ2, HV2, ⟨List.Perm.refl _, Nat.le_refl _, by simp, fun x hx => by cases hx⟩, HB2, HG1⟩
    case round =>
      clear HQ2 HV2 HB2 HG1
      obtain ⟨k, v, hs, last, L, V, hk, rfl, HQ, HV, HL, HB, HG⟩ := hrel
      by_cases hlt : (k : Int) < (l.length : Int)
      · have HLT := Aside0.mk (show k < l.length by omega)
        obtain ⟨x, hx⟩ : ∃ x, l[k]? = some x := ⟨l[k]'(by omega), List.getElem?_eq_getElem (by omega)⟩
        obtain ⟨ad, eA, x0_, x1_, x2_, x3_⟩ := at_M (Kd.C_below HC.out HB.out) hx
        cases eA
        have HAT := Aside0.mk (fun W (hW : Below w.heap.size w W) => show W.cell? (ad.add (k * 4)) = some (.int .u32 x.f0) ∧ W.cell? ⟨(ad.add (k * 4)).block, (ad.add (k * 4)).off + 1, none⟩ = some (.int .u32 x.f1) ∧ W.cell? ⟨(ad.add (k * 4)).block, (ad.add (k * 4)).off + 2, none⟩ = some (.int .u8 x.f2) ∧ W.cell? ⟨(ad.add (k * 4)).block, (ad.add (k * 4)).off + 3, none⟩ = some (.string x.f3) from by
          obtain ⟨ad', e', h'⟩ := at_M (Kd.C_below HC.out hW) hx
          cases e'
          exact h')
        have HX := Aside0.mk (HWF.out x (List.mem_of_getElem? hx))
        have hk0 : 0 ≤ (k : Int) := by omega
        clear hx
        have HMC := Aside0.mk (merge_m wr gv bv V x HX.out.1.1 HX.out.1.2 HV.out (by have := HL.out.2.1; omega))
        obtain ⟨b, f, V', hmer⟩ : ∃ b f V', mergeM V x = (b, f, V') := ⟨_, _, _, rfl⟩
        have HMR := Aside0.mk hmer
        rw [hmer] at HMC
        clear hmer
        go_upto_region 12 with (first | (go_at_call 21; refine HMC.out.mono ?_; rintro e w3 ⟨rfl, h1_, h2_⟩; have HV3 := Aside0.mk h1_; have HF3 := Aside0.mk (VF.kp h2_); clear h1_ h2_ HMC x0_ x1_ x2_ x3_))
        have HB3 := Aside0.mk (HB.out.trans (HF3.out.below HB.out.size (fun j hj => by rw [hj]; exact HGV.out.2)))
        by_cases hf3 : f = 3
        · subst hf3
          go_wp2_with (first | (go_at_call 7; (with_reducible refine (wakesR_true _).mono ?_); rintro e w4 ⟨rfl, h1_⟩; have HB4 := Aside0.mk (below_step HB3.out h1_); clear h1_))
          go_ret
          exact ⟨rfl, HB4.out⟩
        · have hfb : (f == 3) = false := by simpa using hf3
          have HQ3 := Aside0.mk (HQ.out.kp HF3.out (fun j hj e => (vq_dis HQ.out HV.out HNE.out).2 (e ▸ hj)))
          obtain ⟨a, er, L', last', hadd⟩ : ∃ a er L' last', addL L last x = (a, er, L', last') := ⟨_, _, _, _, rfl⟩
          have hts := told_same (nx := last) HV.out.ord HL.out.1 x (Or.inr (by rw [HMR.out]; intro e; injection e with _ e; injection e with e; exact hf3 e))
          have HAL := Aside0.mk (add_len (t := K) (last := last) (L := L) x)
          have HQC := Aside0.mk (addq_s w3 g mb K last v hs L x HQ3.out HX.out.1 (by have := HL.out; omega))
          have HSN := Aside0.mk (add_sent (nx := last) (m := x) HL.out.2.2.2)
          rw [hadd] at hts HQC HAL HSN
          rw [HMR.out] at hts
          have HTS := Aside0.mk (And.intro hts.2.2.1 hts.2.2.2.2)
          clear hts hadd hf3
          obtain ⟨x0_, x1_, x2_, x3_⟩ := HAT.out _ HB3.out
          go_wp2_with (first | (go_at_call 10; refine HQC.out.mono ?_; rintro e w4 ⟨v4, hs4, rfl, h1_, h2_, h3_⟩; have HQ4 := Aside0.mk h1_; have HK4 := Aside0.mk h2_; have HN4 := Aside0.mk h3_; clear h1_ h2_ h3_ HQC x0_ x1_ x2_ x3_))
          have HB4 := Aside0.mk (HB3.out.trans (HK4.out.below HB3.out.size HG.out))
          have HV4 := Aside0.mk (HV3.out.kp HK4.out (vq_dis HQ3.out HV3.out HNE.out).1 (vq_dis HQ3.out HV3.out HNE.out).2)
          have HG4 : Aside0 (∀ j, QB g mb v4 hs4 j → w.heap.size ≤ j) := ⟨fun j hj => (HN4.out j hj).elim (HG.out j) (fun h => Nat.le_trans HB3.out.size h)⟩
          go_roundw
          case rel => exact ⟨k + 1, v4, hs4, last', L', V', by have := HLT.out; omega, by go_num, HQ4, HV4, ⟨HTS.out.1, by have := HTS.out.2; have := HL.out.2.1; omega, by have := HAL.out; have := HL.out.2.2.1; omega, HSN.out⟩, HB4, HG4⟩
          case measure => have := HLT.out; simp [intOf, wrap64]; omega
      · obtain rfl : k = l.length := by omega
        have HVL := Aside0.mk (show V.length ≤ 60 by have := HL.out.2.1; omega)
        have hvl := HVL.out
        have HTD := Aside0.mk (Told.start (K := K) HL.out.1 HL.out.2.2.2)
        have HVR := Aside0.mk HV.out.ord
        have HLA := Aside0.mk (show last ≤ 60 by have := HL.out.2.2.1; omega)
        go_upto_region 16 with (first | (go_at_call 22; (with_reducible refine (list_m _ gv bv V HV.out (by have := HVL.out; omega)).mono ?_); rintro e w3 ⟨A3, c3, rfl, h1_, h2_⟩; have HW3 := Aside0.mk (Kd.R_lower h1_ HB.out.size); have HQ3 := Aside0.mk (HQ.out.below h2_); have HB3 := Aside0.mk (below_step HB.out h2_); clear h1_ h2_))
        clear HQ HV HL HB
        have HRK := HK.out
        obtain ⟨MO, hMO⟩ : ∃ MO, MO = K * (V.length : Int) := ⟨_, rfl⟩
        have hmo : 0 ≤ MO ∧ MO ≤ 3840 := by
          rw [hMO]
          constructor
          · exact Int.mul_nonneg (by omega) (by omega)
          · exact Int.le_trans (Int.mul_le_mul (show K ≤ 64 from HRK.2) (show (V.length : Int) ≤ 60 by omega) (by omega) (by omega)) (by decide)
        have hmw : wrap64 (K * (V.length : Int)) = MO := by rw [← hMO]; unfold wrap64; omega
        have HMO := Aside0.mk hMO
        have HMB := Aside0.mk hmo
        have HRKa := Aside0.mk HRK
        clear hMO HRK
        go_wp2_with ((with_reducible refine gate_dst (N := 69) rfl ?_); refine stop_ ?_)
        refine StopAt.mk ?_
        refine Kd.R_make (Kd.int .i64) (w0 := w) w.heap.size 3 ?hg (N := 69) ?hd 49 (.tmp 68) (.tmp 68) ?ho (V.length : Int) ?hx ?hy Try.underlying49 (.int .i64 0) 8 info_i64 rfl (by decide) (by omega) 0 (ok := fun _ => True) (okp := fun _ => True) rfl (fun _ h => h) trivial (by omega) (by rw [Int.toNat_natCast]; omega) HB3.out HB3.out.size ?_
        case hg => rfl
        case hd => rfl
        case ho => rfl
        case hx => rfl
        case hy => rfl
        intro v69 w4 hr4_ hb4_ hg4_ ha4_
        rw [Int.toNat_natCast] at hr4_
        obtain ⟨At, ct, e4⟩ := Kd.R_slice hr4_
        rw [List.length_replicate] at e4
        subst e4
        have hbb : Below w3.heap.size w3 w4 := ⟨hg4_.os, hg4_.tape, hg4_.output, hg4_.size, fun i hi => hg4_.block i hi (by simp)⟩
        have HT4 : Aside0 ((Kd.int .i64).R 3 w4 w.heap.size (fun _ => True) (.slice At V.length ct) (V.map (fun _ => 0))) := ⟨by rw [List.map_const']; exact hr4_⟩
        have HB4 := Aside0.mk hb4_
        have HQ4 := Aside0.mk (HQ3.out.below hbb)
        have HW4 := Aside0.mk (Kd.R_below HW3.out hbb)
        clear hr4_ hb4_ hg4_ ha4_ hbb HQ3 HW3 HB3
        go_upto_region 18 with (fail)
        simp only [hmw]
        clear hmw
        go_wp2
        go_loopw [17] (fun u wr2 => ∃ (k : Nat) (v : Value) (hs : Hs) (L : List One) (f : Mem → Int), (k : Int) ≤ MO ∧ u = .int .i64 k ∧ Aside0 (Qs wr2 g mb K last v hs L) ∧ Aside0 (Told K V L f) ∧ Aside0 ((k : Int) ≤ sumI (V.map f)) ∧ Aside0 ((Kd.int .i64).R 3 wr2 w.heap.size (fun _ => True) (.slice At V.length ct) (V.map f)) ∧ Aside0 (Kd.R k33 33 wr2 w.heap.size (fun _ => True) (.slice A3 V.length c3) V) ∧ Aside0 (Below w.heap.size w wr2) ∧ Aside0 (∀ j, QB g mb v hs j → w.heap.size ≤ j)) (fun u _ => MO.toNat - (intOf u).toNat)
        case atStart => exact ⟨0, v, hs, L, fun _ => 0, by have := HMB.out; omega, rfl, HQ4, HTD, ⟨by have h1 := sum_const V 0; rw [h1]; simp⟩, HT4, HW4, HB4, HG⟩
        case round =>
          clear HQ4 HTD HT4 HW4 HB4 HG
          clear v hs L
          obtain ⟨k, v, hs, L, f, hk, rfl, HQ, HTL, HSU, HRT, HWR, HB, HG⟩ := hrel
          by_cases hkm : (k : Int) < MO
          · have HKM := Aside0.mk hkm
            have HLC := Aside0.mk (listq_m wr g mb K last v hs L HQ.out (by have := HLA.out; omega))
            by_cases hLn : L = []
            · subst hLn
              have hl0 : ¬ (((memsL []).length : Nat) : Int) > 0 := by simp [memsL]
              go_upto_region 44 with (first | (go_at_call 16; refine HLC.out.mono ?_; rintro e w5 ⟨A5, c5, rfl, h1_, h2_⟩; have HQ5 := Aside0.mk (HQ.out.below h2_); have HRT5 := Aside0.mk (Kd.R_below HRT.out h2_); have HB5 := Aside0.mk (below_step HB.out h2_); clear h1_ h2_ HLC))
              clear HQ HRT HB
              have HQ := HQ5
              have HRT := HRT5
              have HB := HB5
              clear HQ5 HRT5 HB5 hl0
              have HD := Aside0.mk (fun y (hy : y ∈ V) => HTL.out.done y hy)
              go_wp2
              go_loopw [24] (fun u we => ∃ j : Nat, j ≤ V.length ∧ u = .int .i64 j ∧ we = w5) (fun u _ => V.length - (intOf u).toNat)
              case atStart => exact ⟨0, Nat.zero_le _, rfl, rfl⟩
              case round =>
                obtain ⟨j, hj, rfl, rfl⟩ := hrel
                by_cases hjt : (j : Int) < (V.length : Int)
                · have HJT := Aside0.mk (show j < V.length by omega)
                  obtain ⟨y, hy⟩ : ∃ y, V[j]? = some y := ⟨V[j]'(by omega), List.getElem?_eq_getElem (by omega)⟩
                  have hfy := HD.out y (List.mem_of_getElem? hy)
                  obtain ⟨gt, eT, t0_, _, _, _⟩ := RT_at HRT.out (i := j) (x := K) (by rw [List.getElem?_map, hy]; exact congrArg some hfy)
                  cases eT
                  have hj0 : 0 ≤ (j : Int) := by omega
                  have hKK : (K != K) = false := by simp
                  clear hy hfy
                  go_wp2
                  go_roundw
                  case rel => exact ⟨j + 1, by have := HJT.out; omega, by go_num, by trivial⟩
                  case measure => have := HJT.out; simp [intOf, wrap64]; omega
                · have HLC := Aside0.mk (listq_m _ g mb K last v hs [] HQ.out (by have := HLA.out; omega))
                  go_wp2_with (first
                    | (go_at_call 16; refine HLC.out.mono ?_; rintro e w8 ⟨A8, c8, rfl, h1_, h2_⟩; have HB8 := Aside0.mk (below_step HB.out h2_); clear h1_ h2_ HLC)
                    | (go_at_call 7; (with_reducible refine (wakesR_true _).mono ?_); rintro e w9 ⟨rfl, h1_⟩; have HB9 := Aside0.mk (below_step HB8.out h1_); clear h1_))
                  go_ret
                  exact ⟨rfl, HB9.out⟩
            · have HLP : Aside0 (0 < L.length) := ⟨List.length_pos_iff.2 hLn⟩
              have hl0 : (((memsL L).length : Nat) : Int) > 0 := by rw [memsL_len]; have := HLP.out; omega
              clear hLn
              go_upto_region 21 with (first | (go_at_call 16; refine HLC.out.mono ?_; rintro e w5 ⟨A5, c5, rfl, h1_, h2_⟩; have HQ5 := Aside0.mk (HQ.out.below h2_); have HRT5 := Aside0.mk (Kd.R_below HRT.out h2_); have HWR5 := Aside0.mk (Kd.R_below HWR.out h2_); have HB5 := Aside0.mk (below_step HB.out h2_); clear h1_ h2_ HLC))
              clear HQ HRT HB HWR
              have HQ := HQ5
              have HRT := HRT5
              have HWR := HWR5
              have HB := HB5
              clear HQ5 HRT5 HB5 HWR5 hl0
              have hk0 : 0 ≤ (k : Int) := by omega
              by_cases hkb : (k : Int) < (bs.length : Int)
              · obtain ⟨bb, hbb⟩ : ∃ bb, bs[k]? = some bb := ⟨bs[k]'(by omega), List.getElem?_eq_getElem (by omega)⟩
                obtain ⟨adb, eB, b0_⟩ := at_B (Kd.C_below HBC.out HB.out) hbb
                cases eB
                have hb1 := HBW.out bb (List.mem_of_getElem? hbb)
                obtain ⟨hb255, hb00⟩ := And.intro hb1.2 hb1.1
                obtain ⟨NN, hNN⟩ : ∃ NN, NN = bb % 9 + 1 := ⟨_, rfl⟩
                have HNN := Aside0.mk (show 1 ≤ NN by omega)
                clear hbb hb1
                go_upto_region 24 with (fail)
                simp only [← hNN]
                clear hNN hb255 hb00 b0_
                have HTC := Aside0.mk (takeq_m w5 g mb K last v hs L NN HQ.out (by have := HLA.out; omega))
                have HTLd := Aside0.mk (HTL.out.take HQ.out.al NN)
                have HGL := Aside0.mk (show 0 < (tookL L NN).length ∧ ((tookL L NN).length : Int) ≤ NN by rw [tookL_len]; unfold takeN; have := HLP.out; have := HNN.out; omega)
                have HSM := Aside0.mk (HTL.out.more HQ.out.al NN HGL.out.1)
                have HND := Aside0.mk (took_nodup HQ.out.al NN)
                have HIN := Aside0.mk (took_in (last := last) HTL.out NN)
                have HFB := Aside0.mk (HTL.out.bd HQ.out.al HK.out.1)
                obtain ⟨G, hG⟩ : ∃ G, G = tookL L NN := ⟨_, rfl⟩
                rw [← hG] at HGL HSM HND HIN HTC HTLd
                have HGE := Aside0.mk (show G.length ≤ 60 by rw [hG, tookL_len]; unfold takeN; have := HQ.out.len; have := HLA.out; omega)
                clear hG
                go_upto_region 25 with (first | (go_at_call 13; refine HTC.out.mono ?_; rintro e w6 ⟨A6, c6, v6, hs6, rfl, h0_, h1_, h2_, h3_⟩; have HO6 := Aside0.mk h0_; have HQ6 := Aside0.mk h1_; have HK6 := Aside0.mk h2_; have HN6 := Aside0.mk h3_; clear h0_ h1_ h2_ h3_ HTC))
                have HB6 := Aside0.mk (HB.out.trans (HK6.out.below HB.out.size HG.out))
                have HW6 := Aside0.mk (RM_kp HWR.out HK6.out (fun j hj => by obtain ⟨cells, hc⟩ := Kd.R_typed HWR.out j hj; exact HQ.out.notQ hc (by decide)))
                have HT6 := Aside0.mk (RI_kp HRT.out HK6.out (fun j hj => by obtain ⟨cells, hc⟩ := Kd.R_typed HRT.out j hj; exact HQ.out.notQ hc (by decide)))
                have HG6 : Aside0 (∀ j, QB g mb v6 hs6 j → w.heap.size ≤ j) := ⟨fun j hj => (HN6.out j hj).elim (HG.out j) (fun h => Nat.le_trans HB.out.size h)⟩
                have hg1_ : ¬ (G.length : Int) < 1 := by have := HGL.out.1; omega
                have hg2_ : ¬ (G.length : Int) > NN := by have := HGL.out.2; omega
                have hge_ := HGE.out
                clear HRT HWR HQ HB HG HTL HK6 HN6
                go_upto_region 27 with (fail)
                clear hg1_ hg2_
                go_wp2
                go_loopw [20] (fun u wa => ∃ r : Nat, r ≤ G.length ∧ u = .int .i64 r ∧ Aside0 ((Kd.int .i64).R 3 wa w.heap.size (fun _ => True) (.slice At V.length ct) (V.map (fun y => f y + cnt (G.take r) y.f0))) ∧ Aside0 (Kp w6 wa (fun j => (Value.slice At V.length ct).ownBlock = some j))) (fun u _ => G.length - (intOf u).toNat)
                case atStart => exact ⟨0, Nat.zero_le _, rfl, ⟨by rw [f_zero]; exact HT6.out⟩, ⟨Kp.of (Below.refl _ _)⟩⟩
                case round =>
                  obtain ⟨r, hr, rfl, HTa, HKa⟩ := hrel
                  by_cases hrt : (r : Int) < (G.length : Int)
                  · have HRL := Aside0.mk (show r < G.length by omega)
                    obtain ⟨m, hm⟩ : ∃ m, G[r]? = some m := ⟨G[r]'(by omega), List.getElem?_eq_getElem (by omega)⟩
                    have HM := Aside0.mk hm
                    have HOa := Aside0.mk (RM_kp HO6.out HKa.out (rows_ne HO6.out HT6.out))
                    have HWa := Aside0.mk (RM_kp HW6.out HKa.out (rows_ne HW6.out HT6.out))
                    have hr0 : 0 ≤ (r : Int) := by omega
                    have hr9 : r ≤ 60 := by omega
                    clear hm
                    go_wp2
                    go_loopw [21] (fun u wb => ∃ s : Nat, s ≤ r ∧ u = .int .i64 s ∧ Drawn0 wr wb) (fun u _ => r - (intOf u).toNat)
                    case atStart => exact ⟨0, Nat.zero_le _, rfl, Drawn0.refl _⟩
                    case round =>
                      obtain ⟨s, hs_, rfl, ⟨nq0, rfl⟩⟩ := hrel
                      by_cases hst : (s : Int) < (r : Int)
                      · have HSL := Aside0.mk (show s < r by omega)
                        obtain ⟨m', hm'⟩ : ∃ m', G[s]? = some m' := ⟨G[s]'(by omega), List.getElem?_eq_getElem (by omega)⟩
                        obtain ⟨ad, eA, a0_, _, _, _⟩ := at_M (Kd.R_reads' HOa.out).2.2 HM.out
                        obtain ⟨ad', eA', b0_, _, _, _⟩ := at_M (Kd.R_reads' HOa.out).2.2 hm'
                        have hfar := nodup_far HND.out HM.out hm' HSL.out
                        have hfb : (m.f0 == m'.f0) = false := by simpa using hfar
                        have hs0 : 0 ≤ (s : Int) := by omega
                        have hsg : (s : Int) < (G.length : Int) := by omega
                        rw [eA] at eA'
                        injection eA' with eA'
                        subst eA'
                        subst eA
                        clear hm' hfar
                        go_wp2
                        go_big_quiet (fail)
                        go_wp2
                        go_roundw
                        case rel => exact ⟨s + 1, by have := HSL.out; omega, by go_num, by repeat (first | exact Drawn0.refl _ | apply Drawn0.step)⟩
                        case measure => have := HSL.out; simp [intOf, wrap64]; omega
                      · have hbn := pw_below_drewN (Below.refl wr.heap.size wr) nq0
                        have HOb := Aside0.mk (Kd.R_below HOa.out hbn)
                        have HWb := Aside0.mk (Kd.R_below HWa.out hbn)
                        have HTb := Aside0.mk (Kd.R_below HTa.out hbn)
                        have HKb := Aside0.mk (HKa.out.trans (Kp.of (S := fun _ => False) hbn) (fun _ _ h => h.elim))
                        clear hbn HOa HWa HTa HKa
                        generalize wr.drewN nq0 = wb at HOb HWb HTb HKb ⊢
                        obtain ⟨q, hq, eq⟩ := List.getElem_of_mem (HIN.out m (List.mem_of_getElem? HM.out))
                        have HQI : Aside0 (V[q]? = some m) := ⟨by rw [List.getElem?_eq_getElem hq, eq]⟩
                        have HQL := Aside0.mk hq
                        clear eq hq
                        go_wp2
                        go_loopw [22, 23] (fun ui ub wc => ∃ b : Nat, b ≤ V.length ∧ ui = .bool (decide (q < b)) ∧ ub = .int .i64 b ∧ Aside0 ((Kd.int .i64).R 3 wc w.heap.size (fun _ => True) (.slice At V.length ct) (mixT V (fun y => f y + cnt (G.take r) y.f0) (fun y => f y + cnt (G.take (r + 1)) y.f0) b)) ∧ Aside0 (Kp w6 wc (fun j => (Value.slice At V.length ct).ownBlock = some j))) (fun _ ub _ => V.length - (intOf ub).toNat)
                        case atStart => exact ⟨0, Nat.zero_le _, by simp, rfl, ⟨by rw [mix_zero]; exact HTb.out⟩, HKb⟩
                        case round =>
                          clear HOb HWb HTb HKb
                          obtain ⟨b, hb, rfl, rfl, HTc, HKc⟩ := hrel
                          by_cases hbt : (b : Int) < (V.length : Int)
                          · have HBL := Aside0.mk (show b < V.length by omega)
                            obtain ⟨y, hy⟩ : ∃ y, V[b]? = some y := ⟨V[b]'(by omega), List.getElem?_eq_getElem (by omega)⟩
                            have HY := Aside0.mk hy
                            have HOc := Aside0.mk (RM_kp HO6.out HKc.out (rows_ne HO6.out HT6.out))
                            have HWc := Aside0.mk (RM_kp HW6.out HKc.out (rows_ne HW6.out HT6.out))
                            obtain ⟨ad, eA, a0_, a1_, a2_, a3_⟩ := at_M (Kd.R_reads' HOc.out).2.2 HM.out
                            obtain ⟨ae, eE, e0_, e1_, e2_, e3_⟩ := at_M (Kd.R_reads' HWc.out).2.2 HY.out
                            subst eA
                            subst eE
                            have hb0 : 0 ≤ (b : Int) := by omega
                            have hrg : (r : Int) < (G.length : Int) := by have := HRL.out; omega
                            clear hy
                            by_cases hbq : b = q
                            · subst hbq
                              have hym : y = m := by have h1 := HY.out; rw [HQI.out] at h1; exact (Option.some.inj h1).symm
                              subst hym
                              have heq := eq_same y
                              go_wp2
                              go_big_quiet (fail)
                              go_upto_region 41 with (fail)
                              have hbn := pw_below_drewN (Below.refl wr.heap.size wr) nq
                              have HTd := Aside0.mk (Kd.R_below HTc.out hbn)
                              have HKd := Aside0.mk (HKc.out.trans (Kp.of (S := fun _ => False) hbn) (fun _ _ h => h.elim))
                              clear hbn HTc HKc HOc HWc a0_ a1_ a2_ a3_ e0_ e1_ e2_ e3_ heq
                              generalize wr.drewN nq = wd at HTd HKd ⊢
                              obtain ⟨gt, eT, t0_, tf_, tl_, tp_⟩ := RT_at HTd.out (mix_get HY.out)
                              subst eT
                              have HTP := Aside0.mk tp_
                              obtain ⟨z, hz⟩ : ∃ z, z = f y + cnt (G.take r) y.f0 := ⟨_, rfl⟩
                              have hzb : 0 ≤ z ∧ z ≤ 200 := by
                                have h1 := HFB.out y (HIN.out y (List.mem_of_getElem? HM.out))
                                have h2 := cnt_bd (G.take r) y.f0
                                rw [List.length_take] at h2
                                have := HK.out
                                omega
                              have hzw : wrap64 (z + 1) = z + 1 := by unfold wrap64; omega
                              have HZ := Aside0.mk hz
                              rw [← hz] at t0_
                              clear tp_ hz hzb
                              go_wp2
                              go_roundw
                              case rel =>
                                have hset := mix_set (f := fun y => f y + cnt (G.take r) y.f0) (g := fun y => f y + cnt (G.take (r + 1)) y.f0) HY.out
                                have hg1 : f y + cnt (G.take (r + 1)) y.f0 = z + 1 := by rw [take_cnt HM.out, if_pos rfl, HZ.out]; omega
                                have hset' : (mixT V (fun y => f y + cnt (G.take r) y.f0) (fun y => f y + cnt (G.take (r + 1)) y.f0) b).set b (z + 1) = mixT V (fun y => f y + cnt (G.take r) y.f0) (fun y => f y + cnt (G.take (r + 1)) y.f0) (b + 1) := by rw [← hset, ← hg1]
                                exact ⟨b + 1, by have := HBL.out; omega, by simp, by go_num, ⟨by rw [← hset']; exact HTP.out (z + 1)⟩, ⟨HKd.out.set gt b _ (fun _ => by simp [Value.ownBlock])⟩⟩
                              case measure => have := HBL.out; simp [intOf, wrap64]; omega
                            · have hyf : y.f0 ≠ m.f0 := rises_at HVR.out HY.out HQI.out hbq
                              have heq := eq_far y m hyf
                              have HSA := Aside0.mk (mix_same (f := fun y => f y + cnt (G.take r) y.f0) (g := fun y => f y + cnt (G.take (r + 1)) y.f0) HY.out (by show f y + cnt (G.take (r + 1)) y.f0 = f y + cnt (G.take r) y.f0; rw [take_cnt HM.out, if_neg (fun e => hyf e.symm)]; omega))
                              have HBQ := Aside0.mk hbq
                              clear hyf hbq
                              go_wp2
                              go_big_quiet (fail)
                              go_wp2
                              have hbn := pw_below_drewN (Below.refl wr.heap.size wr) nq
                              go_roundw
                              case rel => exact ⟨b + 1, by have := HBL.out; omega, by have := HBQ.out; simp; omega, by go_num, ⟨by rw [HSA.out]; exact Kd.R_below HTc.out hbn⟩, ⟨HKc.out.trans (Kp.of (S := fun _ => False) hbn) (fun _ _ h => h.elim)⟩⟩
                              case measure => have := HBL.out; simp [intOf, wrap64]; omega
                          · obtain rfl : b = V.length := by omega
                            have hqd : decide (q < V.length) = true := decide_eq_true HQL.out
                            rw [mix_all] at HTc
                            simp only [hqd]
                            clear hqd
                            go_wp2
                            go_roundw
                            case rel => exact ⟨r + 1, by have := HRL.out; omega, by go_num, HTc, HKc⟩
                            case measure => have := HRL.out; simp [intOf, wrap64]; omega
                  · obtain rfl : r = G.length := by omega
                    rw [List.take_length] at HTa
                    have HWa := Aside0.mk (RM_kp HW6.out HKa.out (rows_ne HW6.out HT6.out))
                    have HQa := Aside0.mk (HQ6.out.kp HKa.out (fun j hj hj' => by obtain ⟨cells, hc⟩ := Kd.R_typed HT6.out j hj'; exact HQ6.out.notQ hc (by decide) hj))
                    have HBa := Aside0.mk (HB6.out.trans (HKa.out.below HB6.out.size (fun j hj => Kd.R_base HT6.out j hj)))
                    go_wp2
                    go_roundw
                    case rel => exact ⟨k + 1, v6, hs6, takeL K L NN, (fun y => f y + cnt G y.f0), by have := HKM.out; omega, by go_num, HQa, HTLd, ⟨by have := HSM.out; have := HSU.out; omega⟩, HTa, HWa, HBa, HG6⟩
                    case measure => have := HKM.out; simp [intOf, wrap64]; omega
              · have HNN := Aside0.mk (show (1 : Int) ≤ 1 by omega)
                go_upto_region 24 with (fail)
                have HTC := Aside0.mk (takeq_m w5 g mb K last v hs L 1 HQ.out (by have := HLA.out; omega))
                have HTLd := Aside0.mk (HTL.out.take HQ.out.al 1)
                have HGL := Aside0.mk (show 0 < (tookL L 1).length ∧ ((tookL L 1).length : Int) ≤ 1 by rw [tookL_len]; unfold takeN; have := HLP.out; have := HNN.out; omega)
                have HSM := Aside0.mk (HTL.out.more HQ.out.al 1 HGL.out.1)
                have HND := Aside0.mk (took_nodup HQ.out.al 1)
                have HIN := Aside0.mk (took_in (last := last) HTL.out 1)
                have HFB := Aside0.mk (HTL.out.bd HQ.out.al HK.out.1)
                obtain ⟨G, hG⟩ : ∃ G, G = tookL L 1 := ⟨_, rfl⟩
                rw [← hG] at HGL HSM HND HIN HTC HTLd
                have HGE := Aside0.mk (show G.length ≤ 60 by rw [hG, tookL_len]; unfold takeN; have := HQ.out.len; have := HLA.out; omega)
                clear hG
                go_upto_region 25 with (first | (go_at_call 13; refine HTC.out.mono ?_; rintro e w6 ⟨A6, c6, v6, hs6, rfl, h0_, h1_, h2_, h3_⟩; have HO6 := Aside0.mk h0_; have HQ6 := Aside0.mk h1_; have HK6 := Aside0.mk h2_; have HN6 := Aside0.mk h3_; clear h0_ h1_ h2_ h3_ HTC))
                have HB6 := Aside0.mk (HB.out.trans (HK6.out.below HB.out.size HG.out))
                have HW6 := Aside0.mk (RM_kp HWR.out HK6.out (fun j hj => by obtain ⟨cells, hc⟩ := Kd.R_typed HWR.out j hj; exact HQ.out.notQ hc (by decide)))
                have HT6 := Aside0.mk (RI_kp HRT.out HK6.out (fun j hj => by obtain ⟨cells, hc⟩ := Kd.R_typed HRT.out j hj; exact HQ.out.notQ hc (by decide)))
                have HG6 : Aside0 (∀ j, QB g mb v6 hs6 j → w.heap.size ≤ j) := ⟨fun j hj => (HN6.out j hj).elim (HG.out j) (fun h => Nat.le_trans HB.out.size h)⟩
                have hg1_ : ¬ (G.length : Int) < 1 := by have := HGL.out.1; omega
                have hg2_ : ¬ (G.length : Int) > 1 := by have := HGL.out.2; omega
                have hge_ := HGE.out
                clear HRT HWR HQ HB HG HTL HK6 HN6
                go_upto_region 27 with (fail)
                clear hg1_ hg2_
                go_wp2
                go_loopw [20] (fun u wa => ∃ r : Nat, r ≤ G.length ∧ u = .int .i64 r ∧ Aside0 ((Kd.int .i64).R 3 wa w.heap.size (fun _ => True) (.slice At V.length ct) (V.map (fun y => f y + cnt (G.take r) y.f0))) ∧ Aside0 (Kp w6 wa (fun j => (Value.slice At V.length ct).ownBlock = some j))) (fun u _ => G.length - (intOf u).toNat)
                case atStart => exact ⟨0, Nat.zero_le _, rfl, ⟨by rw [f_zero]; exact HT6.out⟩, ⟨Kp.of (Below.refl _ _)⟩⟩
                case round =>
                  obtain ⟨r, hr, rfl, HTa, HKa⟩ := hrel
                  by_cases hrt : (r : Int) < (G.length : Int)
                  · have HRL := Aside0.mk (show r < G.length by omega)
                    obtain ⟨m, hm⟩ : ∃ m, G[r]? = some m := ⟨G[r]'(by omega), List.getElem?_eq_getElem (by omega)⟩
                    have HM := Aside0.mk hm
                    have HOa := Aside0.mk (RM_kp HO6.out HKa.out (rows_ne HO6.out HT6.out))
                    have HWa := Aside0.mk (RM_kp HW6.out HKa.out (rows_ne HW6.out HT6.out))
                    have hr0 : 0 ≤ (r : Int) := by omega
                    have hr9 : r ≤ 60 := by omega
                    clear hm
                    go_wp2
                    go_loopw [21] (fun u wb => ∃ s : Nat, s ≤ r ∧ u = .int .i64 s ∧ Drawn0 wr wb) (fun u _ => r - (intOf u).toNat)
                    case atStart => exact ⟨0, Nat.zero_le _, rfl, Drawn0.refl _⟩
                    case round =>
                      obtain ⟨s, hs_, rfl, ⟨nq0, rfl⟩⟩ := hrel
                      by_cases hst : (s : Int) < (r : Int)
                      · have HSL := Aside0.mk (show s < r by omega)
                        obtain ⟨m', hm'⟩ : ∃ m', G[s]? = some m' := ⟨G[s]'(by omega), List.getElem?_eq_getElem (by omega)⟩
                        obtain ⟨ad, eA, a0_, _, _, _⟩ := at_M (Kd.R_reads' HOa.out).2.2 HM.out
                        obtain ⟨ad', eA', b0_, _, _, _⟩ := at_M (Kd.R_reads' HOa.out).2.2 hm'
                        have hfar := nodup_far HND.out HM.out hm' HSL.out
                        have hfb : (m.f0 == m'.f0) = false := by simpa using hfar
                        have hs0 : 0 ≤ (s : Int) := by omega
                        have hsg : (s : Int) < (G.length : Int) := by omega
                        rw [eA] at eA'
                        injection eA' with eA'
                        subst eA'
                        subst eA
                        clear hm' hfar
                        go_wp2
                        go_big_quiet (fail)
                        go_wp2
                        go_roundw
                        case rel => exact ⟨s + 1, by have := HSL.out; omega, by go_num, by repeat (first | exact Drawn0.refl _ | apply Drawn0.step)⟩
                        case measure => have := HSL.out; simp [intOf, wrap64]; omega
                      · have hbn := pw_below_drewN (Below.refl wr.heap.size wr) nq0
                        have HOb := Aside0.mk (Kd.R_below HOa.out hbn)
                        have HWb := Aside0.mk (Kd.R_below HWa.out hbn)
                        have HTb := Aside0.mk (Kd.R_below HTa.out hbn)
                        have HKb := Aside0.mk (HKa.out.trans (Kp.of (S := fun _ => False) hbn) (fun _ _ h => h.elim))
                        clear hbn HOa HWa HTa HKa
                        generalize wr.drewN nq0 = wb at HOb HWb HTb HKb ⊢
                        obtain ⟨q, hq, eq⟩ := List.getElem_of_mem (HIN.out m (List.mem_of_getElem? HM.out))
                        have HQI : Aside0 (V[q]? = some m) := ⟨by rw [List.getElem?_eq_getElem hq, eq]⟩
                        have HQL := Aside0.mk hq
                        clear eq hq
                        go_wp2
                        go_loopw [22, 23] (fun ui ub wc => ∃ b : Nat, b ≤ V.length ∧ ui = .bool (decide (q < b)) ∧ ub = .int .i64 b ∧ Aside0 ((Kd.int .i64).R 3 wc w.heap.size (fun _ => True) (.slice At V.length ct) (mixT V (fun y => f y + cnt (G.take r) y.f0) (fun y => f y + cnt (G.take (r + 1)) y.f0) b)) ∧ Aside0 (Kp w6 wc (fun j => (Value.slice At V.length ct).ownBlock = some j))) (fun _ ub _ => V.length - (intOf ub).toNat)
                        case atStart => exact ⟨0, Nat.zero_le _, by simp, rfl, ⟨by rw [mix_zero]; exact HTb.out⟩, HKb⟩
                        case round =>
                          clear HOb HWb HTb HKb
                          obtain ⟨b, hb, rfl, rfl, HTc, HKc⟩ := hrel
                          by_cases hbt : (b : Int) < (V.length : Int)
                          · have HBL := Aside0.mk (show b < V.length by omega)
                            obtain ⟨y, hy⟩ : ∃ y, V[b]? = some y := ⟨V[b]'(by omega), List.getElem?_eq_getElem (by omega)⟩
                            have HY := Aside0.mk hy
                            have HOc := Aside0.mk (RM_kp HO6.out HKc.out (rows_ne HO6.out HT6.out))
                            have HWc := Aside0.mk (RM_kp HW6.out HKc.out (rows_ne HW6.out HT6.out))
                            obtain ⟨ad, eA, a0_, a1_, a2_, a3_⟩ := at_M (Kd.R_reads' HOc.out).2.2 HM.out
                            obtain ⟨ae, eE, e0_, e1_, e2_, e3_⟩ := at_M (Kd.R_reads' HWc.out).2.2 HY.out
                            subst eA
                            subst eE
                            have hb0 : 0 ≤ (b : Int) := by omega
                            have hrg : (r : Int) < (G.length : Int) := by have := HRL.out; omega
                            clear hy
                            by_cases hbq : b = q
                            · subst hbq
                              have hym : y = m := by have h1 := HY.out; rw [HQI.out] at h1; exact (Option.some.inj h1).symm
                              subst hym
                              have heq := eq_same y
                              go_wp2
                              go_big_quiet (fail)
                              go_upto_region 41 with (fail)
                              have hbn := pw_below_drewN (Below.refl wr.heap.size wr) nq
                              have HTd := Aside0.mk (Kd.R_below HTc.out hbn)
                              have HKd := Aside0.mk (HKc.out.trans (Kp.of (S := fun _ => False) hbn) (fun _ _ h => h.elim))
                              clear hbn HTc HKc HOc HWc a0_ a1_ a2_ a3_ e0_ e1_ e2_ e3_ heq
                              generalize wr.drewN nq = wd at HTd HKd ⊢
                              obtain ⟨gt, eT, t0_, tf_, tl_, tp_⟩ := RT_at HTd.out (mix_get HY.out)
                              subst eT
                              have HTP := Aside0.mk tp_
                              obtain ⟨z, hz⟩ : ∃ z, z = f y + cnt (G.take r) y.f0 := ⟨_, rfl⟩
                              have hzb : 0 ≤ z ∧ z ≤ 200 := by
                                have h1 := HFB.out y (HIN.out y (List.mem_of_getElem? HM.out))
                                have h2 := cnt_bd (G.take r) y.f0
                                rw [List.length_take] at h2
                                have := HK.out
                                omega
                              have hzw : wrap64 (z + 1) = z + 1 := by unfold wrap64; omega
                              have HZ := Aside0.mk hz
                              rw [← hz] at t0_
                              clear tp_ hz hzb
                              go_wp2
                              go_roundw
                              case rel =>
                                have hset := mix_set (f := fun y => f y + cnt (G.take r) y.f0) (g := fun y => f y + cnt (G.take (r + 1)) y.f0) HY.out
                                have hg1 : f y + cnt (G.take (r + 1)) y.f0 = z + 1 := by rw [take_cnt HM.out, if_pos rfl, HZ.out]; omega
                                have hset' : (mixT V (fun y => f y + cnt (G.take r) y.f0) (fun y => f y + cnt (G.take (r + 1)) y.f0) b).set b (z + 1) = mixT V (fun y => f y + cnt (G.take r) y.f0) (fun y => f y + cnt (G.take (r + 1)) y.f0) (b + 1) := by rw [← hset, ← hg1]
                                exact ⟨b + 1, by have := HBL.out; omega, by simp, by go_num, ⟨by rw [← hset']; exact HTP.out (z + 1)⟩, ⟨HKd.out.set gt b _ (fun _ => by simp [Value.ownBlock])⟩⟩
                              case measure => have := HBL.out; simp [intOf, wrap64]; omega
                            · have hyf : y.f0 ≠ m.f0 := rises_at HVR.out HY.out HQI.out hbq
                              have heq := eq_far y m hyf
                              have HSA := Aside0.mk (mix_same (f := fun y => f y + cnt (G.take r) y.f0) (g := fun y => f y + cnt (G.take (r + 1)) y.f0) HY.out (by show f y + cnt (G.take (r + 1)) y.f0 = f y + cnt (G.take r) y.f0; rw [take_cnt HM.out, if_neg (fun e => hyf e.symm)]; omega))
                              have HBQ := Aside0.mk hbq
                              clear hyf hbq
                              go_wp2
                              go_big_quiet (fail)
                              go_wp2
                              have hbn := pw_below_drewN (Below.refl wr.heap.size wr) nq
                              go_roundw
                              case rel => exact ⟨b + 1, by have := HBL.out; omega, by have := HBQ.out; simp; omega, by go_num, ⟨by rw [HSA.out]; exact Kd.R_below HTc.out hbn⟩, ⟨HKc.out.trans (Kp.of (S := fun _ => False) hbn) (fun _ _ h => h.elim)⟩⟩
                              case measure => have := HBL.out; simp [intOf, wrap64]; omega
                          · obtain rfl : b = V.length := by omega
                            have hqd : decide (q < V.length) = true := decide_eq_true HQL.out
                            rw [mix_all] at HTc
                            simp only [hqd]
                            clear hqd
                            go_wp2
                            go_roundw
                            case rel => exact ⟨r + 1, by have := HRL.out; omega, by go_num, HTc, HKc⟩
                            case measure => have := HRL.out; simp [intOf, wrap64]; omega
                  · obtain rfl : r = G.length := by omega
                    rw [List.take_length] at HTa
                    have HWa := Aside0.mk (RM_kp HW6.out HKa.out (rows_ne HW6.out HT6.out))
                    have HQa := Aside0.mk (HQ6.out.kp HKa.out (fun j hj hj' => by obtain ⟨cells, hc⟩ := Kd.R_typed HT6.out j hj'; exact HQ6.out.notQ hc (by decide) hj))
                    have HBa := Aside0.mk (HB6.out.trans (HKa.out.below HB6.out.size (fun j hj => Kd.R_base HT6.out j hj)))
                    go_wp2
                    go_roundw
                    case rel => exact ⟨k + 1, v6, hs6, takeL K L 1, (fun y => f y + cnt G y.f0), by have := HKM.out; omega, by go_num, HQa, HTLd, ⟨by have := HSM.out; have := HSU.out; omega⟩, HTa, HWa, HBa, HG6⟩
                    case measure => have := HKM.out; simp [intOf, wrap64]; omega
          · have hL0 : L = [] := HTL.out.over HQ.out.al HRKa.out.1 (by rw [← HMO.out]; have := HSU.out; omega)
            subst hL0
            go_upto_region 44 with (fail)
            have HD := Aside0.mk (fun y (hy : y ∈ V) => HTL.out.done y hy)
            go_wp2
            go_loopw [24] (fun u we => ∃ j : Nat, j ≤ V.length ∧ u = .int .i64 j ∧ we = wr) (fun u _ => V.length - (intOf u).toNat)
            case atStart => exact ⟨0, Nat.zero_le _, rfl, rfl⟩
            case round =>
              obtain ⟨j, hj, rfl, rfl⟩ := hrel
              by_cases hjt : (j : Int) < (V.length : Int)
              · have HJT := Aside0.mk (show j < V.length by omega)
                obtain ⟨y, hy⟩ : ∃ y, V[j]? = some y := ⟨V[j]'(by omega), List.getElem?_eq_getElem (by omega)⟩
                have hfy := HD.out y (List.mem_of_getElem? hy)
                obtain ⟨gt, eT, t0_, _, _, _⟩ := RT_at HRT.out (i := j) (x := K) (by rw [List.getElem?_map, hy]; exact congrArg some hfy)
                cases eT
                have hj0 : 0 ≤ (j : Int) := by omega
                have hKK : (K != K) = false := by simp
                clear hy hfy
                go_wp2
                go_roundw
                case rel => exact ⟨j + 1, by have := HJT.out; omega, by go_num, by trivial⟩
                case measure => have := HJT.out; simp [intOf, wrap64]; omega
              · have HLC := Aside0.mk (listq_m _ g mb K last v hs [] HQ.out (by have := HLA.out; omega))
                go_wp2_with (first
                  | (go_at_call 16; refine HLC.out.mono ?_; rintro e w8 ⟨A8, c8, rfl, h1_, h2_⟩; have HB8 := Aside0.mk (below_step HB.out h2_); clear h1_ h2_ HLC)
                  | (go_at_call 7; (with_reducible refine (wakesR_true _).mono ?_); rintro e w9 ⟨rfl, h1_⟩; have HB9 := Aside0.mk (below_step HB8.out h1_); clear h1_))
                go_ret
                exact ⟨rfl, HB9.out⟩
end Go.Proofs.Ytihmblbnnhcdnaa.Print
namespace Go.Proofs.Ytihmblbnnhcdnaa.Opens
open Go.ChangeShapes Go.WideShapes Go.ChangeAt Go.RowKit Go.Proofs.YtihmblbnnhcdnaaW.PrintWords Go.Proofs.Ytihmblbnnhcdnaa.Print
theorem u8_in {n : Int} (h : (Lit.int .u8 n).wf = true) : 0 ≤ n ∧ n ≤ 255 := by
  simp [Lit.wf] at h
  have e1 : IntKind.u8.min = 0 := by decide
  have e2 : IntKind.u8.max = 255 := by decide
  omega
theorem opens5 : Opens Try.prog 5 (Kd.int .u8) (fun n => (Lit.int .u8 n).wf = true) := opens_int (by kernel_rfl)
end Go.Proofs.Ytihmblbnnhcdnaa.Opens
