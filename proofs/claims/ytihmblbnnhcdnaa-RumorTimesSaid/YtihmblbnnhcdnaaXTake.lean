/- A queue's Take, walked. -/
import Derived.Test.YtihmblbnnhcdnaaXTakeP
namespace Go.Proofs.Ytihmblbnnhcdnaa.Print
open Go.RowKit Go.Maps Go.ChangeMaps Go.Proofs.YtihmblbnnhcdnaaW.PrintWords Go.Proofs.YtihmblbnnhcdnaaW.PrintLast Go.Proofs.YtihmblbnnhcdnaaW.PrintMore
set_option linter.unusedVariables false
set_option linter.unusedSimpArgs false
theorem info33 : (Try.prog.info? 33).map (fun i => (i.zero, i.size, i.bytes)) = some (some (.agg #[.int .u32 0, .int .u32 0, .int .u8 0, .string ⟨#[]⟩]), 4, 32) := by kernel_rfl
theorem one_Reps (W : World) (base : Nat) (ok : Nat → Prop) (x : Mem) : Reps (k33.M W base ok) 4 [x] [.int .u32 x.f0, .int .u32 x.f1, .int .u8 x.f2, .string x.f3] := ⟨rfl, fun j p hj => by
  have hj0 : j = 0 := by have := (List.getElem?_eq_some_iff.1 hj).1; simp at this; omega
  subst hj0
  have e : x = p := by simpa using hj
  subst e
  exact k33_mkM _ _ _ x⟩
def lenOf : Value → Nat
  | .slice _ n _ => n
  | _ => 0
/-- a row of members of a call's own, kept where something else is written -/
theorem RM_kp {W W' : World} {base : Nat} {v : Value} {xs : List Mem} {S : Nat → Prop} (h : Kd.R k33 33 W base (fun _ => True) v xs) (hk : Kp W W' S) (hS : ∀ k, v.ownBlock = some k → ¬ S k) : Kd.R k33 33 W' base (fun _ => True) v xs := by
  have h1 : Kd.R k33 33 W base (fun k => v.ownBlock = some k) v xs := ⟨fun k hk => hk, h.2.imp_ (fun _ _ hp => hp)⟩
  exact Kd.R_mono (Kd.R_step h1 (fun k ho hlt => hk.block k hlt (hS k ho))) (fun _ _ => trivial)
theorem RP_kp {W W' : World} {base : Nat} {v : Value} {xs : List Nat} {S : Nat → Prop} (h : kP.R 62 W base (fun _ => True) v xs) (hk : Kp W W' S) (hS : ∀ k, v.ownBlock = some k → ¬ S k) : kP.R 62 W' base (fun _ => True) v xs := by
  have h1 : kP.R 62 W base (fun k => v.ownBlock = some k) v xs := ⟨fun k hk => hk, h.2.imp_ (fun _ _ hp => hp)⟩
  exact Kd.R_mono (Kd.R_step h1 (fun k ho hlt => hk.block k hlt (hS k ho))) (fun _ _ => trivial)
theorem RM_typed {W : World} {base : Nat} {v : Value} {xs : List Mem} (h : Kd.R k33 33 W base (fun _ => True) v xs) {k : Nat} (hk : v.ownBlock = some k) : base ≤ k ∧ ∃ cells, W.heap[k]? = some (.cells cells 33 (0, 0)) := ⟨Kd.R_base h k hk, Kd.R_typed h k hk⟩
theorem RP_typed {W : World} {base : Nat} {v : Value} {xs : List Nat} (h : kP.R 62 W base (fun _ => True) v xs) {k : Nat} (hk : v.ownBlock = some k) : base ≤ k ∧ ∃ cells, W.heap[k]? = some (.cells cells 62 (0, 0)) := ⟨Kd.R_base h k hk, Kd.R_typed h k hk⟩
theorem RP_at {W : World} {base : Nat} {A : Option Addr} {c : Nat} {L : Hs} {i b : Nat} {x : One} (h : kP.R 62 W base (fun _ => True) (.slice A L.length c) (L.map (·.1))) (hi : L[i]? = some (b, x)) : ∃ r, A = some ⟨r, 0, none⟩ ∧ W.cell? ⟨r, i, none⟩ = some (.pointer (some ⟨b, 0, none⟩)) := by
  have hlt : i < L.length := (List.getElem?_eq_some_iff.1 hi).1
  obtain ⟨r, cap, e2, _, hr, _⟩ := Kd.R_form h (by rw [List.length_map]; omega)
  rw [List.length_map] at e2
  injection e2 with e3 _ e4
  subst e3
  have h1 := (Kd.R_cell 0 (by rw [List.length_map]; exact h) (i : Int) (by omega) (by rw [List.length_map]; omega)).1
  have e5 : rdOf 0 (L.map (·.1)) (i : Int) = b := by
    unfold rdOf
    rw [Int.toNat_natCast, List.getD_eq_getElem?_getD, List.getElem?_map, hi]
    rfl
  rw [e5, Int.toNat_natCast] at h1
  exact ⟨r, rfl, h1⟩
/-- the row that the queue has is none of the call's own -/
theorem Tk.sub' {w W : World} {g mb n : Nat} {t last : Int} {v vc : Value} {hs rest ag ex : Hs} (h : Tk w W g mb n t last v vc hs rest ag ex) (hown : vc.ownBlock = v.ownBlock ∨ ∃ k, vc.ownBlock = some k ∧ w.heap.size ≤ k) : ∀ k, k < w.heap.size → HoS vc rest k → HoS v hs k := by
  intro k hk hk'
  rcases hk' with hk' | ⟨p, hp, e⟩
  · rcases hown with e | ⟨k', e, hle⟩
    · rw [e] at hk'; exact Or.inl hk'
    · rw [e] at hk'; injection hk' with hk'; omega
  · obtain ⟨q, hq, e2⟩ := h.sub p (List.mem_append_left _ (List.mem_append_left _ hp))
    exact Or.inr ⟨q, hq, e2.trans e⟩
/-- a row of the call's own is none of what the heap may write -/
theorem own_hos {w W : World} {g mb n : Nat} {t last : Int} {v vc : Value} {hs rest ag ex : Hs} (h : Tk w W g mb n t last v vc hs rest ag ex) {k : Nat} {cells : Array Value} {tt : TypeId} (hc : W.heap[k]? = some (.cells cells tt (0, 0))) (h1 : tt ≠ 57) (h2 : tt ≠ 66) (h3 : vc.ownBlock ≠ some k) : ¬ (k = g ∨ HoS vc rest k) := by
  rintro (e | e)
  · exact blk_ne hc h.rq.box h1 e
  · rcases e with e | ⟨q, hq, e⟩
    · exact h3 e
    · obtain ⟨i, hi, e2⟩ := List.getElem_of_mem hq
      exact blk_ne hc (h.rq.ho.one i q.1 q.2 (by rw [List.getElem?_eq_getElem hi, e2])) h2 e.symm
set_option maxHeartbeats 40000000 in
set_option maxRecDepth 100000 in
theorem takeq_calls (w : World) (g mb n : Nat) (t last : Int) (v : Value) (hs : Hs) (kk : Int) (h : Qw w g mb n t last v hs) (hl : hs.length ≤ 900000) (hsb : ∀ p ∈ hs, 0 ≤ p.2.sent ∧ p.2.sent < t) (ht : t ≤ 64) :
    Calls Try.prog 13 #[.pointer (some ⟨g, 0, none⟩), .int .i64 kk] w fun e w' => ∃ A c v' hs' ps rest, e = .returned (.slice A ps.length c) ∧ Kd.R k33 33 w' w.heap.size (fun _ => True) (.slice A ps.length c) (ps.map (·.2.m)) ∧ Tk w w' g mb n t last v v' hs hs' [] [] ∧ (ps ++ rest).Perm hs ∧ ps.Pairwise (fun a b => lessO b.2 a.2 = false) ∧ (∀ a ∈ ps, ∀ b ∈ rest, lessO b.2 a.2 = false) ∧ ps.length = min kk.toNat hs.length ∧ hs'.Perm (rest ++ again t ps) ∧ (v'.ownBlock = v.ownBlock ∨ ∃ k, v'.ownBlock = some k ∧ w.heap.size ≤ k) := by
  have hu33 := Try.underlying33
  have HVO : Aside0 (∀ k, v.ownBlock = some k → k < w.heap.size) := ⟨fun k hk => h.rq.ho.lt (Or.inl hk)⟩
  have HLL := Aside0.mk hl
  have HSB : Aside0 (∀ p ∈ hs, 0 ≤ p.2.sent ∧ p.2.sent ≤ 64) := ⟨fun p hp => ⟨(hsb p hp).1, by have := (hsb p hp).2; omega⟩⟩
  have HT0 : Aside0 (Tk w w g mb n t last v v hs hs [] []) := by
    refine ⟨⟨h.rq, h.heap, ?_, fun p hp => by simp at hp, ?_, ?_, ?_, ?_, Kp.of (Below.refl _ _)⟩⟩
    · rw [List.append_nil, List.append_nil]; exact h.map
    · rw [List.append_nil, List.append_nil]; exact h.rq.ho.nod
    · rw [List.append_nil, List.append_nil]; exact h.addr
    · rw [List.append_nil, List.append_nil]; exact h.wf
    · rw [List.append_nil, List.append_nil]; exact fun p hp => ⟨p, hp, rfl⟩
  clear h hl hsb ht
  go_enter Try.func13, Try.ntmps13
  go_wp2
  go_loopw [5, 6] (fun u5 u6 wr => ∃ (A5 : Option Addr) (c5 : Nat) (A6 : Option Addr) (c6 : Nat) (vc : Value) (ps rest : Hs), u5 = .slice A5 ps.length c5 ∧ u6 = .slice A6 (again t ps).length c6 ∧ Aside0 (Kd.R k33 33 wr w.heap.size (fun _ => True) (.slice A5 ps.length c5) (ps.map (·.2.m))) ∧ Aside0 (kP.R 62 wr w.heap.size (fun _ => True) (.slice A6 (again t ps).length c6) ((again t ps).map (·.1))) ∧ Aside0 (Tk w wr g mb n t last v vc hs rest (again t ps) []) ∧ Aside0 ((ps ++ rest).Perm hs ∧ ps.Pairwise (fun a b => lessO b.2 a.2 = false) ∧ ∀ a ∈ ps, ∀ b ∈ rest, lessO b.2 a.2 = false) ∧ Aside0 (vc.ownBlock = v.ownBlock) ∧ (ps.length : Int) ≤ max kk 0) (fun u5 _ _ => hs.length - lenOf u5)
  case atStart => exact ⟨none, 0, none, 0, v, [], hs, rfl, rfl, ⟨Kd.R_nil _ _ _ _ _⟩, ⟨Kd.R_nil _ _ _ _ _⟩, HT0, ⟨List.Perm.refl _, List.Pairwise.nil, fun a ha => by cases ha⟩, ⟨rfl⟩, by simp; omega⟩
  case round =>
    clear HT0
    obtain ⟨A5, c5, A6, c6, vc, ps, rest, rfl, rfl, HR5, HR6, HT, HS, HV, hpk⟩ := hrel
    obtain ⟨Ac, cc, rfl, hcc1, hcc2⟩ := HT.out.rq.ho.form
    have hcell := HT.out.rq.cell
    have HPL := Aside0.mk (show ps.length ≤ 900000 by have h1 := HS.out.1.length_eq; rw [List.length_append] at h1; have := HLL.out; omega)
    have HAGL := Aside0.mk (show (again t ps).length ≤ 900000 from Nat.le_trans (List.length_filterMap_le _ _) HPL.out)
    by_cases hlt : (ps.length : Int) < kk
    · by_cases hrp : 0 < rest.length
      · have hrpI : (rest.length : Int) > 0 := by omega
        have HRL := Aside0.mk (show rest.length ≤ 900000 by have h1 := HS.out.1.length_eq; rw [List.length_append] at h1; have := HLL.out; omega)
        obtain ⟨b0, x0, e0⟩ := get_some (hs := rest) (k := 0) hrp
        have hx0 : (b0, x0) ∈ rest := List.mem_of_getElem? e0
        have hbnd : 0 ≤ x0.sent ∧ x0.sent ≤ 64 := HSB.out (b0, x0) (HS.out.1.mem_iff.1 (List.mem_append_right _ hx0))
        have hws : wrap64 (x0.sent + 1) = x0.sent + 1 := by obtain ⟨a1, a2⟩ := hbnd; unfold wrap64; omega
        have HPOP := Aside0.mk (hpop_calls wr g t last (.map (some mb)) (.slice Ac rest.length cc) rest b0 x0 HT.out.rq HT.out.isH e0 HRL.out)
        have hta := fun w => asOne w b0
        have HHD : Aside0 (∀ b ∈ rest, lessO b.2 x0 = false) := ⟨fun p hp => by
          obtain ⟨i, hi, e2⟩ := List.getElem_of_mem hp
          have h1 := Heap.IsH.head lessO_pre lessO_self HT.out.isH i hi
          rw [at1_of e0, at1_of (show rest[i]? = some (p.1, p.2) by rw [List.getElem?_eq_getElem hi, e2])] at h1
          exact h1⟩
        have HX0 := Aside0.mk hx0
        have HE0 := Aside0.mk e0
        clear hbnd hx0 e0
        go_upto_region 7 with (first | (go_at_call 31; refine HPOP.out.mono ?_; rintro e w2 ⟨v2, rest2, rfl, h1_, h2_, h3_, h4_, h5_, h6_⟩; have HT2 := Aside0.mk (HT.out.pop h1_ h2_ h3_ h4_ h6_ (HT.out.sub' (Or.inl HV.out))); have HP2 := Aside0.mk h2_; have HB2 := Aside0.mk h4_; have HV2 := Aside0.mk (h5_.trans HV.out); have HK2 := Aside0.mk h6_; clear h1_ h2_ h3_ h4_ h5_ h6_ HPOP))
        have HR5b := Aside0.mk (RM_kp HR5.out HK2.out (fun k hk => by obtain ⟨q1, cells, q2⟩ := RM_typed HR5.out hk; exact own_hos HT.out q2 (by decide) (by decide) (fun e => by rw [HV.out] at e; have := HVO.out k e; omega)))
        have HR6b := Aside0.mk (RP_kp HR6.out HK2.out (fun k hk => by obtain ⟨q1, cells, q2⟩ := RP_typed HR6.out hk; exact own_hos HT.out q2 (by decide) (by decide) (fun e => by rw [HV.out] at e; have := HVO.out k e; omega)))
        clear HR5 HR6 HT HK2 hcell
        have m0_ : w2.cell? ⟨b0, 0, none⟩ = some (.int .u32 x0.m.f0) := (blk_cell HB2.out 0).trans rfl
        have m1_ : w2.cell? ⟨b0, 1, none⟩ = some (.int .u32 x0.m.f1) := (blk_cell HB2.out 1).trans rfl
        have m2_ : w2.cell? ⟨b0, 2, none⟩ = some (.int .u8 x0.m.f2) := (blk_cell HB2.out 2).trans rfl
        have m3_ : w2.cell? ⟨b0, 3, none⟩ = some (.string x0.m.f3) := (blk_cell HB2.out 3).trans rfl
        go_wp2_with ((with_reducible refine gate_dst (N := 35) rfl ?_); refine stop_ ?_)
        refine StopAt.mk ?_
        refine Kd.R_lit k33 0 33 ?hg (N := 35) ?hd (w0 := w2) (xs := [x0.m]) (inner := [.int .u32 x0.m.f0, .int .u32 x0.m.f1, .int .u8 x0.m.f2, .string x0.m.f3]) (ok := fun _ => True) (okp := fun _ => True) ?hr ?hp (fun _ hk => hk) trivial (Below.refl 0 w2) (Nat.zero_le _) (by simp) ?_
        case hd => rfl
        case hg => rfl
        case hr => first | (go_simp; done) | (go_simp; rfl)
        case hp => exact one_Reps _ _ _ x0.m
        intro v35 w3 ho_ _ hg_ _
        obtain ⟨A35, c35, e35, _, hC35⟩ := Kd.R_reads ho_
        subst e35
        have HC35 := Aside0.mk hC35
        have hk_ : Kp w2 w3 (fun _ => False) := Kp.grown hg_ (fun k hk => by cases hk)
        have HT3 := Aside0.mk (HT2.out.row hg_ (fun k hk => by cases hk))
        have HR5c := Aside0.mk (RM_kp HR5b.out hk_ (fun _ _ h => h))
        have HR6c := Aside0.mk (RP_kp HR6b.out hk_ (fun _ _ h => h))
        have HB3 := Aside0.mk (blk_grown' HB2.out hg_ (by simp))
        have HS3 := Aside0.mk HT3.out.kp.size
        clear ho_ hg_ hC35 hk_ HT2 HR5b HR6b HB2 m0_ m1_ m2_ m3_
        go_wp2_with ((with_reducible refine gate_dst (N := 36) rfl ?_); refine stop_ ?_)
        refine StopAt.mk ?_
        refine Kd.R_append_rows k33 (w0 := w3) w.heap.size ?hg (.tmp 30) (.tmp 35) 39 33 (.agg #[.int .u32 0, .int .u32 0, .int .u8 0, .string ⟨#[]⟩]) 32 ?ho Try.underlying39 info33 rfl (by decide) (by omega) (.slice A5 ps.length c5) (ps.map (·.2.m)) [x0.m] A35 1 c35 (fun _ => True) (fun _ => False) ?h1 ?h2 HR5c.out HC35.out (fun _ _ h => h) (fun _ h => h.elim) (fun _ _ => trivial) (Below.refl _ _) HS3.out (by rw [List.length_map]; have := HPL.out; omega) ?_
        case hg => rfl
        case ho => rfl
        case h1 => rfl
        case h2 => rfl
        intro v36 w4 ho_ _ hg_ hat_
        obtain ⟨A36, c36, e36, _, _⟩ := Kd.R_reads ho_
        have hlen36 : (ps.map (·.2.m) ++ [x0.m]).length = ps.length + 1 := by simp
        rw [hlen36] at e36
        subst e36
        have hT_ := fun k (hk : (Value.slice A5 ps.length c5).ownBlock = some k) => RM_typed HR5c.out hk
        have HR5d := Aside0.mk ho_
        have HT4 := Aside0.mk (HT3.out.row hg_ (fun k hk => by obtain ⟨q1, cells, q2⟩ := hT_ k hk; exact ⟨q1, fun e => by rw [HV2.out] at e; have := HVO.out k e; omega, cells, _, q2, by decide, by decide⟩))
        have HR6d := Aside0.mk (RP_kp HR6c.out (Kp.grown hg_ (fun k hk => hk)) (fun k hk hk' => by obtain ⟨_, cells, q2⟩ := hT_ k hk'; obtain ⟨_, cells', q3⟩ := RP_typed HR6c.out hk; exact blk_ne q2 q3 (by decide) rfl))
        have HB4 := Aside0.mk (blk_grown' HB3.out hg_ (fun e => by obtain ⟨_, cells, q2⟩ := hT_ b0 e.symm; exact blk_ne q2 HB3.out (by decide) rfl))
        clear ho_ hg_ hat_ hT_ HT3 HR5c HR6c HB3 HC35 HS3 hlen36
        go_upto_region 8 with (fail)
        have s4_ : w4.cell? ⟨b0, 4, none⟩ = some (.int .i64 x0.sent) := (blk_cell HB4.out 4).trans rfl
        have f4_ := blk_frozen HB4.out 4
        have lb4_ := blk_lt HB4.out
        go_upto_region 9 with (fail)
        have HT5 := Aside0.mk HT4.out.count
        have hk5_ : Kp w4 (w4.setCell ⟨b0, 4, none⟩ (.int .i64 (x0.sent + 1))) (fun k => k = b0) := (Kp.of (Below.refl _ _)).set b0 4 _ (fun _ => rfl)
        have HR5e := Aside0.mk (RM_kp HR5d.out hk5_ (fun k hk e => by obtain ⟨_, cells, q2⟩ := RM_typed HR5d.out hk; exact blk_ne q2 HB4.out (by decide) e))
        have HR6e := Aside0.mk (RP_kp HR6d.out hk5_ (fun k hk e => by obtain ⟨_, cells, q2⟩ := RP_typed HR6d.out hk; exact blk_ne q2 HB4.out (by decide) e))
        have HB5 := Aside0.mk (show (w4.setCell ⟨b0, 4, none⟩ (.int .i64 (x0.sent + 1))).heap[b0]? = some (.cells (oneC (sentO x0) rest2.length) 66 (0, 0)) from blk_put HB4.out 4 _ rfl)
        clear s4_ f4_ lb4_ hk5_ HT4 HR5d HR6d HB4
        generalize w4.setCell ⟨b0, 4, none⟩ (.int .i64 (x0.sent + 1)) = w5 at HT5 HR5e HR6e HB5 ⊢
        have s5_ : w5.cell? ⟨b0, 4, none⟩ = some (.int .i64 (x0.sent + 1)) := (blk_cell HB5.out 4).trans rfl
        have t5_ : w5.cell? ⟨g, 0, none⟩ = some (.int .i64 t) := (blk_cell HT5.out.rq.box 0).trans rfl
        have HPS : Aside0 (((ps ++ [(b0, x0)]) ++ rest2).Perm hs ∧ (ps ++ [(b0, x0)]).Pairwise (fun a b => lessO b.2 a.2 = false) ∧ ∀ a ∈ ps ++ [(b0, x0)], ∀ b ∈ rest2, lessO b.2 a.2 = false) := by
          have hsub2 : ∀ p ∈ rest2, p ∈ rest := fun p hp => HP2.out.mem_iff.1 (List.mem_cons_of_mem _ hp)
          refine ⟨?_, ?_, ?_⟩
          · rw [List.append_assoc]
            exact (List.Perm.append_left ps HP2.out).trans HS.out.1
          · rw [List.pairwise_append]
            exact ⟨HS.out.2.1, List.pairwise_singleton _ _, fun a ha b hb => by
              obtain rfl : b = (b0, x0) := by simpa using hb
              exact HS.out.2.2 a ha _ HX0.out⟩
          · intro a ha b hb
            rcases List.mem_append.1 ha with ha | ha
            · exact HS.out.2.2 a ha b (hsub2 b hb)
            · obtain rfl : a = (b0, x0) := by simpa using ha
              exact HHD.out b (hsub2 b hb)
        have HLN : Aside0 (ps.length + 1 ≤ hs.length) := ⟨by have h1 := HPS.out.1.length_eq; simp only [List.length_append, List.length_singleton] at h1; omega⟩
        by_cases hst : x0.sent + 1 < t
        · have hagn : again t (ps ++ [(b0, x0)]) = again t ps ++ [(b0, sentO x0)] := by rw [again_snoc]; simp only [if_pos hst]
          go_quiet (fail)
          go_upto_region 10 with (fail)
          have hbn := pw_below_drewN (Below.refl w5.heap.size w5) nq
          have HT6 := Aside0.mk (HT5.out.below hbn)
          have HR5f := Aside0.mk (Kd.R_below HR5e.out hbn)
          have HR6f := Aside0.mk (Kd.R_below HR6e.out hbn)
          have HAG := Aside0.mk hagn
          clear hbn HT5 HR5e HR6e HB5 s5_ t5_ hagn
          generalize w5.drewN nq = w6 at HT6 HR5f HR6f ⊢
          have HS6 := Aside0.mk HT6.out.kp.size
          have hba := below_alloc (Below.refl w6.heap.size w6) (.cells #[.pointer (some ⟨b0, 0, none⟩)] 62)
          have HBA := Aside0.mk hba
          clear hba
          go_wp2_with ((with_reducible refine gate_dst (N := 56) rfl ?_); refine stop_ ?_)
          refine StopAt.mk ?_
          refine Kd.R_append_rows kP (w0 := w6.alloc (.cells #[.pointer (some ⟨b0, 0, none⟩)] 62)) w.heap.size ?hg (.tmp 53) (.tmp 55) 54 62 (.pointer none) 8 ?ho Try.underlying54 infoP rfl (by decide) (by omega) (.slice A6 (again t ps).length c6) ((again t ps).map (·.1)) [b0] (some ⟨w6.heap.size, 0, none⟩) 1 1 (fun _ => True) (fun _ => False) ?h1 ?h2 (Kd.R_alloc HR6f.out _) (one_CP w6 b0) (fun _ _ h => h) (fun _ h => h.elim) (fun _ _ => trivial) (Below.refl _ _) (Nat.le_trans HS6.out HBA.out.size) (by rw [List.length_map]; have := HAGL.out; omega) ?_
          case hg => rfl
          case ho => rfl
          case h1 => rfl
          case h2 => rfl
          intro v56 w7 ho_ _ hg_ hat_
          obtain ⟨A56, c56, e56, _, _⟩ := Kd.R_reads ho_
          have hlen56 : ((again t ps).map (·.1) ++ [b0]).length = (again t (ps ++ [(b0, x0)])).length := by rw [HAG.out]; simp
          rw [hlen56] at e56
          subst e56
          have hT_ := fun k (hk : (Value.slice A6 (again t ps).length c6).ownBlock = some k) => RP_typed (Kd.R_alloc HR6f.out (.cells #[.pointer (some ⟨b0, 0, none⟩)] 62)) hk
          have HR6g : Aside0 (kP.R 62 w7 w.heap.size (fun _ => True) (.slice A56 (again t (ps ++ [(b0, x0)])).length c56) ((again t (ps ++ [(b0, x0)])).map (·.1))) := ⟨by rw [HAG.out, List.map_append] at *; exact ho_⟩
          have HT7 := Aside0.mk ((HT6.out.below HBA.out).row hg_ (fun k hk => by obtain ⟨q1, cells, q2⟩ := hT_ k hk; exact ⟨q1, fun e => by rw [HV2.out] at e; have := HVO.out k e; omega, cells, _, q2, by decide, by decide⟩)).aside
          have HR5g := Aside0.mk (RM_kp (Kd.R_below HR5f.out HBA.out) (Kp.grown hg_ (fun k hk => hk)) (fun k hk hk' => by obtain ⟨_, cells, q2⟩ := hT_ k hk'; obtain ⟨_, cells', q3⟩ := RM_typed (Kd.R_below HR5f.out HBA.out) hk; exact blk_ne q2 q3 (by decide) rfl))
          clear ho_ hg_ hat_ hT_ hlen56
          go_wp2
          go_roundw
          case rel =>
            refine ⟨A36, c36, A56, c56, v2, ps ++ [(b0, x0)], rest2, by simp, rfl, ⟨by rw [List.length_append, List.map_append]; exact HR5g.out⟩, HR6g, ⟨by rw [HAG.out]; exact HT7.out⟩, HPS, HV2, by rw [List.length_append]; simp; omega⟩
          case measure => simp [lenOf]; have := HLN.out; omega
        · have hagn : again t (ps ++ [(b0, x0)]) = again t ps := by rw [again_snoc]; simp only [if_neg hst, List.append_nil]
          go_quiet (fail)
          go_upto_region 11 with (fail)
          have hbn := pw_below_drewN (Below.refl w5.heap.size w5) nq
          have HT6 := Aside0.mk (HT5.out.below hbn)
          have HR5f := Aside0.mk (Kd.R_below HR5e.out hbn)
          have HR6f := Aside0.mk (Kd.R_below HR6e.out hbn)
          have HB6 := Aside0.mk (blk_below HB5.out hbn)
          have HAG := Aside0.mk hagn
          clear hbn HT5 HR5e HR6e HB5 s5_ t5_ hagn
          generalize w5.drewN nq = w6 at HT6 HR5f HR6f HB6 ⊢
          have hbd := below_drew1 (Below.refl w6.heap.size w6)
          have HT7 := Aside0.mk (HT6.out.below hbd)
          have HR5g := Aside0.mk (Kd.R_below HR5f.out hbd)
          have HR6g := Aside0.mk (Kd.R_below HR6f.out hbd)
          have HB7 := Aside0.mk (blk_below HB6.out hbd)
          clear hbd HT6 HR5f HR6f HB6
          refine start_ (n := 10) (S := (fun w' => w'.cell? ⟨g, 3, none⟩ = some (.map (some mb)) ∧ w'.cell? ⟨b0, 0, none⟩ = some (.int .u32 x0.m.f0))) (ds := [9]) #[false, false, false, false, false, false, false, false, false, false] (by kernel_rfl) rfl rfl ⟨(blk_cell HT7.out.rq.box 3).trans rfl, (blk_cell HB7.out 0).trans rfl⟩ (fun hHeld => ?_)
          generalize w6.drew = wd at HT7 HR5g HR6g HB7 hHeld ⊢
          refine pure_ (i := 0) (N := some 57) (v := ?_) (a' := ?_) #[true, false, false, false, false, false, false, false, false, false] rfl rfl (by kernel_rfl) (fun _ _ _ h => h) (Or.inl ⟨by rfl, ?_⟩) ?_ ?_
          rotate_left
          · intro w'
            go_simp
            with_reducible rfl
          rotate_left
          · simp only [Act.put, List.setIfInBounds_toArray, List.set_cons_zero, List.set_cons_succ, i64_w, i32_w]
            rfl
          refine pure_ (i := 1) (N := some 58) (v := ?_) (a' := ?_) #[true, true, false, false, false, false, false, false, false, false] rfl rfl (by kernel_rfl) (fun _ _ _ h => h) (Or.inl ⟨by rfl, ?_⟩) ?_ ?_
          rotate_left
          · intro w'
            go_simp
            with_reducible rfl
          rotate_left
          · simp only [Act.put, List.setIfInBounds_toArray, List.set_cons_zero, List.set_cons_succ, i64_w, i32_w]
            rfl
          refine pure_ (i := 2) (N := some 59) (v := ?_) (a' := ?_) #[true, true, true, false, false, false, false, false, false, false] rfl rfl (by kernel_rfl) (fun _ _ _ h => h) (Or.inl ⟨by rfl, ?_⟩) ?_ ?_
          rotate_left
          · intro w'
            go_simp
            with_reducible rfl
          rotate_left
          · simp only [Act.put, List.setIfInBounds_toArray, List.set_cons_zero, List.set_cons_succ, i64_w, i32_w]
            rfl
          refine take_ (i := 3) (N := some 60) (v := ?_) (a' := ?_) #[true, true, true, true, false, false, false, false, false, false] rfl rfl (by kernel_rfl) (fun _ _ _ h => h) (Or.inl ⟨by rfl, ?_⟩) hHeld ?_ ?_
          rotate_left
          · rintro w' ⟨h0_, h1_⟩
            go_simp
            with_reducible rfl
          rotate_left
          · simp only [Act.put, List.setIfInBounds_toArray, List.set_cons_zero, List.set_cons_succ, i64_w, i32_w]
            rfl
          refine pure_ (i := 4) (N := some 61) (v := ?_) (a' := ?_) #[true, true, true, true, true, false, false, false, false, false] rfl rfl (by kernel_rfl) (fun _ _ _ h => h) (Or.inl ⟨by rfl, ?_⟩) ?_ ?_
          rotate_left
          · intro w'
            go_simp
            with_reducible rfl
          rotate_left
          · simp only [Act.put, List.setIfInBounds_toArray, List.set_cons_zero, List.set_cons_succ, i64_w, i32_w]
            rfl
          refine pure_ (i := 5) (N := some 62) (v := ?_) (a' := ?_) #[true, true, true, true, true, true, false, false, false, false] rfl rfl (by kernel_rfl) (fun _ _ _ h => h) (Or.inl ⟨by rfl, ?_⟩) ?_ ?_
          rotate_left
          · intro w'
            go_simp
            with_reducible rfl
          rotate_left
          · simp only [Act.put, List.setIfInBounds_toArray, List.set_cons_zero, List.set_cons_succ, i64_w, i32_w]
            rfl
          refine pure_ (i := 6) (N := some 63) (v := ?_) (a' := ?_) #[true, true, true, true, true, true, true, false, false, false] rfl rfl (by kernel_rfl) (fun _ _ _ h => h) (Or.inl ⟨by rfl, ?_⟩) ?_ ?_
          rotate_left
          · intro w'
            go_simp
            with_reducible rfl
          rotate_left
          · simp only [Act.put, List.setIfInBounds_toArray, List.set_cons_zero, List.set_cons_succ, i64_w, i32_w]
            rfl
          refine pure_ (i := 7) (N := some 64) (v := ?_) (a' := ?_) #[true, true, true, true, true, true, true, true, false, false] rfl rfl (by kernel_rfl) (fun _ _ _ h => h) (Or.inl ⟨by rfl, ?_⟩) ?_ ?_
          rotate_left
          · intro w'
            go_simp
            with_reducible rfl
          rotate_left
          · simp only [Act.put, List.setIfInBounds_toArray, List.set_cons_zero, List.set_cons_succ, i64_w, i32_w]
            rfl
          refine take_ (i := 8) (N := some 65) (v := ?_) (a' := ?_) #[true, true, true, true, true, true, true, true, true, false] rfl rfl (by kernel_rfl) (fun _ _ _ h => h) (Or.inl ⟨by rfl, ?_⟩) hHeld ?_ ?_
          rotate_left
          · rintro w' ⟨h0_, h1_⟩
            go_simp
            with_reducible rfl
          rotate_left
          · simp only [Act.put, List.setIfInBounds_toArray, List.set_cons_zero, List.set_cons_succ, i64_w, i32_w]
            rfl
          refine last_ (i := 9) (N := none) #[true, true, true, true, true, true, true, true, true, true] rfl rfl (by kernel_rfl) (by decide) (fun K hK => ?_)
          obtain ⟨w7, hrun_, ht_, hg_⟩ := HT7.out.drop 0
          replace hrun_ : (Builtin.delete_ #[53, 31] 0 #[.map (some mb), .int .u32 x0.m.f0]).run Try.prog wd = .ok (.tuple #[]) w7 := hrun_
          refine value_ (w1 := w7) (v := .tuple #[]) (by rfl) rfl ?_ ?_
          · go_simp
            try with_reducible rfl
          have HT8 := Aside0.mk ht_
          have HG8 := Aside0.mk hg_
          clear hrun_ ht_ hg_
          refine hK.out _ _ ?_
          clear hK K
          refine done_ (by kernel_rfl) ?_
          have hk8 := Kp.grown (S := fun k => k = mb) HG8.out (fun k hk => (Option.some.inj hk).symm)
          obtain ⟨f8, hp8, _⟩ := HT7.out.map
          have HR5h := Aside0.mk (RM_kp HR5g.out hk8 (fun k hk e => by obtain ⟨_, cells, q2⟩ := RM_typed HR5g.out hk; exact hp8.ne q2 e.symm))
          have HR6h := Aside0.mk (RP_kp HR6g.out hk8 (fun k hk e => by obtain ⟨_, cells, q2⟩ := RP_typed HR6g.out hk; exact hp8.ne q2 e.symm))
          clear hk8 hp8
          try go_wp2
          go_roundw
          case rel =>
            refine ⟨A36, c36, A6, c6, v2, ps ++ [(b0, x0)], ⟨rfl, by simp, rfl⟩, ⟨rfl, by rw [HAG.out], rfl⟩, ⟨by rw [List.length_append, List.map_append]; exact HR5h.out⟩, ⟨by rw [HAG.out]; exact HR6h.out⟩, rest2, ⟨by rw [HAG.out]; exact HT8.out⟩, ⟨HPS.out.1, HPS.out.2.1, fun a b hab a' b' hab' => HPS.out.2.2 (a, b) hab (a', b') hab'⟩, HV2, by rw [List.length_append]; simp; omega⟩
          case measure => simp [lenOf]; have := HLN.out; omega
      · have hrpI : ¬ (rest.length : Int) > 0 := by omega
        have hend : ps.length = min kk.toNat hs.length := by
          have h1 := HS.out.1.length_eq
          rw [List.length_append] at h1
          omega
        have HLK := Aside0.mk hend
        clear hend
        have HVC := Aside0.mk (show ∀ k, (Value.slice A6 (again t ps).length c6).ownBlock = some k → ((Value.slice Ac rest.length cc)).ownBlock ≠ some k from fun k hk e => by rw [HV.out] at e; have := HVO.out k e; obtain ⟨q1, _⟩ := RP_typed HR6.out hk; omega)
        have HLS := Aside0.mk (show rest.length + (again t ps).length ≤ 900000 by have h1 := HS.out.1.length_eq; rw [List.length_append] at h1; have := HLL.out; have : (again t ps).length ≤ ps.length := List.length_filterMap_le _ _; omega)
        generalize hL : again t ps = L at HR6 HT HAGL HVC HLS ⊢
        have HLE := Aside0.mk hL
        have hLl := HAGL.out
        clear hL
        go_wp2
        go_loopw [68] (fun u wr2 => ∃ (i : Nat) (v2 : Value) (rest2 : Hs), i ≤ L.length ∧ u = .int .i64 i ∧ Aside0 (Tk w wr2 g mb n t last v v2 hs rest2 (L.drop i) []) ∧ Aside0 (rest2.Perm (rest ++ L.take i)) ∧ Aside0 (Kd.R k33 33 wr2 w.heap.size (fun _ => True) (.slice A5 ps.length c5) (ps.map (·.2.m))) ∧ Aside0 (kP.R 62 wr2 w.heap.size (fun _ => True) (.slice A6 L.length c6) (L.map (·.1))) ∧ Aside0 ((v2.ownBlock = v.ownBlock ∨ ∃ k, v2.ownBlock = some k ∧ w.heap.size ≤ k) ∧ ∀ k, (Value.slice A6 L.length c6).ownBlock = some k → v2.ownBlock ≠ some k)) (fun u _ => L.length - (intOf u).toNat)
        case atStart => exact ⟨0, (Value.slice Ac rest.length cc), rest, Nat.zero_le _, rfl, HT, ⟨by rw [List.take_zero, List.append_nil]⟩, HR5, HR6, ⟨Or.inl HV.out, HVC.out⟩⟩
        case round =>
          clear HT HR5 HR6 HV
          obtain ⟨i, v2, rest2, hi, rfl, HT2, HP2, HR5b, HR6b, HO2⟩ := hrel
          by_cases hlt2 : (i : Int) < (L.length : Int)
          · obtain ⟨bi, xi, ei⟩ := get_some (hs := L) (k := i) (by omega)
            obtain ⟨r6, eA6, ci6⟩ := RP_at HR6b.out ei
            have hi0 : 0 ≤ (i : Int) := by omega
            have hdr : L.drop i = (bi, xi) :: L.drop (i + 1) := by
              obtain ⟨hj', e⟩ := List.getElem?_eq_some_iff.1 ei
              rw [List.drop_eq_getElem_cons hj', e]
            have ht2 := HT2.out
            rw [hdr] at ht2
            have hin : (bi, xi) ∈ ((bi, xi) :: L.drop (i + 1)) ++ ([] : Hs) := by simp
            obtain ⟨z, hz⟩ := ht2.mem _ hin
            have hap := ht2.apart hin
            have HPU := Aside0.mk (hpush_calls wr g t last (.map (some mb)) v2 rest2 bi xi z ht2.rq ht2.isH hz (fun p hp e => hap.2 (Or.inr ⟨p, hp, e⟩)) (by have h1 := HP2.out.length_eq; rw [List.length_append, List.length_take] at h1; have := HLS.out; omega))
            have HT2' := Aside0.mk ht2
            have HZ := Aside0.mk hz
            have HEI := Aside0.mk ei
            have HIL := Aside0.mk (show i < L.length by omega)
            clear ht2 hz hap hin hdr ei HT2
            subst eA6
            go_upto_region 16 with (first | (go_at_call 27; refine HPU.out.mono ?_; rintro e w3 ⟨v3, rest3, rfl, h1_, h2_, h3_, h4_, h5_⟩; have HT3 := Aside0.mk (HT2'.out.push h1_ h2_ h3_ h5_ (HT2'.out.sub' HO2.out.1)); have HP3 := Aside0.mk h2_; have HV3 := Aside0.mk h4_; have HK3 := Aside0.mk h5_; clear h1_ h2_ h3_ h4_ h5_ HPU))
            have hk3 := HK3.out
            have HR5c := Aside0.mk (RM_kp HR5b.out hk3 (fun k hk e => by
              obtain ⟨_, cells, q2⟩ := RM_typed HR5b.out hk
              rcases e with e | e | e
              · exact blk_ne q2 HT2'.out.rq.box (by decide) e
              · exact blk_ne q2 HZ.out (by decide) e
              · exact own_hos HT2'.out q2 (by decide) (by decide) (fun e' => by obtain ⟨c', q3⟩ := Kd.R_typed HT2'.out.rq.ho.row k e'; exact blk_ne q2 q3 (by decide) rfl) (Or.inr e)))
            have HR6c := Aside0.mk (RP_kp HR6b.out hk3 (fun k hk e => by
              obtain ⟨_, cells, q2⟩ := RP_typed HR6b.out hk
              rcases e with e | e | e
              · exact blk_ne q2 HT2'.out.rq.box (by decide) e
              · exact blk_ne q2 HZ.out (by decide) e
              · exact own_hos HT2'.out q2 (by decide) (by decide) (HO2.out.2 k hk) (Or.inr e)))
            have HO3 : Aside0 ((v3.ownBlock = v.ownBlock ∨ ∃ k, v3.ownBlock = some k ∧ w.heap.size ≤ k) ∧ ∀ k, (Value.slice (some ⟨r6, 0, none⟩) L.length c6).ownBlock = some k → v3.ownBlock ≠ some k) := by
              rcases HV3.out with e | ⟨k', e, hle⟩
              · rw [e]; exact ⟨HO2.out⟩
              · refine ⟨Or.inr ⟨k', e, Nat.le_trans HT2'.out.kp.size hle⟩, fun k hk e' => ?_⟩
                rw [e] at e'
                injection e' with e'
                have := Kd.R_lt HR6b.out k hk
                omega
            have HP4 : Aside0 (rest3.Perm (rest ++ L.take (i + 1))) := ⟨by
              have e1 : L.take (i + 1) = L.take i ++ [(bi, xi)] := by rw [List.take_add_one, HEI.out]; rfl
              rw [e1, ← List.append_assoc]
              exact HP3.out.trans ((List.Perm.cons _ HP2.out).trans (List.perm_append_singleton _ _).symm)⟩
            clear hk3 HR5b HR6b HO2 HV3 HP3 HP2 HT2' HZ
            go_wp2
            go_roundw
            case rel => first | exact ⟨i + 1, v3, rest3, by have := HIL.out; omega, by go_num, HT3, HP4, HR5c, HR6c, HO3⟩ | (refine ⟨i + 1, v3, rest3, ?_, ?_, HT3, HP4, HR5c, HR6c, HO3⟩ <;> first | (have := HIL.out; omega) | go_num)
            case measure => have := HIL.out; simp [intOf, wrap64]; omega
          · obtain rfl : i = L.length := by omega
            go_wp2
            go_ret
            have ht2 := HT2.out
            rw [List.drop_length] at ht2
            have hp2 := HP2.out
            rw [List.take_length, ← HLE.out] at hp2
            first | exact ⟨A5, c5, v2, rest2, ps, rfl, HR5b.out, ht2, rest, HS.out.1, HS.out.2.1, HS.out.2.2, HLK.out, hp2, HO2.out.1⟩ | exact ⟨A5, c5, v2, rest2, ps, rfl, HR5b.out, ht2, rest, HS.out.1, HS.out.2.1, fun a b hab a' b' hab' => HS.out.2.2 (a, b) hab (a', b') hab', HLK.out, hp2, HO2.out.1⟩
    · have hend : ps.length = min kk.toNat hs.length := by
        have h1 := HS.out.1.length_eq
        rw [List.length_append] at h1
        omega
      have HLK := Aside0.mk hend
      clear hend
      have HVC := Aside0.mk (show ∀ k, (Value.slice A6 (again t ps).length c6).ownBlock = some k → ((Value.slice Ac rest.length cc)).ownBlock ≠ some k from fun k hk e => by rw [HV.out] at e; have := HVO.out k e; obtain ⟨q1, _⟩ := RP_typed HR6.out hk; omega)
      have HLS := Aside0.mk (show rest.length + (again t ps).length ≤ 900000 by have h1 := HS.out.1.length_eq; rw [List.length_append] at h1; have := HLL.out; have : (again t ps).length ≤ ps.length := List.length_filterMap_le _ _; omega)
      generalize hL : again t ps = L at HR6 HT HAGL HVC HLS ⊢
      have HLE := Aside0.mk hL
      have hLl := HAGL.out
      clear hL
      go_wp2
      go_loopw [68] (fun u wr2 => ∃ (i : Nat) (v2 : Value) (rest2 : Hs), i ≤ L.length ∧ u = .int .i64 i ∧ Aside0 (Tk w wr2 g mb n t last v v2 hs rest2 (L.drop i) []) ∧ Aside0 (rest2.Perm (rest ++ L.take i)) ∧ Aside0 (Kd.R k33 33 wr2 w.heap.size (fun _ => True) (.slice A5 ps.length c5) (ps.map (·.2.m))) ∧ Aside0 (kP.R 62 wr2 w.heap.size (fun _ => True) (.slice A6 L.length c6) (L.map (·.1))) ∧ Aside0 ((v2.ownBlock = v.ownBlock ∨ ∃ k, v2.ownBlock = some k ∧ w.heap.size ≤ k) ∧ ∀ k, (Value.slice A6 L.length c6).ownBlock = some k → v2.ownBlock ≠ some k)) (fun u _ => L.length - (intOf u).toNat)
      case atStart => exact ⟨0, (Value.slice Ac rest.length cc), rest, Nat.zero_le _, rfl, HT, ⟨by rw [List.take_zero, List.append_nil]⟩, HR5, HR6, ⟨Or.inl HV.out, HVC.out⟩⟩
      case round =>
        clear HT HR5 HR6 HV
        obtain ⟨i, v2, rest2, hi, rfl, HT2, HP2, HR5b, HR6b, HO2⟩ := hrel
        by_cases hlt2 : (i : Int) < (L.length : Int)
        · obtain ⟨bi, xi, ei⟩ := get_some (hs := L) (k := i) (by omega)
          obtain ⟨r6, eA6, ci6⟩ := RP_at HR6b.out ei
          have hi0 : 0 ≤ (i : Int) := by omega
          have hdr : L.drop i = (bi, xi) :: L.drop (i + 1) := by
            obtain ⟨hj', e⟩ := List.getElem?_eq_some_iff.1 ei
            rw [List.drop_eq_getElem_cons hj', e]
          have ht2 := HT2.out
          rw [hdr] at ht2
          have hin : (bi, xi) ∈ ((bi, xi) :: L.drop (i + 1)) ++ ([] : Hs) := by simp
          obtain ⟨z, hz⟩ := ht2.mem _ hin
          have hap := ht2.apart hin
          have HPU := Aside0.mk (hpush_calls wr g t last (.map (some mb)) v2 rest2 bi xi z ht2.rq ht2.isH hz (fun p hp e => hap.2 (Or.inr ⟨p, hp, e⟩)) (by have h1 := HP2.out.length_eq; rw [List.length_append, List.length_take] at h1; have := HLS.out; omega))
          have HT2' := Aside0.mk ht2
          have HZ := Aside0.mk hz
          have HEI := Aside0.mk ei
          have HIL := Aside0.mk (show i < L.length by omega)
          clear ht2 hz hap hin hdr ei HT2
          subst eA6
          go_upto_region 16 with (first | (go_at_call 27; refine HPU.out.mono ?_; rintro e w3 ⟨v3, rest3, rfl, h1_, h2_, h3_, h4_, h5_⟩; have HT3 := Aside0.mk (HT2'.out.push h1_ h2_ h3_ h5_ (HT2'.out.sub' HO2.out.1)); have HP3 := Aside0.mk h2_; have HV3 := Aside0.mk h4_; have HK3 := Aside0.mk h5_; clear h1_ h2_ h3_ h4_ h5_ HPU))
          have hk3 := HK3.out
          have HR5c := Aside0.mk (RM_kp HR5b.out hk3 (fun k hk e => by
            obtain ⟨_, cells, q2⟩ := RM_typed HR5b.out hk
            rcases e with e | e | e
            · exact blk_ne q2 HT2'.out.rq.box (by decide) e
            · exact blk_ne q2 HZ.out (by decide) e
            · exact own_hos HT2'.out q2 (by decide) (by decide) (fun e' => by obtain ⟨c', q3⟩ := Kd.R_typed HT2'.out.rq.ho.row k e'; exact blk_ne q2 q3 (by decide) rfl) (Or.inr e)))
          have HR6c := Aside0.mk (RP_kp HR6b.out hk3 (fun k hk e => by
            obtain ⟨_, cells, q2⟩ := RP_typed HR6b.out hk
            rcases e with e | e | e
            · exact blk_ne q2 HT2'.out.rq.box (by decide) e
            · exact blk_ne q2 HZ.out (by decide) e
            · exact own_hos HT2'.out q2 (by decide) (by decide) (HO2.out.2 k hk) (Or.inr e)))
          have HO3 : Aside0 ((v3.ownBlock = v.ownBlock ∨ ∃ k, v3.ownBlock = some k ∧ w.heap.size ≤ k) ∧ ∀ k, (Value.slice (some ⟨r6, 0, none⟩) L.length c6).ownBlock = some k → v3.ownBlock ≠ some k) := by
            rcases HV3.out with e | ⟨k', e, hle⟩
            · rw [e]; exact ⟨HO2.out⟩
            · refine ⟨Or.inr ⟨k', e, Nat.le_trans HT2'.out.kp.size hle⟩, fun k hk e' => ?_⟩
              rw [e] at e'
              injection e' with e'
              have := Kd.R_lt HR6b.out k hk
              omega
          have HP4 : Aside0 (rest3.Perm (rest ++ L.take (i + 1))) := ⟨by
            have e1 : L.take (i + 1) = L.take i ++ [(bi, xi)] := by rw [List.take_add_one, HEI.out]; rfl
            rw [e1, ← List.append_assoc]
            exact HP3.out.trans ((List.Perm.cons _ HP2.out).trans (List.perm_append_singleton _ _).symm)⟩
          clear hk3 HR5b HR6b HO2 HV3 HP3 HP2 HT2' HZ
          go_wp2
          go_roundw
          case rel => first | exact ⟨i + 1, v3, rest3, by have := HIL.out; omega, by go_num, HT3, HP4, HR5c, HR6c, HO3⟩ | (refine ⟨i + 1, v3, rest3, ?_, ?_, HT3, HP4, HR5c, HR6c, HO3⟩ <;> first | (have := HIL.out; omega) | go_num)
          case measure => have := HIL.out; simp [intOf, wrap64]; omega
        · obtain rfl : i = L.length := by omega
          go_wp2
          go_ret
          have ht2 := HT2.out
          rw [List.drop_length] at ht2
          have hp2 := HP2.out
          rw [List.take_length, ← HLE.out] at hp2
          first | exact ⟨A5, c5, v2, rest2, ps, rfl, HR5b.out, ht2, rest, HS.out.1, HS.out.2.1, HS.out.2.2, HLK.out, hp2, HO2.out.1⟩ | exact ⟨A5, c5, v2, rest2, ps, rfl, HR5b.out, ht2, rest, HS.out.1, HS.out.2.1, fun a b hab a' b' hab' => HS.out.2.2 (a, b) hab (a', b') hab', HLK.out, hp2, HO2.out.1⟩
end Go.Proofs.Ytihmblbnnhcdnaa.Print
