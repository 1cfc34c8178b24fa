/- Some texts of the proof in one: XBasP, XRefV, XSpoil, XRLive, XRMerP, XRMerW, XRMerC, XRMerS, XRMerN, XRMerge, XLawsM, XAct, XPlaysA. -/
import Derived.Test.YtognmibankcefaaXNil
import Derived.Test.YtognmibankcefaaXEqual
import Derived.Test.YtognmibankcefaaXRefM
import Derived.Test.YtognmibankcefaaF19
import Derived.Test.YtognmibankcefaaXView
import Derived.Test.YtognmibankcefaaXLive
import Derived.Test.YtognmibankcefaaXOpens
import Derived.Test.YtognmibankcefaaXMem
section
/- What MemberPlays takes of the rows of members: reading, equality, a row as the print's own rows. -/
namespace Go.Proofs.Ytognmibankcefaa.Print
open Go.RowKit Go.Maps Go.ChangeMaps Go.Proofs.YtognmibankcefaaW.PrintWords Go.Proofs.YtognmibankcefaaW.PrintLast Go.Proofs.YtognmibankcefaaW.PrintMore
set_option linter.unusedVariables false
set_option linter.unusedSimpArgs false
theorem info25 : (Try.prog.info? 25).map (fun i => (i.zero, i.size, i.bytes)) = some (some (.agg #[.int .u32 0, .int .u32 0, .int .u8 0, .string ⟨#[]⟩]), 4, 32) := by kernel_rfl
theorem own_C {w : World} {base : Nat} {v : Value} {L : List Mem} (h : w.ownsRow base 25 4 v L.length (flatM L)) : ∃ A c, v = .slice A L.length c ∧ L.length ≤ c ∧ Kd.C k25 w A L.length L := by
  refine Kd.R_reads (e := 25) (base := base) (ok := fun _ => True) ⟨fun _ _ => trivial, flatM L, h, ?_, fun j p hj => ?_⟩
  · exact flatM_length L
  · have h1 : L.drop j = p :: L.drop (j + 1) := by
      obtain ⟨hj', e⟩ := List.getElem?_eq_some_iff.1 hj
      rw [List.drop_eq_getElem_cons hj', e]
    show Kd.M _ _ _ _ _ (((flatM L).drop (j * 4)).take 4)
    rw [flatM_drop, h1]
    exact k25_mkM _ _ _ p
theorem equal_l0 (L : List Mem) (hl : L.length ≤ 1000000) (d : Nat) : ∀ i : Nat, L.length - i ≤ d → i ≤ L.length → Ev (fun k => hearsayref17_Equal.l0 k L L (i : Int)) true := by
  have fin : Ev (fun k => hearsayref17_Equal.l0 k L L (L.length : Int)) true := by
    refine Ev.step (f := fun _ => some true) (fun k => ?_) (Ev.now _)
    simp only [hearsayref17_Equal.l0]
    rw [if_neg (by omega)]
  induction d with
  | zero =>
    intro i hd hi
    have : i = L.length := by omega
    subst this
    exact fin
  | succ d ih =>
    intro i hd hi
    by_cases hlt : i < L.length
    · refine Ev.step (fun k => ?_) (ih (i + 1) (by omega) (by omega))
      simp only [hearsayref17_Equal.l0]
      rw [if_pos (by omega), if_pos (by omega), if_pos (by omega), if_neg (by simp), w64 (by omega) (by omega)]
      rfl
    · exact ih i (by omega) hi
theorem equal_same (L : List Mem) (hl : L.length ≤ 1000000) : ∃ k, hearsayref17_Equal.f k L L = some true := by
  obtain ⟨K, hK⟩ := equal_l0 L hl L.length 0 (by omega) (by omega)
  refine ⟨K, ?_⟩
  unfold hearsayref17_Equal.f
  rw [if_pos rfl]
  exact hK K (Nat.le_refl _)
theorem VF.trans {w w1 w2 : World} {b : Nat} (h : VF w w1 b) (k : VF w1 w2 b) : VF w w2 b := World.grownBy.andThen h k (fun j hj => Or.inr hj)
theorem RowAt.kept {w w' : World} {g cap n b : Nat} {xs : List Mem} (h : RowAt w g cap n xs) (k : VF w w' b) (hne : b ≠ g) : RowAt w' g cap n xs := by
  have hlt := h.lt
  obtain ⟨cur, h1, h2⟩ := h
  exact ⟨cur, (k.block g hlt (fun e => hne (Option.some.inj e).symm)).trans h1, h2⟩
theorem own_R {w : World} {base : Nat} {v : Value} {L : List Mem} (h : w.ownsRow base 25 4 v L.length (flatM L)) : Kd.R k25 25 w base (fun _ => True) v L := by
  refine ⟨fun _ _ => trivial, flatM L, h, flatM_length L, fun j p hj => ?_⟩
  have h1 : L.drop j = p :: L.drop (j + 1) := by
    obtain ⟨hj', e⟩ := List.getElem?_eq_some_iff.1 hj
    rw [List.drop_eq_getElem_cons hj', e]
  show Kd.M _ _ _ _ _ (((flatM L).drop (j * 4)).take 4)
  rw [flatM_drop, h1]
  exact k25_mkM _ _ _ p
theorem flat_of : ∀ (L : List Mem) (inner : List Value), inner.length = L.length * 4 → (∀ (j : Nat) (p : Mem), L[j]? = some p → (inner.drop (j * 4)).take 4 = memC p) → inner = flatM L
  | [], inner, h, _ => List.eq_nil_of_length_eq_zero (by simpa using h)
  | x :: L, inner, h, hj => by
    have h0 := hj 0 x rfl
    simp only [Nat.zero_mul, List.drop_zero] at h0
    have hr := flat_of L (inner.drop 4) (by rw [List.length_drop, h]; simp only [List.length_cons]; omega) (fun j p hp => by
      have h2 := hj (j + 1) p (by simpa using hp)
      rw [List.drop_drop, show 4 + j * 4 = (j + 1) * 4 by omega]
      exact h2)
    show inner = memC x ++ flatM L
    rw [← h0, ← hr, List.take_append_drop]
theorem R_owns {w : World} {base : Nat} {ok : Nat → Prop} {v : Value} {L : List Mem} (h : Kd.R k25 25 w base ok v L) : w.ownsRow base 25 4 v L.length (flatM L) := by
  obtain ⟨_, inner, ho, hr⟩ := h
  have e : inner = flatM L := flat_of L inner hr.1 (fun j p hp => k25_openM (hr.2 j p hp))
  rw [← e]
  exact ho
/-- a row of a call's own is a row in memory -/
theorem R_rowAt {w : World} {base : Nat} {ok : Nat → Prop} {v : Value} {L : List Mem} (h : Kd.R k25 25 w base ok v L) (h0 : 0 < L.length) : ∃ g c, v = .slice (some ⟨g, 0, none⟩) L.length c ∧ base ≤ g ∧ L.length ≤ c ∧ c ≤ maxLen ∧ RowAt w g c L.length L := by
  obtain ⟨_, h1⟩ := R_owns h
  rcases h1 with ⟨_, h1⟩ | ⟨g, c, cur, rfl, h2, h3, h4, h5, h6, h7⟩
  · omega
  · exact ⟨g, c, rfl, h2, h4, h5, cur, h3, h6, h4, h5, h7, rfl⟩
end Go.Proofs.Ytognmibankcefaa.Print
end
section
/- The document's view: its members in a row; Get, walked. Writing over members, walked. -/
namespace Go.Proofs.Ytognmibankcefaa.Print
open Go.RowKit Go.Maps Go.ChangeMaps Go.Proofs.YtognmibankcefaaW.PrintWords Go.Proofs.YtognmibankcefaaW.PrintLast Go.Proofs.YtognmibankcefaaW.PrintMore
set_option linter.unusedVariables false
set_option linter.unusedSimpArgs false
/-- the document's view at block h: its members in the row p -/
structure Rv (w : World) (h : Nat) (p : Option Addr) (c : Nat) (l : List Mem) : Prop where
  box : w.heap[h]? = some (.cells #[.slice p l.length c] 48 (0, 0))
  cap : l.length ≤ c ∧ c ≤ maxLen
  nul : l.length = 0 → p = none ∧ c = 0
  row : 0 < l.length → ∃ g, p = some ⟨g, 0, none⟩ ∧ RowAt w g c l.length l
theorem Rv.cell {w : World} {h c : Nat} {p : Option Addr} {l : List Mem} (k : Rv w h p c l) : w.cell? ⟨h, 0, none⟩ = some (.slice p l.length c) := (blk_cell k.box 0).trans rfl
theorem Rv.below {w w' : World} {h c : Nat} {p : Option Addr} {l : List Mem} (k : Rv w h p c l) (hb : Below w.heap.size w w') : Rv w' h p c l :=
  ⟨blk_below k.box hb, k.cap, k.nul, fun h0 => by obtain ⟨g, e, hr⟩ := k.row h0; exact ⟨g, e, hr.below hb⟩⟩
theorem Rv.R {w : World} {h c : Nat} {p : Option Addr} {l : List Mem} (k : Rv w h p c l) : Kd.R k25 25 w 0 (fun _ => True) (.slice p l.length c) l := by
  rcases Nat.eq_zero_or_pos l.length with h0 | h0
  · obtain ⟨rfl, rfl⟩ := k.nul h0
    obtain rfl : l = [] := List.eq_nil_of_length_eq_zero h0
    exact Kd.R_nil _ _ _ _ _
  · obtain ⟨g, rfl, hr⟩ := k.row h0
    exact own_R (own_of hr (Nat.zero_le _))
theorem getL_none (l : List Mem) (a : Int) (h : ∀ (j : Nat) (x : Mem), l[j]? = some x → x.f0 ≠ a) : getL l a = none := by
  unfold getL
  rw [List.find?_eq_none]
  intro x hx
  obtain ⟨j, hj, e⟩ := List.getElem_of_mem hx
  have := h j x (by rw [List.getElem?_eq_getElem hj, e])
  simpa using this
theorem put4 {w : World} {g : Nat} {p q r s : Value} (h : w.heap[g]? = some (.cells #[p, q, r, s] 25 (0, 0))) (x : Mem) :
    ((((w.setCell ⟨g, 0, none⟩ (.int .u32 x.f0)).setCell ⟨g, 1, none⟩ (.int .u32 x.f1)).setCell ⟨g, 2, none⟩ (.int .u8 x.f2)).setCell ⟨g, 3, none⟩ (.string x.f3)).heap[g]? = some (.cells #[.int .u32 x.f0, .int .u32 x.f1, .int .u8 x.f2, .string x.f3] 25 (0, 0)) :=
  blk_put (blk_put (blk_put (blk_put h 0 _ rfl) 1 _ rfl) 2 _ rfl) 3 _ rfl
set_option maxHeartbeats 8000000 in
set_option maxRecDepth 100000 in
theorem refget_calls (w : World) (h c : Nat) (p : Option Addr) (l : List Mem) (a : Int) (hV : Rv w h p c l) (hR : Rises l) (hl : l.length ≤ 100000) : Calls Try.prog 23 #[.pointer (some ⟨h, 0, none⟩), .int .u32 a] w fun e w' =>
    e = .returned (.tuple #[memV ((getL l a).getD z25), .int .i64 (if (getL l a).isSome then 0 else 4)]) ∧ Below w.heap.size w w' := by
  have hu25 := Try.underlying25
  obtain ⟨og, hog⟩ : ∃ o, o = getL l a := ⟨_, rfl⟩
  rw [← hog]
  have HOG := Aside0.mk hog
  clear hog
  obtain ⟨er, her⟩ : ∃ n : Int, n = (if og.isSome then 0 else 4) := ⟨_, rfl⟩
  obtain ⟨mv, hmv⟩ : ∃ v, v = memV (og.getD z25) := ⟨_, rfl⟩
  rw [← her, ← hmv]
  have HER := Aside0.mk her
  have HMV := Aside0.mk hmv
  clear her hmv
  have HV := Aside0.mk hV
  have HRi := Aside0.mk hR
  clear hV hR
  go_enter Try.func23, Try.ntmps23
  go_upto_region 1 with (fail)
  have HB0 := Aside0.mk (below_alloc (Below.refl w.heap.size w) (.cells #[.int .u32 0, .int .u32 0, .int .u8 0, .string ⟨#[]⟩] 25))
  have HZ := Aside0.mk (blk_new w (.cells #[.int .u32 0, .int .u32 0, .int .u8 0, .string ⟨#[]⟩] 25))
  have HV1 := Aside0.mk (HV.out.below HB0.out)
  generalize hw1 : w.alloc (.cells #[.int .u32 0, .int .u32 0, .int .u8 0, .string ⟨#[]⟩] 25) = w1 at HB0 HZ HV1 ⊢
  clear hw1
  have hcell := HV1.out.cell
  go_wp2
  go_loopw [6] (fun i wr => ∃ k : Nat, k ≤ l.length ∧ i = .int .i64 k ∧ wr = w1 ∧ Aside0 (∀ (j : Nat) (x : Mem), j < k → l[j]? = some x → x.f0 ≠ a)) (fun i _ => l.length - (intOf i).toNat)
  case atStart => exact ⟨0, Nat.zero_le _, rfl, rfl, ⟨fun j x hj => absurd hj (by omega)⟩⟩
  case round =>
    obtain ⟨k, hk, rfl, rfl, HN⟩ := hrel
    by_cases hlt : (k : Int) < (l.length : Int)
    · have HLT := Aside0.mk (show k < l.length by omega)
      obtain ⟨gr, rfl, hrow⟩ := HV1.out.row (by omega)
      have hk0 : 0 ≤ (k : Int) := by omega
      obtain ⟨y, hy⟩ : ∃ y, l[k]? = some y := ⟨l[k]'(by omega), List.getElem?_eq_getElem (by omega)⟩
      have c0 : wr.cell? ⟨gr, k * 4, none⟩ = some (.int .u32 y.f0) := hrow.at hy 0 (by omega) _ rfl
      have c1 : wr.cell? ⟨gr, k * 4 + 1, none⟩ = some (.int .u32 y.f1) := hrow.at hy 1 (by omega) _ rfl
      have c2 : wr.cell? ⟨gr, k * 4 + 2, none⟩ = some (.int .u8 y.f2) := hrow.at hy 2 (by omega) _ rfl
      have c3 : wr.cell? ⟨gr, k * 4 + 3, none⟩ = some (.string y.f3) := hrow.at hy 3 (by omega) _ rfl
      have HY := Aside0.mk hy
      clear hy
      by_cases he : y.f0 = a
      · have hg : getL l a = some y := by rw [← he]; exact get_of HRi.out (List.mem_of_getElem? HY.out)
        have HG := Aside0.mk (HOG.out.trans hg)
        have heq : (y.f0 == a) = true := by simpa using he
        clear hg he
        have z0_ : wr.cell? ⟨w.heap.size, 0, none⟩ = some (.int .u32 0) := (blk_cell HZ.out 0).trans rfl
        have z1_ : wr.cell? ⟨w.heap.size, 1, none⟩ = some (.int .u32 0) := (blk_cell HZ.out 1).trans rfl
        have z2_ : wr.cell? ⟨w.heap.size, 2, none⟩ = some (.int .u8 0) := (blk_cell HZ.out 2).trans rfl
        have z3_ : wr.cell? ⟨w.heap.size, 3, none⟩ = some (.string ⟨#[]⟩) := (blk_cell HZ.out 3).trans rfl
        have f0_ := blk_frozen HZ.out 0
        have f1_ := blk_frozen HZ.out 1
        have f2_ := blk_frozen HZ.out 2
        have f3_ := blk_frozen HZ.out 3
        have hbz := blk_lt HZ.out
        go_wp2
        refine bodyPost_ret (results_ct rfl _ _ w.heap.size 25 #[.int .u32 y.f0, .int .u32 y.f1, .int .u8 y.f2, .string y.f3] (0, 0) _ rfl (put4 HZ.out y) Try.underlying25 rfl (by kernel_rfl)) rfl ?_
        exact ⟨by rw [HMV.out, HER.out, HG.out]; rfl, below_set (below_set (below_set (below_set HB0.out (Nat.le_refl _)) (Nat.le_refl _)) (Nat.le_refl _)) (Nat.le_refl _)⟩
      · have hne : (y.f0 == a) = false := by simpa using he
        have HE := Aside0.mk he
        clear he
        go_wp2
        go_roundw
        case rel => exact ⟨k + 1, by have := HLT.out; omega, by go_num, trivial, ⟨fun j x hj hx => by
          rcases Nat.lt_or_ge j k with h1 | h1
          · exact HN.out j x h1 hx
          · have : j = k := by omega
            subst this
            rw [HY.out] at hx
            injection hx with hx
            rw [← hx]
            exact HE.out⟩⟩
        case measure => have := HLT.out; simp [intOf, wrap64]; omega
    · have hn : getL l a = none := getL_none l a (fun j x hx => HN.out j x (by have := (List.getElem?_eq_some_iff.1 hx).1; omega) hx)
      have HG := Aside0.mk (HOG.out.trans hn)
      have z0_ : wr.cell? ⟨w.heap.size, 0, none⟩ = some (.int .u32 0) := (blk_cell HZ.out 0).trans rfl
      have z1_ : wr.cell? ⟨w.heap.size, 1, none⟩ = some (.int .u32 0) := (blk_cell HZ.out 1).trans rfl
      have z2_ : wr.cell? ⟨w.heap.size, 2, none⟩ = some (.int .u8 0) := (blk_cell HZ.out 2).trans rfl
      have z3_ : wr.cell? ⟨w.heap.size, 3, none⟩ = some (.string ⟨#[]⟩) := (blk_cell HZ.out 3).trans rfl
      have f0_ := blk_frozen HZ.out 0
      have f1_ := blk_frozen HZ.out 1
      have f2_ := blk_frozen HZ.out 2
      have f3_ := blk_frozen HZ.out 3
      have hbz := blk_lt HZ.out
      clear hn
      go_wp2
      refine bodyPost_ret (results_ct rfl _ _ w.heap.size 25 #[.int .u32 0, .int .u32 0, .int .u8 0, .string ⟨#[]⟩] (0, 0) _ rfl (put4 HZ.out z25) Try.underlying25 rfl (by kernel_rfl)) rfl ?_
      exact ⟨by rw [HMV.out, HER.out, HG.out]; rfl, below_set (below_set (below_set (below_set HB0.out (Nat.le_refl _)) (Nat.le_refl _)) (Nat.le_refl _)) (Nat.le_refl _)⟩
end Go.Proofs.Ytognmibankcefaa.Print
end
section
/- Writing over members, walked. -/
namespace Go.Proofs.Ytognmibankcefaa.Print
open Go.RowKit Go.Maps Go.ChangeMaps Go.Proofs.YtognmibankcefaaW.PrintWords Go.Proofs.YtognmibankcefaaW.PrintLast Go.Proofs.YtognmibankcefaaW.PrintMore
set_option linter.unusedVariables false
set_option linter.unusedSimpArgs false
set_option maxHeartbeats 4000000 in
set_option maxRecDepth 100000 in
theorem spoil_nil (w : World) (p : Option Addr) (cap : Nat) : Calls Try.prog 28 #[.slice p 0 cap] w fun e w' => e = .returned (.tuple #[]) ∧ w' = w := by
  go_enter Try.func28, Try.ntmps28
  go_wp2
  refine wp_loop_rounds 1 ?_
  rw [rounds_succ]
  go_wp2
  go_end0
  exact ⟨rfl, rfl⟩
set_option maxHeartbeats 8000000 in
set_option maxRecDepth 100000 in
theorem spoil_row (w : World) (g cap n : Nat) (xs : List Mem) (hr : RowAt w g cap n xs) (hl : n ≤ 100000) : Calls Try.prog 28 #[.slice (some ⟨g, 0, none⟩) n cap] w fun e w' => e = .returned (.tuple #[]) ∧ w.grownBy w' (some g) := by
  have hu25 := Try.underlying25
  have hcap : n ≤ cap := by obtain ⟨_, _, _, h, _⟩ := hr; exact h
  have HR := Aside0.mk hr
  clear hr
  go_enter Try.func28, Try.ntmps28
  go_wp2
  go_loopw [2] (fun i wr => ∃ (k : Nat) (ys : List Mem), k ≤ n ∧ i = .int .i64 k ∧ Aside0 (RowAt wr g cap n ys) ∧ Aside0 (w.grownBy wr (some g))) (fun i _ => n - (intOf i).toNat)
  case atStart => exact ⟨0, xs, Nat.zero_le _, rfl, HR, ⟨VF.of (Below.refl _ _)⟩⟩
  case round =>
    clear HR
    obtain ⟨k, ys, hk, rfl, HR, HG⟩ := hrel
    by_cases hlt : (k : Int) < (n : Int)
    · have HLT := Aside0.mk (show k < n by omega)
      have hyl : ys.length = n := by obtain ⟨_, _, _, _, _, _, h⟩ := HR.out; exact h
      obtain ⟨y, hy⟩ : ∃ y, ys[k]? = some y := ⟨ys[k]'(by omega), List.getElem?_eq_getElem (by omega)⟩
      have hk0 : 0 ≤ (k : Int) := by omega
      have c0 : wr.cell? ⟨g, k * 4, none⟩ = some (.int .u32 y.f0) := HR.out.at hy 0 (by omega) _ rfl
      have c1 : wr.cell? ⟨g, k * 4 + 1, none⟩ = some (.int .u32 y.f1) := HR.out.at hy 1 (by omega) _ rfl
      have c2 : wr.cell? ⟨g, k * 4 + 2, none⟩ = some (.int .u8 y.f2) := HR.out.at hy 2 (by omega) _ rfl
      have c3 : wr.cell? ⟨g, k * 4 + 3, none⟩ = some (.string y.f3) := HR.out.at hy 3 (by omega) _ rfl
      have f0 := HR.out.frozen (k * 4)
      have f1 := HR.out.frozen (k * 4 + 1)
      have f2 := HR.out.frozen (k * 4 + 2)
      have f3 := HR.out.frozen (k * 4 + 3)
      have hg3 : g < wr.heap.size := HR.out.lt
      clear hy hyl
      go_wp2
      go_roundw
      case rel => exact ⟨k + 1, ys.set k ⟨_, 0, 0, ⟨#[]⟩⟩, by have := HLT.out; omega, by go_num, ⟨HR.out.set (i := k) HLT.out ⟨_, 0, 0, ⟨#[]⟩⟩⟩, ⟨HG.out.andThen (setCells_grown wr g (k * 4) (memC ⟨_, 0, 0, ⟨#[]⟩⟩)) (fun k_ hk_ => Or.inr hk_)⟩⟩
      case measure => have := HLT.out; simp [intOf, wrap64]; omega
    · go_wp2
      go_end0
      exact ⟨rfl, HG.out⟩
end Go.Proofs.Ytognmibankcefaa.Print
end
section
/- The document's Live, walked. -/
namespace Go.Proofs.Ytognmibankcefaa.Print
open Go.RowKit Go.Maps Go.ChangeMaps Go.Proofs.YtognmibankcefaaW.PrintWords Go.Proofs.YtognmibankcefaaW.PrintLast Go.Proofs.YtognmibankcefaaW.PrintMore
set_option linter.unusedVariables false
set_option linter.unusedSimpArgs false
theorem one_C (W : World) (x : Mem) : Kd.C k25 (W.alloc (.cells #[.int .u32 x.f0, .int .u32 x.f1, .int .u8 x.f2, .string x.f3] 25)) (some ⟨W.heap.size, 0, none⟩) 1 [x] := by
  have hr : RowAt (W.alloc (.cells #[.int .u32 x.f0, .int .u32 x.f1, .int .u8 x.f2, .string x.f3] 25)) W.heap.size 1 1 [x] := ⟨_, blk_new W _, rfl, Nat.le_refl _, by unfold maxLen; omega, rfl, rfl⟩
  obtain ⟨A, c, e, _, hC⟩ := own_C (L := [x]) (own_of hr (Nat.zero_le _))
  injection e with e1 e2 e3
  subst e1
  exact hC
theorem live_push {l : List Mem} {k : Nat} {y : Mem} (h : l[k]? = some y) : liveL (l.take (k + 1)) = liveL (l.take k) ++ (if delM y = true then [] else [y]) := filter_push h
set_option maxHeartbeats 8000000 in
set_option maxRecDepth 100000 in
theorem reflive_calls (w : World) (h c : Nat) (p : Option Addr) (l : List Mem) (hV : Rv w h p c l) (hl : l.length ≤ 100000) (hst : ∀ x ∈ l, 0 ≤ x.f2) : Calls Try.prog 26 #[.pointer (some ⟨h, 0, none⟩)] w fun e w' =>
    ∃ A ca, e = .returned (.slice A (liveL l).length ca) ∧ (liveL l).length ≤ ca ∧ Kd.C k25 w' A (liveL l).length (liveL l) ∧ Below w.heap.size w w' := by
  have hu25 := Try.underlying25
  have HV := Aside0.mk hV
  have HST := Aside0.mk hst
  clear hV hst
  go_enter Try.func26, Try.ntmps26
  go_wp2
  go_loopw [3, 4] (fun v i wr => ∃ (k : Nat) (A : Option Addr) (m ca : Nat), k ≤ l.length ∧ v = .slice A m ca ∧ i = .int .i64 k ∧ Aside0 (Kd.R k25 25 wr w.heap.size (fun _ => True) (.slice A m ca) (liveL (l.take k))) ∧ Aside0 (Below w.heap.size w wr)) (fun _ i _ => l.length - (intOf i).toNat)
  case atStart => exact ⟨0, none, 0, 0, Nat.zero_le _, rfl, rfl, ⟨Kd.R_nil _ _ _ _ _⟩, ⟨Below.refl _ _⟩⟩
  case round =>
    obtain ⟨k, A, m, ca, hk, rfl, rfl, HR, HB⟩ := hrel
    have hcell := (HV.out.below HB.out).cell
    by_cases hlt : (k : Int) < (l.length : Int)
    · have HLT := Aside0.mk (show k < l.length by omega)
      obtain ⟨gr, rfl, hrow⟩ := (HV.out.below HB.out).row (by omega)
      have hk0 : 0 ≤ (k : Int) := by omega
      obtain ⟨y, hy⟩ : ∃ y, l[k]? = some y := ⟨l[k]'(by omega), List.getElem?_eq_getElem (by omega)⟩
      have c0 : wr.cell? ⟨gr, k * 4, none⟩ = some (.int .u32 y.f0) := hrow.at hy 0 (by omega) _ rfl
      have c1 : wr.cell? ⟨gr, k * 4 + 1, none⟩ = some (.int .u32 y.f1) := hrow.at hy 1 (by omega) _ rfl
      have c2 : wr.cell? ⟨gr, k * 4 + 2, none⟩ = some (.int .u8 y.f2) := hrow.at hy 2 (by omega) _ rfl
      have c3 : wr.cell? ⟨gr, k * 4 + 3, none⟩ = some (.string y.f3) := hrow.at hy 3 (by omega) _ rfl
      have hs0 := HST.out y (List.mem_of_getElem? hy)
      have HP := Aside0.mk (live_push hy)
      have HLL := Aside0.mk (show (liveL (l.take k)).length ≤ 100000 from Nat.le_trans (List.length_filter_le _ _) (by rw [List.length_take]; omega))
      clear hy hrow
      by_cases hd : 2 ≤ y.f2
      · have hq0 : (y.f2 == 0) = false := by simp; omega
        have hq1 : (y.f2 == 1) = false := by simp; omega
        have HE := Aside0.mk (show liveL (l.take (k + 1)) = liveL (l.take k) by rw [HP.out, if_pos (by unfold delM; exact decide_eq_true hd), List.append_nil])
        go_wp2
        go_roundw
        case rel => exact ⟨k + 1, A, m, ca, by have := HLT.out; omega, rfl, by go_num, ⟨by rw [HE.out]; exact HR.out⟩, HB⟩
        case measure => have := HLT.out; simp [intOf, wrap64]; omega
      · have HE := Aside0.mk (show liveL (l.take (k + 1)) = liveL (l.take k) ++ [y] by rw [HP.out, if_neg (by unfold delM; simpa using hd)])
        have hba := below_alloc HB.out (.cells #[.int .u32 y.f0, .int .u32 y.f1, .int .u8 y.f2, .string y.f3] 25)
        have HBA := Aside0.mk hba
        clear hba
        rcases (show ((y.f2 == 0) = true ∧ True) ∨ ((y.f2 == 0) = false ∧ (y.f2 == 1) = true) by simp; omega) with ⟨hq0, _⟩ | ⟨hq0, hq1⟩
        all_goals (
          go_wp2_with (first
            | ((with_reducible refine gate_dst (N := 43) rfl ?_); refine Kd.R_append_rows k25 (w0 := w) w.heap.size ?hg (.tmp 34) (.tmp 42) 32 25 (.agg #[.int .u32 0, .int .u32 0, .int .u8 0, .string ⟨#[]⟩]) 32 ?ho Try.underlying32 info25 rfl (by decide) (by omega) (.slice A m ca) (liveL (l.take k)) [y] (some ⟨wr.heap.size, 0, none⟩) 1 1 (fun _ => True) (fun _ => False) ?h1 ?h2 (Kd.R_below HR.out (below_alloc (Below.refl _ _) _)) (one_C wr y) (fun _ _ h => h) (fun _ h => h.elim) (fun _ _ => trivial) HBA.out HBA.out.size (by have := HLL.out; omega) ?_; (case hg => rfl); (case ho => rfl); (case h1 => rfl); (case h2 => rfl); intro v1 w3 hr1_ hb1_ hg1_ ha1_; obtain ⟨A', ca', rfl⟩ := Kd.R_slice hr1_; have HR1 := Aside0.mk hr1_; have HB3 := Aside0.mk hb1_; clear hr1_ hb1_ hg1_ ha1_))
          go_roundw
          case rel => exact ⟨k + 1, A', _, ca', by have := HLT.out; omega, rfl, by go_num, ⟨by rw [HE.out]; have h_ := HR1.out; rw [List.length_append] at h_; exact h_⟩, HB3⟩
          case measure => have := HLT.out; simp [intOf, wrap64]; omega)
    · have e : k = l.length := by omega
      subst e
      rw [List.take_length] at HR
      obtain ⟨em, hle, hC⟩ := Kd.R_reads' HR.out
      subst em
      have HLE := Aside0.mk hle
      have HC := Aside0.mk hC
      clear hle hC
      go_wp2
      go_ret
      exact ⟨A, ca, rfl, HLE.out, HC.out, HB.out⟩
end Go.Proofs.Ytognmibankcefaa.Print
end
section
/- Plain laws for the document's Merge: where a member stands in a rising list, and what lies there after. -/
namespace Go.Proofs.Ytognmibankcefaa.Print
open Go.RowKit Go.Proofs.YtognmibankcefaaW.PrintWords Go.Proofs.YtognmibankcefaaW.PrintLast
set_option linter.unusedVariables false
set_option linter.unusedSimpArgs false
/-- the first place whose address is not below a -/
def idxA : List Mem → Int → Nat
  | [], _ => 0
  | x :: r, a => if x.f0 < a then idxA r a + 1 else 0
theorem idxA_le : ∀ (l : List Mem) (a : Int), idxA l a ≤ l.length
  | [], _ => Nat.le_refl _
  | x :: r, a => by
    have := idxA_le r a
    unfold idxA
    split
    · simp only [List.length_cons]; omega
    · exact Nat.zero_le _
theorem idxA_at : ∀ (l : List Mem) (a : Int) (k : Nat) (x : Mem), l[k]? = some x → k ≤ idxA l a → (x.f0 < a → k < idxA l a) ∧ (¬ x.f0 < a → k = idxA l a)
  | [], _, k, x, h, _ => by simp at h
  | y :: r, a, 0, x, h, hk => by
    have e : y = x := by simpa using h
    subst e
    unfold idxA
    constructor
    · intro h
      rw [if_pos h]
      omega
    · intro h
      rw [if_neg h]
  | y :: r, a, k + 1, x, h, hk => by
    unfold idxA at hk ⊢
    by_cases hy : y.f0 < a
    · rw [if_pos hy] at hk ⊢
      have := idxA_at r a k x (by simpa using h) (by omega)
      exact ⟨fun h => by have := this.1 h; omega, fun h => by rw [this.2 h]⟩
    · rw [if_neg hy] at hk
      omega
/-- found: the member of that address is written over -/
theorem idxA_found : ∀ {l : List Mem}, Rises l → ∀ {m y : Mem}, l[idxA l m.f0]? = some y → y.f0 = m.f0 → putL m l = l.set (idxA l m.f0) m
  | [], _, m, y, h, _ => by simp at h
  | x :: r, hR, m, y, h, he => by
    obtain ⟨h1, h2⟩ := List.pairwise_cons.1 hR
    unfold idxA at h ⊢
    unfold putL
    by_cases hx : x.f0 < m.f0
    · rw [if_pos hx] at h ⊢
      rw [if_neg (by omega), if_neg (by omega), List.set_cons_succ, idxA_found h2 (by simpa using h) he]
    · rw [if_neg hx] at h ⊢
      have e : x = y := by simpa using h
      subst e
      rw [if_neg (by omega), if_pos (by omega), List.set_cons_zero]
/-- not found: the member is laid between -/
theorem idxA_new : ∀ {l : List Mem}, Rises l → ∀ {m : Mem}, (∀ y, l[idxA l m.f0]? = some y → y.f0 ≠ m.f0) → getL l m.f0 = none ∧ putL m l = l.take (idxA l m.f0) ++ [m] ++ l.drop (idxA l m.f0)
  | [], _, m, _ => ⟨rfl, by simp [putL, idxA]⟩
  | x :: r, hR, m, h => by
    obtain ⟨h1, h2⟩ := List.pairwise_cons.1 hR
    rw [getL_cons]
    unfold idxA at h ⊢
    unfold putL
    by_cases hx : x.f0 < m.f0
    · rw [if_pos hx] at h
      simp only [if_pos hx]
      obtain ⟨h3, h4⟩ := idxA_new h2 (m := m) (fun y hy => h y (by simpa using hy))
      rw [if_neg (by omega), if_neg (by omega), if_neg (by omega), h3, h4]
      exact ⟨rfl, by simp⟩
    · rw [if_neg hx] at h
      simp only [if_neg hx]
      have hne := h x (by simp)
      rw [if_neg hne, if_pos (by omega)]
      refine ⟨?_, by simp⟩
      exact getL_none r m.f0 (fun j z hz => by have := h1 z (List.mem_of_getElem? hz); omega)
/-- what the document's Merge tells, and what lies there after, is what the program's does -/
theorem refmerge_found {l : List Mem} (hR : Rises l) {m y : Mem} (hm : mayM m = true) (hy : l[idxA l m.f0]? = some y) (he : y.f0 = m.f0) :
    mergeM l m = if cmpM m y ≤ 0 then (false, 0, l) else (true, 0, l.set (idxA l m.f0) m) := by
  have hg : getL l m.f0 = some y := by rw [← he]; exact get_of hR (List.mem_of_getElem? hy)
  unfold mergeM
  rw [if_neg (by simp [hm]), hg]
  simp only
  rw [idxA_found hR hy he]
theorem refmerge_new {l : List Mem} (hR : Rises l) {m : Mem} (hm : mayM m = true) (h : ∀ y, l[idxA l m.f0]? = some y → y.f0 ≠ m.f0) :
    mergeM l m = if 32 ≤ l.length then (false, 3, l) else (true, 0, l.take (idxA l m.f0) ++ [m] ++ l.drop (idxA l m.f0)) := by
  obtain ⟨h1, h2⟩ := idxA_new hR h
  unfold mergeM
  rw [if_neg (by simp [hm]), h1]
  simp only
  rw [h2]
end Go.Proofs.Ytognmibankcefaa.Print
end
section
/- The document's Merge where nothing is laid, walked. -/
namespace Go.Proofs.Ytognmibankcefaa.Print
open Go.RowKit Go.Maps Go.ChangeMaps Go.Proofs.YtognmibankcefaaW.PrintWords Go.Proofs.YtognmibankcefaaW.PrintLast Go.Proofs.YtognmibankcefaaW.PrintMore
set_option linter.unusedVariables false
set_option linter.unusedSimpArgs false
set_option maxHeartbeats 8000000 in
set_option maxRecDepth 100000 in
theorem refmerge_bad (w : World) (h c : Nat) (p : Option Addr) (l : List Mem) (m : Mem) (hV : Rv w h p c l) (hm : mayM m = false) :
    Calls Try.prog 22 #[.pointer (some ⟨h, 0, none⟩), .agg #[.int .u32 m.f0, .int .u32 m.f1, .int .u8 m.f2, .string m.f3]] w fun e w' => e = .returned (.tuple #[.bool false, .int .i64 170]) ∧ Below w.heap.size w w' := by
  have hu25 := Try.underlying25
  have hmf := may_f m
  rw [hm] at hmf
  have HMF := Aside0.mk hmf
  clear hmf
  go_enter Try.func22, Try.ntmps22
  go_wp2_with (first | (go_at_call 10; (with_reducible refine (hearsayref17_May.calls m.f0 m.f1 m.f2 m.f3 false _ HMF.out).mono ?_); rintro e w2 ⟨rfl, hb⟩; have HB2 := Aside0.mk (below_step (below_alloc (Below.refl w.heap.size w) _) hb); clear hb))
  refine bodyPost_ret (results_tmp2 rfl _ _ _) rfl ?_
  exact ⟨rfl, HB2.out⟩
set_option maxHeartbeats 8000000 in
set_option maxRecDepth 100000 in
theorem refmerge_full (w : World) (h c : Nat) (p : Option Addr) (l : List Mem) (m : Mem) (hV : Rv w h p c l) (hl : l.length ≤ 100000) (hm : mayM m = true) (hn : ∀ y, l[idxA l m.f0]? = some y → y.f0 ≠ m.f0) (h32 : 32 ≤ l.length) :
    Calls Try.prog 22 #[.pointer (some ⟨h, 0, none⟩), .agg #[.int .u32 m.f0, .int .u32 m.f1, .int .u8 m.f2, .string m.f3]] w fun e w' => e = .returned (.tuple #[.bool false, .int .i64 3]) ∧ Below w.heap.size w w' := by
  have hu25 := Try.underlying25
  have hmf := may_f m
  rw [hm] at hmf
  have HMF := Aside0.mk hmf
  have HV := Aside0.mk hV
  have HN := Aside0.mk hn
  clear hmf hV hn
  go_enter Try.func22, Try.ntmps22
  go_upto_region 3 with (first | (go_at_call 10; (with_reducible refine (hearsayref17_May.calls m.f0 m.f1 m.f2 m.f3 true _ HMF.out).mono ?_); rintro e w2 ⟨rfl, hb⟩; have HB2 := Aside0.mk (below_step (below_alloc (Below.refl w.heap.size w) _) hb); have HM2 := Aside0.mk (blk_below (blk_new w _) hb); have HV2 := Aside0.mk (HV.out.below HB2.out); clear hb))
  have m0_ : w2.cell? ⟨w.heap.size, 0, none⟩ = some (.int .u32 m.f0) := (blk_cell HM2.out 0).trans rfl
  have hcell := HV2.out.cell
  go_wp2
  go_loopw [6] (fun i wr => ∃ k : Nat, k ≤ idxA l m.f0 ∧ i = .int .i64 k ∧ Drawn0 w2 wr) (fun i _ => l.length - (intOf i).toNat)
  case atStart => exact ⟨0, Nat.zero_le _, rfl, Drawn0.refl _⟩
  case round =>
    obtain ⟨k, hk, rfl, ⟨nq, rfl⟩⟩ := hrel
    have hil := idxA_le l m.f0
    by_cases hlt : (k : Int) < (l.length : Int)
    · have HLT := Aside0.mk (show k < l.length by omega)
      obtain ⟨gr, rfl, hrow⟩ := HV2.out.row (by omega)
      have hk0 : 0 ≤ (k : Int) := by omega
      obtain ⟨y, hy⟩ : ∃ y, l[k]? = some y := ⟨l[k]'(by omega), List.getElem?_eq_getElem (by omega)⟩
      have c0 : w2.cell? ⟨gr, k * 4, none⟩ = some (.int .u32 y.f0) := hrow.at hy 0 (by omega) _ rfl
      have HAT := Aside0.mk (idxA_at l m.f0 k y hy hk)
      have HY := Aside0.mk hy
      clear hy hrow
      by_cases hlo : y.f0 < m.f0
      · have HKK := Aside0.mk (HAT.out.1 hlo)
        clear HAT
        go_wp2
        repeat (go_quiet (fail); try go_wp2)
        go_roundw
        case rel => exact ⟨k + 1, by have := HKK.out; omega, by go_num, by repeat (first | exact Drawn0.refl _ | apply Drawn0.step)⟩
        case measure => have := HLT.out; simp [intOf, wrap64]; omega
      · have hki := HAT.out.2 hlo
        have hne : (y.f0 == m.f0) = false := by have := HN.out y (by rw [← hki]; exact HY.out); simpa using this
        have h32' : (l.length : Int) ≥ 32 := by omega
        clear hki HAT
        go_wp2
        repeat (go_quiet (fail); try go_wp2)
        refine bodyPost_ret (results_tmp2 rfl _ _ _) rfl ?_
        exact ⟨rfl, by repeat (first | exact HB2.out | apply pw_below_drewN)⟩
    · have h32' : (l.length : Int) ≥ 32 := by omega
      have hdf : decide ((k : Int) < (l.length : Int)) = false := decide_eq_false hlt
      obtain ⟨gr, rfl, hrow⟩ := HV2.out.row (by omega)
      have hdn : decide (k < l.length) = false := decide_eq_false (by omega)
      have hdp : (k < l.length) = False := eq_false (by omega)
      clear hlt hrow
      go_wp2
      repeat (go_quiet (fail); try go_wp2)
      refine bodyPost_ret (results_tmp2 rfl _ _ _) rfl ?_
      exact ⟨rfl, by repeat (first | exact HB2.out | apply pw_below_drewN)⟩
end Go.Proofs.Ytognmibankcefaa.Print
end
section
/- The document's Merge where the one there is as strong, walked. -/
namespace Go.Proofs.Ytognmibankcefaa.Print
open Go.RowKit Go.Maps Go.ChangeMaps Go.Proofs.YtognmibankcefaaW.PrintWords Go.Proofs.YtognmibankcefaaW.PrintLast Go.Proofs.YtognmibankcefaaW.PrintMore
set_option linter.unusedVariables false
set_option linter.unusedSimpArgs false
set_option maxHeartbeats 8000000 in
set_option maxRecDepth 100000 in
theorem refmerge_weak (w : World) (h c : Nat) (p : Option Addr) (l : List Mem) (m : Mem) (hV : Rv w h p c l) (hl : l.length ≤ 100000) (hm : mayM m = true) (y0 : Mem) (hy0 : l[idxA l m.f0]? = some y0) (he : y0.f0 = m.f0) (hc : cmpM m y0 ≤ 0) (hs : m.f3.size ≤ 9223372036854775807) :
    Calls Try.prog 22 #[.pointer (some ⟨h, 0, none⟩), .agg #[.int .u32 m.f0, .int .u32 m.f1, .int .u8 m.f2, .string m.f3]] w fun e w' => e = .returned (.tuple #[.bool false, .int .i64 0]) ∧ Below w.heap.size w w' := by
  have hu25 := Try.underlying25
  have hmf := may_f m
  rw [hm] at hmf
  have HMF := Aside0.mk hmf
  have HV := Aside0.mk hV
  have HY0 := Aside0.mk hy0
  have HE := Aside0.mk he
  have hil0 : idxA l m.f0 < l.length := (List.getElem?_eq_some_iff.1 hy0).1
  obtain ⟨kc, hkc⟩ := rcmp_f m y0 hs
  have HCM : Aside0 (hearsayref17_Cmp.f kc m.f0 m.f1 m.f2 m.f3 y0.f0 y0.f1 y0.f2 y0.f3 = some (cmpM m y0)) := ⟨hkc kc (Nat.le_refl _)⟩
  obtain ⟨q, hq⟩ : ∃ q, q = cmpM m y0 := ⟨_, rfl⟩
  rw [← hq] at HCM hc
  clear hq hkc hs hy0 he
  clear hmf hV
  go_enter Try.func22, Try.ntmps22
  go_upto_region 3 with (first | (go_at_call 10; (with_reducible refine (hearsayref17_May.calls m.f0 m.f1 m.f2 m.f3 true _ HMF.out).mono ?_); rintro e w2 ⟨rfl, hb⟩; have HB2 := Aside0.mk (below_step (below_alloc (Below.refl w.heap.size w) _) hb); have HM2 := Aside0.mk (blk_below (blk_new w _) hb); have HV2 := Aside0.mk (HV.out.below HB2.out); clear hb))
  have m0_ : w2.cell? ⟨w.heap.size, 0, none⟩ = some (.int .u32 m.f0) := (blk_cell HM2.out 0).trans rfl
  have m1_ : w2.cell? ⟨w.heap.size, 1, none⟩ = some (.int .u32 m.f1) := (blk_cell HM2.out 1).trans rfl
  have m2_ : w2.cell? ⟨w.heap.size, 2, none⟩ = some (.int .u8 m.f2) := (blk_cell HM2.out 2).trans rfl
  have m3_ : w2.cell? ⟨w.heap.size, 3, none⟩ = some (.string m.f3) := (blk_cell HM2.out 3).trans rfl
  have hcell := HV2.out.cell
  go_wp2
  go_loopw [6] (fun i wr => ∃ k : Nat, k ≤ idxA l m.f0 ∧ i = .int .i64 k ∧ Drawn0 w2 wr) (fun i _ => l.length - (intOf i).toNat)
  case atStart => exact ⟨0, Nat.zero_le _, rfl, Drawn0.refl _⟩
  case round =>
    obtain ⟨k, hk, rfl, ⟨nq, rfl⟩⟩ := hrel
    have hil := idxA_le l m.f0
    by_cases hlt : (k : Int) < (l.length : Int)
    · have HLT := Aside0.mk (show k < l.length by omega)
      obtain ⟨gr, rfl, hrow⟩ := HV2.out.row (by omega)
      have hk0 : 0 ≤ (k : Int) := by omega
      obtain ⟨y, hy⟩ : ∃ y, l[k]? = some y := ⟨l[k]'(by omega), List.getElem?_eq_getElem (by omega)⟩
      have c0 : w2.cell? ⟨gr, k * 4, none⟩ = some (.int .u32 y.f0) := hrow.at hy 0 (by omega) _ rfl
      have c1 : w2.cell? ⟨gr, k * 4 + 1, none⟩ = some (.int .u32 y.f1) := hrow.at hy 1 (by omega) _ rfl
      have c2 : w2.cell? ⟨gr, k * 4 + 2, none⟩ = some (.int .u8 y.f2) := hrow.at hy 2 (by omega) _ rfl
      have c3 : w2.cell? ⟨gr, k * 4 + 3, none⟩ = some (.string y.f3) := hrow.at hy 3 (by omega) _ rfl
      have HAT := Aside0.mk (idxA_at l m.f0 k y hy hk)
      have HY := Aside0.mk hy
      clear hy hrow
      by_cases hlo : y.f0 < m.f0
      · have HKK := Aside0.mk (HAT.out.1 hlo)
        clear HAT
        go_wp2
        repeat (go_quiet (fail); try go_wp2)
        go_roundw
        case rel => exact ⟨k + 1, by have := HKK.out; omega, by go_num, by repeat (first | exact Drawn0.refl _ | apply Drawn0.step)⟩
        case measure => have := HLT.out; simp [intOf, wrap64]; omega
      · have hki := HAT.out.2 hlo
        have hyy : y = y0 := by have h1 := HY.out; rw [hki, HY0.out] at h1; exact (Option.some.inj h1).symm
        subst hyy
        have heq : (y.f0 == m.f0) = true := by have := HE.out; simpa using this
        have hq0 : q ≤ 0 := hc
        clear hki HAT
        go_wp2
        repeat (go_quiet (fail); try go_wp2)
        refine start_ (n := 10) (S := (fun w' => w'.cell? ⟨w.heap.size, 0, none⟩ = some (.int .u32 m.f0) ∧ w'.cell? ⟨w.heap.size, 1, none⟩ = some (.int .u32 m.f1) ∧ w'.cell? ⟨w.heap.size, 2, none⟩ = some (.int .u8 m.f2) ∧ w'.cell? ⟨w.heap.size, 3, none⟩ = some (.string m.f3) ∧ w'.cell? ⟨h, 0, none⟩ = some (.slice (some ⟨gr, 0, none⟩) l.length c) ∧ w'.cell? ⟨gr, k * 4, none⟩ = some (.int .u32 y.f0) ∧ w'.cell? ⟨gr, k * 4 + 1, none⟩ = some (.int .u32 y.f1) ∧ w'.cell? ⟨gr, k * 4 + 2, none⟩ = some (.int .u8 y.f2) ∧ w'.cell? ⟨gr, k * 4 + 3, none⟩ = some (.string y.f3))) (ds := [8]) #[false, false, false, false, false, false, false, false, false, false] (by kernel_rfl) rfl rfl ⟨m0_, m1_, m2_, m3_, hcell, c0, c1, c2, c3⟩ (fun hHeld => ?_)
        refine take_ (i := 0) (N := some 53) (v := ?_) (a' := ?_) #[true, false, false, false, false, false, false, false, false, false] rfl rfl (by kernel_rfl) (fun _ _ _ h => h) (Or.inl ⟨by rfl, ?_⟩) hHeld ?_ ?_
        rotate_left
        · rintro w' ⟨h0_, h1_, h2_, h3_, h4_, h5_, h6_, h7_, h8_⟩
          go_simp
          with_reducible rfl
        rotate_left
        · simp only [Act.put, List.setIfInBounds_toArray, List.set_cons_zero, List.set_cons_succ, i64_w, i32_w]
          rfl
        refine pure_ (i := 1) (N := some 54) (v := ?_) (a' := ?_) #[true, true, false, false, false, false, false, false, false, false] rfl rfl (by kernel_rfl) (fun _ _ _ h => h) (Or.inl ⟨by rfl, ?_⟩) ?_ ?_
        rotate_left
        · intro w'
          go_simp
          with_reducible rfl
        rotate_left
        · simp only [Act.put, List.setIfInBounds_toArray, List.set_cons_zero, List.set_cons_succ, i64_w, i32_w]
          rfl
        refine pure_ (i := 2) (N := some 55) (v := ?_) (a' := ?_) #[true, true, true, false, false, false, false, false, false, false] rfl rfl (by kernel_rfl) (fun _ _ _ h => h) (Or.inl ⟨by rfl, ?_⟩) ?_ ?_
        rotate_left
        · intro w'
          go_simp
          with_reducible rfl
        rotate_left
        · simp only [Act.put, List.setIfInBounds_toArray, List.set_cons_zero, List.set_cons_succ, i64_w, i32_w]
          rfl
        refine pure_ (i := 3) (N := some 56) (v := ?_) (a' := ?_) #[true, true, true, true, false, false, false, false, false, false] rfl rfl (by kernel_rfl) (fun _ _ _ h => h) (Or.inl ⟨by rfl, ?_⟩) ?_ ?_
        rotate_left
        · intro w'
          go_simp
          with_reducible rfl
        rotate_left
        · simp only [Act.put, List.setIfInBounds_toArray, List.set_cons_zero, List.set_cons_succ, i64_w, i32_w]
          rfl
        refine take_ (i := 4) (N := some 57) (v := ?_) (a' := ?_) #[true, true, true, true, true, false, false, false, false, false] rfl rfl (by kernel_rfl) (fun _ _ _ h => h) (Or.inl ⟨by rfl, ?_⟩) hHeld ?_ ?_
        rotate_left
        · rintro w' ⟨h0_, h1_, h2_, h3_, h4_, h5_, h6_, h7_, h8_⟩
          go_simp
          with_reducible rfl
        rotate_left
        · simp only [Act.put, List.setIfInBounds_toArray, List.set_cons_zero, List.set_cons_succ, i64_w, i32_w]
          rfl
        refine pure_ (i := 5) (N := some 58) (v := ?_) (a' := ?_) #[true, true, true, true, true, true, false, false, false, false] rfl rfl (by kernel_rfl) (fun _ _ _ h => h) (Or.inl ⟨by rfl, ?_⟩) ?_ ?_
        rotate_left
        · intro w'
          go_simp
          with_reducible rfl
        rotate_left
        · simp only [Act.put, List.setIfInBounds_toArray, List.set_cons_zero, List.set_cons_succ, i64_w, i32_w]
          rfl
        refine pure_ (i := 6) (N := some 59) (v := ?_) (a' := ?_) #[true, true, true, true, true, true, true, false, false, false] rfl rfl (by kernel_rfl) (fun _ _ _ h => h) (Or.inl ⟨by rfl, ?_⟩) ?_ ?_
        rotate_left
        · intro w'
          go_simp
          with_reducible rfl
        rotate_left
        · simp only [Act.put, List.setIfInBounds_toArray, List.set_cons_zero, List.set_cons_succ, i64_w, i32_w]
          rfl
        refine take_ (i := 7) (N := some 60) (v := ?_) (a' := ?_) #[true, true, true, true, true, true, true, true, false, false] rfl rfl (by kernel_rfl) (fun _ _ _ h => h) (Or.inl ⟨by rfl, ?_⟩) hHeld ?_ ?_
        rotate_left
        · rintro w' ⟨h0_, h1_, h2_, h3_, h4_, h5_, h6_, h7_, h8_⟩
          go_simp
          with_reducible rfl
        rotate_left
        · simp only [Act.put, List.setIfInBounds_toArray, List.set_cons_zero, List.set_cons_succ, i64_w, i32_w]
          rfl
        refine last_ (i := 8) (N := some 61) #[true, true, true, true, true, true, true, true, true, false] rfl rfl (by kernel_rfl) (by decide) (fun K hK => ?_)
        refine goes_ Try.func12 (by kernel_rfl) rfl #[.agg #[.int .u32 m.f0, .int .u32 m.f1, .int .u8 m.f2, .string m.f3], .agg #[.int .u32 y.f0, .int .u32 y.f1, .int .u8 y.f2, .string y.f3]] (by rfl) rfl rfl (by (try simp only [List.map_toArray, List.map_cons, List.map_nil]); first | done | rfl) ?_
        (with_reducible refine (hearsayref17_Cmp.calls kc m.f0 m.f1 m.f2 m.f3 y.f0 y.f1 y.f2 y.f3 q _ HCM.out).mono ?_)
        rintro e_ w8 ⟨rfl, hb8⟩
        have HB8 := Aside0.mk (below_step (show Below w.heap.size w _ by repeat (first | exact HB2.out | apply pw_below_drewN | apply below_drew1)) hb8)
        clear hb8
        refine ⟨_, rfl, ?_⟩
        refine hK.out _ _ ?_
        clear hK K
        refine norm_ (a' := ?_) ?_ ?_
        rotate_left
        · show Act.put _ (some 61) _ = _
          simp only [Act.put, List.setIfInBounds_toArray, List.set_cons_zero, List.set_cons_succ, i64_w, i32_w]
          rfl
        refine pure_ (i := 9) (N := some 62) (v := ?_) (a' := ?_) #[true, true, true, true, true, true, true, true, true, true] rfl rfl (by kernel_rfl) (fun _ _ _ h => h) (Or.inl ⟨by rfl, ?_⟩) ?_ ?_
        rotate_left
        · intro w'
          go_simp
          with_reducible rfl
        rotate_left
        · simp only [Act.put, List.setIfInBounds_toArray, List.set_cons_zero, List.set_cons_succ, i64_w, i32_w]
          rfl
        refine done_ (by kernel_rfl) ?_
        try go_wp2
        refine bodyPost_ret (results_tmp2 rfl _ _ _) rfl ?_
        exact ⟨rfl, HB8.out⟩
    · exact absurd (show k < l.length by omega) (by omega)
end Go.Proofs.Ytognmibankcefaa.Print
end
section
/- The document's Merge where the member is written over, walked. -/
namespace Go.Proofs.Ytognmibankcefaa.Print
open Go.RowKit Go.Maps Go.ChangeMaps Go.Proofs.YtognmibankcefaaW.PrintWords Go.Proofs.YtognmibankcefaaW.PrintLast Go.Proofs.YtognmibankcefaaW.PrintMore
set_option linter.unusedVariables false
set_option linter.unusedSimpArgs false
/-- what is left as it lay: all but the view's box and its row -/
def RF (w w' : World) (h : Nat) (p : Option Addr) : Prop := w'.os = w.os ∧ w'.tape = w.tape ∧ w'.output = w.output ∧ w.heap.size ≤ w'.heap.size ∧ ∀ i, i < w.heap.size → i ≠ h → (∀ a, p = some a → i ≠ a.block) → w'.heap[i]? = w.heap[i]?
set_option maxHeartbeats 8000000 in
set_option maxRecDepth 100000 in
theorem refmerge_strong (w : World) (h c : Nat) (p : Option Addr) (l : List Mem) (m : Mem) (hV : Rv w h p c l) (hl : l.length ≤ 100000) (hm : mayM m = true) (y0 : Mem) (hy0 : l[idxA l m.f0]? = some y0) (he : y0.f0 = m.f0) (hc : ¬ cmpM m y0 ≤ 0) (hs : m.f3.size ≤ 9223372036854775807) :
    Calls Try.prog 22 #[.pointer (some ⟨h, 0, none⟩), .agg #[.int .u32 m.f0, .int .u32 m.f1, .int .u8 m.f2, .string m.f3]] w fun e w' => e = .returned (.tuple #[.bool true, .int .i64 0]) ∧ Rv w' h p c (l.set (idxA l m.f0) m) ∧ RF w w' h p := by
  have hu25 := Try.underlying25
  have hmf := may_f m
  rw [hm] at hmf
  have HMF := Aside0.mk hmf
  have HV := Aside0.mk hV
  have HY0 := Aside0.mk hy0
  have HE := Aside0.mk he
  have hil0 : idxA l m.f0 < l.length := (List.getElem?_eq_some_iff.1 hy0).1
  obtain ⟨kc, hkc⟩ := rcmp_f m y0 hs
  have HCM : Aside0 (hearsayref17_Cmp.f kc m.f0 m.f1 m.f2 m.f3 y0.f0 y0.f1 y0.f2 y0.f3 = some (cmpM m y0)) := ⟨hkc kc (Nat.le_refl _)⟩
  obtain ⟨q, hq⟩ : ∃ q, q = cmpM m y0 := ⟨_, rfl⟩
  rw [← hq] at HCM hc
  clear hq hkc hs hy0 he
  clear hmf hV
  go_enter Try.func22, Try.ntmps22
  go_upto_region 3 with (first | (go_at_call 10; (with_reducible refine (hearsayref17_May.calls m.f0 m.f1 m.f2 m.f3 true _ HMF.out).mono ?_); rintro e w2 ⟨rfl, hb⟩; have HB2 := Aside0.mk (below_step (below_alloc (Below.refl w.heap.size w) _) hb); have HM2 := Aside0.mk (blk_below (blk_new w _) hb); have HV2 := Aside0.mk (HV.out.below HB2.out); clear hb))
  have m0_ : w2.cell? ⟨w.heap.size, 0, none⟩ = some (.int .u32 m.f0) := (blk_cell HM2.out 0).trans rfl
  have m1_ : w2.cell? ⟨w.heap.size, 1, none⟩ = some (.int .u32 m.f1) := (blk_cell HM2.out 1).trans rfl
  have m2_ : w2.cell? ⟨w.heap.size, 2, none⟩ = some (.int .u8 m.f2) := (blk_cell HM2.out 2).trans rfl
  have m3_ : w2.cell? ⟨w.heap.size, 3, none⟩ = some (.string m.f3) := (blk_cell HM2.out 3).trans rfl
  have hcell := HV2.out.cell
  go_wp2
  go_loopw [6] (fun i wr => ∃ k : Nat, k ≤ idxA l m.f0 ∧ i = .int .i64 k ∧ Drawn0 w2 wr) (fun i _ => l.length - (intOf i).toNat)
  case atStart => exact ⟨0, Nat.zero_le _, rfl, Drawn0.refl _⟩
  case round =>
    obtain ⟨k, hk, rfl, ⟨nq, rfl⟩⟩ := hrel
    have hil := idxA_le l m.f0
    by_cases hlt : (k : Int) < (l.length : Int)
    · have HLT := Aside0.mk (show k < l.length by omega)
      obtain ⟨gr, rfl, hrow⟩ := HV2.out.row (by omega)
      have hk0 : 0 ≤ (k : Int) := by omega
      obtain ⟨y, hy⟩ : ∃ y, l[k]? = some y := ⟨l[k]'(by omega), List.getElem?_eq_getElem (by omega)⟩
      have c0 : w2.cell? ⟨gr, k * 4, none⟩ = some (.int .u32 y.f0) := hrow.at hy 0 (by omega) _ rfl
      have c1 : w2.cell? ⟨gr, k * 4 + 1, none⟩ = some (.int .u32 y.f1) := hrow.at hy 1 (by omega) _ rfl
      have c2 : w2.cell? ⟨gr, k * 4 + 2, none⟩ = some (.int .u8 y.f2) := hrow.at hy 2 (by omega) _ rfl
      have c3 : w2.cell? ⟨gr, k * 4 + 3, none⟩ = some (.string y.f3) := hrow.at hy 3 (by omega) _ rfl
      have HAT := Aside0.mk (idxA_at l m.f0 k y hy hk)
      have HY := Aside0.mk hy
      have HROW := Aside0.mk hrow
      clear hy hrow
      by_cases hlo : y.f0 < m.f0
      · have HKK := Aside0.mk (HAT.out.1 hlo)
        clear HAT
        go_wp2
        repeat (go_quiet (fail); try go_wp2)
        go_roundw
        case rel => exact ⟨k + 1, by have := HKK.out; omega, by go_num, by repeat (first | exact Drawn0.refl _ | apply Drawn0.step)⟩
        case measure => have := HLT.out; simp [intOf, wrap64]; omega
      · have hki := HAT.out.2 hlo
        have hyy : y = y0 := by have h1 := HY.out; rw [hki, HY0.out] at h1; exact (Option.some.inj h1).symm
        subst hyy
        have HKI := Aside0.mk hki
        have heq : (y.f0 == m.f0) = true := by have := HE.out; simpa using this
        have hq0 : ¬ q ≤ 0 := by omega
        clear hki HAT
        go_wp2
        repeat (go_quiet (fail); try go_wp2)
        refine start_ (n := 10) (S := (fun w' => w'.cell? ⟨w.heap.size, 0, none⟩ = some (.int .u32 m.f0) ∧ w'.cell? ⟨w.heap.size, 1, none⟩ = some (.int .u32 m.f1) ∧ w'.cell? ⟨w.heap.size, 2, none⟩ = some (.int .u8 m.f2) ∧ w'.cell? ⟨w.heap.size, 3, none⟩ = some (.string m.f3) ∧ w'.cell? ⟨h, 0, none⟩ = some (.slice (some ⟨gr, 0, none⟩) l.length c) ∧ w'.cell? ⟨gr, k * 4, none⟩ = some (.int .u32 y.f0) ∧ w'.cell? ⟨gr, k * 4 + 1, none⟩ = some (.int .u32 y.f1) ∧ w'.cell? ⟨gr, k * 4 + 2, none⟩ = some (.int .u8 y.f2) ∧ w'.cell? ⟨gr, k * 4 + 3, none⟩ = some (.string y.f3))) (ds := [8]) #[false, false, false, false, false, false, false, false, false, false] (by kernel_rfl) rfl rfl ⟨m0_, m1_, m2_, m3_, hcell, c0, c1, c2, c3⟩ (fun hHeld => ?_)
        refine take_ (i := 0) (N := some 53) (v := ?_) (a' := ?_) #[true, false, false, false, false, false, false, false, false, false] rfl rfl (by kernel_rfl) (fun _ _ _ h => h) (Or.inl ⟨by rfl, ?_⟩) hHeld ?_ ?_
        rotate_left
        · rintro w' ⟨h0_, h1_, h2_, h3_, h4_, h5_, h6_, h7_, h8_⟩
          go_simp
          with_reducible rfl
        rotate_left
        · simp only [Act.put, List.setIfInBounds_toArray, List.set_cons_zero, List.set_cons_succ, i64_w, i32_w]
          rfl
        refine pure_ (i := 1) (N := some 54) (v := ?_) (a' := ?_) #[true, true, false, false, false, false, false, false, false, false] rfl rfl (by kernel_rfl) (fun _ _ _ h => h) (Or.inl ⟨by rfl, ?_⟩) ?_ ?_
        rotate_left
        · intro w'
          go_simp
          with_reducible rfl
        rotate_left
        · simp only [Act.put, List.setIfInBounds_toArray, List.set_cons_zero, List.set_cons_succ, i64_w, i32_w]
          rfl
        refine pure_ (i := 2) (N := some 55) (v := ?_) (a' := ?_) #[true, true, true, false, false, false, false, false, false, false] rfl rfl (by kernel_rfl) (fun _ _ _ h => h) (Or.inl ⟨by rfl, ?_⟩) ?_ ?_
        rotate_left
        · intro w'
          go_simp
          with_reducible rfl
        rotate_left
        · simp only [Act.put, List.setIfInBounds_toArray, List.set_cons_zero, List.set_cons_succ, i64_w, i32_w]
          rfl
        refine pure_ (i := 3) (N := some 56) (v := ?_) (a' := ?_) #[true, true, true, true, false, false, false, false, false, false] rfl rfl (by kernel_rfl) (fun _ _ _ h => h) (Or.inl ⟨by rfl, ?_⟩) ?_ ?_
        rotate_left
        · intro w'
          go_simp
          with_reducible rfl
        rotate_left
        · simp only [Act.put, List.setIfInBounds_toArray, List.set_cons_zero, List.set_cons_succ, i64_w, i32_w]
          rfl
        refine take_ (i := 4) (N := some 57) (v := ?_) (a' := ?_) #[true, true, true, true, true, false, false, false, false, false] rfl rfl (by kernel_rfl) (fun _ _ _ h => h) (Or.inl ⟨by rfl, ?_⟩) hHeld ?_ ?_
        rotate_left
        · rintro w' ⟨h0_, h1_, h2_, h3_, h4_, h5_, h6_, h7_, h8_⟩
          go_simp
          with_reducible rfl
        rotate_left
        · simp only [Act.put, List.setIfInBounds_toArray, List.set_cons_zero, List.set_cons_succ, i64_w, i32_w]
          rfl
        refine pure_ (i := 5) (N := some 58) (v := ?_) (a' := ?_) #[true, true, true, true, true, true, false, false, false, false] rfl rfl (by kernel_rfl) (fun _ _ _ h => h) (Or.inl ⟨by rfl, ?_⟩) ?_ ?_
        rotate_left
        · intro w'
          go_simp
          with_reducible rfl
        rotate_left
        · simp only [Act.put, List.setIfInBounds_toArray, List.set_cons_zero, List.set_cons_succ, i64_w, i32_w]
          rfl
        refine pure_ (i := 6) (N := some 59) (v := ?_) (a' := ?_) #[true, true, true, true, true, true, true, false, false, false] rfl rfl (by kernel_rfl) (fun _ _ _ h => h) (Or.inl ⟨by rfl, ?_⟩) ?_ ?_
        rotate_left
        · intro w'
          go_simp
          with_reducible rfl
        rotate_left
        · simp only [Act.put, List.setIfInBounds_toArray, List.set_cons_zero, List.set_cons_succ, i64_w, i32_w]
          rfl
        refine take_ (i := 7) (N := some 60) (v := ?_) (a' := ?_) #[true, true, true, true, true, true, true, true, false, false] rfl rfl (by kernel_rfl) (fun _ _ _ h => h) (Or.inl ⟨by rfl, ?_⟩) hHeld ?_ ?_
        rotate_left
        · rintro w' ⟨h0_, h1_, h2_, h3_, h4_, h5_, h6_, h7_, h8_⟩
          go_simp
          with_reducible rfl
        rotate_left
        · simp only [Act.put, List.setIfInBounds_toArray, List.set_cons_zero, List.set_cons_succ, i64_w, i32_w]
          rfl
        refine last_ (i := 8) (N := some 61) #[true, true, true, true, true, true, true, true, true, false] rfl rfl (by kernel_rfl) (by decide) (fun K hK => ?_)
        refine goes_ Try.func12 (by kernel_rfl) rfl #[.agg #[.int .u32 m.f0, .int .u32 m.f1, .int .u8 m.f2, .string m.f3], .agg #[.int .u32 y.f0, .int .u32 y.f1, .int .u8 y.f2, .string y.f3]] (by rfl) rfl rfl (by (try simp only [List.map_toArray, List.map_cons, List.map_nil]); first | done | rfl) ?_
        (with_reducible refine (hearsayref17_Cmp.calls kc m.f0 m.f1 m.f2 m.f3 y.f0 y.f1 y.f2 y.f3 q _ HCM.out).mono ?_)
        rintro e_ w8 ⟨rfl, hb8⟩
        have HB8 := Aside0.mk (below_step (show Below w.heap.size w _ by repeat (first | exact HB2.out | apply pw_below_drewN | apply below_drew1)) hb8)
        have HB28 := Aside0.mk (below_step (show Below w2.heap.size w2 _ by repeat (first | exact Below.refl _ _ | apply pw_below_drewN | apply below_drew1)) hb8)
        clear hb8
        refine ⟨_, rfl, ?_⟩
        refine hK.out _ _ ?_
        clear hK K
        refine norm_ (a' := ?_) ?_ ?_
        rotate_left
        · show Act.put _ (some 61) _ = _
          simp only [Act.put, List.setIfInBounds_toArray, List.set_cons_zero, List.set_cons_succ, i64_w, i32_w]
          rfl
        refine pure_ (i := 9) (N := some 62) (v := ?_) (a' := ?_) #[true, true, true, true, true, true, true, true, true, true] rfl rfl (by kernel_rfl) (fun _ _ _ h => h) (Or.inl ⟨by rfl, ?_⟩) ?_ ?_
        rotate_left
        · intro w'
          go_simp
          with_reducible rfl
        rotate_left
        · simp only [Act.put, List.setIfInBounds_toArray, List.set_cons_zero, List.set_cons_succ, i64_w, i32_w]
          rfl
        refine done_ (by kernel_rfl) ?_
        try go_wp2
        have hne : h ≠ gr := by
          obtain ⟨cur, hb_, _⟩ := HROW.out
          exact blk_ne HV2.out.box hb_ (by decide)
        have HNE := Aside0.mk hne
        clear hne m0_ m1_ m2_ m3_ hcell c0 c1 c2 c3
        have m0_ : w8.drew.cell? ⟨w.heap.size, 0, none⟩ = some (.int .u32 m.f0) := (blk_cell (blk_below HM2.out HB28.out) 0).trans rfl
        have m1_ : w8.drew.cell? ⟨w.heap.size, 1, none⟩ = some (.int .u32 m.f1) := (blk_cell (blk_below HM2.out HB28.out) 1).trans rfl
        have m2_ : w8.drew.cell? ⟨w.heap.size, 2, none⟩ = some (.int .u8 m.f2) := (blk_cell (blk_below HM2.out HB28.out) 2).trans rfl
        have m3_ : w8.drew.cell? ⟨w.heap.size, 3, none⟩ = some (.string m.f3) := (blk_cell (blk_below HM2.out HB28.out) 3).trans rfl
        have hcell : w8.drew.cell? ⟨h, 0, none⟩ = some (.slice (some ⟨gr, 0, none⟩) l.length c) := (HV2.out.below HB28.out).cell
        have HR8 : Aside0 (RowAt w8.drew gr c l.length l) := ⟨HROW.out.below (below_drew1 HB28.out)⟩
        have HV8 : Aside0 (Rv w8.drew h (some ⟨gr, 0, none⟩) c l) := ⟨HV2.out.below (below_drew1 HB28.out)⟩
        have HB9 : Aside0 (Below w.heap.size w w8.drew) := ⟨below_drew1 HB8.out⟩
        clear HB8 HB28 HV2 HM2 HROW HB2 HV
        refine start_ (n := 8) (S := (fun w' => w'.cell? ⟨w.heap.size, 0, none⟩ = some (.int .u32 m.f0) ∧ w'.cell? ⟨w.heap.size, 1, none⟩ = some (.int .u32 m.f1) ∧ w'.cell? ⟨w.heap.size, 2, none⟩ = some (.int .u8 m.f2) ∧ w'.cell? ⟨w.heap.size, 3, none⟩ = some (.string m.f3) ∧ w'.cell? ⟨h, 0, none⟩ = some (.slice (some ⟨gr, 0, none⟩) l.length c))) (ds := [7]) #[false, false, false, false, false, false, false, false] (by kernel_rfl) rfl rfl ⟨m0_, m1_, m2_, m3_, hcell⟩ (fun hHeld => ?_)
        generalize w8.drew = wd at m0_ m1_ m2_ m3_ hcell HR8 HV8 HB9 hHeld ⊢
        have d0 : wd.cell? ⟨gr, k * 4, none⟩ = some (.int .u32 y.f0) := HR8.out.at HY.out 0 (by omega) _ rfl
        have d1 : wd.cell? ⟨gr, k * 4 + 1, none⟩ = some (.int .u32 y.f1) := HR8.out.at HY.out 1 (by omega) _ rfl
        have d2 : wd.cell? ⟨gr, k * 4 + 2, none⟩ = some (.int .u8 y.f2) := HR8.out.at HY.out 2 (by omega) _ rfl
        have d3 : wd.cell? ⟨gr, k * 4 + 3, none⟩ = some (.string y.f3) := HR8.out.at HY.out 3 (by omega) _ rfl
        have e0 := HR8.out.frozen (k * 4)
        have e1 := HR8.out.frozen (k * 4 + 1)
        have e2 := HR8.out.frozen (k * 4 + 2)
        have e3 := HR8.out.frozen (k * 4 + 3)
        have hg8 : gr < wd.heap.size := HR8.out.lt
        refine pure_ (i := 0) (N := some 63) (v := ?_) (a' := ?_) #[true, false, false, false, false, false, false, false] rfl rfl (by kernel_rfl) (fun _ _ _ h => h) (Or.inl ⟨by rfl, ?_⟩) ?_ ?_
        rotate_left
        · intro w'
          go_simp
          with_reducible rfl
        rotate_left
        · simp only [Act.put, List.setIfInBounds_toArray, List.set_cons_zero, List.set_cons_succ, i64_w, i32_w]
          rfl
        refine pure_ (i := 1) (N := some 64) (v := ?_) (a' := ?_) #[true, true, false, false, false, false, false, false] rfl rfl (by kernel_rfl) (fun _ _ _ h => h) (Or.inl ⟨by rfl, ?_⟩) ?_ ?_
        rotate_left
        · intro w'
          go_simp
          with_reducible rfl
        rotate_left
        · simp only [Act.put, List.setIfInBounds_toArray, List.set_cons_zero, List.set_cons_succ, i64_w, i32_w]
          rfl
        refine pure_ (i := 2) (N := some 65) (v := ?_) (a' := ?_) #[true, true, true, false, false, false, false, false] rfl rfl (by kernel_rfl) (fun _ _ _ h => h) (Or.inl ⟨by rfl, ?_⟩) ?_ ?_
        rotate_left
        · intro w'
          go_simp
          with_reducible rfl
        rotate_left
        · simp only [Act.put, List.setIfInBounds_toArray, List.set_cons_zero, List.set_cons_succ, i64_w, i32_w]
          rfl
        refine take_ (i := 3) (N := some 66) (v := ?_) (a' := ?_) #[true, true, true, true, false, false, false, false] rfl rfl (by kernel_rfl) (fun _ _ _ h => h) (Or.inl ⟨by rfl, ?_⟩) hHeld ?_ ?_
        rotate_left
        · rintro w' ⟨h0_, h1_, h2_, h3_, h4_⟩
          go_simp
          with_reducible rfl
        rotate_left
        · simp only [Act.put, List.setIfInBounds_toArray, List.set_cons_zero, List.set_cons_succ, i64_w, i32_w]
          rfl
        refine pure_ (i := 4) (N := some 67) (v := ?_) (a' := ?_) #[true, true, true, true, true, false, false, false] rfl rfl (by kernel_rfl) (fun _ _ _ h => h) (Or.inl ⟨by rfl, ?_⟩) ?_ ?_
        rotate_left
        · intro w'
          go_simp
          with_reducible rfl
        rotate_left
        · simp only [Act.put, List.setIfInBounds_toArray, List.set_cons_zero, List.set_cons_succ, i64_w, i32_w]
          rfl
        refine take_ (i := 5) (N := some 68) (v := ?_) (a' := ?_) #[true, true, true, true, true, true, false, false] rfl rfl (by kernel_rfl) (fun _ _ _ h => h) (Or.inl ⟨by rfl, ?_⟩) hHeld ?_ ?_
        rotate_left
        · rintro w' ⟨h0_, h1_, h2_, h3_, h4_⟩
          go_simp
          with_reducible rfl
        rotate_left
        · simp only [Act.put, List.setIfInBounds_toArray, List.set_cons_zero, List.set_cons_succ, i64_w, i32_w]
          rfl
        refine pure_ (i := 6) (N := some 69) (v := ?_) (a' := ?_) #[true, true, true, true, true, true, true, false] rfl rfl (by kernel_rfl) (fun _ _ _ h => h) (Or.inl ⟨by rfl, ?_⟩) ?_ ?_
        rotate_left
        · intro w'
          go_simp
          with_reducible rfl
        rotate_left
        · simp only [Act.put, List.setIfInBounds_toArray, List.set_cons_zero, List.set_cons_succ, i64_w, i32_w]
          rfl
        refine last_ (i := 7) (N := none) #[true, true, true, true, true, true, true, true] rfl rfl (by kernel_rfl) (by decide) (fun K hK => ?_)
        refine skip_ (w1 := (((wd.setCell ⟨gr, k * 4, none⟩ (.int .u32 m.f0)).setCell ⟨gr, k * 4 + 1, none⟩ (.int .u32 m.f1)).setCell ⟨gr, k * 4 + 2, none⟩ (.int .u8 m.f2)).setCell ⟨gr, k * 4 + 3, none⟩ (.string m.f3)) (by rfl) rfl ?_ ?_
        · go_simp
          try with_reducible rfl
        refine hK.out _ _ ?_
        clear hK K
        refine done_ (by kernel_rfl) ?_
        try go_wp2
        refine bodyPost_ret (results_tmp2 rfl _ _ _) rfl ?_
        refine ⟨rfl, ⟨?_, by rw [List.length_set]; exact HV8.out.cap, fun h0 => by rw [List.length_set] at h0; exact absurd (show k < l.length from HLT.out) (by omega), fun _ => ⟨gr, rfl, ?_⟩⟩, ?_⟩
        · rw [List.length_set]
          exact blk_far (blk_far (blk_far (blk_far HV8.out.box HNE.out _) HNE.out _) HNE.out _) HNE.out _
        · rw [List.length_set, ← HKI.out]
          exact HR8.out.set (i := k) HLT.out m
        · have h9 := HB9.out
          refine ⟨h9.os, h9.tape, h9.output, by simpa [World.setCell] using h9.size, fun i hi _ hp => ?_⟩
          have hig : i ≠ gr := hp _ rfl
          rw [Below.heap_setCell _ _ _ _ (by simpa using hig), Below.heap_setCell _ _ _ _ (by simpa using hig), Below.heap_setCell _ _ _ _ (by simpa using hig), Below.heap_setCell _ _ _ _ (by simpa using hig)]
          exact h9.block i hi
    · exact absurd (show k < l.length by omega) (by omega)
end Go.Proofs.Ytognmibankcefaa.Print
end
section
/- The document's Merge where a member is laid between, walked. -/
namespace Go.Proofs.Ytognmibankcefaa.Print
open Go.RowKit Go.Maps Go.ChangeMaps Go.Proofs.YtognmibankcefaaW.PrintWords Go.Proofs.YtognmibankcefaaW.PrintLast Go.Proofs.YtognmibankcefaaW.PrintMore
set_option linter.unusedVariables false
set_option linter.unusedSimpArgs false
/-- the new row is the old one's block, or one that came after -/
def PB (w : World) (p p' : Option Addr) : Prop := ∀ a', p' = some a' → (∃ a, p = some a ∧ a.block = a'.block) ∨ w.heap.size ≤ a'.block
theorem RF.of {w w' : World} {h : Nat} {p : Option Addr} (hb : Below w.heap.size w w') : RF w w' h p := ⟨hb.os, hb.tape, hb.output, hb.size, fun i hi _ _ => hb.block i hi⟩
theorem RF.size {w w' : World} {h : Nat} {p : Option Addr} (k : RF w w' h p) : w.heap.size ≤ w'.heap.size := k.2.2.2.1
theorem RF.step {w W W' : World} {h : Nat} {p : Option Addr} {row : Option Nat} (k : RF w W h p) (hg : W.grownBy W' row) (hr : ∀ j, row = some j → (∃ a, p = some a ∧ a.block = j) ∨ w.heap.size ≤ j) : RF w W' h p :=
  ⟨hg.os.trans k.1, hg.tape.trans k.2.1, hg.output.trans k.2.2.1, Nat.le_trans k.2.2.2.1 hg.size, fun i hi hh hp => (hg.block i (Nat.lt_of_lt_of_le hi k.2.2.2.1) (fun e => by
    rcases hr i e.symm with ⟨a, e1, e2⟩ | h2
    · exact hp a e1 e2.symm
    · omega)).trans (k.2.2.2.2 i hi hh hp)⟩
theorem RF.put {w W : World} {h : Nat} {p : Option Addr} (k : RF w W h p) (v : Value) : RF w (W.setCell ⟨h, 0, none⟩ v) h p :=
  ⟨k.1, k.2.1, k.2.2.1, by simpa [World.setCell] using k.2.2.2.1, fun i hi hh hp => (Below.heap_setCell _ _ _ _ (by simpa using hh)).trans (k.2.2.2.2 i hi hh hp)⟩
theorem RF.below {w W W' : World} {h : Nat} {p : Option Addr} (k : RF w W h p) (hb : Below W.heap.size W W') : RF w W' h p := k.step (row := none) ⟨hb.os, hb.tape, hb.output, hb.size, fun i hi _ => hb.block i hi⟩ (fun j hj => by simp at hj)
structure StopAt (P : Prop) : Prop where
  out : P
theorem stop_ {P : Prop} (h : StopAt P) : P := h.out
theorem blk_grown {W W' : World} {row : Option Nat} {B : Nat} {o : Obj} (h : W.heap[B]? = some o) (hg : W.grownBy W' row) (hne : some B ≠ row) : W'.heap[B]? = some o := (hg.block B (Array.getElem?_eq_some_iff.1 h).1 hne).trans h
theorem b0 {n : Nat} {w w' : World} (h : Below n w w') : Below 0 w w' := ⟨h.os, h.tape, h.output, h.size, fun i hi => absurd hi (Nat.not_lt_zero _)⟩
theorem own_of_slice {p : Option Addr} {n c j : Nat} (h : (Value.slice p n c).ownBlock = some j) {P : Prop} : (∃ a, p = some a ∧ a.block = j) ∨ P := by
  cases p with
  | none => simp [Value.ownBlock] at h
  | some a => exact Or.inl ⟨a, rfl, by simpa [Value.ownBlock] using h⟩
theorem Rv.own_lt {w : World} {h c : Nat} {p : Option Addr} {l : List Mem} (k : Rv w h p c l) : ∀ {n : Nat} (j : Nat), (Value.slice p n c).ownBlock = some j → j < w.heap.size := by
  intro n j hj
  rcases Nat.eq_zero_or_pos l.length with h0 | h0
  · obtain ⟨rfl, rfl⟩ := k.nul h0
    simp [Value.ownBlock] at hj
  · obtain ⟨g, rfl, hr⟩ := k.row h0
    have : g = j := by simpa [Value.ownBlock] using hj
    subst this
    exact hr.lt
theorem Rv.box_ne {w : World} {h c : Nat} {p : Option Addr} {l : List Mem} (k : Rv w h p c l) {m : Nat} : some h ≠ (Value.slice p m c).ownBlock := by
  intro he
  rcases Nat.eq_zero_or_pos l.length with h0 | h0
  · obtain ⟨rfl, rfl⟩ := k.nul h0
    simp [Value.ownBlock] at he
  · obtain ⟨g, rfl, hr⟩ := k.row h0
    have : h = g := by simpa [Value.ownBlock] using he
    subst this
    obtain ⟨cur, hb, _⟩ := hr
    exact blk_ne k.box hb (by decide) rfl
theorem Rv.grown {w w' : World} {h c : Nat} {p : Option Addr} {l : List Mem} {row : Option Nat} (k : Rv w h p c l) (hg : w.grownBy w' row) (h1 : some h ≠ row) (h2 : ∀ a, p = some a → some a.block ≠ row) : Rv w' h p c l :=
  ⟨blk_grown k.box hg h1, k.cap, k.nul, fun h0 => by
    obtain ⟨g, e, cur, hb, hr⟩ := k.row h0
    exact ⟨g, e, cur, blk_grown hb hg (h2 _ e), hr⟩⟩
theorem Rv.box_grown {w w' : World} {h c : Nat} {p : Option Addr} {l : List Mem} {row : Option Nat} (k : Rv w h p c l) (hg : w.grownBy w' row) (h1 : some h ≠ row) : w'.heap[h]? = some (.cells #[.slice p l.length c] 48 (0, 0)) := blk_grown k.box hg h1
theorem own_far {W : World} {u v : Value} {j : Nat} (hat : v.ownBlock = u.ownBlock ∨ ∃ b, v.ownBlock = some b ∧ W.heap.size ≤ b) (h1 : some j ≠ u.ownBlock) (h2 : j < W.heap.size) : some j ≠ v.ownBlock := by
  rcases hat with e | ⟨b, e, hb⟩
  · rw [e]; exact h1
  · rw [e]
    intro he
    injection he with he
    omega
theorem own_frame {w W : World} {p : Option Addr} {n c : Nat} {v : Value} (hat : v.ownBlock = (Value.slice p n c).ownBlock ∨ ∃ b, v.ownBlock = some b ∧ W.heap.size ≤ b) (hs : w.heap.size ≤ W.heap.size) : ∀ j, v.ownBlock = some j → (∃ a, p = some a ∧ a.block = j) ∨ w.heap.size ≤ j := by
  intro j hj
  rcases hat with e | ⟨b, e, hb⟩
  · rw [e] at hj; exact own_of_slice hj
  · rw [e] at hj
    injection hj with hj
    exact Or.inr (by omega)
theorem own_pb {w W W' : World} {p : Option Addr} {n c : Nat} {u v : Value} (h1 : u.ownBlock = (Value.slice p n c).ownBlock ∨ ∃ b, u.ownBlock = some b ∧ W.heap.size ≤ b) (h2 : v.ownBlock = u.ownBlock ∨ ∃ b, v.ownBlock = some b ∧ W'.heap.size ≤ b) (hs : w.heap.size ≤ W.heap.size) (hs' : w.heap.size ≤ W'.heap.size) : ∀ j, v.ownBlock = some j → (∃ a, p = some a ∧ a.block = j) ∨ w.heap.size ≤ j := by
  intro j hj
  rcases h2 with e | ⟨b, e, hb⟩
  · rw [e] at hj; exact own_frame h1 hs j hj
  · rw [e] at hj
    injection hj with hj
    exact Or.inr (by omega)
theorem one_Reps (W : World) (base : Nat) (ok : Nat → Prop) (x : Mem) : Reps (k25.M W base ok) 4 [x] [.int .u32 x.f0, .int .u32 x.f1, .int .u8 x.f2, .string x.f3] := ⟨rfl, fun j p hj => by
  have hj0 : j = 0 := by have := (List.getElem?_eq_some_iff.1 hj).1; simp at this; omega
  subst hj0
  have e : x = p := by simpa using hj
  subst e
  exact k25_mkM _ _ _ x⟩
set_option maxHeartbeats 8000000 in
set_option maxRecDepth 100000 in
theorem refmerge_lay (w : World) (h c : Nat) (p : Option Addr) (l : List Mem) (m : Mem) (hV : Rv w h p c l) (hl : l.length ≤ 100000) (hm : mayM m = true) (hn : ∀ y, l[idxA l m.f0]? = some y → y.f0 ≠ m.f0) (h32 : ¬ 32 ≤ l.length) :
    Calls Try.prog 22 #[.pointer (some ⟨h, 0, none⟩), .agg #[.int .u32 m.f0, .int .u32 m.f1, .int .u8 m.f2, .string m.f3]] w fun e w' => ∃ p' c', e = .returned (.tuple #[.bool true, .int .i64 0]) ∧ Rv w' h p' c' (l.take (idxA l m.f0) ++ [m] ++ l.drop (idxA l m.f0)) ∧ RF w w' h p ∧ PB w p p' := by
  have hu25 := Try.underlying25
  have hmf := may_f m
  rw [hm] at hmf
  have HMF := Aside0.mk hmf
  have HV := Aside0.mk hV
  have HN := Aside0.mk hn
  clear hmf hV hn
  go_enter Try.func22, Try.ntmps22
  go_upto_region 3 with (first | (go_at_call 10; (with_reducible refine (hearsayref17_May.calls m.f0 m.f1 m.f2 m.f3 true _ HMF.out).mono ?_); rintro e w2 ⟨rfl, hb⟩; have HB2 := Aside0.mk (below_step (below_alloc (Below.refl w.heap.size w) _) hb); have HM2 := Aside0.mk (blk_below (blk_new w _) hb); have HV2 := Aside0.mk (HV.out.below HB2.out); clear hb))
  have m0_ : w2.cell? ⟨w.heap.size, 0, none⟩ = some (.int .u32 m.f0) := (blk_cell HM2.out 0).trans rfl
  have hcell := HV2.out.cell
  go_wp2
  go_loopw [6] (fun i wr => ∃ k : Nat, k ≤ idxA l m.f0 ∧ i = .int .i64 k ∧ Drawn0 w2 wr) (fun i _ => l.length - (intOf i).toNat)
  case atStart => exact ⟨0, Nat.zero_le _, rfl, Drawn0.refl _⟩
  case round =>
    obtain ⟨k, hk, rfl, ⟨nq, rfl⟩⟩ := hrel
    have hil := idxA_le l m.f0
    by_cases hlt : (k : Int) < (l.length : Int)
    · have HLT := Aside0.mk (show k < l.length by omega)
      obtain ⟨gr, rfl, hrow⟩ := HV2.out.row (by omega)
      have hk0 : 0 ≤ (k : Int) := by omega
      obtain ⟨y, hy⟩ : ∃ y, l[k]? = some y := ⟨l[k]'(by omega), List.getElem?_eq_getElem (by omega)⟩
      have c0 : w2.cell? ⟨gr, k * 4, none⟩ = some (.int .u32 y.f0) := hrow.at hy 0 (by omega) _ rfl
      have HAT := Aside0.mk (idxA_at l m.f0 k y hy hk)
      have HY := Aside0.mk hy
      clear hy hrow
      by_cases hlo : y.f0 < m.f0
      · have HKK := Aside0.mk (HAT.out.1 hlo)
        clear HAT
        go_wp2
        repeat (go_quiet (fail); try go_wp2)
        go_roundw
        case rel => exact ⟨k + 1, by have := HKK.out; omega, by go_num, by repeat (first | exact Drawn0.refl _ | apply Drawn0.step)⟩
        case measure => have := HLT.out; simp [intOf, wrap64]; omega
      · have hki := HAT.out.2 hlo
        have hne : (y.f0 == m.f0) = false := by have := HN.out y (by rw [← hki]; exact HY.out); simpa using this
        have h32' : ¬ (l.length : Int) ≥ 32 := by omega
        have hlt' : k < l.length := HLT.out
        have hck : ¬ c = k := by have := HV.out.cap.1; omega
        clear HAT
        have HKI := Aside0.mk hki
        have HKL := Aside0.mk (show k ≤ l.length by have := idxA_le l m.f0; omega)
        have HPW : Aside0 (∀ j, (Value.slice (some ⟨gr, 0, none⟩) k c).ownBlock = some j → j < w.heap.size) := ⟨HV.out.own_lt⟩
        have HHP : Aside0 (some h ≠ (Value.slice (some ⟨gr, 0, none⟩) k c).ownBlock) := ⟨HV2.out.box_ne⟩
        have HMP : Aside0 (∀ j, j = w.heap.size → some j ≠ (Value.slice (some ⟨gr, 0, none⟩) k c).ownBlock) := ⟨fun j hj he => by have := HPW.out j he.symm; omega⟩
        have HW2 := Aside0.mk (show w.heap.size ≤ w2.heap.size from HB2.out.size)
        have HRP : Aside0 (∀ j, w2.heap.size ≤ j → some j ≠ (Value.slice (some ⟨gr, 0, none⟩) k c).ownBlock) := ⟨fun j hj he => by have := HPW.out j he.symm; have := HW2.out; omega⟩
        have HBN : Aside0 (∀ n, Below w2.heap.size w2 (w2.drewN n)) := ⟨fun n => pw_below_drewN (Below.refl _ _) n⟩
        have hkl_ : k ≤ l.length := HKL.out
        have hcl_ : l.length ≤ c := HV.out.cap.1
        have hkc_ : k ≤ c := Nat.le_trans hkl_ hcl_
        have hcm_ : c ≤ 9223372036854775807 := by have := HV.out.cap.2; unfold maxLen at this; exact this
        have HCD : Aside0 (Kd.C k25 w2 (some ⟨gr, k * 4, none⟩) (l.length - k) (l.drop k)) := by
          obtain ⟨_, _, e_, _, h1_⟩ := Kd.R_reads HV2.out.R
          injection e_ with e1_ e2_ e3_
          subst e1_
          have h2_ := Kd.C_drop h1_ hkl_ hcl_
          rw [List.length_drop] at h2_
          rw [if_neg (by omega)] at h2_
          have e4_ : (some (⟨gr, 0, none⟩ : Addr)).map (·.add (k * k25.sz)) = some ⟨gr, k * 4, none⟩ := by simp [Addr.add, show k25.sz = 4 from rfl]; exact fun h => h.symm
          rw [e4_] at h2_
          exact ⟨h2_⟩
        clear hki
        go_wp2
        repeat (go_quiet (fail); try go_wp2_with ((with_reducible refine gate_dst (N := 82) rfl ?_); refine stop_ ?_))
        refine StopAt.mk ?_
        refine Kd.R_append_rows k25 (w0 := w) w.heap.size ?hg (.const (.slice none 0 0)) (.tmp 81) 32 25 (.agg #[.int .u32 0, .int .u32 0, .int .u8 0, .string ⟨#[]⟩]) 32 ?ho Try.underlying32 info25 rfl (by decide) (by omega) (.slice none 0 0) [] (l.drop k) (some ⟨gr, k * 4, none⟩) (l.length - k) (c - k) (fun j => w2.heap.size ≤ j) (fun _ => False) ?h1 ?h2 (Kd.R_nil _ _ _ _ _) (Kd.C_below HCD.out (HBN.out _)) (fun _ _ h => h) (fun _ h => h.elim) (fun _ h => Nat.le_trans (HBN.out _).size h) (below_step HB2.out (HBN.out _)) (below_step HB2.out (HBN.out _)).size (by first | (simp; done) | (simp; omega)) ?_; (case hg => rfl); (case ho => rfl); (case h1 => rfl); (case h2 => rfl); intro v1 w3 hr1_ hb1_ hg1_ ha1_; have HR3 : Aside0 (Kd.R k25 25 w3 w.heap.size (fun j => w2.heap.size ≤ j) v1 (l.drop k)) := ⟨hr1_⟩; obtain ⟨A1, c1, e1_, hle1_, hC1_⟩ := Kd.R_reads HR3.out; subst e1_; have HV3 := Aside0.mk (HV.out.below hb1_); have HM3 := Aside0.mk (blk_grown (blk_below HM2.out (HBN.out _)) hg1_ (by simp [Value.ownBlock])); have HF3 : Aside0 (RF w w3 h (some ⟨gr, 0, none⟩)) := ⟨RF.of hb1_⟩; clear hr1_ hb1_ hg1_ ha1_ hle1_ hC1_
        try go_wp2
        have HV8 := Aside0.mk (HV3.out.below (below_drew1 (Below.refl _ _)))
        have HM8 := Aside0.mk (blk_below HM3.out (below_drew1 (Below.refl w3.heap.size w3)))
        have HR8 := Aside0.mk (Kd.R_below HR3.out (below_drew1 (Below.refl w3.heap.size w3)))
        have HF8 := Aside0.mk (HF3.out.below (below_drew1 (Below.refl w3.heap.size w3)))
        clear HV3 HM3 HR3 HF3 hcell m0_ HCD HBN HB2 HM2 HV2
        refine start_ (n := 15) (S := (fun w' => w'.cell? ⟨h, 0, none⟩ = some (.slice (some ⟨gr, 0, none⟩) l.length c) ∧ w'.cell? ⟨w.heap.size, 0, none⟩ = some (.int .u32 m.f0) ∧ w'.cell? ⟨w.heap.size, 1, none⟩ = some (.int .u32 m.f1) ∧ w'.cell? ⟨w.heap.size, 2, none⟩ = some (.int .u8 m.f2) ∧ w'.cell? ⟨w.heap.size, 3, none⟩ = some (.string m.f3))) (ds := [14]) #[false, false, false, false, false, false, false, false, false, false, false, false, false, false, false] (by kernel_rfl) rfl rfl ⟨(Rv.cell HV8.out), (blk_cell HM8.out 0).trans rfl, (blk_cell HM8.out 1).trans rfl, (blk_cell HM8.out 2).trans rfl, (blk_cell HM8.out 3).trans rfl⟩ (fun hHeld => ?_)
        generalize w3.drew = wd at HV8 HM8 HR8 HF8 hHeld ⊢
        refine pure_ (i := 0) (N := some 83) (v := ?_) (a' := ?_) #[true, false, false, false, false, false, false, false, false, false, false, false, false, false, false] rfl rfl (by kernel_rfl) (fun _ _ _ h => h) (Or.inl ⟨by rfl, ?_⟩) ?_ ?_
        rotate_left
        · intro w'
          go_simp
          with_reducible rfl
        rotate_left
        · simp only [Act.put, List.setIfInBounds_toArray, List.set_cons_zero, List.set_cons_succ, i64_w, i32_w]
          rfl
        refine pure_ (i := 1) (N := some 84) (v := ?_) (a' := ?_) #[true, true, false, false, false, false, false, false, false, false, false, false, false, false, false] rfl rfl (by kernel_rfl) (fun _ _ _ h => h) (Or.inl ⟨by rfl, ?_⟩) ?_ ?_
        rotate_left
        · intro w'
          go_simp
          with_reducible rfl
        rotate_left
        · simp only [Act.put, List.setIfInBounds_toArray, List.set_cons_zero, List.set_cons_succ, i64_w, i32_w]
          rfl
        refine pure_ (i := 2) (N := some 85) (v := ?_) (a' := ?_) #[true, true, true, false, false, false, false, false, false, false, false, false, false, false, false] rfl rfl (by kernel_rfl) (fun _ _ _ h => h) (Or.inl ⟨by rfl, ?_⟩) ?_ ?_
        rotate_left
        · intro w'
          go_simp
          with_reducible rfl
        rotate_left
        · simp only [Act.put, List.setIfInBounds_toArray, List.set_cons_zero, List.set_cons_succ, i64_w, i32_w]
          rfl
        refine pure_ (i := 3) (N := some 86) (v := ?_) (a' := ?_) #[true, true, true, true, false, false, false, false, false, false, false, false, false, false, false] rfl rfl (by kernel_rfl) (fun _ _ _ h => h) (Or.inl ⟨by rfl, ?_⟩) ?_ ?_
        rotate_left
        · intro w'
          go_simp
          with_reducible rfl
        rotate_left
        · simp only [Act.put, List.setIfInBounds_toArray, List.set_cons_zero, List.set_cons_succ, i64_w, i32_w]
          rfl
        refine take_ (i := 4) (N := some 87) (v := ?_) (a' := ?_) #[true, true, true, true, true, false, false, false, false, false, false, false, false, false, false] rfl rfl (by kernel_rfl) (fun _ _ _ h => h) (Or.inl ⟨by rfl, ?_⟩) hHeld ?_ ?_
        rotate_left
        · rintro w' ⟨h0_, h1_, h2_, h3_, h4_⟩
          go_simp
          with_reducible rfl
        rotate_left
        · simp only [Act.put, List.setIfInBounds_toArray, List.set_cons_zero, List.set_cons_succ, i64_w, i32_w]
          rfl
        refine pure_ (i := 5) (N := some 88) (v := ?_) (a' := ?_) #[true, true, true, true, true, true, false, false, false, false, false, false, false, false, false] rfl rfl (by kernel_rfl) (fun _ _ _ h => h) (Or.inl ⟨by rfl, ?_⟩) ?_ ?_
        rotate_left
        · intro w'
          go_simp
          with_reducible rfl
        rotate_left
        · simp only [Act.put, List.setIfInBounds_toArray, List.set_cons_zero, List.set_cons_succ, i64_w, i32_w]
          rfl
        refine pure_ (i := 6) (N := some 89) (v := ?_) (a' := ?_) #[true, true, true, true, true, true, true, false, false, false, false, false, false, false, false] rfl rfl (by kernel_rfl) (fun _ _ _ h => h) (Or.inl ⟨by rfl, ?_⟩) ?_ ?_
        rotate_left
        · intro w'
          go_simp
          with_reducible rfl
        rotate_left
        · simp only [Act.put, List.setIfInBounds_toArray, List.set_cons_zero, List.set_cons_succ, i64_w, i32_w]
          rfl
        refine take_ (i := 7) (N := some 90) (v := ?_) (a' := ?_) #[true, true, true, true, true, true, true, true, false, false, false, false, false, false, false] rfl rfl (by kernel_rfl) (fun _ _ _ h => h) (Or.inl ⟨by rfl, ?_⟩) hHeld ?_ ?_
        rotate_left
        · rintro w' ⟨h0_, h1_, h2_, h3_, h4_⟩
          go_simp
          with_reducible rfl
        rotate_left
        · simp only [Act.put, List.setIfInBounds_toArray, List.set_cons_zero, List.set_cons_succ, i64_w, i32_w]
          rfl
        refine pure_ (i := 10) (N := some 93) (v := ?_) (a' := ?_) #[true, true, true, true, true, true, true, true, false, false, true, false, false, false, false] rfl rfl (by kernel_rfl) (fun _ _ _ h => h) (Or.inl ⟨by rfl, ?_⟩) ?_ ?_
        rotate_left
        · intro w'
          go_simp
          with_reducible rfl
        rotate_left
        · simp only [Act.put, List.setIfInBounds_toArray, List.set_cons_zero, List.set_cons_succ, i64_w, i32_w]
          rfl
        refine one_ (i := 8) (N := some 91) #[true, true, true, true, true, true, true, true, true, false, true, false, false, false, false] rfl rfl (by kernel_rfl) (by decide) (fun K hK => ?_)
        refine Kd.R_lit_step k25 0 25 ?hg (N := 91) ?hd (w0 := wd) (xs := [m]) (inner := [.int .u32 m.f0, .int .u32 m.f1, .int .u8 m.f2, .string m.f3]) (ok := fun _ => True) (okp := fun _ => True) ?hr ?hp (fun _ hk => hk) trivial (Below.refl 0 wd) (Nat.zero_le _) (by simp) ?_; (case hd => rfl); (case hg => rfl); (case hr => first | (go_simp; done) | (go_simp; rfl)); (case hp => exact one_Reps _ _ _ m)
        intro v91 w4 ho_ _ hg_ _
        obtain ⟨A91, c91, e91, _, hC91⟩ := Kd.R_reads ho_
        have HC91 := Aside0.mk hC91
        have HV9 := Aside0.mk (HV8.out.grown hg_ (by simp) (fun a _ => by simp))
        have HM9 := Aside0.mk (blk_grown HM8.out hg_ (by simp))
        have HR9 := Aside0.mk (Kd.R_grown HR8.out hg_ (fun _ _ => by simp))
        have HF9 := Aside0.mk (HF8.out.step hg_ (fun j hj => by simp at hj))
        have HS9 := Aside0.mk (hg_.size)
        subst e91
        clear ho_ hg_ hC91
        refine hK.out _ _ ⟨(Rv.cell HV9.out), (blk_cell HM9.out 0).trans rfl, (blk_cell HM9.out 1).trans rfl, (blk_cell HM9.out 2).trans rfl, (blk_cell HM9.out 3).trans rfl⟩ (fun hHeld => ?_)
        clear hK K
        refine norm_ (a' := ?_) ?_ ?_
        rotate_left
        · show Act.put _ (some 91) _ = _
          simp only [Act.put, List.setIfInBounds_toArray, List.set_cons_zero, List.set_cons_succ, i64_w, i32_w]
          rfl
        refine one_ (i := 9) (N := some 92) #[true, true, true, true, true, true, true, true, true, true, true, false, false, false, false] rfl rfl (by kernel_rfl) (by decide) (fun K hK => ?_)
        refine Kd.R_append_rows_step k25 (w0 := w4) 0 ?hg (.tmp 89) (.tmp 91) 32 25 (.agg #[.int .u32 0, .int .u32 0, .int .u8 0, .string ⟨#[]⟩]) 32 ?ho Try.underlying32 info25 rfl (by decide) (by omega) (.slice (some ⟨gr, 0, none⟩) k c) (l.take k) [m] A91 1 c91 (fun _ => True) (fun _ => False) ?h1 ?h2 (Kd.R_take HV9.out.R HKL.out) HC91.out (fun _ _ h => h) (fun _ h => h.elim) (fun _ _ => trivial) (Below.refl _ _) (Nat.zero_le _) (by rw [List.length_take]; omega) ?_; (case hg => rfl); (case ho => rfl); (case h1 => rfl); (case h2 => rfl)
        intro v92 w5 ho_ _ hg_ hat_
        have HR92 := Aside0.mk ho_
        have HV10 := Aside0.mk (HV9.out.box_grown hg_ HHP.out)
        have HM10 := Aside0.mk (blk_grown HM9.out hg_ (HMP.out _ rfl))
        have HR10 := Aside0.mk (Kd.R_grown HR9.out hg_ (fun j hj => HRP.out j hj))
        have HF10 := Aside0.mk (HF9.out.step hg_ (fun j hj => own_of_slice hj))
        have HAT := Aside0.mk hat_
        have HS10 := Aside0.mk (hg_.size)
        clear ho_ hg_ hat_
        refine hK.out _ _ ⟨(blk_cell HV10.out 0).trans rfl, (blk_cell HM10.out 0).trans rfl, (blk_cell HM10.out 1).trans rfl, (blk_cell HM10.out 2).trans rfl, (blk_cell HM10.out 3).trans rfl⟩ (fun hHeld => ?_)
        clear hK K
        refine norm_ (a' := ?_) ?_ ?_
        rotate_left
        · show Act.put _ (some 92) _ = _
          simp only [Act.put, List.setIfInBounds_toArray, List.set_cons_zero, List.set_cons_succ, i64_w, i32_w]
          rfl
        refine one_ (i := 11) (N := some 94) #[true, true, true, true, true, true, true, true, true, true, true, true, false, false, false] rfl rfl (by kernel_rfl) (by decide) (fun K hK => ?_)
        refine Kd.R_append_rows_step k25 (w0 := w5) 0 ?hg (.tmp 92) (.tmp 93) 32 25 (.agg #[.int .u32 0, .int .u32 0, .int .u8 0, .string ⟨#[]⟩]) 32 ?ho Try.underlying32 info25 rfl (by decide) (by omega) v92 (l.take k ++ [m]) (l.drop k) A1 (l.length - k) c1 (fun _ => True) (fun _ => False) ?h1 ?h2 HR92.out (by have h_ := (Kd.R_reads' HR10.out).2.2; rw [List.length_drop] at h_;  exact h_) (fun _ _ h => h) (fun _ h => h.elim) (fun _ _ => trivial) (Below.refl _ _) (Nat.zero_le _) (by rw [List.length_append, List.length_take]; first | (simp; done) | (simp; omega)) ?_; (case hg => rfl); (case ho => rfl); (case h1 => rfl); (case h2 => rfl)
        intro v94 w6 ho_ _ hg_ hat_
        obtain ⟨A94, c94, e94, _, _⟩ := Kd.R_reads ho_
        subst e94
        have HR94 := Aside0.mk ho_
        have HNB := Aside0.mk (own_far HAT.out HHP.out (show h < w4.heap.size from blk_lt HV9.out.box))
        have HV11 := Aside0.mk (blk_grown HV10.out hg_ HNB.out)
        have HNM := Aside0.mk (own_far HAT.out (HMP.out _ rfl) (blk_lt HM9.out))
        have HM11 := Aside0.mk (blk_grown HM10.out hg_ HNM.out)
        have HF11 := Aside0.mk (HF10.out.step hg_ (own_frame HAT.out (Nat.le_trans HF8.out.size HS9.out)))
        have HNB2 := Aside0.mk (own_far hat_ HNB.out (blk_lt HV10.out))
        have HPB := Aside0.mk (own_pb HAT.out hat_ (Nat.le_trans HF8.out.size HS9.out) (Nat.le_trans (Nat.le_trans HF8.out.size HS9.out) HS10.out))
        clear ho_ hg_ hat_
        refine hK.out _ _ ⟨(blk_cell HV11.out 0).trans rfl, (blk_cell HM11.out 0).trans rfl, (blk_cell HM11.out 1).trans rfl, (blk_cell HM11.out 2).trans rfl, (blk_cell HM11.out 3).trans rfl⟩ (fun hHeld => ?_)
        clear hK K
        refine norm_ (a' := ?_) ?_ ?_
        rotate_left
        · show Act.put _ (some 94) _ = _
          simp only [Act.put, List.setIfInBounds_toArray, List.set_cons_zero, List.set_cons_succ, i64_w, i32_w]
          rfl
        refine pure_ (i := 12) (N := some 95) (v := ?_) (a' := ?_) #[true, true, true, true, true, true, true, true, true, true, true, true, true, false, false] rfl rfl (by kernel_rfl) (fun _ _ _ h => h) (Or.inl ⟨by rfl, ?_⟩) ?_ ?_
        rotate_left
        · intro w'
          go_simp
          with_reducible rfl
        rotate_left
        · simp only [Act.put, List.setIfInBounds_toArray, List.set_cons_zero, List.set_cons_succ, i64_w, i32_w]
          rfl
        refine pure_ (i := 13) (N := some 96) (v := ?_) (a' := ?_) #[true, true, true, true, true, true, true, true, true, true, true, true, true, true, false] rfl rfl (by kernel_rfl) (fun _ _ _ h => h) (Or.inl ⟨by rfl, ?_⟩) ?_ ?_
        rotate_left
        · intro w'
          go_simp
          with_reducible rfl
        rotate_left
        · simp only [Act.put, List.setIfInBounds_toArray, List.set_cons_zero, List.set_cons_succ, i64_w, i32_w]
          rfl
        refine last_ (i := 14) (N := none) #[true, true, true, true, true, true, true, true, true, true, true, true, true, true, true] rfl rfl (by kernel_rfl) (by decide) (fun K hK => ?_)
        have hb_c := (blk_cell HV11.out 0).trans rfl
        have hb_f := blk_frozen HV11.out 0
        refine skip_ (w1 := w6.setCell ⟨h, 0, none⟩ (.slice A94 (l.take k ++ [m] ++ l.drop k).length c94)) (by rfl) rfl ?_ ?_
        · go_simp
          try with_reducible rfl
        refine hK.out _ _ ?_
        clear hK K
        refine done_ (by kernel_rfl) ?_
        try go_wp2
        refine bodyPost_ret (results_tmp2 rfl _ _ _) rfl ?_
        have hpos : 0 < (l.take k ++ [m] ++ l.drop k).length := by first | (simp; done) | (simp; omega)
        obtain ⟨g5, c5, e5, _, hle5, hmx5, hrow5⟩ := R_rowAt HR94.out hpos
        injection e5 with e51 e52 e53
        subst e51
        subst e53
        have hhg : h ≠ g5 := fun e => HNB2.out (by rw [e]; rfl)
        rw [← HKI.out]
        refine ⟨_, _, rfl, ⟨blk_put HV11.out 0 _ rfl, ⟨hle5, hmx5⟩, fun h0 => absurd hpos (by omega), fun _ => ⟨g5, rfl, ?_⟩⟩, HF11.out.put _, fun a' ha' => HPB.out a'.block (by injection ha' with ha'; subst ha'; rfl)⟩
        obtain ⟨cur5, hb5, hr5⟩ := hrow5
        exact ⟨cur5, blk_far hb5 (fun e => hhg e.symm) _, hr5⟩
    · have h32' : ¬ (l.length : Int) ≥ 32 := by omega
      have hki : k = idxA l m.f0 := by omega
      have hdf : decide ((k : Int) < (l.length : Int)) = false := decide_eq_false hlt
      have hdn : decide (k < l.length) = false := decide_eq_false (by omega)
      have hdp : (k < l.length) = False := eq_false (by omega)
      clear hlt
      by_cases hl0 : 0 < l.length
      · obtain ⟨gr, rfl, hrow_⟩ := HV.out.row hl0
        clear hrow_
        by_cases hck : c = k
        · have hck' : k = c := hck.symm
          subst hck'
          have HKI := Aside0.mk hki
          have HKL := Aside0.mk (show k ≤ l.length by have := idxA_le l m.f0; omega)
          have HPW : Aside0 (∀ j, (Value.slice (some ⟨gr, 0, none⟩) k k).ownBlock = some j → j < w.heap.size) := ⟨HV.out.own_lt⟩
          have HHP : Aside0 (some h ≠ (Value.slice (some ⟨gr, 0, none⟩) k k).ownBlock) := ⟨HV2.out.box_ne⟩
          have HMP : Aside0 (∀ j, j = w.heap.size → some j ≠ (Value.slice (some ⟨gr, 0, none⟩) k k).ownBlock) := ⟨fun j hj he => by have := HPW.out j he.symm; omega⟩
          have HW2 := Aside0.mk (show w.heap.size ≤ w2.heap.size from HB2.out.size)
          have HRP : Aside0 (∀ j, w2.heap.size ≤ j → some j ≠ (Value.slice (some ⟨gr, 0, none⟩) k k).ownBlock) := ⟨fun j hj he => by have := HPW.out j he.symm; have := HW2.out; omega⟩
          have HBN : Aside0 (∀ n, Below w2.heap.size w2 (w2.drewN n)) := ⟨fun n => pw_below_drewN (Below.refl _ _) n⟩
          have hkl_ : k ≤ l.length := HKL.out
          have hcl_ : l.length ≤ k := HV.out.cap.1
          have hkc_ : k ≤ k := Nat.le_trans hkl_ hcl_
          have hcm_ : k ≤ 9223372036854775807 := by have := HV.out.cap.2; unfold maxLen at this; exact this
          have HCD : Aside0 (Kd.C k25 w2 (some ⟨gr, 0, none⟩) 0 (l.drop k)) := by
            obtain ⟨_, _, e_, _, h1_⟩ := Kd.R_reads HV2.out.R
            injection e_ with e1_ e2_ e3_
            subst e1_
            have h2_ := Kd.C_drop h1_ hkl_ hcl_
            rw [List.length_drop] at h2_
            rw [if_pos rfl, show l.length - k = 0 by omega] at h2_
            exact ⟨h2_⟩
          clear hki
          go_wp2
          repeat (go_quiet (fail); try go_wp2_with ((with_reducible refine gate_dst (N := 82) rfl ?_); refine stop_ ?_))
          refine StopAt.mk ?_
          refine Kd.R_append_rows k25 (w0 := w) w.heap.size ?hg (.const (.slice none 0 0)) (.tmp 81) 32 25 (.agg #[.int .u32 0, .int .u32 0, .int .u8 0, .string ⟨#[]⟩]) 32 ?ho Try.underlying32 info25 rfl (by decide) (by omega) (.slice none 0 0) [] (l.drop k) (some ⟨gr, 0, none⟩) 0 0 (fun j => w2.heap.size ≤ j) (fun _ => False) ?h1 ?h2 (Kd.R_nil _ _ _ _ _) (Kd.C_below HCD.out (HBN.out _)) (fun _ _ h => h) (fun _ h => h.elim) (fun _ h => Nat.le_trans (HBN.out _).size h) (below_step HB2.out (HBN.out _)) (below_step HB2.out (HBN.out _)).size (by first | (simp; done) | (simp; omega)) ?_; (case hg => rfl); (case ho => rfl); (case h1 => rfl); (case h2 => rfl); intro v1 w3 hr1_ hb1_ hg1_ ha1_; have HR3 : Aside0 (Kd.R k25 25 w3 w.heap.size (fun j => w2.heap.size ≤ j) v1 (l.drop k)) := ⟨hr1_⟩; obtain ⟨A1, c1, e1_, hle1_, hC1_⟩ := Kd.R_reads HR3.out; subst e1_; have HV3 := Aside0.mk (HV.out.below hb1_); have HM3 := Aside0.mk (blk_grown (blk_below HM2.out (HBN.out _)) hg1_ (by simp [Value.ownBlock])); have HF3 : Aside0 (RF w w3 h (some ⟨gr, 0, none⟩)) := ⟨RF.of hb1_⟩; clear hr1_ hb1_ hg1_ ha1_ hle1_ hC1_
          try go_wp2
          have HV8 := Aside0.mk (HV3.out.below (below_drew1 (Below.refl _ _)))
          have HM8 := Aside0.mk (blk_below HM3.out (below_drew1 (Below.refl w3.heap.size w3)))
          have HR8 := Aside0.mk (Kd.R_below HR3.out (below_drew1 (Below.refl w3.heap.size w3)))
          have HF8 := Aside0.mk (HF3.out.below (below_drew1 (Below.refl w3.heap.size w3)))
          clear HV3 HM3 HR3 HF3 hcell m0_ HCD HBN HB2 HM2 HV2
          refine start_ (n := 15) (S := (fun w' => w'.cell? ⟨h, 0, none⟩ = some (.slice (some ⟨gr, 0, none⟩) l.length k) ∧ w'.cell? ⟨w.heap.size, 0, none⟩ = some (.int .u32 m.f0) ∧ w'.cell? ⟨w.heap.size, 1, none⟩ = some (.int .u32 m.f1) ∧ w'.cell? ⟨w.heap.size, 2, none⟩ = some (.int .u8 m.f2) ∧ w'.cell? ⟨w.heap.size, 3, none⟩ = some (.string m.f3))) (ds := [14]) #[false, false, false, false, false, false, false, false, false, false, false, false, false, false, false] (by kernel_rfl) rfl rfl ⟨(Rv.cell HV8.out), (blk_cell HM8.out 0).trans rfl, (blk_cell HM8.out 1).trans rfl, (blk_cell HM8.out 2).trans rfl, (blk_cell HM8.out 3).trans rfl⟩ (fun hHeld => ?_)
          generalize w3.drew = wd at HV8 HM8 HR8 HF8 hHeld ⊢
          refine pure_ (i := 0) (N := some 83) (v := ?_) (a' := ?_) #[true, false, false, false, false, false, false, false, false, false, false, false, false, false, false] rfl rfl (by kernel_rfl) (fun _ _ _ h => h) (Or.inl ⟨by rfl, ?_⟩) ?_ ?_
          rotate_left
          · intro w'
            go_simp
            with_reducible rfl
          rotate_left
          · simp only [Act.put, List.setIfInBounds_toArray, List.set_cons_zero, List.set_cons_succ, i64_w, i32_w]
            rfl
          refine pure_ (i := 1) (N := some 84) (v := ?_) (a' := ?_) #[true, true, false, false, false, false, false, false, false, false, false, false, false, false, false] rfl rfl (by kernel_rfl) (fun _ _ _ h => h) (Or.inl ⟨by rfl, ?_⟩) ?_ ?_
          rotate_left
          · intro w'
            go_simp
            with_reducible rfl
          rotate_left
          · simp only [Act.put, List.setIfInBounds_toArray, List.set_cons_zero, List.set_cons_succ, i64_w, i32_w]
            rfl
          refine pure_ (i := 2) (N := some 85) (v := ?_) (a' := ?_) #[true, true, true, false, false, false, false, false, false, false, false, false, false, false, false] rfl rfl (by kernel_rfl) (fun _ _ _ h => h) (Or.inl ⟨by rfl, ?_⟩) ?_ ?_
          rotate_left
          · intro w'
            go_simp
            with_reducible rfl
          rotate_left
          · simp only [Act.put, List.setIfInBounds_toArray, List.set_cons_zero, List.set_cons_succ, i64_w, i32_w]
            rfl
          refine pure_ (i := 3) (N := some 86) (v := ?_) (a' := ?_) #[true, true, true, true, false, false, false, false, false, false, false, false, false, false, false] rfl rfl (by kernel_rfl) (fun _ _ _ h => h) (Or.inl ⟨by rfl, ?_⟩) ?_ ?_
          rotate_left
          · intro w'
            go_simp
            with_reducible rfl
          rotate_left
          · simp only [Act.put, List.setIfInBounds_toArray, List.set_cons_zero, List.set_cons_succ, i64_w, i32_w]
            rfl
          refine take_ (i := 4) (N := some 87) (v := ?_) (a' := ?_) #[true, true, true, true, true, false, false, false, false, false, false, false, false, false, false] rfl rfl (by kernel_rfl) (fun _ _ _ h => h) (Or.inl ⟨by rfl, ?_⟩) hHeld ?_ ?_
          rotate_left
          · rintro w' ⟨h0_, h1_, h2_, h3_, h4_⟩
            go_simp
            with_reducible rfl
          rotate_left
          · simp only [Act.put, List.setIfInBounds_toArray, List.set_cons_zero, List.set_cons_succ, i64_w, i32_w]
            rfl
          refine pure_ (i := 5) (N := some 88) (v := ?_) (a' := ?_) #[true, true, true, true, true, true, false, false, false, false, false, false, false, false, false] rfl rfl (by kernel_rfl) (fun _ _ _ h => h) (Or.inl ⟨by rfl, ?_⟩) ?_ ?_
          rotate_left
          · intro w'
            go_simp
            with_reducible rfl
          rotate_left
          · simp only [Act.put, List.setIfInBounds_toArray, List.set_cons_zero, List.set_cons_succ, i64_w, i32_w]
            rfl
          refine pure_ (i := 6) (N := some 89) (v := ?_) (a' := ?_) #[true, true, true, true, true, true, true, false, false, false, false, false, false, false, false] rfl rfl (by kernel_rfl) (fun _ _ _ h => h) (Or.inl ⟨by rfl, ?_⟩) ?_ ?_
          rotate_left
          · intro w'
            go_simp
            with_reducible rfl
          rotate_left
          · simp only [Act.put, List.setIfInBounds_toArray, List.set_cons_zero, List.set_cons_succ, i64_w, i32_w]
            rfl
          refine take_ (i := 7) (N := some 90) (v := ?_) (a' := ?_) #[true, true, true, true, true, true, true, true, false, false, false, false, false, false, false] rfl rfl (by kernel_rfl) (fun _ _ _ h => h) (Or.inl ⟨by rfl, ?_⟩) hHeld ?_ ?_
          rotate_left
          · rintro w' ⟨h0_, h1_, h2_, h3_, h4_⟩
            go_simp
            with_reducible rfl
          rotate_left
          · simp only [Act.put, List.setIfInBounds_toArray, List.set_cons_zero, List.set_cons_succ, i64_w, i32_w]
            rfl
          refine pure_ (i := 10) (N := some 93) (v := ?_) (a' := ?_) #[true, true, true, true, true, true, true, true, false, false, true, false, false, false, false] rfl rfl (by kernel_rfl) (fun _ _ _ h => h) (Or.inl ⟨by rfl, ?_⟩) ?_ ?_
          rotate_left
          · intro w'
            go_simp
            with_reducible rfl
          rotate_left
          · simp only [Act.put, List.setIfInBounds_toArray, List.set_cons_zero, List.set_cons_succ, i64_w, i32_w]
            rfl
          refine one_ (i := 8) (N := some 91) #[true, true, true, true, true, true, true, true, true, false, true, false, false, false, false] rfl rfl (by kernel_rfl) (by decide) (fun K hK => ?_)
          refine Kd.R_lit_step k25 0 25 ?hg (N := 91) ?hd (w0 := wd) (xs := [m]) (inner := [.int .u32 m.f0, .int .u32 m.f1, .int .u8 m.f2, .string m.f3]) (ok := fun _ => True) (okp := fun _ => True) ?hr ?hp (fun _ hk => hk) trivial (Below.refl 0 wd) (Nat.zero_le _) (by simp) ?_; (case hd => rfl); (case hg => rfl); (case hr => first | (go_simp; done) | (go_simp; rfl)); (case hp => exact one_Reps _ _ _ m)
          intro v91 w4 ho_ _ hg_ _
          obtain ⟨A91, c91, e91, _, hC91⟩ := Kd.R_reads ho_
          have HC91 := Aside0.mk hC91
          have HV9 := Aside0.mk (HV8.out.grown hg_ (by simp) (fun a _ => by simp))
          have HM9 := Aside0.mk (blk_grown HM8.out hg_ (by simp))
          have HR9 := Aside0.mk (Kd.R_grown HR8.out hg_ (fun _ _ => by simp))
          have HF9 := Aside0.mk (HF8.out.step hg_ (fun j hj => by simp at hj))
          have HS9 := Aside0.mk (hg_.size)
          subst e91
          clear ho_ hg_ hC91
          refine hK.out _ _ ⟨(Rv.cell HV9.out), (blk_cell HM9.out 0).trans rfl, (blk_cell HM9.out 1).trans rfl, (blk_cell HM9.out 2).trans rfl, (blk_cell HM9.out 3).trans rfl⟩ (fun hHeld => ?_)
          clear hK K
          refine norm_ (a' := ?_) ?_ ?_
          rotate_left
          · show Act.put _ (some 91) _ = _
            simp only [Act.put, List.setIfInBounds_toArray, List.set_cons_zero, List.set_cons_succ, i64_w, i32_w]
            rfl
          refine one_ (i := 9) (N := some 92) #[true, true, true, true, true, true, true, true, true, true, true, false, false, false, false] rfl rfl (by kernel_rfl) (by decide) (fun K hK => ?_)
          refine Kd.R_append_rows_step k25 (w0 := w4) 0 ?hg (.tmp 89) (.tmp 91) 32 25 (.agg #[.int .u32 0, .int .u32 0, .int .u8 0, .string ⟨#[]⟩]) 32 ?ho Try.underlying32 info25 rfl (by decide) (by omega) (.slice (some ⟨gr, 0, none⟩) k k) (l.take k) [m] A91 1 c91 (fun _ => True) (fun _ => False) ?h1 ?h2 (Kd.R_take HV9.out.R HKL.out) HC91.out (fun _ _ h => h) (fun _ h => h.elim) (fun _ _ => trivial) (Below.refl _ _) (Nat.zero_le _) (by rw [List.length_take]; omega) ?_; (case hg => rfl); (case ho => rfl); (case h1 => rfl); (case h2 => rfl)
          intro v92 w5 ho_ _ hg_ hat_
          have HR92 := Aside0.mk ho_
          have HV10 := Aside0.mk (HV9.out.box_grown hg_ HHP.out)
          have HM10 := Aside0.mk (blk_grown HM9.out hg_ (HMP.out _ rfl))
          have HR10 := Aside0.mk (Kd.R_grown HR9.out hg_ (fun j hj => HRP.out j hj))
          have HF10 := Aside0.mk (HF9.out.step hg_ (fun j hj => own_of_slice hj))
          have HAT := Aside0.mk hat_
          have HS10 := Aside0.mk (hg_.size)
          clear ho_ hg_ hat_
          refine hK.out _ _ ⟨(blk_cell HV10.out 0).trans rfl, (blk_cell HM10.out 0).trans rfl, (blk_cell HM10.out 1).trans rfl, (blk_cell HM10.out 2).trans rfl, (blk_cell HM10.out 3).trans rfl⟩ (fun hHeld => ?_)
          clear hK K
          refine norm_ (a' := ?_) ?_ ?_
          rotate_left
          · show Act.put _ (some 92) _ = _
            simp only [Act.put, List.setIfInBounds_toArray, List.set_cons_zero, List.set_cons_succ, i64_w, i32_w]
            rfl
          refine one_ (i := 11) (N := some 94) #[true, true, true, true, true, true, true, true, true, true, true, true, false, false, false] rfl rfl (by kernel_rfl) (by decide) (fun K hK => ?_)
          refine Kd.R_append_rows_step k25 (w0 := w5) 0 ?hg (.tmp 92) (.tmp 93) 32 25 (.agg #[.int .u32 0, .int .u32 0, .int .u8 0, .string ⟨#[]⟩]) 32 ?ho Try.underlying32 info25 rfl (by decide) (by omega) v92 (l.take k ++ [m]) (l.drop k) A1 0 c1 (fun _ => True) (fun _ => False) ?h1 ?h2 HR92.out (by have h_ := (Kd.R_reads' HR10.out).2.2; rw [List.length_drop] at h_; rw [show l.length - k = 0 by omega] at h_; exact h_) (fun _ _ h => h) (fun _ h => h.elim) (fun _ _ => trivial) (Below.refl _ _) (Nat.zero_le _) (by rw [List.length_append, List.length_take]; first | (simp; done) | (simp; omega)) ?_; (case hg => rfl); (case ho => rfl); (case h1 => rfl); (case h2 => rfl)
          intro v94 w6 ho_ _ hg_ hat_
          obtain ⟨A94, c94, e94, _, _⟩ := Kd.R_reads ho_
          subst e94
          have HR94 := Aside0.mk ho_
          have HNB := Aside0.mk (own_far HAT.out HHP.out (show h < w4.heap.size from blk_lt HV9.out.box))
          have HV11 := Aside0.mk (blk_grown HV10.out hg_ HNB.out)
          have HNM := Aside0.mk (own_far HAT.out (HMP.out _ rfl) (blk_lt HM9.out))
          have HM11 := Aside0.mk (blk_grown HM10.out hg_ HNM.out)
          have HF11 := Aside0.mk (HF10.out.step hg_ (own_frame HAT.out (Nat.le_trans HF8.out.size HS9.out)))
          have HNB2 := Aside0.mk (own_far hat_ HNB.out (blk_lt HV10.out))
          have HPB := Aside0.mk (own_pb HAT.out hat_ (Nat.le_trans HF8.out.size HS9.out) (Nat.le_trans (Nat.le_trans HF8.out.size HS9.out) HS10.out))
          clear ho_ hg_ hat_
          refine hK.out _ _ ⟨(blk_cell HV11.out 0).trans rfl, (blk_cell HM11.out 0).trans rfl, (blk_cell HM11.out 1).trans rfl, (blk_cell HM11.out 2).trans rfl, (blk_cell HM11.out 3).trans rfl⟩ (fun hHeld => ?_)
          clear hK K
          refine norm_ (a' := ?_) ?_ ?_
          rotate_left
          · show Act.put _ (some 94) _ = _
            simp only [Act.put, List.setIfInBounds_toArray, List.set_cons_zero, List.set_cons_succ, i64_w, i32_w]
            rfl
          refine pure_ (i := 12) (N := some 95) (v := ?_) (a' := ?_) #[true, true, true, true, true, true, true, true, true, true, true, true, true, false, false] rfl rfl (by kernel_rfl) (fun _ _ _ h => h) (Or.inl ⟨by rfl, ?_⟩) ?_ ?_
          rotate_left
          · intro w'
            go_simp
            with_reducible rfl
          rotate_left
          · simp only [Act.put, List.setIfInBounds_toArray, List.set_cons_zero, List.set_cons_succ, i64_w, i32_w]
            rfl
          refine pure_ (i := 13) (N := some 96) (v := ?_) (a' := ?_) #[true, true, true, true, true, true, true, true, true, true, true, true, true, true, false] rfl rfl (by kernel_rfl) (fun _ _ _ h => h) (Or.inl ⟨by rfl, ?_⟩) ?_ ?_
          rotate_left
          · intro w'
            go_simp
            with_reducible rfl
          rotate_left
          · simp only [Act.put, List.setIfInBounds_toArray, List.set_cons_zero, List.set_cons_succ, i64_w, i32_w]
            rfl
          refine last_ (i := 14) (N := none) #[true, true, true, true, true, true, true, true, true, true, true, true, true, true, true] rfl rfl (by kernel_rfl) (by decide) (fun K hK => ?_)
          have hb_c := (blk_cell HV11.out 0).trans rfl
          have hb_f := blk_frozen HV11.out 0
          refine skip_ (w1 := w6.setCell ⟨h, 0, none⟩ (.slice A94 (l.take k ++ [m] ++ l.drop k).length c94)) (by rfl) rfl ?_ ?_
          · go_simp
            try with_reducible rfl
          refine hK.out _ _ ?_
          clear hK K
          refine done_ (by kernel_rfl) ?_
          try go_wp2
          refine bodyPost_ret (results_tmp2 rfl _ _ _) rfl ?_
          have hpos : 0 < (l.take k ++ [m] ++ l.drop k).length := by first | (simp; done) | (simp; omega)
          obtain ⟨g5, c5, e5, _, hle5, hmx5, hrow5⟩ := R_rowAt HR94.out hpos
          injection e5 with e51 e52 e53
          subst e51
          subst e53
          have hhg : h ≠ g5 := fun e => HNB2.out (by rw [e]; rfl)
          rw [← HKI.out]
          refine ⟨_, _, rfl, ⟨blk_put HV11.out 0 _ rfl, ⟨hle5, hmx5⟩, fun h0 => absurd hpos (by omega), fun _ => ⟨g5, rfl, ?_⟩⟩, HF11.out.put _, fun a' ha' => HPB.out a'.block (by injection ha' with ha'; subst ha'; rfl)⟩
          obtain ⟨cur5, hb5, hr5⟩ := hrow5
          exact ⟨cur5, blk_far hb5 (fun e => hhg e.symm) _, hr5⟩
        · skip
          have HKI := Aside0.mk hki
          have HKL := Aside0.mk (show k ≤ l.length by have := idxA_le l m.f0; omega)
          have HPW : Aside0 (∀ j, (Value.slice (some ⟨gr, 0, none⟩) k c).ownBlock = some j → j < w.heap.size) := ⟨HV.out.own_lt⟩
          have HHP : Aside0 (some h ≠ (Value.slice (some ⟨gr, 0, none⟩) k c).ownBlock) := ⟨HV2.out.box_ne⟩
          have HMP : Aside0 (∀ j, j = w.heap.size → some j ≠ (Value.slice (some ⟨gr, 0, none⟩) k c).ownBlock) := ⟨fun j hj he => by have := HPW.out j he.symm; omega⟩
          have HW2 := Aside0.mk (show w.heap.size ≤ w2.heap.size from HB2.out.size)
          have HRP : Aside0 (∀ j, w2.heap.size ≤ j → some j ≠ (Value.slice (some ⟨gr, 0, none⟩) k c).ownBlock) := ⟨fun j hj he => by have := HPW.out j he.symm; have := HW2.out; omega⟩
          have HBN : Aside0 (∀ n, Below w2.heap.size w2 (w2.drewN n)) := ⟨fun n => pw_below_drewN (Below.refl _ _) n⟩
          have hkl_ : k ≤ l.length := HKL.out
          have hcl_ : l.length ≤ c := HV.out.cap.1
          have hkc_ : k ≤ c := Nat.le_trans hkl_ hcl_
          have hcm_ : c ≤ 9223372036854775807 := by have := HV.out.cap.2; unfold maxLen at this; exact this
          have HCD : Aside0 (Kd.C k25 w2 (some ⟨gr, k * 4, none⟩) (l.length - k) (l.drop k)) := by
            obtain ⟨_, _, e_, _, h1_⟩ := Kd.R_reads HV2.out.R
            injection e_ with e1_ e2_ e3_
            subst e1_
            have h2_ := Kd.C_drop h1_ hkl_ hcl_
            rw [List.length_drop] at h2_
            rw [if_neg (by omega)] at h2_
            have e4_ : (some (⟨gr, 0, none⟩ : Addr)).map (·.add (k * k25.sz)) = some ⟨gr, k * 4, none⟩ := by simp [Addr.add, show k25.sz = 4 from rfl]; exact fun h => h.symm
            rw [e4_] at h2_
            exact ⟨h2_⟩
          clear hki
          go_wp2
          repeat (go_quiet (fail); try go_wp2_with ((with_reducible refine gate_dst (N := 82) rfl ?_); refine stop_ ?_))
          refine StopAt.mk ?_
          refine Kd.R_append_rows k25 (w0 := w) w.heap.size ?hg (.const (.slice none 0 0)) (.tmp 81) 32 25 (.agg #[.int .u32 0, .int .u32 0, .int .u8 0, .string ⟨#[]⟩]) 32 ?ho Try.underlying32 info25 rfl (by decide) (by omega) (.slice none 0 0) [] (l.drop k) (some ⟨gr, k * 4, none⟩) (l.length - k) (c - k) (fun j => w2.heap.size ≤ j) (fun _ => False) ?h1 ?h2 (Kd.R_nil _ _ _ _ _) (Kd.C_below HCD.out (HBN.out _)) (fun _ _ h => h) (fun _ h => h.elim) (fun _ h => Nat.le_trans (HBN.out _).size h) (below_step HB2.out (HBN.out _)) (below_step HB2.out (HBN.out _)).size (by first | (simp; done) | (simp; omega)) ?_; (case hg => rfl); (case ho => rfl); (case h1 => rfl); (case h2 => rfl); intro v1 w3 hr1_ hb1_ hg1_ ha1_; have HR3 : Aside0 (Kd.R k25 25 w3 w.heap.size (fun j => w2.heap.size ≤ j) v1 (l.drop k)) := ⟨hr1_⟩; obtain ⟨A1, c1, e1_, hle1_, hC1_⟩ := Kd.R_reads HR3.out; subst e1_; have HV3 := Aside0.mk (HV.out.below hb1_); have HM3 := Aside0.mk (blk_grown (blk_below HM2.out (HBN.out _)) hg1_ (by simp [Value.ownBlock])); have HF3 : Aside0 (RF w w3 h (some ⟨gr, 0, none⟩)) := ⟨RF.of hb1_⟩; clear hr1_ hb1_ hg1_ ha1_ hle1_ hC1_
          try go_wp2
          have HV8 := Aside0.mk (HV3.out.below (below_drew1 (Below.refl _ _)))
          have HM8 := Aside0.mk (blk_below HM3.out (below_drew1 (Below.refl w3.heap.size w3)))
          have HR8 := Aside0.mk (Kd.R_below HR3.out (below_drew1 (Below.refl w3.heap.size w3)))
          have HF8 := Aside0.mk (HF3.out.below (below_drew1 (Below.refl w3.heap.size w3)))
          clear HV3 HM3 HR3 HF3 hcell m0_ HCD HBN HB2 HM2 HV2
          refine start_ (n := 15) (S := (fun w' => w'.cell? ⟨h, 0, none⟩ = some (.slice (some ⟨gr, 0, none⟩) l.length c) ∧ w'.cell? ⟨w.heap.size, 0, none⟩ = some (.int .u32 m.f0) ∧ w'.cell? ⟨w.heap.size, 1, none⟩ = some (.int .u32 m.f1) ∧ w'.cell? ⟨w.heap.size, 2, none⟩ = some (.int .u8 m.f2) ∧ w'.cell? ⟨w.heap.size, 3, none⟩ = some (.string m.f3))) (ds := [14]) #[false, false, false, false, false, false, false, false, false, false, false, false, false, false, false] (by kernel_rfl) rfl rfl ⟨(Rv.cell HV8.out), (blk_cell HM8.out 0).trans rfl, (blk_cell HM8.out 1).trans rfl, (blk_cell HM8.out 2).trans rfl, (blk_cell HM8.out 3).trans rfl⟩ (fun hHeld => ?_)
          generalize w3.drew = wd at HV8 HM8 HR8 HF8 hHeld ⊢
          refine pure_ (i := 0) (N := some 83) (v := ?_) (a' := ?_) #[true, false, false, false, false, false, false, false, false, false, false, false, false, false, false] rfl rfl (by kernel_rfl) (fun _ _ _ h => h) (Or.inl ⟨by rfl, ?_⟩) ?_ ?_
          rotate_left
          · intro w'
            go_simp
            with_reducible rfl
          rotate_left
          · simp only [Act.put, List.setIfInBounds_toArray, List.set_cons_zero, List.set_cons_succ, i64_w, i32_w]
            rfl
          refine pure_ (i := 1) (N := some 84) (v := ?_) (a' := ?_) #[true, true, false, false, false, false, false, false, false, false, false, false, false, false, false] rfl rfl (by kernel_rfl) (fun _ _ _ h => h) (Or.inl ⟨by rfl, ?_⟩) ?_ ?_
          rotate_left
          · intro w'
            go_simp
            with_reducible rfl
          rotate_left
          · simp only [Act.put, List.setIfInBounds_toArray, List.set_cons_zero, List.set_cons_succ, i64_w, i32_w]
            rfl
          refine pure_ (i := 2) (N := some 85) (v := ?_) (a' := ?_) #[true, true, true, false, false, false, false, false, false, false, false, false, false, false, false] rfl rfl (by kernel_rfl) (fun _ _ _ h => h) (Or.inl ⟨by rfl, ?_⟩) ?_ ?_
          rotate_left
          · intro w'
            go_simp
            with_reducible rfl
          rotate_left
          · simp only [Act.put, List.setIfInBounds_toArray, List.set_cons_zero, List.set_cons_succ, i64_w, i32_w]
            rfl
          refine pure_ (i := 3) (N := some 86) (v := ?_) (a' := ?_) #[true, true, true, true, false, false, false, false, false, false, false, false, false, false, false] rfl rfl (by kernel_rfl) (fun _ _ _ h => h) (Or.inl ⟨by rfl, ?_⟩) ?_ ?_
          rotate_left
          · intro w'
            go_simp
            with_reducible rfl
          rotate_left
          · simp only [Act.put, List.setIfInBounds_toArray, List.set_cons_zero, List.set_cons_succ, i64_w, i32_w]
            rfl
          refine take_ (i := 4) (N := some 87) (v := ?_) (a' := ?_) #[true, true, true, true, true, false, false, false, false, false, false, false, false, false, false] rfl rfl (by kernel_rfl) (fun _ _ _ h => h) (Or.inl ⟨by rfl, ?_⟩) hHeld ?_ ?_
          rotate_left
          · rintro w' ⟨h0_, h1_, h2_, h3_, h4_⟩
            go_simp
            with_reducible rfl
          rotate_left
          · simp only [Act.put, List.setIfInBounds_toArray, List.set_cons_zero, List.set_cons_succ, i64_w, i32_w]
            rfl
          refine pure_ (i := 5) (N := some 88) (v := ?_) (a' := ?_) #[true, true, true, true, true, true, false, false, false, false, false, false, false, false, false] rfl rfl (by kernel_rfl) (fun _ _ _ h => h) (Or.inl ⟨by rfl, ?_⟩) ?_ ?_
          rotate_left
          · intro w'
            go_simp
            with_reducible rfl
          rotate_left
          · simp only [Act.put, List.setIfInBounds_toArray, List.set_cons_zero, List.set_cons_succ, i64_w, i32_w]
            rfl
          refine pure_ (i := 6) (N := some 89) (v := ?_) (a' := ?_) #[true, true, true, true, true, true, true, false, false, false, false, false, false, false, false] rfl rfl (by kernel_rfl) (fun _ _ _ h => h) (Or.inl ⟨by rfl, ?_⟩) ?_ ?_
          rotate_left
          · intro w'
            go_simp
            with_reducible rfl
          rotate_left
          · simp only [Act.put, List.setIfInBounds_toArray, List.set_cons_zero, List.set_cons_succ, i64_w, i32_w]
            rfl
          refine take_ (i := 7) (N := some 90) (v := ?_) (a' := ?_) #[true, true, true, true, true, true, true, true, false, false, false, false, false, false, false] rfl rfl (by kernel_rfl) (fun _ _ _ h => h) (Or.inl ⟨by rfl, ?_⟩) hHeld ?_ ?_
          rotate_left
          · rintro w' ⟨h0_, h1_, h2_, h3_, h4_⟩
            go_simp
            with_reducible rfl
          rotate_left
          · simp only [Act.put, List.setIfInBounds_toArray, List.set_cons_zero, List.set_cons_succ, i64_w, i32_w]
            rfl
          refine pure_ (i := 10) (N := some 93) (v := ?_) (a' := ?_) #[true, true, true, true, true, true, true, true, false, false, true, false, false, false, false] rfl rfl (by kernel_rfl) (fun _ _ _ h => h) (Or.inl ⟨by rfl, ?_⟩) ?_ ?_
          rotate_left
          · intro w'
            go_simp
            with_reducible rfl
          rotate_left
          · simp only [Act.put, List.setIfInBounds_toArray, List.set_cons_zero, List.set_cons_succ, i64_w, i32_w]
            rfl
          refine one_ (i := 8) (N := some 91) #[true, true, true, true, true, true, true, true, true, false, true, false, false, false, false] rfl rfl (by kernel_rfl) (by decide) (fun K hK => ?_)
          refine Kd.R_lit_step k25 0 25 ?hg (N := 91) ?hd (w0 := wd) (xs := [m]) (inner := [.int .u32 m.f0, .int .u32 m.f1, .int .u8 m.f2, .string m.f3]) (ok := fun _ => True) (okp := fun _ => True) ?hr ?hp (fun _ hk => hk) trivial (Below.refl 0 wd) (Nat.zero_le _) (by simp) ?_; (case hd => rfl); (case hg => rfl); (case hr => first | (go_simp; done) | (go_simp; rfl)); (case hp => exact one_Reps _ _ _ m)
          intro v91 w4 ho_ _ hg_ _
          obtain ⟨A91, c91, e91, _, hC91⟩ := Kd.R_reads ho_
          have HC91 := Aside0.mk hC91
          have HV9 := Aside0.mk (HV8.out.grown hg_ (by simp) (fun a _ => by simp))
          have HM9 := Aside0.mk (blk_grown HM8.out hg_ (by simp))
          have HR9 := Aside0.mk (Kd.R_grown HR8.out hg_ (fun _ _ => by simp))
          have HF9 := Aside0.mk (HF8.out.step hg_ (fun j hj => by simp at hj))
          have HS9 := Aside0.mk (hg_.size)
          subst e91
          clear ho_ hg_ hC91
          refine hK.out _ _ ⟨(Rv.cell HV9.out), (blk_cell HM9.out 0).trans rfl, (blk_cell HM9.out 1).trans rfl, (blk_cell HM9.out 2).trans rfl, (blk_cell HM9.out 3).trans rfl⟩ (fun hHeld => ?_)
          clear hK K
          refine norm_ (a' := ?_) ?_ ?_
          rotate_left
          · show Act.put _ (some 91) _ = _
            simp only [Act.put, List.setIfInBounds_toArray, List.set_cons_zero, List.set_cons_succ, i64_w, i32_w]
            rfl
          refine one_ (i := 9) (N := some 92) #[true, true, true, true, true, true, true, true, true, true, true, false, false, false, false] rfl rfl (by kernel_rfl) (by decide) (fun K hK => ?_)
          refine Kd.R_append_rows_step k25 (w0 := w4) 0 ?hg (.tmp 89) (.tmp 91) 32 25 (.agg #[.int .u32 0, .int .u32 0, .int .u8 0, .string ⟨#[]⟩]) 32 ?ho Try.underlying32 info25 rfl (by decide) (by omega) (.slice (some ⟨gr, 0, none⟩) k c) (l.take k) [m] A91 1 c91 (fun _ => True) (fun _ => False) ?h1 ?h2 (Kd.R_take HV9.out.R HKL.out) HC91.out (fun _ _ h => h) (fun _ h => h.elim) (fun _ _ => trivial) (Below.refl _ _) (Nat.zero_le _) (by rw [List.length_take]; omega) ?_; (case hg => rfl); (case ho => rfl); (case h1 => rfl); (case h2 => rfl)
          intro v92 w5 ho_ _ hg_ hat_
          have HR92 := Aside0.mk ho_
          have HV10 := Aside0.mk (HV9.out.box_grown hg_ HHP.out)
          have HM10 := Aside0.mk (blk_grown HM9.out hg_ (HMP.out _ rfl))
          have HR10 := Aside0.mk (Kd.R_grown HR9.out hg_ (fun j hj => HRP.out j hj))
          have HF10 := Aside0.mk (HF9.out.step hg_ (fun j hj => own_of_slice hj))
          have HAT := Aside0.mk hat_
          have HS10 := Aside0.mk (hg_.size)
          clear ho_ hg_ hat_
          refine hK.out _ _ ⟨(blk_cell HV10.out 0).trans rfl, (blk_cell HM10.out 0).trans rfl, (blk_cell HM10.out 1).trans rfl, (blk_cell HM10.out 2).trans rfl, (blk_cell HM10.out 3).trans rfl⟩ (fun hHeld => ?_)
          clear hK K
          refine norm_ (a' := ?_) ?_ ?_
          rotate_left
          · show Act.put _ (some 92) _ = _
            simp only [Act.put, List.setIfInBounds_toArray, List.set_cons_zero, List.set_cons_succ, i64_w, i32_w]
            rfl
          refine one_ (i := 11) (N := some 94) #[true, true, true, true, true, true, true, true, true, true, true, true, false, false, false] rfl rfl (by kernel_rfl) (by decide) (fun K hK => ?_)
          refine Kd.R_append_rows_step k25 (w0 := w5) 0 ?hg (.tmp 92) (.tmp 93) 32 25 (.agg #[.int .u32 0, .int .u32 0, .int .u8 0, .string ⟨#[]⟩]) 32 ?ho Try.underlying32 info25 rfl (by decide) (by omega) v92 (l.take k ++ [m]) (l.drop k) A1 (l.length - k) c1 (fun _ => True) (fun _ => False) ?h1 ?h2 HR92.out (by have h_ := (Kd.R_reads' HR10.out).2.2; rw [List.length_drop] at h_;  exact h_) (fun _ _ h => h) (fun _ h => h.elim) (fun _ _ => trivial) (Below.refl _ _) (Nat.zero_le _) (by rw [List.length_append, List.length_take]; first | (simp; done) | (simp; omega)) ?_; (case hg => rfl); (case ho => rfl); (case h1 => rfl); (case h2 => rfl)
          intro v94 w6 ho_ _ hg_ hat_
          obtain ⟨A94, c94, e94, _, _⟩ := Kd.R_reads ho_
          subst e94
          have HR94 := Aside0.mk ho_
          have HNB := Aside0.mk (own_far HAT.out HHP.out (show h < w4.heap.size from blk_lt HV9.out.box))
          have HV11 := Aside0.mk (blk_grown HV10.out hg_ HNB.out)
          have HNM := Aside0.mk (own_far HAT.out (HMP.out _ rfl) (blk_lt HM9.out))
          have HM11 := Aside0.mk (blk_grown HM10.out hg_ HNM.out)
          have HF11 := Aside0.mk (HF10.out.step hg_ (own_frame HAT.out (Nat.le_trans HF8.out.size HS9.out)))
          have HNB2 := Aside0.mk (own_far hat_ HNB.out (blk_lt HV10.out))
          have HPB := Aside0.mk (own_pb HAT.out hat_ (Nat.le_trans HF8.out.size HS9.out) (Nat.le_trans (Nat.le_trans HF8.out.size HS9.out) HS10.out))
          clear ho_ hg_ hat_
          refine hK.out _ _ ⟨(blk_cell HV11.out 0).trans rfl, (blk_cell HM11.out 0).trans rfl, (blk_cell HM11.out 1).trans rfl, (blk_cell HM11.out 2).trans rfl, (blk_cell HM11.out 3).trans rfl⟩ (fun hHeld => ?_)
          clear hK K
          refine norm_ (a' := ?_) ?_ ?_
          rotate_left
          · show Act.put _ (some 94) _ = _
            simp only [Act.put, List.setIfInBounds_toArray, List.set_cons_zero, List.set_cons_succ, i64_w, i32_w]
            rfl
          refine pure_ (i := 12) (N := some 95) (v := ?_) (a' := ?_) #[true, true, true, true, true, true, true, true, true, true, true, true, true, false, false] rfl rfl (by kernel_rfl) (fun _ _ _ h => h) (Or.inl ⟨by rfl, ?_⟩) ?_ ?_
          rotate_left
          · intro w'
            go_simp
            with_reducible rfl
          rotate_left
          · simp only [Act.put, List.setIfInBounds_toArray, List.set_cons_zero, List.set_cons_succ, i64_w, i32_w]
            rfl
          refine pure_ (i := 13) (N := some 96) (v := ?_) (a' := ?_) #[true, true, true, true, true, true, true, true, true, true, true, true, true, true, false] rfl rfl (by kernel_rfl) (fun _ _ _ h => h) (Or.inl ⟨by rfl, ?_⟩) ?_ ?_
          rotate_left
          · intro w'
            go_simp
            with_reducible rfl
          rotate_left
          · simp only [Act.put, List.setIfInBounds_toArray, List.set_cons_zero, List.set_cons_succ, i64_w, i32_w]
            rfl
          refine last_ (i := 14) (N := none) #[true, true, true, true, true, true, true, true, true, true, true, true, true, true, true] rfl rfl (by kernel_rfl) (by decide) (fun K hK => ?_)
          have hb_c := (blk_cell HV11.out 0).trans rfl
          have hb_f := blk_frozen HV11.out 0
          refine skip_ (w1 := w6.setCell ⟨h, 0, none⟩ (.slice A94 (l.take k ++ [m] ++ l.drop k).length c94)) (by rfl) rfl ?_ ?_
          · go_simp
            try with_reducible rfl
          refine hK.out _ _ ?_
          clear hK K
          refine done_ (by kernel_rfl) ?_
          try go_wp2
          refine bodyPost_ret (results_tmp2 rfl _ _ _) rfl ?_
          have hpos : 0 < (l.take k ++ [m] ++ l.drop k).length := by first | (simp; done) | (simp; omega)
          obtain ⟨g5, c5, e5, _, hle5, hmx5, hrow5⟩ := R_rowAt HR94.out hpos
          injection e5 with e51 e52 e53
          subst e51
          subst e53
          have hhg : h ≠ g5 := fun e => HNB2.out (by rw [e]; rfl)
          rw [← HKI.out]
          refine ⟨_, _, rfl, ⟨blk_put HV11.out 0 _ rfl, ⟨hle5, hmx5⟩, fun h0 => absurd hpos (by omega), fun _ => ⟨g5, rfl, ?_⟩⟩, HF11.out.put _, fun a' ha' => HPB.out a'.block (by injection ha' with ha'; subst ha'; rfl)⟩
          obtain ⟨cur5, hb5, hr5⟩ := hrow5
          exact ⟨cur5, blk_far hb5 (fun e => hhg e.symm) _, hr5⟩
      · obtain ⟨rfl, rfl⟩ := HV.out.nul (by omega)
        obtain rfl : l = [] := List.eq_nil_of_length_eq_zero (by omega)
        obtain rfl : k = 0 := by have := hil; simp at this; omega
        have HKI := Aside0.mk hki
        have HKL := Aside0.mk (Nat.zero_le ([] : List Mem).length)
        have HPW : Aside0 (∀ j, (Value.slice none 0 0).ownBlock = some j → j < w.heap.size) := ⟨HV.out.own_lt⟩
        have HHP : Aside0 (some h ≠ (Value.slice none 0 0).ownBlock) := ⟨HV2.out.box_ne⟩
        have HMP : Aside0 (∀ j, j = w.heap.size → some j ≠ (Value.slice none 0 0).ownBlock) := ⟨fun j hj he => by have := HPW.out j he.symm; omega⟩
        have HW2 := Aside0.mk (show w.heap.size ≤ w2.heap.size from HB2.out.size)
        have HRP : Aside0 (∀ j, w2.heap.size ≤ j → some j ≠ (Value.slice none 0 0).ownBlock) := ⟨fun j hj he => by have := HPW.out j he.symm; have := HW2.out; omega⟩
        have HBN : Aside0 (∀ n, Below w2.heap.size w2 (w2.drewN n)) := ⟨fun n => pw_below_drewN (Below.refl _ _) n⟩
        have hkl_ : 0 ≤ ([] : List Mem).length := HKL.out
        have hcl_ : ([] : List Mem).length ≤ 0 := HV.out.cap.1
        have hkc_ : 0 ≤ 0 := Nat.le_trans hkl_ hcl_
        have hcm_ : 0 ≤ 9223372036854775807 := by have := HV.out.cap.2; unfold maxLen at this; exact this
        have HCD : Aside0 (Kd.C k25 w2 none (([] : List Mem).length - 0) (([] : List Mem).drop 0)) := by
          obtain ⟨_, _, e_, _, h1_⟩ := Kd.R_reads HV2.out.R
          injection e_ with e1_ e2_ e3_
          subst e1_
          have h2_ := Kd.C_drop h1_ hkl_ hcl_
          rw [List.length_drop] at h2_
          exact ⟨Kd.C_nil _ _⟩
        clear hki
        go_wp2
        repeat (go_quiet (fail); try go_wp2_with ((with_reducible refine gate_dst (N := 82) rfl ?_); refine stop_ ?_))
        refine StopAt.mk ?_
        refine Kd.R_append_rows k25 (w0 := w) w.heap.size ?hg (.const (.slice none 0 0)) (.tmp 81) 32 25 (.agg #[.int .u32 0, .int .u32 0, .int .u8 0, .string ⟨#[]⟩]) 32 ?ho Try.underlying32 info25 rfl (by decide) (by omega) (.slice none 0 0) [] (([] : List Mem).drop 0) none (([] : List Mem).length - 0) 0 (fun j => w2.heap.size ≤ j) (fun _ => False) ?h1 ?h2 (Kd.R_nil _ _ _ _ _) (Kd.C_below HCD.out (HBN.out _)) (fun _ _ h => h) (fun _ h => h.elim) (fun _ h => Nat.le_trans (HBN.out _).size h) (below_step HB2.out (HBN.out _)) (below_step HB2.out (HBN.out _)).size (by first | (simp; done) | (simp; omega)) ?_; (case hg => rfl); (case ho => rfl); (case h1 => rfl); (case h2 => rfl); intro v1 w3 hr1_ hb1_ hg1_ ha1_; have HR3 : Aside0 (Kd.R k25 25 w3 w.heap.size (fun j => w2.heap.size ≤ j) v1 (([] : List Mem).drop 0)) := ⟨hr1_⟩; obtain ⟨A1, c1, e1_, hle1_, hC1_⟩ := Kd.R_reads HR3.out; subst e1_; have HV3 := Aside0.mk (HV.out.below hb1_); have HM3 := Aside0.mk (blk_grown (blk_below HM2.out (HBN.out _)) hg1_ (by simp [Value.ownBlock])); have HF3 : Aside0 (RF w w3 h none) := ⟨RF.of hb1_⟩; clear hr1_ hb1_ hg1_ ha1_ hle1_ hC1_
        try go_wp2
        have HV8 := Aside0.mk (HV3.out.below (below_drew1 (Below.refl _ _)))
        have HM8 := Aside0.mk (blk_below HM3.out (below_drew1 (Below.refl w3.heap.size w3)))
        have HR8 := Aside0.mk (Kd.R_below HR3.out (below_drew1 (Below.refl w3.heap.size w3)))
        have HF8 := Aside0.mk (HF3.out.below (below_drew1 (Below.refl w3.heap.size w3)))
        clear HV3 HM3 HR3 HF3 hcell m0_ HCD HBN HB2 HM2 HV2
        refine start_ (n := 15) (S := (fun w' => w'.cell? ⟨h, 0, none⟩ = some (.slice none ([] : List Mem).length 0) ∧ w'.cell? ⟨w.heap.size, 0, none⟩ = some (.int .u32 m.f0) ∧ w'.cell? ⟨w.heap.size, 1, none⟩ = some (.int .u32 m.f1) ∧ w'.cell? ⟨w.heap.size, 2, none⟩ = some (.int .u8 m.f2) ∧ w'.cell? ⟨w.heap.size, 3, none⟩ = some (.string m.f3))) (ds := [14]) #[false, false, false, false, false, false, false, false, false, false, false, false, false, false, false] (by kernel_rfl) rfl rfl ⟨(Rv.cell HV8.out), (blk_cell HM8.out 0).trans rfl, (blk_cell HM8.out 1).trans rfl, (blk_cell HM8.out 2).trans rfl, (blk_cell HM8.out 3).trans rfl⟩ (fun hHeld => ?_)
        generalize w3.drew = wd at HV8 HM8 HR8 HF8 hHeld ⊢
        refine pure_ (i := 0) (N := some 83) (v := ?_) (a' := ?_) #[true, false, false, false, false, false, false, false, false, false, false, false, false, false, false] rfl rfl (by kernel_rfl) (fun _ _ _ h => h) (Or.inl ⟨by rfl, ?_⟩) ?_ ?_
        rotate_left
        · intro w'
          go_simp
          with_reducible rfl
        rotate_left
        · simp only [Act.put, List.setIfInBounds_toArray, List.set_cons_zero, List.set_cons_succ, i64_w, i32_w]
          rfl
        refine pure_ (i := 1) (N := some 84) (v := ?_) (a' := ?_) #[true, true, false, false, false, false, false, false, false, false, false, false, false, false, false] rfl rfl (by kernel_rfl) (fun _ _ _ h => h) (Or.inl ⟨by rfl, ?_⟩) ?_ ?_
        rotate_left
        · intro w'
          go_simp
          with_reducible rfl
        rotate_left
        · simp only [Act.put, List.setIfInBounds_toArray, List.set_cons_zero, List.set_cons_succ, i64_w, i32_w]
          rfl
        refine pure_ (i := 2) (N := some 85) (v := ?_) (a' := ?_) #[true, true, true, false, false, false, false, false, false, false, false, false, false, false, false] rfl rfl (by kernel_rfl) (fun _ _ _ h => h) (Or.inl ⟨by rfl, ?_⟩) ?_ ?_
        rotate_left
        · intro w'
          go_simp
          with_reducible rfl
        rotate_left
        · simp only [Act.put, List.setIfInBounds_toArray, List.set_cons_zero, List.set_cons_succ, i64_w, i32_w]
          rfl
        refine pure_ (i := 3) (N := some 86) (v := ?_) (a' := ?_) #[true, true, true, true, false, false, false, false, false, false, false, false, false, false, false] rfl rfl (by kernel_rfl) (fun _ _ _ h => h) (Or.inl ⟨by rfl, ?_⟩) ?_ ?_
        rotate_left
        · intro w'
          go_simp
          with_reducible rfl
        rotate_left
        · simp only [Act.put, List.setIfInBounds_toArray, List.set_cons_zero, List.set_cons_succ, i64_w, i32_w]
          rfl
        refine take_ (i := 4) (N := some 87) (v := ?_) (a' := ?_) #[true, true, true, true, true, false, false, false, false, false, false, false, false, false, false] rfl rfl (by kernel_rfl) (fun _ _ _ h => h) (Or.inl ⟨by rfl, ?_⟩) hHeld ?_ ?_
        rotate_left
        · rintro w' ⟨h0_, h1_, h2_, h3_, h4_⟩
          go_simp
          with_reducible rfl
        rotate_left
        · simp only [Act.put, List.setIfInBounds_toArray, List.set_cons_zero, List.set_cons_succ, i64_w, i32_w]
          rfl
        refine pure_ (i := 5) (N := some 88) (v := ?_) (a' := ?_) #[true, true, true, true, true, true, false, false, false, false, false, false, false, false, false] rfl rfl (by kernel_rfl) (fun _ _ _ h => h) (Or.inl ⟨by rfl, ?_⟩) ?_ ?_
        rotate_left
        · intro w'
          go_simp
          with_reducible rfl
        rotate_left
        · simp only [Act.put, List.setIfInBounds_toArray, List.set_cons_zero, List.set_cons_succ, i64_w, i32_w]
          rfl
        refine pure_ (i := 6) (N := some 89) (v := ?_) (a' := ?_) #[true, true, true, true, true, true, true, false, false, false, false, false, false, false, false] rfl rfl (by kernel_rfl) (fun _ _ _ h => h) (Or.inl ⟨by rfl, ?_⟩) ?_ ?_
        rotate_left
        · intro w'
          go_simp
          with_reducible rfl
        rotate_left
        · simp only [Act.put, List.setIfInBounds_toArray, List.set_cons_zero, List.set_cons_succ, i64_w, i32_w]
          rfl
        refine take_ (i := 7) (N := some 90) (v := ?_) (a' := ?_) #[true, true, true, true, true, true, true, true, false, false, false, false, false, false, false] rfl rfl (by kernel_rfl) (fun _ _ _ h => h) (Or.inl ⟨by rfl, ?_⟩) hHeld ?_ ?_
        rotate_left
        · rintro w' ⟨h0_, h1_, h2_, h3_, h4_⟩
          go_simp
          with_reducible rfl
        rotate_left
        · simp only [Act.put, List.setIfInBounds_toArray, List.set_cons_zero, List.set_cons_succ, i64_w, i32_w]
          rfl
        refine pure_ (i := 10) (N := some 93) (v := ?_) (a' := ?_) #[true, true, true, true, true, true, true, true, false, false, true, false, false, false, false] rfl rfl (by kernel_rfl) (fun _ _ _ h => h) (Or.inl ⟨by rfl, ?_⟩) ?_ ?_
        rotate_left
        · intro w'
          go_simp
          with_reducible rfl
        rotate_left
        · simp only [Act.put, List.setIfInBounds_toArray, List.set_cons_zero, List.set_cons_succ, i64_w, i32_w]
          rfl
        refine one_ (i := 8) (N := some 91) #[true, true, true, true, true, true, true, true, true, false, true, false, false, false, false] rfl rfl (by kernel_rfl) (by decide) (fun K hK => ?_)
        refine Kd.R_lit_step k25 0 25 ?hg (N := 91) ?hd (w0 := wd) (xs := [m]) (inner := [.int .u32 m.f0, .int .u32 m.f1, .int .u8 m.f2, .string m.f3]) (ok := fun _ => True) (okp := fun _ => True) ?hr ?hp (fun _ hk => hk) trivial (Below.refl 0 wd) (Nat.zero_le _) (by simp) ?_; (case hd => rfl); (case hg => rfl); (case hr => first | (go_simp; done) | (go_simp; rfl)); (case hp => exact one_Reps _ _ _ m)
        intro v91 w4 ho_ _ hg_ _
        obtain ⟨A91, c91, e91, _, hC91⟩ := Kd.R_reads ho_
        have HC91 := Aside0.mk hC91
        have HV9 := Aside0.mk (HV8.out.grown hg_ (by simp) (fun a _ => by simp))
        have HM9 := Aside0.mk (blk_grown HM8.out hg_ (by simp))
        have HR9 := Aside0.mk (Kd.R_grown HR8.out hg_ (fun _ _ => by simp))
        have HF9 := Aside0.mk (HF8.out.step hg_ (fun j hj => by simp at hj))
        have HS9 := Aside0.mk (hg_.size)
        subst e91
        clear ho_ hg_ hC91
        refine hK.out _ _ ⟨(Rv.cell HV9.out), (blk_cell HM9.out 0).trans rfl, (blk_cell HM9.out 1).trans rfl, (blk_cell HM9.out 2).trans rfl, (blk_cell HM9.out 3).trans rfl⟩ (fun hHeld => ?_)
        clear hK K
        refine norm_ (a' := ?_) ?_ ?_
        rotate_left
        · show Act.put _ (some 91) _ = _
          simp only [Act.put, List.setIfInBounds_toArray, List.set_cons_zero, List.set_cons_succ, i64_w, i32_w]
          rfl
        refine one_ (i := 9) (N := some 92) #[true, true, true, true, true, true, true, true, true, true, true, false, false, false, false] rfl rfl (by kernel_rfl) (by decide) (fun K hK => ?_)
        refine Kd.R_append_rows_step k25 (w0 := w4) 0 ?hg (.tmp 89) (.tmp 91) 32 25 (.agg #[.int .u32 0, .int .u32 0, .int .u8 0, .string ⟨#[]⟩]) 32 ?ho Try.underlying32 info25 rfl (by decide) (by omega) (.slice none 0 0) (([] : List Mem).take 0) [m] A91 1 c91 (fun _ => True) (fun _ => False) ?h1 ?h2 (Kd.R_take HV9.out.R HKL.out) HC91.out (fun _ _ h => h) (fun _ h => h.elim) (fun _ _ => trivial) (Below.refl _ _) (Nat.zero_le _) (by rw [List.length_take]; omega) ?_; (case hg => rfl); (case ho => rfl); (case h1 => rfl); (case h2 => rfl)
        intro v92 w5 ho_ _ hg_ hat_
        have HR92 := Aside0.mk ho_
        have HV10 := Aside0.mk (HV9.out.box_grown hg_ HHP.out)
        have HM10 := Aside0.mk (blk_grown HM9.out hg_ (HMP.out _ rfl))
        have HR10 := Aside0.mk (Kd.R_grown HR9.out hg_ (fun j hj => HRP.out j hj))
        have HF10 := Aside0.mk (HF9.out.step hg_ (fun j hj => own_of_slice hj))
        have HAT := Aside0.mk hat_
        have HS10 := Aside0.mk (hg_.size)
        clear ho_ hg_ hat_
        refine hK.out _ _ ⟨(blk_cell HV10.out 0).trans rfl, (blk_cell HM10.out 0).trans rfl, (blk_cell HM10.out 1).trans rfl, (blk_cell HM10.out 2).trans rfl, (blk_cell HM10.out 3).trans rfl⟩ (fun hHeld => ?_)
        clear hK K
        refine norm_ (a' := ?_) ?_ ?_
        rotate_left
        · show Act.put _ (some 92) _ = _
          simp only [Act.put, List.setIfInBounds_toArray, List.set_cons_zero, List.set_cons_succ, i64_w, i32_w]
          rfl
        refine one_ (i := 11) (N := some 94) #[true, true, true, true, true, true, true, true, true, true, true, true, false, false, false] rfl rfl (by kernel_rfl) (by decide) (fun K hK => ?_)
        refine Kd.R_append_rows_step k25 (w0 := w5) 0 ?hg (.tmp 92) (.tmp 93) 32 25 (.agg #[.int .u32 0, .int .u32 0, .int .u8 0, .string ⟨#[]⟩]) 32 ?ho Try.underlying32 info25 rfl (by decide) (by omega) v92 (([] : List Mem).take 0 ++ [m]) (([] : List Mem).drop 0) A1 (([] : List Mem).length - 0) c1 (fun _ => True) (fun _ => False) ?h1 ?h2 HR92.out (by have h_ := (Kd.R_reads' HR10.out).2.2; rw [List.length_drop] at h_;  exact h_) (fun _ _ h => h) (fun _ h => h.elim) (fun _ _ => trivial) (Below.refl _ _) (Nat.zero_le _) (by rw [List.length_append, List.length_take]; first | (simp; done) | (simp; omega)) ?_; (case hg => rfl); (case ho => rfl); (case h1 => rfl); (case h2 => rfl)
        intro v94 w6 ho_ _ hg_ hat_
        obtain ⟨A94, c94, e94, _, _⟩ := Kd.R_reads ho_
        subst e94
        have HR94 := Aside0.mk ho_
        have HNB := Aside0.mk (own_far HAT.out HHP.out (show h < w4.heap.size from blk_lt HV9.out.box))
        have HV11 := Aside0.mk (blk_grown HV10.out hg_ HNB.out)
        have HNM := Aside0.mk (own_far HAT.out (HMP.out _ rfl) (blk_lt HM9.out))
        have HM11 := Aside0.mk (blk_grown HM10.out hg_ HNM.out)
        have HF11 := Aside0.mk (HF10.out.step hg_ (own_frame HAT.out (Nat.le_trans HF8.out.size HS9.out)))
        have HNB2 := Aside0.mk (own_far hat_ HNB.out (blk_lt HV10.out))
        have HPB := Aside0.mk (own_pb HAT.out hat_ (Nat.le_trans HF8.out.size HS9.out) (Nat.le_trans (Nat.le_trans HF8.out.size HS9.out) HS10.out))
        clear ho_ hg_ hat_
        refine hK.out _ _ ⟨(blk_cell HV11.out 0).trans rfl, (blk_cell HM11.out 0).trans rfl, (blk_cell HM11.out 1).trans rfl, (blk_cell HM11.out 2).trans rfl, (blk_cell HM11.out 3).trans rfl⟩ (fun hHeld => ?_)
        clear hK K
        refine norm_ (a' := ?_) ?_ ?_
        rotate_left
        · show Act.put _ (some 94) _ = _
          simp only [Act.put, List.setIfInBounds_toArray, List.set_cons_zero, List.set_cons_succ, i64_w, i32_w]
          rfl
        refine pure_ (i := 12) (N := some 95) (v := ?_) (a' := ?_) #[true, true, true, true, true, true, true, true, true, true, true, true, true, false, false] rfl rfl (by kernel_rfl) (fun _ _ _ h => h) (Or.inl ⟨by rfl, ?_⟩) ?_ ?_
        rotate_left
        · intro w'
          go_simp
          with_reducible rfl
        rotate_left
        · simp only [Act.put, List.setIfInBounds_toArray, List.set_cons_zero, List.set_cons_succ, i64_w, i32_w]
          rfl
        refine pure_ (i := 13) (N := some 96) (v := ?_) (a' := ?_) #[true, true, true, true, true, true, true, true, true, true, true, true, true, true, false] rfl rfl (by kernel_rfl) (fun _ _ _ h => h) (Or.inl ⟨by rfl, ?_⟩) ?_ ?_
        rotate_left
        · intro w'
          go_simp
          with_reducible rfl
        rotate_left
        · simp only [Act.put, List.setIfInBounds_toArray, List.set_cons_zero, List.set_cons_succ, i64_w, i32_w]
          rfl
        refine last_ (i := 14) (N := none) #[true, true, true, true, true, true, true, true, true, true, true, true, true, true, true] rfl rfl (by kernel_rfl) (by decide) (fun K hK => ?_)
        have hb_c := (blk_cell HV11.out 0).trans rfl
        have hb_f := blk_frozen HV11.out 0
        refine skip_ (w1 := w6.setCell ⟨h, 0, none⟩ (.slice A94 (([] : List Mem).take 0 ++ [m] ++ ([] : List Mem).drop 0).length c94)) (by rfl) rfl ?_ ?_
        · go_simp
          try with_reducible rfl
        refine hK.out _ _ ?_
        clear hK K
        refine done_ (by kernel_rfl) ?_
        try go_wp2
        refine bodyPost_ret (results_tmp2 rfl _ _ _) rfl ?_
        have hpos : 0 < (([] : List Mem).take 0 ++ [m] ++ ([] : List Mem).drop 0).length := by first | (simp; done) | (simp; omega)
        obtain ⟨g5, c5, e5, _, hle5, hmx5, hrow5⟩ := R_rowAt HR94.out hpos
        injection e5 with e51 e52 e53
        subst e51
        subst e53
        have hhg : h ≠ g5 := fun e => HNB2.out (by rw [e]; rfl)
        rw [← HKI.out]
        refine ⟨_, _, rfl, ⟨blk_put HV11.out 0 _ rfl, ⟨hle5, hmx5⟩, fun h0 => absurd hpos (by omega), fun _ => ⟨g5, rfl, ?_⟩⟩, HF11.out.put _, fun a' ha' => HPB.out a'.block (by injection ha' with ha'; subst ha'; rfl)⟩
        obtain ⟨cur5, hb5, hr5⟩ := hrow5
        exact ⟨cur5, blk_far hb5 (fun e => hhg e.symm) _, hr5⟩
end Go.Proofs.Ytognmibankcefaa.Print
end
section
/- The document's Merge, whole. -/
namespace Go.Proofs.Ytognmibankcefaa.Print
open Go.RowKit Go.Maps Go.ChangeMaps Go.Proofs.YtognmibankcefaaW.PrintWords Go.Proofs.YtognmibankcefaaW.PrintLast Go.Proofs.YtognmibankcefaaW.PrintMore
set_option linter.unusedVariables false
set_option linter.unusedSimpArgs false
theorem PB.refl (w : World) (p : Option Addr) : PB w p p := fun a' h => Or.inl ⟨a', h, rfl⟩
theorem refmerge_calls (w : World) (h c : Nat) (p : Option Addr) (l : List Mem) (m : Mem) (hV : Rv w h p c l) (hR : Rises l) (hl : l.length ≤ 100000) (hs : m.f3.size ≤ 9223372036854775807) :
    Calls Try.prog 22 #[.pointer (some ⟨h, 0, none⟩), memV m] w fun e w' =>
      ∃ p' c', e = .returned (.tuple #[.bool (mergeM l m).1, .int .i64 (mergeM l m).2.1]) ∧ Rv w' h p' c' (mergeM l m).2.2 ∧ RF w w' h p ∧ PB w p p' := by
  cases hm : mayM m with
  | false =>
    have e : mergeM l m = (false, 170, l) := by unfold mergeM; rw [if_pos hm]
    rw [e]
    exact (refmerge_bad w h c p l m hV hm).mono (fun e w' hh => ⟨p, c, hh.1, hV.below hh.2, RF.of hh.2, PB.refl _ _⟩)
  | true =>
    by_cases hf : ∃ y, l[idxA l m.f0]? = some y ∧ y.f0 = m.f0
    · obtain ⟨y, hy, he⟩ := hf
      have e := refmerge_found hR hm hy he
      by_cases hc : cmpM m y ≤ 0
      · rw [if_pos hc] at e
        rw [e]
        exact (refmerge_weak w h c p l m hV hl hm y hy he hc hs).mono (fun e w' hh => ⟨p, c, hh.1, hV.below hh.2, RF.of hh.2, PB.refl _ _⟩)
      · rw [if_neg hc] at e
        rw [e]
        exact (refmerge_strong w h c p l m hV hl hm y hy he hc hs).mono (fun e w' hh => ⟨p, c, hh.1, hh.2.1, hh.2.2, PB.refl _ _⟩)
    · have hn : ∀ y, l[idxA l m.f0]? = some y → y.f0 ≠ m.f0 := fun y hy he => hf ⟨y, hy, he⟩
      have e := refmerge_new hR hm hn
      by_cases h32 : 32 ≤ l.length
      · rw [if_pos h32] at e
        rw [e]
        exact (refmerge_full w h c p l m hV hl hm hn h32).mono (fun e w' hh => ⟨p, c, hh.1, hV.below hh.2, RF.of hh.2, PB.refl _ _⟩)
      · rw [if_neg h32] at e
        rw [e]
        exact refmerge_lay w h c p l m hV hl hm hn h32
end Go.Proofs.Ytognmibankcefaa.Print
end
section
/- Plain laws of a merge: what it tells, and that nothing becomes weaker. -/
namespace Go.Proofs.Ytognmibankcefaa.Print
open Go.RowKit Go.Proofs.YtognmibankcefaaW.PrintWords Go.Proofs.YtognmibankcefaaW.PrintLast
set_option linter.unusedVariables false
set_option linter.unusedSimpArgs false
theorem bl_irr : ∀ a : List UInt8, Op.bytesLess a a = false
  | [] => rfl
  | x :: a => by
    have h0 : ¬ x < x := by rw [UInt8.lt_iff_toNat_lt]; omega
    simp only [Op.bytesLess]
    simp [h0, bl_irr a]
theorem cmp_self (x : Mem) : cmpM x x = 0 := by
  unfold cmpM
  simp [bl_irr]
structure Told (L : List Mem) (x : Mem) (a : Bool) (er : Int) (r : Bool) (L' : List Mem) : Prop where
  eq : mergeM L x = (a, er, L')
  len : L'.length ≤ 32
  same : r = true ↔ L' = L
  up : ∀ y ∈ L, ∃ z, getL L' y.f0 = some z ∧ 0 ≤ cmpM z y
theorem told (L : List Mem) (x : Mem) (hR : Rises L) (hl : L.length ≤ 32) :
    (∃ L', Told L x true 0 false L') ∨ Told L x false 0 true L ∨ Told L x false 170 true L ∨ Told L x false 3 true L := by
  have hs : ∀ y ∈ L, ∃ z, getL L y.f0 = some z ∧ 0 ≤ cmpM z y := fun y hy => ⟨y, get_of hR hy, by rw [cmp_self]; omega⟩
  have hlen := merge_length L x hR hl
  cases hm : mayM x with
  | false => exact .inr (.inr (.inl ⟨by unfold mergeM; rw [if_pos hm], hl, by simp, hs⟩))
  | true =>
    cases hg : getL L x.f0 with
    | some o =>
      by_cases hc : cmpM x o ≤ 0
      · exact .inr (.inl ⟨by unfold mergeM; rw [if_neg (by simp [hm]), hg]; simp only; rw [if_pos hc], hl, by simp, hs⟩)
      · have e : mergeM L x = (true, 0, putL x L) := by unfold mergeM; rw [if_neg (by simp [hm]), hg]; simp only; rw [if_neg hc]
        rw [e] at hlen
        refine .inl ⟨_, e, hlen, ⟨fun h => absurd h (by simp), fun h => ?_⟩, fun y hy => ?_⟩
        · have h1 := get_put hR x x.f0
          rw [if_pos rfl, h, hg] at h1
          injection h1 with h1
          subst h1
          rw [cmp_self] at hc
          omega
        · rw [get_put hR]
          by_cases hxy : x.f0 = y.f0
          · have h1 := get_of hR hy
            rw [← hxy, hg] at h1
            injection h1 with h1
            subst h1
            exact ⟨x, if_pos hxy, by omega⟩
          · exact ⟨y, by rw [if_neg hxy]; exact get_of hR hy, by rw [cmp_self]; omega⟩
    | none =>
      by_cases hc : 32 ≤ L.length
      · exact .inr (.inr (.inr ⟨by unfold mergeM; rw [if_neg (by simp [hm]), hg]; simp only; rw [if_pos hc], hl, by simp, hs⟩))
      · have e : mergeM L x = (true, 0, putL x L) := by unfold mergeM; rw [if_neg (by simp [hm]), hg]; simp only; rw [if_neg hc]
        rw [e] at hlen
        refine .inl ⟨_, e, hlen, ⟨fun h => absurd h (by simp), fun h => ?_⟩, fun y hy => ?_⟩
        · have h1 := get_put hR x x.f0
          rw [if_pos rfl, h, hg] at h1
          cases h1
        · rw [get_put hR]
          by_cases hxy : x.f0 = y.f0
          · have h1 := get_of hR hy
            rw [← hxy, hg] at h1
            cases h1
          · exact ⟨y, by rw [if_neg hxy]; exact get_of hR hy, by rw [cmp_self]; omega⟩
theorem told' (L : List Mem) (x : Mem) (hR : Rises L) (hl : L.length ≤ 32) :
    ∃ L' a er r, Told L x a er r L' ∧ ((a = true ∧ er = 0 ∧ r = false) ∨ (a = false ∧ er = 0 ∧ r = true) ∨ (a = false ∧ er = 170 ∧ r = true) ∨ (a = false ∧ er = 3 ∧ r = true)) := by
  rcases told L x hR hl with ⟨L', h⟩ | h | h | h
  · exact ⟨_, _, _, _, h, .inl ⟨rfl, rfl, rfl⟩⟩
  · exact ⟨_, _, _, _, h, .inr (.inl ⟨rfl, rfl, rfl⟩)⟩
  · exact ⟨_, _, _, _, h, .inr (.inr (.inl ⟨rfl, rfl, rfl⟩))⟩
  · exact ⟨_, _, _, _, h, .inr (.inr (.inr ⟨rfl, rfl, rfl⟩))⟩
theorem Told.calls {L L' : List Mem} {x : Mem} {a r : Bool} {er : Int} (h : Told L x a er r L') (hl : L.length ≤ 32) (h0 : 0 ≤ x.f0) (h1 : x.f0 ≤ 4294967295) (w : World) (g b : Nat) (hV : Vw w g b L) :
    Calls Try.prog 17 #[.pointer (some ⟨g, 0, none⟩), .agg #[.int .u32 x.f0, .int .u32 x.f1, .int .u8 x.f2, .string x.f3]] w fun e w' => e = .returned (.tuple #[.bool a, .int .i64 er]) ∧ Vw w' g b L' ∧ VF w w' b := by
  have k := merge_calls w g b L x h0 h1 hV (by omega)
  rw [h.eq] at k
  exact k
/-- what List answers, as cells -/
theorem rowP {w : World} {base n : Nat} {v : Value} {L : List Mem} (h : w.ownsRow base 25 4 v n (flatM L)) (hn : L.length = n) : ∃ p cap, v = .slice p n cap ∧ n ≤ cap ∧ cap ≤ maxLen ∧ (0 < n → ∃ g, p = some ⟨g, 0, none⟩ ∧ RowAt w g cap n L ∧ base ≤ g) := by
  rcases h.2 with ⟨h3, h4⟩ | ⟨g, cap, cur, he, hb, hh, hnc, hc, hs, ht⟩
  · have : n = 0 := by simpa using h4
    subst this
    exact ⟨none, 0, h3, Nat.le_refl _, Nat.zero_le _, fun h => absurd h (by omega)⟩
  · exact ⟨_, cap, he, hnc, hc, fun _ => ⟨g, rfl, ⟨cur, hh, hs, hnc, hc, ht, hn⟩, hb⟩⟩
end Go.Proofs.Ytognmibankcefaa.Print
end
section
/- The kind of an act: a number and a member; what reading it as data tells. -/
namespace Go.Proofs.Ytognmibankcefaa.Print
open Go.RowKit Go.Proofs.YtognmibankcefaaW.PrintWords Go.Proofs.YtognmibankcefaaW.PrintLast
set_option linter.unusedVariables false
structure S50 where
  f0 : Int
  f1 : Mem
def z50 : S50 := ⟨0, z25⟩
def k50 : Kd S50 := Kd.iso (Kd.pair (Kd.int .i64) k25) (fun x : S50 => (x.f0, x.f1))
theorem kA_open {w : World} {x : S50} {cs : List Value} (h : k50.K w x cs) : cs = [.int .i64 x.f0, .int .u32 x.f1.f0, .int .u32 x.f1.f1, .int .u8 x.f1.f2, .string x.f1.f3] := by
  obtain ⟨_, _, rfl, rfl, h2⟩ := h
  obtain rfl := k25_open h2
  exact rfl
def rd_A (xs : List S50) (i : Int) : S50 := xs.getD i.toNat z50
theorem at_A {w : World} {A : Option Addr} {n : Nat} {xs : List S50} (h : Kd.C k50 w A n xs) (i : Nat) (h1 : i < n) : ∃ ad , A = some ad ∧ w.cell? (ad.add (i * 5)) = some (.int .i64 (rd_A xs (i : Int)).f0) ∧ w.cell? ⟨(ad.add (i * 5)).block, (ad.add (i * 5)).off + 1, none⟩ = some (.int .u32 (rd_A xs (i : Int)).f1.f0) ∧ w.cell? ⟨(ad.add (i * 5)).block, (ad.add (i * 5)).off + 2, none⟩ = some (.int .u32 (rd_A xs (i : Int)).f1.f1) ∧ w.cell? ⟨(ad.add (i * 5)).block, (ad.add (i * 5)).off + 3, none⟩ = some (.int .u8 (rd_A xs (i : Int)).f1.f2) ∧ w.cell? ⟨(ad.add (i * 5)).block, (ad.add (i * 5)).off + 4, none⟩ = some (.string (rd_A xs (i : Int)).f1.f3) := by
  obtain ⟨ad, c, e, _, hK, hc0⟩ := Kd.C_get h z50 (i : Int) (by omega) (by omega)
  have hc : ∀ j u, c[j]? = some u → w.cell? (ad.add (i * 5 + j)) = some u := hc0
  obtain rfl := kA_open hK
  exact ⟨ad, e, hc 0 _ rfl, by rw [← add_field _ _ 1 (by omega)]; exact hc 1 _ rfl, by rw [← add_field _ _ 2 (by omega)]; exact hc 2 _ rfl, by rw [← add_field _ _ 3 (by omega)]; exact hc 3 _ rfl, by rw [← add_field _ _ 4 (by omega)]; exact hc 4 _ rfl⟩
end Go.Proofs.Ytognmibankcefaa.Print
namespace Go.Proofs.Ytognmibankcefaa.Opens
open Go.ChangeShapes Go.WideShapes Go.ChangeAt Go.RowKit Go.Proofs.YtognmibankcefaaW.PrintWords Go.Proofs.Ytognmibankcefaa.Print
set_option linter.unusedVariables false
def wfA (x : Mem) : Prop := (0 ≤ x.f0 ∧ x.f0 ≤ 4294967295) ∧ 0 ≤ x.f2 ∧ x.f3.size ≤ 9223372036854775807
theorem u32_wfA {n : Int} (h : (Lit.int .u32 n).wf = true) : 0 ≤ n ∧ n ≤ 4294967295 := by
  simp [Lit.wf] at h
  have e1 : IntKind.u32.min = 0 := by decide
  have e2 : IntKind.u32.max = 4294967295 := by decide
  omega
theorem u8_wfA {n : Int} (h : (Lit.int .u8 n).wf = true) : 0 ≤ n := by
  simp [Lit.wf] at h
  have e1 : IntKind.u8.min = 0 := by decide
  omega
theorem opensMA : Opens Try.prog 25 k25 wfA := by
  have h := opens_iso (opens_struct Try.underlying25 (by kernel_rfl) (opensF_cons rfl (by kernel_rfl) (opens_int (k := .u32) (by kernel_rfl)) (opensF_cons rfl (by kernel_rfl) (opens_int (k := .u32) (by kernel_rfl)) (opensF_cons rfl (by kernel_rfl) (opens_int (k := .u8) (by kernel_rfl)) (opensF_one rfl (by kernel_rfl) (opens_string (by kernel_rfl))))))) (fun x : S25 => (x.f0, x.f1, x.f2, x.f3)) (fun y => ⟨y.1, y.2.1, y.2.2.1, y.2.2.2⟩) (fun _ => rfl)
  intro H enc w base spare held fuel cs y hy
  obtain ⟨x, hk, h0, h1, h2, h3⟩ := h H enc w base spare held fuel cs y hy
  exact ⟨x, hk, u32_wfA h0, u8_wfA h2, by unfold maxLen at h3; exact h3⟩
theorem opens50 : Opens Try.prog 50 k50 (fun x => wfA x.f1) := by
  have h := opens_iso (opens_struct Try.underlying50 (by kernel_rfl) (opensF_cons rfl (by kernel_rfl) (opens_int (k := .i64) (by kernel_rfl)) (opensF_one rfl (by kernel_rfl) opensMA))) (fun x : S50 => (x.f0, x.f1)) (fun y => ⟨y.1, y.2⟩) (fun _ => rfl)
  intro H enc w base spare held fuel cs y hy
  obtain ⟨x, hk, h0, h1⟩ := h H enc w base spare held fuel cs y hy
  exact ⟨x, hk, h1⟩
end Go.Proofs.Ytognmibankcefaa.Opens
end
section
/- What MemberPlays takes: a view beside the document's one, rows written over. -/
namespace Go.Proofs.Ytognmibankcefaa.Print
open Go.RowKit Go.Maps Go.ChangeMaps Go.Proofs.YtognmibankcefaaW.PrintWords Go.Proofs.YtognmibankcefaaW.PrintLast Go.Proofs.YtognmibankcefaaW.PrintMore
set_option linter.unusedVariables false
set_option linter.unusedSimpArgs false
theorem RF.split {w w' : World} {h : Nat} {p : Option Addr} (k : RF w w' h p) (hh : h < w.heap.size) : ∃ w1, w.grownBy w1 (p.map (·.block)) ∧ w1.grownBy w' (some h) := by
  have hs := k.size
  refine ⟨{ w' with heap := w'.heap.setIfInBounds h (w.heap[h]'hh) }, ⟨k.1, k.2.1, k.2.2.1, by simpa using hs, fun i hi hne => ?_⟩, ⟨rfl, rfl, rfl, by simp, fun i hi hne => ?_⟩⟩
  · show (w'.heap.setIfInBounds h (w.heap[h]'hh))[i]? = w.heap[i]?
    rw [Array.getElem?_setIfInBounds]
    by_cases e : h = i
    · subst e
      rw [if_pos rfl, if_pos (by omega), Array.getElem?_eq_getElem hh]
    · rw [if_neg e]
      exact k.2.2.2.2 i hi (fun e' => e e'.symm) (fun a ha hb => hne (by rw [ha, hb]; rfl))
  · show w'.heap[i]? = (w'.heap.setIfInBounds h (w.heap[h]'hh))[i]?
    rw [Array.getElem?_setIfInBounds, if_neg (fun e => hne (by rw [e]))]
theorem Vw.rf {w w' : World} {g b h : Nat} {p : Option Addr} {l : List Mem} (hV : Vw w g b l) (k : RF w w' h p) (hh : h < w.heap.size) (h1 : g ≠ h) (h2 : b ≠ h) (h3 : ∀ a, p = some a → g ≠ a.block ∧ b ≠ a.block) : Vw w' g b l := by
  obtain ⟨w1, hg, hg'⟩ := k.split hh
  refine (hV.kept hg ?_ ?_).kept hg' (fun e => h1 (Option.some.inj e)) (fun e => h2 (Option.some.inj e))
  · cases p with
    | none => simp
    | some a => exact fun e => (h3 a rfl).1 (Option.some.inj e)
  · cases p with
    | none => simp
    | some a => exact fun e => (h3 a rfl).2 (Option.some.inj e)
theorem RF.below_of {w w' : World} {h n : Nat} {p : Option Addr} (k : RF w w' h p) (hn : n ≤ w.heap.size) (h1 : n ≤ h) (h2 : ∀ a, p = some a → n ≤ a.block) : Below n w w' :=
  ⟨k.1, k.2.1, k.2.2.1, k.size, fun i hi => k.2.2.2.2 i (by omega) (by omega) (fun a ha e => by have := h2 a ha; omega)⟩
theorem putL_mem {m : Mem} : ∀ {l : List Mem} {y : Mem}, y ∈ putL m l → y = m ∨ y ∈ l
  | [], y, h => by
    unfold putL at h
    exact Or.inl (by simpa using h)
  | x :: r, y, h => by
    unfold putL at h
    split at h
    · rcases List.mem_cons.1 h with h | h
      · exact Or.inl h
      · exact Or.inr h
    · split at h
      · rcases List.mem_cons.1 h with h | h
        · exact Or.inl h
        · exact Or.inr (List.mem_cons_of_mem _ h)
      · rcases List.mem_cons.1 h with h | h
        · exact Or.inr (by rw [h]; exact List.mem_cons_self ..)
        · rcases putL_mem h with h | h
          · exact Or.inl h
          · exact Or.inr (List.mem_cons_of_mem _ h)
theorem mergeM_mem {l : List Mem} {m y : Mem} (h : y ∈ (mergeM l m).2.2) : y = m ∨ y ∈ l := by
  unfold mergeM at h
  split at h
  · exact Or.inr h
  · split at h
    · split at h
      · exact Or.inr h
      · exact putL_mem h
    · split at h
      · exact Or.inr h
      · exact putL_mem h
/-- a row of members that a call answered, in memory -/
structure Ro (w : World) (base : Nat) (p : Option Addr) (cap n : Nat) (L : List Mem) : Prop where
  len : L.length = n
  capl : n ≤ cap ∧ cap ≤ maxLen
  row : 0 < n → ∃ g, p = some ⟨g, 0, none⟩ ∧ RowAt w g cap n L ∧ base ≤ g
theorem Ro.below {w w' : World} {base cap n : Nat} {p : Option Addr} {L : List Mem} (h : Ro w base p cap n L) (hb : Below w.heap.size w w') : Ro w' base p cap n L :=
  ⟨h.len, h.capl, fun h0 => by obtain ⟨g, e, hr, hg⟩ := h.row h0; exact ⟨g, e, hr.below hb, hg⟩⟩
theorem Ro.C {w : World} {base cap n : Nat} {p : Option Addr} {L : List Mem} (h : Ro w base p cap n L) : Kd.C k25 w p n L := by
  rcases Nat.eq_zero_or_pos n with h0 | h0
  · subst h0
    obtain rfl : L = [] := List.eq_nil_of_length_eq_zero h.len
    exact ⟨rfl, by simp, fun h => absurd h (Nat.lt_irrefl 0)⟩
  · obtain ⟨g, rfl, hr, _⟩ := h.row h0
    obtain ⟨A, c, e, _, hC⟩ := own_C (L := L) (own_of (by rw [h.len]; exact hr) (Nat.zero_le _))
    injection e with e1 e2 e3
    subst e1
    rw [← h.len]
    exact hC
theorem spoil_calls (w : World) (base cap n : Nat) (p : Option Addr) (L : List Mem) (hR : Ro w base p cap n L) (hl : n ≤ 100000) : Calls Try.prog 28 #[.slice p n cap] w fun e w' =>
    e = .returned (.tuple #[]) ∧ (∀ m, m ≤ base → m ≤ w.heap.size → Below m w w') ∧ (∀ base' cap' n' p' L', Ro w base' p' cap' n' L' → w.heap.size ≤ base' ∨ (0 < n → ∀ a, p = some a → a.block < base') → Ro w' base' p' cap' n' L') := by
  rcases Nat.eq_zero_or_pos n with h0 | h0
  · subst h0
    exact (spoil_nil w p cap).mono (fun e w' hh => ⟨hh.1, fun m _ _ => by rw [hh.2]; exact Below.refl _ _, fun _ _ _ _ _ h _ => by rw [hh.2]; exact h⟩)
  · obtain ⟨g, rfl, hr, hb⟩ := hR.row h0
    refine (spoil_row w g cap n L hr hl).mono (fun e w' hh => ⟨hh.1, fun m hm hs => VF.below (b := g) hh.2 (by omega) hs, fun base' cap' n' p' L' h hd => ⟨h.len, h.capl, fun h0' => ?_⟩⟩)
    obtain ⟨g', e', hr', hb'⟩ := h.row h0'
    refine ⟨g', e', RowAt.kept hr' (b := g) hh.2 ?_, hb'⟩
    rcases hd with hd | hd
    · have := hr.lt; omega
    · have := hd h0 _ rfl
      have : g < base' := this
      omega
theorem Ro.lt {w : World} {base cap n : Nat} {p : Option Addr} {L : List Mem} (h : Ro w base p cap n L) : 0 < n → ∀ a, p = some a → a.block < w.heap.size := fun h0 a ha => by
  obtain ⟨g, e, hr, _⟩ := h.row h0
  rw [e] at ha
  injection ha with ha
  subst ha
  exact hr.lt
theorem Rv.C {w : World} {h c : Nat} {p : Option Addr} {l : List Mem} (k : Rv w h p c l) : Kd.C k25 w p l.length l := (Kd.R_reads' k.R).2.2
theorem Rv.lt {w : World} {h c : Nat} {p : Option Addr} {l : List Mem} (k : Rv w h p c l) : ∀ a, p = some a → a.block < w.heap.size := fun a ha => k.own_lt (n := 0) a.block (by rw [ha]; rfl)
theorem vw_rv {w : World} {g b h c : Nat} {p : Option Addr} {l l' : List Mem} (hV : Vw w g b l) (k : Rv w h p c l') : g ≠ h ∧ b ≠ h ∧ ∀ a, p = some a → g ≠ a.block ∧ b ≠ a.block := by
  obtain ⟨es, clock, hb, _⟩ := hV.map
  refine ⟨fun e => ?_, fun e => ?_, fun a ha => ?_⟩
  · have h1 := hV.box; rw [e, k.box] at h1; injection h1 with h1; injection h1 with _ h2 _; revert h2; decide
  · rw [e, k.box] at hb; cases hb
  · rcases Nat.eq_zero_or_pos l'.length with h0 | h0
    · rw [(k.nul h0).1] at ha; cases ha
    · obtain ⟨g', e, cur, hr, _⟩ := k.row h0
      rw [e] at ha
      injection ha with ha
      subst ha
      refine ⟨fun e => ?_, fun e => ?_⟩
      · have h1 := hV.box; rw [e, hr] at h1; injection h1 with h1; injection h1 with _ h2 _; revert h2; decide
      · rw [e, hr] at hb; cases hb
theorem wf_A {l : List S50} {Q : S50 → Prop} (h : ∀ x ∈ l, Q x) (k : Nat) (hk : k < l.length) : Q (rd_A l (k : Int)) := by
  have e : rd_A l (k : Int) = l[k]'hk := by
    unfold rd_A
    rw [Int.toNat_natCast, List.getD_eq_getElem?_getD, List.getElem?_eq_getElem hk]
    rfl
  rw [e]
  exact h _ (List.getElem_mem _)
theorem told3 (L : List Mem) (x : Mem) (hR : Rises L) (hl : L.length ≤ 32) (hf : ∀ y ∈ L, 0 ≤ y.f2) (h2 : 0 ≤ x.f2) : ∃ L' a er r, Told L x a er r L' ∧ (r == a) = false ∧ (∀ y ∈ L', 0 ≤ y.f2) := by
  obtain ⟨L', a, er, r, hT, hc⟩ := told' L x hR hl
  refine ⟨L', a, er, r, hT, ?_, fun y hy => ?_⟩
  · rcases hc with ⟨rfl, rfl, rfl⟩ | ⟨rfl, rfl, rfl⟩ | ⟨rfl, rfl, rfl⟩ | ⟨rfl, rfl, rfl⟩ <;> rfl
  · have e := hT.eq
    have : y ∈ (mergeM L x).2.2 := by rw [e]; exact hy
    rcases mergeM_mem this with rfl | h
    · exact h2
    · exact hf _ h
end Go.Proofs.Ytognmibankcefaa.Print
end
