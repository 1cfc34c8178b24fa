/- A view of members: making one, merging into it, asking it, walked. -/
import Derived.Test.YtognmibankcefaaXMem
import Derived.Test.YtognmibankcefaaF9
import Derived.Test.YtognmibankcefaaF11
namespace Go.Proofs.Ytognmibankcefaa.Print
open Go.RowKit Go.Maps Go.ChangeMaps Go.Proofs.YtognmibankcefaaW.PrintWords Go.Proofs.YtognmibankcefaaW.PrintLast Go.Proofs.YtognmibankcefaaW.PrintMore
set_option linter.unusedVariables false
set_option linter.unusedSimpArgs false
def mayM (x : Mem) : Bool := decide (x.f2 ≤ 3) && decide (x.f3.size ≤ 400)
def cmpM (x y : Mem) : Int := if x.f1 = y.f1 then (if x.f2 = y.f2 then (if Op.bytesLess x.f3.toList y.f3.toList = true then -1 else if Op.bytesLess y.f3.toList x.f3.toList = true then 1 else 0) else if x.f2 < y.f2 then -1 else if x.f2 > y.f2 then 1 else 0) else if x.f1 < y.f1 then -1 else if x.f1 > y.f1 then 1 else 0
/-- what Merge tells, and the members behind it -/
def mergeM (l : List Mem) (m : Mem) : Bool × Int × List Mem :=
  if mayM m = false then (false, 170, l) else match getL l m.f0 with
  | some old => if cmpM m old ≤ 0 then (false, 0, l) else (true, 0, putL m l)
  | none => if 32 ≤ l.length then (false, 3, l) else (true, 0, putL m l)
theorem check_f (x : Mem) : member_Check.f x.f0 x.f1 x.f2 x.f3 = some (if mayM x = true then 0 else 170) := by
  unfold member_Check.f mayM
  by_cases h1 : x.f2 > 3
  · rw [if_pos h1, if_neg (by simp; omega)]
  · rw [if_neg h1]
    by_cases h2 : (x.f3.size : Int) > 400
    · rw [if_pos h2, if_neg (by simp; omega)]
    · rw [if_neg h2, if_pos (by simp; omega)]
theorem nan_s (a : ByteArray) : cmp_isNaN_string.f a = some false := by unfold cmp_isNaN_string.f; simp
theorem nan_32 (a : Int) : cmp_isNaN_uint32.f a = some false := by unfold cmp_isNaN_uint32.f; simp
theorem nan_8 (a : Int) : cmp_isNaN_uint8.f a = some false := by unfold cmp_isNaN_uint8.f; simp
theorem cmp_f (x y : Mem) : member_Cmp.f x.f0 x.f1 x.f2 x.f3 y.f0 y.f1 y.f2 y.f3 = some (cmpM x y) := by
  unfold member_Cmp.f cmpM cmp_Compare_string.f cmp_Compare_uint8.f cmp_Compare_uint32.f
  simp only [nan_s, nan_32, nan_8, Option.bind_some, Bool.false_eq_true, if_false]
  repeat' split
  all_goals rfl
theorem zero25 (w : World) : (zeroValue 25).run Try.prog w = .ok (memV z25) w := by kernel_rfl
theorem Vw.look {w : World} {g b : Nat} {l : List Mem} (h : Vw w g b l) {a : Int} (h0 : 0 ≤ a) (h1 : a ≤ 4294967295) :
    (Instr.lookup 61 (.map (some b)) (.int .u32 a) true).run Try.prog w = .ok (.tuple #[memV ((getL l a).getD z25), .bool (getL l a).isSome]) w := by
  obtain ⟨v, ps, hrun, hv⟩ := h.map.look_ok keyed Try.underlying61 (zero25 w) (memR_mk z25) (key_of h0 h1)
  obtain ⟨x, rfl, hx⟩ := memR_inv hv
  rw [hrun, has_ent]
  injection hx with hx _
  rw [at_ent] at hx
  have e : x = (getL l a).getD z25 := by
    cases hg : getL l a with
    | none => rw [hg] at hx; simp at hx; exact hx.symm
    | some y => rw [hg] at hx; simp at hx; exact hx.symm
  rw [← e]
theorem Vw.put {w : World} {g b : Nat} {l : List Mem} (h : Vw w g b l) {m : Mem} (h0 : 0 ≤ m.f0) (h1 : m.f0 ≤ 4294967295) (hl : l.length ≤ 1000000) :
    ∃ w', (Instr.mapUpdate 61 (.map (some b)) (.int .u32 m.f0) (memV m)).run Try.prog w = .ok () w' ∧ Vw w' g b (putL m l) ∧ w.grownBy w' (some b) := by
  obtain ⟨w', hrun, ho, hg⟩ := h.map.update keyed Try.underlying61 (by unfold maxLen; omega) (key_of h0 h1) (memR_mk m)
  rw [put_ent h.ord] at ho
  have ho := owns_tight ho
  rw [size_ent] at ho
  exact ⟨w', hrun, ⟨(hg.block g h.ltg (by simp [h.ne])).trans h.box, ho, rises_put h.ord m, fun x hx => by rcases mem_putL hx with rfl | hx; exact ⟨h0, h1⟩; exact h.wf x hx⟩, hg⟩
theorem Vw.len {w : World} {g b : Nat} {l : List Mem} (h : Vw w g b l) (ty : TypeId) : (Builtin.len_ #[61] ty #[.map (some b)]).run Try.prog w = .ok (.int .i64 l.length) w := by
  have := h.map.len Try.underlying61 ty
  rw [size_ent] at this
  exact this
set_option maxHeartbeats 4000000 in
set_option maxRecDepth 100000 in
theorem new_calls (w : World) : Calls Try.prog 21 #[] w fun e w' => ∃ g b, e = .returned (.pointer (some ⟨g, 0, none⟩)) ∧ Vw w' g b [] ∧ w.heap.size ≤ g ∧ w.heap.size ≤ b ∧ Below w.heap.size w w' := by
  have hmm := @run_makeMap Try.prog
  go_enter Try.func21, Try.ntmps21
  go_wp2
  go_ret
  have h1 : (w.alloc (.map #[] 0)).heap.size = w.heap.size + 1 := by simp
  refine ⟨w.heap.size + 1, w.heap.size, by simp, ⟨?_, ((World.ownsMap_made w Try.prog 23 memR).alloc _), List.Pairwise.nil, fun x hx => by cases hx⟩, by omega, by omega, below_alloc (below_alloc (Below.refl _ _) _) _⟩
  rw [← h1]
  exact blk_new _ _
set_option maxHeartbeats 4000000 in
set_option maxRecDepth 100000 in
theorem len_calls (w : World) (g b : Nat) (l : List Mem) (hV : Vw w g b l) : Calls Try.prog 27 #[.pointer (some ⟨g, 0, none⟩)] w fun e w' => e = .returned (.int .i64 l.length) ∧ w' = w := by
  have hc := hV.cell
  have hl := hV.len
  go_enter Try.func27, Try.ntmps27
  go_wp2
  go_ret
  exact ⟨rfl, rfl⟩
theorem len_nil_calls (w : World) : Calls Try.prog 27 #[.pointer none] w fun e w' => e = .returned (.int .i64 0) ∧ w' = w := by
  go_enter Try.func27, Try.ntmps27
  go_wp2
  go_ret
  exact ⟨rfl, rfl⟩
set_option maxHeartbeats 4000000 in
set_option maxRecDepth 100000 in
theorem get_calls (w : World) (g b : Nat) (l : List Mem) (a : Int) (h0 : 0 ≤ a) (h1 : a ≤ 4294967295) (hV : Vw w g b l) : Calls Try.prog 20 #[.pointer (some ⟨g, 0, none⟩), .int .u32 a] w fun e w' =>
    e = .returned (.tuple #[memV ((getL l a).getD z25), .int .i64 (if (getL l a).isSome then 0 else 4)]) ∧ Below w.heap.size w w' := by
  obtain ⟨oa, hoa⟩ : ∃ o, o = getL l a := ⟨_, rfl⟩
  have hlk := fun (W : World) (hW : Vw W g b l) => hW.look h0 h1
  rw [← hoa] at hlk ⊢
  have HV := Aside0.mk hV
  have HLK := Aside0.mk hlk
  clear hV hlk hoa
  have hc2 := (HV.out.below (below_alloc (Below.refl w.heap.size w) (.cells #[.int .u32 0, .int .u32 0, .int .u8 0, .string ⟨#[]⟩] 25))).cell
  have hr2 := HLK.out _ (HV.out.below (below_alloc (Below.refl w.heap.size w) (.cells #[.int .u32 0, .int .u32 0, .int .u8 0, .string ⟨#[]⟩] 25)))
  cases oa with
  | some y =>
    simp only [Option.getD_some, Option.getD_none, Option.isSome_some, Option.isSome_none, if_true, if_false, Bool.false_eq_true] at hr2 ⊢
    unfold memV at hr2 ⊢
    go_enter Try.func20, Try.ntmps20
    go_wp2
    refine bodyPost_ret (results_ct rfl _ _ w.heap.size 25 #[.int .u32 y.f0, .int .u32 y.f1, .int .u8 y.f2, .string y.f3] (0, 0) _ rfl (blk_below (blk_new w _) (below_alloc (Below.refl _ _) _)) Try.underlying25 rfl (by kernel_rfl)) rfl ?_
    exact ⟨rfl, below_alloc (below_alloc (Below.refl _ _) _) _⟩
  | none =>
    simp only [Option.getD_some, Option.getD_none, Option.isSome_some, Option.isSome_none, if_true, if_false, Bool.false_eq_true] at hr2 ⊢
    unfold memV at hr2 ⊢
    go_enter Try.func20, Try.ntmps20
    go_wp2
    refine bodyPost_ret (results_ct rfl _ _ w.heap.size 25 #[.int .u32 z25.f0, .int .u32 z25.f1, .int .u8 z25.f2, .string z25.f3] (0, 0) _ rfl (blk_below (blk_new w _) (below_alloc (Below.refl _ _) _)) Try.underlying25 rfl (by kernel_rfl)) rfl ?_
    exact ⟨rfl, below_alloc (below_alloc (Below.refl _ _) _) _⟩
set_option maxHeartbeats 4000000 in
set_option maxRecDepth 100000 in
theorem get_nil_calls (w : World) (a : Int) : Calls Try.prog 20 #[.pointer none, .int .u32 a] w fun e w' => e = .returned (.tuple #[memV z25, .int .i64 8]) ∧ Below w.heap.size w w' := by
  unfold memV
  go_enter Try.func20, Try.ntmps20
  go_wp2
  refine bodyPost_ret (results_ct rfl _ _ w.heap.size 25 #[.int .u32 0, .int .u32 0, .int .u8 0, .string ⟨#[]⟩] (0, 0) _ rfl (blk_new w _) Try.underlying25 rfl (by kernel_rfl)) rfl ?_
  exact ⟨rfl, below_alloc (Below.refl _ _) _⟩
set_option maxHeartbeats 4000000 in
set_option maxRecDepth 100000 in
theorem merge_nil_calls (w : World) (m : Mem) : Calls Try.prog 17 #[.pointer none, memV m] w fun e w' => e = .returned (.tuple #[.bool false, .int .i64 8]) ∧ Below w.heap.size w w' := by
  unfold memV
  go_enter Try.func17, Try.ntmps17
  go_wp2
  refine bodyPost_ret (results_tmp2 rfl _ _ _) rfl ?_
  exact ⟨rfl, below_alloc (Below.refl _ _) _⟩
def mb_ne (mb g b : Nat) : Prop := g ≠ mb ∧ b ≠ mb
/-- what a merge leaves: all that lay but the map's block -/
def VF (w w' : World) (b : Nat) : Prop := w.grownBy w' (some b)
theorem VF.of {w w' : World} {b : Nat} (h : Below w.heap.size w w') : VF w w' b := ⟨h.os, h.tape, h.output, h.size, fun i hi _ => h.block i hi⟩
theorem VF.then {w w1 w2 : World} {b : Nat} (h : Below w.heap.size w w1) (k : w1.grownBy w2 (some b)) : VF w w2 b :=
  World.grownBy.andThen (VF.of (b := b) h) k (fun j hj => Or.inr hj)
set_option maxHeartbeats 8000000 in
set_option maxRecDepth 100000 in
theorem merge_bad (w : World) (g b : Nat) (l : List Mem) (m : Mem) (h0 : 0 ≤ m.f0) (h1 : m.f0 ≤ 4294967295) (hV : Vw w g b l) (hl : l.length ≤ 100000) (hm : mayM m = false) :
    Calls Try.prog 17 #[.pointer (some ⟨g, 0, none⟩), memV m] w fun e w' => e = .returned (.tuple #[.bool false, .int .i64 170]) ∧ Vw w' g b l ∧ VF w w' b := by
  have hu25 := Try.underlying25
  unfold memV
  have hck : member_Check.f m.f0 m.f1 m.f2 m.f3 = some 170 := by rw [check_f, hm]; rfl
  go_enter Try.func17, Try.ntmps17
  go_upto_region 3 with (fail)
  have HM1 := Aside0.mk (blk_new w (.cells #[.int .u32 m.f0, .int .u32 m.f1, .int .u8 m.f2, .string m.f3] 25))
  have hba := below_alloc (Below.refl w.heap.size w) (.cells #[.int .u32 m.f0, .int .u32 m.f1, .int .u8 m.f2, .string m.f3] 25)
  have HV1 := Aside0.mk (hV.below hba)
  have HB1 := Aside0.mk hba
  have hmb : mb_ne w.heap.size g b := ⟨Nat.ne_of_lt hV.ltg, Nat.ne_of_lt hV.ltb⟩
  clear hba hV
  generalize w.alloc (.cells #[.int .u32 m.f0, .int .u32 m.f1, .int .u8 m.f2, .string m.f3] 25) = w1 at HM1 HV1 HB1 ⊢
  obtain ⟨mb, hmbe⟩ : ∃ n, n = w.heap.size := ⟨_, rfl⟩
  rw [← hmbe] at HM1 hmb ⊢
  have HMB := Aside0.mk hmbe
  have HNE := Aside0.mk hmb
  clear hmbe hmb
  have c0w1 : w1.cell? ⟨mb, 0, none⟩ = some (.int .u32 m.f0) := (blk_cell HM1.out 0).trans rfl
  have c1w1 : w1.cell? ⟨mb, 1, none⟩ = some (.int .u32 m.f1) := (blk_cell HM1.out 1).trans rfl
  have c2w1 : w1.cell? ⟨mb, 2, none⟩ = some (.int .u8 m.f2) := (blk_cell HM1.out 2).trans rfl
  have c3w1 : w1.cell? ⟨mb, 3, none⟩ = some (.string m.f3) := (blk_cell HM1.out 3).trans rfl
  go_wp2_with (first | (go_at_call 9; (with_reducible refine (member_Check.calls m.f0 m.f1 m.f2 m.f3 170 _ hck).mono ?_); rintro e w2 ⟨rfl, hb⟩; have HV2 := Aside0.mk (HV1.out.below hb); have HM2 := Aside0.mk (blk_below HM1.out hb); have HB2 := Aside0.mk (below_step HB1.out hb); clear hb c0w1 c1w1 c2w1 c3w1))
  refine bodyPost_ret (results_tmp2 rfl _ _ _) rfl ?_
  exact ⟨rfl, HV2.out, VF.of HB2.out⟩
set_option maxHeartbeats 8000000 in
set_option maxRecDepth 100000 in
theorem merge_weak (w : World) (g b : Nat) (l : List Mem) (m : Mem) (h0 : 0 ≤ m.f0) (h1 : m.f0 ≤ 4294967295) (hV : Vw w g b l) (hl : l.length ≤ 100000) (hm : mayM m = true) (y : Mem) (hgl : getL l m.f0 = some y) (hc : cmpM m y ≤ 0) :
    Calls Try.prog 17 #[.pointer (some ⟨g, 0, none⟩), memV m] w fun e w' => e = .returned (.tuple #[.bool false, .int .i64 0]) ∧ Vw w' g b l ∧ VF w w' b := by
  have hu25 := Try.underlying25
  unfold memV
  have hck : member_Check.f m.f0 m.f1 m.f2 m.f3 = some 0 := by rw [check_f, hm]; rfl
  go_enter Try.func17, Try.ntmps17
  go_upto_region 3 with (fail)
  have HM1 := Aside0.mk (blk_new w (.cells #[.int .u32 m.f0, .int .u32 m.f1, .int .u8 m.f2, .string m.f3] 25))
  have hba := below_alloc (Below.refl w.heap.size w) (.cells #[.int .u32 m.f0, .int .u32 m.f1, .int .u8 m.f2, .string m.f3] 25)
  have HV1 := Aside0.mk (hV.below hba)
  have HB1 := Aside0.mk hba
  have hmb : mb_ne w.heap.size g b := ⟨Nat.ne_of_lt hV.ltg, Nat.ne_of_lt hV.ltb⟩
  clear hba hV
  generalize w.alloc (.cells #[.int .u32 m.f0, .int .u32 m.f1, .int .u8 m.f2, .string m.f3] 25) = w1 at HM1 HV1 HB1 ⊢
  obtain ⟨mb, hmbe⟩ : ∃ n, n = w.heap.size := ⟨_, rfl⟩
  rw [← hmbe] at HM1 hmb ⊢
  have HMB := Aside0.mk hmbe
  have HNE := Aside0.mk hmb
  clear hmbe hmb
  have c0w1 : w1.cell? ⟨mb, 0, none⟩ = some (.int .u32 m.f0) := (blk_cell HM1.out 0).trans rfl
  have c1w1 : w1.cell? ⟨mb, 1, none⟩ = some (.int .u32 m.f1) := (blk_cell HM1.out 1).trans rfl
  have c2w1 : w1.cell? ⟨mb, 2, none⟩ = some (.int .u8 m.f2) := (blk_cell HM1.out 2).trans rfl
  have c3w1 : w1.cell? ⟨mb, 3, none⟩ = some (.string m.f3) := (blk_cell HM1.out 3).trans rfl
  go_upto_region 6 with (first | (go_at_call 9; (with_reducible refine (member_Check.calls m.f0 m.f1 m.f2 m.f3 0 _ hck).mono ?_); rintro e w2 ⟨rfl, hb⟩; have HV2 := Aside0.mk (HV1.out.below hb); have HM2 := Aside0.mk (blk_below HM1.out hb); have HB2 := Aside0.mk (below_step HB1.out hb); clear hb c0w1 c1w1 c2w1 c3w1))
  clear hck HV1 HM1 HB1
  have c0w2 : w2.cell? ⟨mb, 0, none⟩ = some (.int .u32 m.f0) := (blk_cell HM2.out 0).trans rfl
  have c1w2 : w2.cell? ⟨mb, 1, none⟩ = some (.int .u32 m.f1) := (blk_cell HM2.out 1).trans rfl
  have c2w2 : w2.cell? ⟨mb, 2, none⟩ = some (.int .u8 m.f2) := (blk_cell HM2.out 2).trans rfl
  have c3w2 : w2.cell? ⟨mb, 3, none⟩ = some (.string m.f3) := (blk_cell HM2.out 3).trans rfl
  have hlk := fun W (hW : Vw W g b l) => hW.look h0 h1
  rw [hgl] at hlk
  simp only [Option.getD_some, Option.isSome_some, Option.getD_none, Option.isSome_none] at hlk
  unfold memV at hlk
  have HBd := Aside0.mk (below_drew1 (Below.refl w2.heap.size w2))
  have hs6 : w2.drew.cell? ⟨g, 0, none⟩ = some (.map (some b)) ∧ w2.drew.cell? ⟨mb, 0, none⟩ = some (.int .u32 m.f0) ∧ (Instr.lookup 61 (.map (some b)) (.int .u32 m.f0) true).run Try.prog w2.drew = .ok (.tuple #[.agg #[.int .u32 y.f0, .int .u32 y.f1, .int .u8 y.f2, .string y.f3], .bool true]) w2.drew := ⟨(HV2.out.below (below_drew1 (Below.refl _ _))).cell, c0w2, hlk _ (HV2.out.below (below_drew1 (Below.refl _ _)))⟩
  have HLK := Aside0.mk hlk
  clear hlk
  refine start_ (n := 13) (S := (fun w' => w'.cell? ⟨g, 0, none⟩ = some (.map (some b)) ∧ w'.cell? ⟨mb, 0, none⟩ = some (.int .u32 m.f0) ∧ (Instr.lookup 61 (.map (some b)) (.int .u32 m.f0) true).run Try.prog w' = .ok (.tuple #[.agg #[.int .u32 y.f0, .int .u32 y.f1, .int .u8 y.f2, .string y.f3], .bool true]) w')) (ds := [11]) #[false, false, false, false, false, false, false, false, false, false, false, false, false] (by kernel_rfl) rfl rfl hs6 (fun hHeld => ?_)
  generalize w2.drew = wd at HBd hs6 hHeld ⊢
  refine pure_ (i := 0) (N := some 17) (v := ?_) (a' := ?_) #[true, false, false, false, false, false, false, false, false, false, false, false, false] rfl rfl (by kernel_rfl) (fun _ _ _ h => h) (Or.inl ⟨by rfl, ?_⟩) ?_ ?_
  rotate_left
  · intro w'
    go_simp
    with_reducible rfl
  rotate_left
  · simp only [Act.put, List.setIfInBounds_toArray, List.set_cons_zero, List.set_cons_succ, i64_w, i32_w]
    rfl
  refine pure_ (i := 1) (N := some 18) (v := ?_) (a' := ?_) #[true, true, false, false, false, false, false, false, false, false, false, false, false] rfl rfl (by kernel_rfl) (fun _ _ _ h => h) (Or.inl ⟨by rfl, ?_⟩) ?_ ?_
  rotate_left
  · intro w'
    go_simp
    with_reducible rfl
  rotate_left
  · simp only [Act.put, List.setIfInBounds_toArray, List.set_cons_zero, List.set_cons_succ, i64_w, i32_w]
    rfl
  refine pure_ (i := 2) (N := some 19) (v := ?_) (a' := ?_) #[true, true, true, false, false, false, false, false, false, false, false, false, false] rfl rfl (by kernel_rfl) (fun _ _ _ h => h) (Or.inl ⟨by rfl, ?_⟩) ?_ ?_
  rotate_left
  · intro w'
    go_simp
    with_reducible rfl
  rotate_left
  · simp only [Act.put, List.setIfInBounds_toArray, List.set_cons_zero, List.set_cons_succ, i64_w, i32_w]
    rfl
  refine take_ (i := 3) (N := some 20) (v := ?_) (a' := ?_) #[true, true, true, true, false, false, false, false, false, false, false, false, false] rfl rfl (by kernel_rfl) (fun _ _ _ h => h) (Or.inl ⟨by rfl, ?_⟩) hHeld ?_ ?_
  rotate_left
  · rintro w' ⟨h0_, h1_, h2_⟩
    go_simp
    with_reducible rfl
  rotate_left
  · simp only [Act.put, List.setIfInBounds_toArray, List.set_cons_zero, List.set_cons_succ, i64_w, i32_w]
    rfl
  refine pure_ (i := 4) (N := some 21) (v := ?_) (a' := ?_) #[true, true, true, true, true, false, false, false, false, false, false, false, false] rfl rfl (by kernel_rfl) (fun _ _ _ h => h) (Or.inl ⟨by rfl, ?_⟩) ?_ ?_
  rotate_left
  · intro w'
    go_simp
    with_reducible rfl
  rotate_left
  · simp only [Act.put, List.setIfInBounds_toArray, List.set_cons_zero, List.set_cons_succ, i64_w, i32_w]
    rfl
  refine take_ (i := 5) (N := some 22) (v := ?_) (a' := ?_) #[true, true, true, true, true, true, false, false, false, false, false, false, false] rfl rfl (by kernel_rfl) (fun _ _ _ h => h) (Or.inl ⟨by rfl, ?_⟩) hHeld ?_ ?_
  rotate_left
  · rintro w' ⟨h0_, h1_, h2_⟩
    go_simp
    with_reducible rfl
  rotate_left
  · simp only [Act.put, List.setIfInBounds_toArray, List.set_cons_zero, List.set_cons_succ, i64_w, i32_w]
    rfl
  refine take_ (i := 6) (N := some 23) (v := ?_) (a' := ?_) #[true, true, true, true, true, true, true, false, false, false, false, false, false] rfl rfl (by kernel_rfl) (fun _ _ _ h => h) (Or.inl ⟨by rfl, ?_⟩) hHeld ?_ ?_
  rotate_left
  · rintro w' ⟨h0_, h1_, h2_⟩
    go_simp
    with_reducible rfl
  rotate_left
  · simp only [Act.put, List.setIfInBounds_toArray, List.set_cons_zero, List.set_cons_succ, i64_w, i32_w]
    rfl
  refine pure_ (i := 7) (N := some 16) (v := ?_) (a' := ?_) #[true, true, true, true, true, true, true, true, false, false, false, false, false] rfl rfl (by kernel_rfl) (fun _ _ _ h => h) (Or.inl ⟨by rfl, ?_⟩) ?_ ?_
  rotate_left
  · intro w'
    go_simp
    with_reducible rfl
  rotate_left
  · simp only [Act.put, List.setIfInBounds_toArray, List.set_cons_zero, List.set_cons_succ, i64_w, i32_w]
    rfl
  refine pure_ (i := 8) (N := some 24) (v := ?_) (a' := ?_) #[true, true, true, true, true, true, true, true, true, false, false, false, false] rfl rfl (by kernel_rfl) (fun _ _ _ h => h) (Or.inl ⟨by rfl, ?_⟩) ?_ ?_
  rotate_left
  · intro w'
    go_simp
    with_reducible rfl
  rotate_left
  · simp only [Act.put, List.setIfInBounds_toArray, List.set_cons_zero, List.set_cons_succ, i64_w, i32_w]
    rfl
  refine pure_ (i := 9) (N := some 25) (v := ?_) (a' := ?_) #[true, true, true, true, true, true, true, true, true, true, false, false, false] rfl rfl (by kernel_rfl) (fun _ _ _ h => h) (Or.inl ⟨by rfl, ?_⟩) ?_ ?_
  rotate_left
  · intro w'
    go_simp
    with_reducible rfl
  rotate_left
  · simp only [Act.put, List.setIfInBounds_toArray, List.set_cons_zero, List.set_cons_succ, i64_w, i32_w]
    rfl
  refine one_ (i := 10) (N := some 7) #[true, true, true, true, true, true, true, true, true, true, true, false, false] rfl rfl (by kernel_rfl) (by decide) (fun K hK => ?_)
  refine value_ (v := .pointer (some ⟨wd.heap.size, 0, none⟩)) (w1 := wd.alloc (.cells #[.int .u32 0, .int .u32 0, .int .u8 0, .string ⟨#[]⟩] 25)) (by rfl) rfl ?_ ?_
  · go_simp
    try with_reducible rfl
  refine hK.out _ _ (have ha := (below_alloc (Below.refl wd.heap.size wd) (.cells #[.int .u32 0, .int .u32 0, .int .u8 0, .string ⟨#[]⟩] 25 (0, 0))); ⟨pw_cell_below ha hHeld.1, pw_cell_below ha hHeld.2.1, HLK.out _ (HV2.out.below (below_alloc HBd.out _))⟩) (fun hHeld => ?_)
  clear hK K
  refine norm_ (a' := ?_) ?_ ?_
  rotate_left
  · show Act.put _ (some 7) _ = _
    simp only [Act.put, List.setIfInBounds_toArray, List.set_cons_zero, List.set_cons_succ, i64_w, i32_w]
    rfl
  refine last_ (i := 11) (N := none) #[true, true, true, true, true, true, true, true, true, true, true, true, false] rfl rfl (by kernel_rfl) (by decide) (fun K hK => ?_)
  refine skip_ (w1 := ?_) (by rfl) rfl ?_ ?_
  rotate_left
  · go_simp
    rfl
  refine hK.out _ _ ?_
  clear hK K
  refine pure_ (i := 12) (N := some 8) (v := ?_) (a' := ?_) #[true, true, true, true, true, true, true, true, true, true, true, true, true] rfl rfl (by kernel_rfl) (fun _ _ _ h => h) (Or.inl ⟨by rfl, ?_⟩) ?_ ?_
  rotate_left
  · intro w'
    go_simp
    with_reducible rfl
  rotate_left
  · simp only [Act.put, List.setIfInBounds_toArray, List.set_cons_zero, List.set_cons_succ, i64_w, i32_w]
    rfl
  refine done_ (by kernel_rfl) ?_
  have HO4 := Aside0.mk (blk_new wd (.cells #[.int .u32 y.f0, .int .u32 y.f1, .int .u8 y.f2, .string y.f3] 25))
  have hba := below_alloc HBd.out (.cells #[.int .u32 y.f0, .int .u32 y.f1, .int .u8 y.f2, .string y.f3] 25)
  have HV4 := Aside0.mk (HV2.out.below hba)
  have HM4 := Aside0.mk (blk_below HM2.out hba)
  have HB4 := Aside0.mk (below_step HB2.out hba)
  clear hba HV2 HM2 HB2 HBd hs6 hHeld HLK c0w2 c1w2 c2w2 c3w2
  generalize wd.alloc (.cells #[.int .u32 y.f0, .int .u32 y.f1, .int .u8 y.f2, .string y.f3] 25) = w4 at HO4 HV4 HM4 HB4 ⊢
  generalize wd.heap.size = ob at HO4 ⊢
  have c0w4 : w4.cell? ⟨mb, 0, none⟩ = some (.int .u32 m.f0) := (blk_cell HM4.out 0).trans rfl
  have c1w4 : w4.cell? ⟨mb, 1, none⟩ = some (.int .u32 m.f1) := (blk_cell HM4.out 1).trans rfl
  have c2w4 : w4.cell? ⟨mb, 2, none⟩ = some (.int .u8 m.f2) := (blk_cell HM4.out 2).trans rfl
  have c3w4 : w4.cell? ⟨mb, 3, none⟩ = some (.string m.f3) := (blk_cell HM4.out 3).trans rfl
  have o0 : w4.cell? ⟨ob, 0, none⟩ = some (.int .u32 y.f0) := (blk_cell HO4.out 0).trans rfl
  have o1 : w4.cell? ⟨ob, 1, none⟩ = some (.int .u32 y.f1) := (blk_cell HO4.out 1).trans rfl
  have o2 : w4.cell? ⟨ob, 2, none⟩ = some (.int .u8 y.f2) := (blk_cell HO4.out 2).trans rfl
  have o3 : w4.cell? ⟨ob, 3, none⟩ = some (.string y.f3) := (blk_cell HO4.out 3).trans rfl
  have hcc : decide (cmpM m y ≤ 0) = true := decide_eq_true hc
  go_wp2_with (first | (go_at_call 11; (with_reducible refine (member_Cmp.calls m.f0 m.f1 m.f2 m.f3 y.f0 y.f1 y.f2 y.f3 (cmpM m y) _ (cmp_f m y)).mono ?_); rintro e w5 ⟨rfl, hb⟩; have HV5 := Aside0.mk (HV4.out.below hb); have HM5 := Aside0.mk (blk_below HM4.out hb); have HB5 := Aside0.mk (below_step HB4.out hb); clear hb c0w4 c1w4 c2w4 c3w4 o0 o1 o2 o3))
  refine bodyPost_ret (results_tmp2 rfl _ _ _) rfl ?_
  exact ⟨rfl, HV5.out, VF.of HB5.out⟩
set_option maxHeartbeats 8000000 in
set_option maxRecDepth 100000 in
theorem merge_strong (w : World) (g b : Nat) (l : List Mem) (m : Mem) (h0 : 0 ≤ m.f0) (h1 : m.f0 ≤ 4294967295) (hV : Vw w g b l) (hl : l.length ≤ 100000) (hm : mayM m = true) (y : Mem) (hgl : getL l m.f0 = some y) (hc : ¬ cmpM m y ≤ 0) :
    Calls Try.prog 17 #[.pointer (some ⟨g, 0, none⟩), memV m] w fun e w' => e = .returned (.tuple #[.bool true, .int .i64 0]) ∧ Vw w' g b (putL m l) ∧ VF w w' b := by
  have hu25 := Try.underlying25
  unfold memV
  have hck : member_Check.f m.f0 m.f1 m.f2 m.f3 = some 0 := by rw [check_f, hm]; rfl
  go_enter Try.func17, Try.ntmps17
  go_upto_region 3 with (fail)
  have HM1 := Aside0.mk (blk_new w (.cells #[.int .u32 m.f0, .int .u32 m.f1, .int .u8 m.f2, .string m.f3] 25))
  have hba := below_alloc (Below.refl w.heap.size w) (.cells #[.int .u32 m.f0, .int .u32 m.f1, .int .u8 m.f2, .string m.f3] 25)
  have HV1 := Aside0.mk (hV.below hba)
  have HB1 := Aside0.mk hba
  have hmb : mb_ne w.heap.size g b := ⟨Nat.ne_of_lt hV.ltg, Nat.ne_of_lt hV.ltb⟩
  clear hba hV
  generalize w.alloc (.cells #[.int .u32 m.f0, .int .u32 m.f1, .int .u8 m.f2, .string m.f3] 25) = w1 at HM1 HV1 HB1 ⊢
  obtain ⟨mb, hmbe⟩ : ∃ n, n = w.heap.size := ⟨_, rfl⟩
  rw [← hmbe] at HM1 hmb ⊢
  have HMB := Aside0.mk hmbe
  have HNE := Aside0.mk hmb
  clear hmbe hmb
  have c0w1 : w1.cell? ⟨mb, 0, none⟩ = some (.int .u32 m.f0) := (blk_cell HM1.out 0).trans rfl
  have c1w1 : w1.cell? ⟨mb, 1, none⟩ = some (.int .u32 m.f1) := (blk_cell HM1.out 1).trans rfl
  have c2w1 : w1.cell? ⟨mb, 2, none⟩ = some (.int .u8 m.f2) := (blk_cell HM1.out 2).trans rfl
  have c3w1 : w1.cell? ⟨mb, 3, none⟩ = some (.string m.f3) := (blk_cell HM1.out 3).trans rfl
  go_upto_region 6 with (first | (go_at_call 9; (with_reducible refine (member_Check.calls m.f0 m.f1 m.f2 m.f3 0 _ hck).mono ?_); rintro e w2 ⟨rfl, hb⟩; have HV2 := Aside0.mk (HV1.out.below hb); have HM2 := Aside0.mk (blk_below HM1.out hb); have HB2 := Aside0.mk (below_step HB1.out hb); clear hb c0w1 c1w1 c2w1 c3w1))
  clear hck HV1 HM1 HB1
  have c0w2 : w2.cell? ⟨mb, 0, none⟩ = some (.int .u32 m.f0) := (blk_cell HM2.out 0).trans rfl
  have c1w2 : w2.cell? ⟨mb, 1, none⟩ = some (.int .u32 m.f1) := (blk_cell HM2.out 1).trans rfl
  have c2w2 : w2.cell? ⟨mb, 2, none⟩ = some (.int .u8 m.f2) := (blk_cell HM2.out 2).trans rfl
  have c3w2 : w2.cell? ⟨mb, 3, none⟩ = some (.string m.f3) := (blk_cell HM2.out 3).trans rfl
  have hlk := fun W (hW : Vw W g b l) => hW.look h0 h1
  rw [hgl] at hlk
  simp only [Option.getD_some, Option.isSome_some, Option.getD_none, Option.isSome_none] at hlk
  unfold memV at hlk
  have HBd := Aside0.mk (below_drew1 (Below.refl w2.heap.size w2))
  have hs6 : w2.drew.cell? ⟨g, 0, none⟩ = some (.map (some b)) ∧ w2.drew.cell? ⟨mb, 0, none⟩ = some (.int .u32 m.f0) ∧ (Instr.lookup 61 (.map (some b)) (.int .u32 m.f0) true).run Try.prog w2.drew = .ok (.tuple #[.agg #[.int .u32 y.f0, .int .u32 y.f1, .int .u8 y.f2, .string y.f3], .bool true]) w2.drew := ⟨(HV2.out.below (below_drew1 (Below.refl _ _))).cell, c0w2, hlk _ (HV2.out.below (below_drew1 (Below.refl _ _)))⟩
  have HLK := Aside0.mk hlk
  clear hlk
  refine start_ (n := 13) (S := (fun w' => w'.cell? ⟨g, 0, none⟩ = some (.map (some b)) ∧ w'.cell? ⟨mb, 0, none⟩ = some (.int .u32 m.f0) ∧ (Instr.lookup 61 (.map (some b)) (.int .u32 m.f0) true).run Try.prog w' = .ok (.tuple #[.agg #[.int .u32 y.f0, .int .u32 y.f1, .int .u8 y.f2, .string y.f3], .bool true]) w')) (ds := [11]) #[false, false, false, false, false, false, false, false, false, false, false, false, false] (by kernel_rfl) rfl rfl hs6 (fun hHeld => ?_)
  generalize w2.drew = wd at HBd hs6 hHeld ⊢
  refine pure_ (i := 0) (N := some 17) (v := ?_) (a' := ?_) #[true, false, false, false, false, false, false, false, false, false, false, false, false] rfl rfl (by kernel_rfl) (fun _ _ _ h => h) (Or.inl ⟨by rfl, ?_⟩) ?_ ?_
  rotate_left
  · intro w'
    go_simp
    with_reducible rfl
  rotate_left
  · simp only [Act.put, List.setIfInBounds_toArray, List.set_cons_zero, List.set_cons_succ, i64_w, i32_w]
    rfl
  refine pure_ (i := 1) (N := some 18) (v := ?_) (a' := ?_) #[true, true, false, false, false, false, false, false, false, false, false, false, false] rfl rfl (by kernel_rfl) (fun _ _ _ h => h) (Or.inl ⟨by rfl, ?_⟩) ?_ ?_
  rotate_left
  · intro w'
    go_simp
    with_reducible rfl
  rotate_left
  · simp only [Act.put, List.setIfInBounds_toArray, List.set_cons_zero, List.set_cons_succ, i64_w, i32_w]
    rfl
  refine pure_ (i := 2) (N := some 19) (v := ?_) (a' := ?_) #[true, true, true, false, false, false, false, false, false, false, false, false, false] rfl rfl (by kernel_rfl) (fun _ _ _ h => h) (Or.inl ⟨by rfl, ?_⟩) ?_ ?_
  rotate_left
  · intro w'
    go_simp
    with_reducible rfl
  rotate_left
  · simp only [Act.put, List.setIfInBounds_toArray, List.set_cons_zero, List.set_cons_succ, i64_w, i32_w]
    rfl
  refine take_ (i := 3) (N := some 20) (v := ?_) (a' := ?_) #[true, true, true, true, false, false, false, false, false, false, false, false, false] rfl rfl (by kernel_rfl) (fun _ _ _ h => h) (Or.inl ⟨by rfl, ?_⟩) hHeld ?_ ?_
  rotate_left
  · rintro w' ⟨h0_, h1_, h2_⟩
    go_simp
    with_reducible rfl
  rotate_left
  · simp only [Act.put, List.setIfInBounds_toArray, List.set_cons_zero, List.set_cons_succ, i64_w, i32_w]
    rfl
  refine pure_ (i := 4) (N := some 21) (v := ?_) (a' := ?_) #[true, true, true, true, true, false, false, false, false, false, false, false, false] rfl rfl (by kernel_rfl) (fun _ _ _ h => h) (Or.inl ⟨by rfl, ?_⟩) ?_ ?_
  rotate_left
  · intro w'
    go_simp
    with_reducible rfl
  rotate_left
  · simp only [Act.put, List.setIfInBounds_toArray, List.set_cons_zero, List.set_cons_succ, i64_w, i32_w]
    rfl
  refine take_ (i := 5) (N := some 22) (v := ?_) (a' := ?_) #[true, true, true, true, true, true, false, false, false, false, false, false, false] rfl rfl (by kernel_rfl) (fun _ _ _ h => h) (Or.inl ⟨by rfl, ?_⟩) hHeld ?_ ?_
  rotate_left
  · rintro w' ⟨h0_, h1_, h2_⟩
    go_simp
    with_reducible rfl
  rotate_left
  · simp only [Act.put, List.setIfInBounds_toArray, List.set_cons_zero, List.set_cons_succ, i64_w, i32_w]
    rfl
  refine take_ (i := 6) (N := some 23) (v := ?_) (a' := ?_) #[true, true, true, true, true, true, true, false, false, false, false, false, false] rfl rfl (by kernel_rfl) (fun _ _ _ h => h) (Or.inl ⟨by rfl, ?_⟩) hHeld ?_ ?_
  rotate_left
  · rintro w' ⟨h0_, h1_, h2_⟩
    go_simp
    with_reducible rfl
  rotate_left
  · simp only [Act.put, List.setIfInBounds_toArray, List.set_cons_zero, List.set_cons_succ, i64_w, i32_w]
    rfl
  refine pure_ (i := 7) (N := some 16) (v := ?_) (a' := ?_) #[true, true, true, true, true, true, true, true, false, false, false, false, false] rfl rfl (by kernel_rfl) (fun _ _ _ h => h) (Or.inl ⟨by rfl, ?_⟩) ?_ ?_
  rotate_left
  · intro w'
    go_simp
    with_reducible rfl
  rotate_left
  · simp only [Act.put, List.setIfInBounds_toArray, List.set_cons_zero, List.set_cons_succ, i64_w, i32_w]
    rfl
  refine pure_ (i := 8) (N := some 24) (v := ?_) (a' := ?_) #[true, true, true, true, true, true, true, true, true, false, false, false, false] rfl rfl (by kernel_rfl) (fun _ _ _ h => h) (Or.inl ⟨by rfl, ?_⟩) ?_ ?_
  rotate_left
  · intro w'
    go_simp
    with_reducible rfl
  rotate_left
  · simp only [Act.put, List.setIfInBounds_toArray, List.set_cons_zero, List.set_cons_succ, i64_w, i32_w]
    rfl
  refine pure_ (i := 9) (N := some 25) (v := ?_) (a' := ?_) #[true, true, true, true, true, true, true, true, true, true, false, false, false] rfl rfl (by kernel_rfl) (fun _ _ _ h => h) (Or.inl ⟨by rfl, ?_⟩) ?_ ?_
  rotate_left
  · intro w'
    go_simp
    with_reducible rfl
  rotate_left
  · simp only [Act.put, List.setIfInBounds_toArray, List.set_cons_zero, List.set_cons_succ, i64_w, i32_w]
    rfl
  refine one_ (i := 10) (N := some 7) #[true, true, true, true, true, true, true, true, true, true, true, false, false] rfl rfl (by kernel_rfl) (by decide) (fun K hK => ?_)
  refine value_ (v := .pointer (some ⟨wd.heap.size, 0, none⟩)) (w1 := wd.alloc (.cells #[.int .u32 0, .int .u32 0, .int .u8 0, .string ⟨#[]⟩] 25)) (by rfl) rfl ?_ ?_
  · go_simp
    try with_reducible rfl
  refine hK.out _ _ (have ha := (below_alloc (Below.refl wd.heap.size wd) (.cells #[.int .u32 0, .int .u32 0, .int .u8 0, .string ⟨#[]⟩] 25 (0, 0))); ⟨pw_cell_below ha hHeld.1, pw_cell_below ha hHeld.2.1, HLK.out _ (HV2.out.below (below_alloc HBd.out _))⟩) (fun hHeld => ?_)
  clear hK K
  refine norm_ (a' := ?_) ?_ ?_
  rotate_left
  · show Act.put _ (some 7) _ = _
    simp only [Act.put, List.setIfInBounds_toArray, List.set_cons_zero, List.set_cons_succ, i64_w, i32_w]
    rfl
  refine last_ (i := 11) (N := none) #[true, true, true, true, true, true, true, true, true, true, true, true, false] rfl rfl (by kernel_rfl) (by decide) (fun K hK => ?_)
  refine skip_ (w1 := ?_) (by rfl) rfl ?_ ?_
  rotate_left
  · go_simp
    rfl
  refine hK.out _ _ ?_
  clear hK K
  refine pure_ (i := 12) (N := some 8) (v := ?_) (a' := ?_) #[true, true, true, true, true, true, true, true, true, true, true, true, true] rfl rfl (by kernel_rfl) (fun _ _ _ h => h) (Or.inl ⟨by rfl, ?_⟩) ?_ ?_
  rotate_left
  · intro w'
    go_simp
    with_reducible rfl
  rotate_left
  · simp only [Act.put, List.setIfInBounds_toArray, List.set_cons_zero, List.set_cons_succ, i64_w, i32_w]
    rfl
  refine done_ (by kernel_rfl) ?_
  have HO4 := Aside0.mk (blk_new wd (.cells #[.int .u32 y.f0, .int .u32 y.f1, .int .u8 y.f2, .string y.f3] 25))
  have hba := below_alloc HBd.out (.cells #[.int .u32 y.f0, .int .u32 y.f1, .int .u8 y.f2, .string y.f3] 25)
  have HV4 := Aside0.mk (HV2.out.below hba)
  have HM4 := Aside0.mk (blk_below HM2.out hba)
  have HB4 := Aside0.mk (below_step HB2.out hba)
  clear hba HV2 HM2 HB2 HBd hs6 hHeld HLK c0w2 c1w2 c2w2 c3w2
  generalize wd.alloc (.cells #[.int .u32 y.f0, .int .u32 y.f1, .int .u8 y.f2, .string y.f3] 25) = w4 at HO4 HV4 HM4 HB4 ⊢
  generalize wd.heap.size = ob at HO4 ⊢
  have c0w4 : w4.cell? ⟨mb, 0, none⟩ = some (.int .u32 m.f0) := (blk_cell HM4.out 0).trans rfl
  have c1w4 : w4.cell? ⟨mb, 1, none⟩ = some (.int .u32 m.f1) := (blk_cell HM4.out 1).trans rfl
  have c2w4 : w4.cell? ⟨mb, 2, none⟩ = some (.int .u8 m.f2) := (blk_cell HM4.out 2).trans rfl
  have c3w4 : w4.cell? ⟨mb, 3, none⟩ = some (.string m.f3) := (blk_cell HM4.out 3).trans rfl
  have o0 : w4.cell? ⟨ob, 0, none⟩ = some (.int .u32 y.f0) := (blk_cell HO4.out 0).trans rfl
  have o1 : w4.cell? ⟨ob, 1, none⟩ = some (.int .u32 y.f1) := (blk_cell HO4.out 1).trans rfl
  have o2 : w4.cell? ⟨ob, 2, none⟩ = some (.int .u8 y.f2) := (blk_cell HO4.out 2).trans rfl
  have o3 : w4.cell? ⟨ob, 3, none⟩ = some (.string y.f3) := (blk_cell HO4.out 3).trans rfl
  have hcc : decide (cmpM m y ≤ 0) = false := decide_eq_false (by omega)
  go_upto_region 11 with (first | (go_at_call 11; (with_reducible refine (member_Cmp.calls m.f0 m.f1 m.f2 m.f3 y.f0 y.f1 y.f2 y.f3 (cmpM m y) _ (cmp_f m y)).mono ?_); rintro e w5 ⟨rfl, hb⟩; have HV5 := Aside0.mk (HV4.out.below hb); have HM5 := Aside0.mk (blk_below HM4.out hb); have HB5 := Aside0.mk (below_step HB4.out hb); clear hb c0w4 c1w4 c2w4 c3w4 o0 o1 o2 o3))
  have c0w5 : w5.cell? ⟨mb, 0, none⟩ = some (.int .u32 m.f0) := (blk_cell HM5.out 0).trans rfl
  have c1w5 : w5.cell? ⟨mb, 1, none⟩ = some (.int .u32 m.f1) := (blk_cell HM5.out 1).trans rfl
  have c2w5 : w5.cell? ⟨mb, 2, none⟩ = some (.int .u8 m.f2) := (blk_cell HM5.out 2).trans rfl
  have c3w5 : w5.cell? ⟨mb, 3, none⟩ = some (.string m.f3) := (blk_cell HM5.out 3).trans rfl
  have HBe := Aside0.mk (below_drew1 (Below.refl w5.heap.size w5))
  have hs11 : w5.drew.cell? ⟨g, 0, none⟩ = some (.map (some b)) ∧ w5.drew.cell? ⟨mb, 0, none⟩ = some (.int .u32 m.f0) ∧ w5.drew.cell? ⟨mb, 1, none⟩ = some (.int .u32 m.f1) ∧ w5.drew.cell? ⟨mb, 2, none⟩ = some (.int .u8 m.f2) ∧ w5.drew.cell? ⟨mb, 3, none⟩ = some (.string m.f3) := ⟨HV5.out.cell, c0w5, c1w5, c2w5, c3w5⟩
  refine start_ (n := 8) (S := (fun w' => w'.cell? ⟨g, 0, none⟩ = some (.map (some b)) ∧ w'.cell? ⟨mb, 0, none⟩ = some (.int .u32 m.f0) ∧ w'.cell? ⟨mb, 1, none⟩ = some (.int .u32 m.f1) ∧ w'.cell? ⟨mb, 2, none⟩ = some (.int .u8 m.f2) ∧ w'.cell? ⟨mb, 3, none⟩ = some (.string m.f3))) (ds := [7]) #[false, false, false, false, false, false, false, false] (by kernel_rfl) rfl rfl hs11 (fun hHeld => ?_)
  generalize w5.drew = we at HBe hs11 hHeld ⊢
  refine pure_ (i := 0) (N := some 45) (v := ?_) (a' := ?_) #[true, false, false, false, false, false, false, false] rfl rfl (by kernel_rfl) (fun _ _ _ h => h) (Or.inl ⟨by rfl, ?_⟩) ?_ ?_
  rotate_left
  · intro w'
    go_simp
    with_reducible rfl
  rotate_left
  · simp only [Act.put, List.setIfInBounds_toArray, List.set_cons_zero, List.set_cons_succ, i64_w, i32_w]
    rfl
  refine pure_ (i := 1) (N := some 46) (v := ?_) (a' := ?_) #[true, true, false, false, false, false, false, false] rfl rfl (by kernel_rfl) (fun _ _ _ h => h) (Or.inl ⟨by rfl, ?_⟩) ?_ ?_
  rotate_left
  · intro w'
    go_simp
    with_reducible rfl
  rotate_left
  · simp only [Act.put, List.setIfInBounds_toArray, List.set_cons_zero, List.set_cons_succ, i64_w, i32_w]
    rfl
  refine pure_ (i := 2) (N := some 47) (v := ?_) (a' := ?_) #[true, true, true, false, false, false, false, false] rfl rfl (by kernel_rfl) (fun _ _ _ h => h) (Or.inl ⟨by rfl, ?_⟩) ?_ ?_
  rotate_left
  · intro w'
    go_simp
    with_reducible rfl
  rotate_left
  · simp only [Act.put, List.setIfInBounds_toArray, List.set_cons_zero, List.set_cons_succ, i64_w, i32_w]
    rfl
  refine take_ (i := 3) (N := some 48) (v := ?_) (a' := ?_) #[true, true, true, true, false, false, false, false] rfl rfl (by kernel_rfl) (fun _ _ _ h => h) (Or.inl ⟨by rfl, ?_⟩) hHeld ?_ ?_
  rotate_left
  · rintro w' ⟨h0_, h1_, h2_, h3_, h4_⟩
    go_simp
    with_reducible rfl
  rotate_left
  · simp only [Act.put, List.setIfInBounds_toArray, List.set_cons_zero, List.set_cons_succ, i64_w, i32_w]
    rfl
  refine pure_ (i := 4) (N := some 49) (v := ?_) (a' := ?_) #[true, true, true, true, true, false, false, false] rfl rfl (by kernel_rfl) (fun _ _ _ h => h) (Or.inl ⟨by rfl, ?_⟩) ?_ ?_
  rotate_left
  · intro w'
    go_simp
    with_reducible rfl
  rotate_left
  · simp only [Act.put, List.setIfInBounds_toArray, List.set_cons_zero, List.set_cons_succ, i64_w, i32_w]
    rfl
  refine take_ (i := 5) (N := some 50) (v := ?_) (a' := ?_) #[true, true, true, true, true, true, false, false] rfl rfl (by kernel_rfl) (fun _ _ _ h => h) (Or.inl ⟨by rfl, ?_⟩) hHeld ?_ ?_
  rotate_left
  · rintro w' ⟨h0_, h1_, h2_, h3_, h4_⟩
    go_simp
    with_reducible rfl
  rotate_left
  · simp only [Act.put, List.setIfInBounds_toArray, List.set_cons_zero, List.set_cons_succ, i64_w, i32_w]
    rfl
  refine take_ (i := 6) (N := some 51) (v := ?_) (a' := ?_) #[true, true, true, true, true, true, true, false] rfl rfl (by kernel_rfl) (fun _ _ _ h => h) (Or.inl ⟨by rfl, ?_⟩) hHeld ?_ ?_
  rotate_left
  · rintro w' ⟨h0_, h1_, h2_, h3_, h4_⟩
    go_simp
    with_reducible rfl
  rotate_left
  · simp only [Act.put, List.setIfInBounds_toArray, List.set_cons_zero, List.set_cons_succ, i64_w, i32_w]
    rfl
  obtain ⟨w6, hup, hv6, hg6⟩ := (HV5.out.below HBe.out).put h0 h1 (by omega)
  have HV6 := Aside0.mk hv6
  have HG6 := Aside0.mk hg6
  unfold memV at hup
  clear hv6 hg6
  refine last_ (i := 7) (N := none) #[true, true, true, true, true, true, true, true] rfl rfl (by kernel_rfl) (by decide) (fun K hK => ?_)
  refine skip_ (w1 := w6) (by rfl) rfl ?_ ?_
  · go_simp
    try with_reducible rfl
  refine hK.out _ _ ?_
  clear hK K
  refine done_ (by kernel_rfl) ?_
  go_wp2
  refine bodyPost_ret (results_tmp2 rfl _ _ _) rfl ?_
  exact ⟨rfl, HV6.out, VF.then (below_step HB5.out HBe.out) HG6.out⟩
set_option maxHeartbeats 8000000 in
set_option maxRecDepth 100000 in
theorem merge_full (w : World) (g b : Nat) (l : List Mem) (m : Mem) (h0 : 0 ≤ m.f0) (h1 : m.f0 ≤ 4294967295) (hV : Vw w g b l) (hl : l.length ≤ 100000) (hm : mayM m = true) (hgl : getL l m.f0 = none) (hc : 32 ≤ l.length) :
    Calls Try.prog 17 #[.pointer (some ⟨g, 0, none⟩), memV m] w fun e w' => e = .returned (.tuple #[.bool false, .int .i64 3]) ∧ Vw w' g b l ∧ VF w w' b := by
  have hu25 := Try.underlying25
  unfold memV
  have hck : member_Check.f m.f0 m.f1 m.f2 m.f3 = some 0 := by rw [check_f, hm]; rfl
  go_enter Try.func17, Try.ntmps17
  go_upto_region 3 with (fail)
  have HM1 := Aside0.mk (blk_new w (.cells #[.int .u32 m.f0, .int .u32 m.f1, .int .u8 m.f2, .string m.f3] 25))
  have hba := below_alloc (Below.refl w.heap.size w) (.cells #[.int .u32 m.f0, .int .u32 m.f1, .int .u8 m.f2, .string m.f3] 25)
  have HV1 := Aside0.mk (hV.below hba)
  have HB1 := Aside0.mk hba
  have hmb : mb_ne w.heap.size g b := ⟨Nat.ne_of_lt hV.ltg, Nat.ne_of_lt hV.ltb⟩
  clear hba hV
  generalize w.alloc (.cells #[.int .u32 m.f0, .int .u32 m.f1, .int .u8 m.f2, .string m.f3] 25) = w1 at HM1 HV1 HB1 ⊢
  obtain ⟨mb, hmbe⟩ : ∃ n, n = w.heap.size := ⟨_, rfl⟩
  rw [← hmbe] at HM1 hmb ⊢
  have HMB := Aside0.mk hmbe
  have HNE := Aside0.mk hmb
  clear hmbe hmb
  have c0w1 : w1.cell? ⟨mb, 0, none⟩ = some (.int .u32 m.f0) := (blk_cell HM1.out 0).trans rfl
  have c1w1 : w1.cell? ⟨mb, 1, none⟩ = some (.int .u32 m.f1) := (blk_cell HM1.out 1).trans rfl
  have c2w1 : w1.cell? ⟨mb, 2, none⟩ = some (.int .u8 m.f2) := (blk_cell HM1.out 2).trans rfl
  have c3w1 : w1.cell? ⟨mb, 3, none⟩ = some (.string m.f3) := (blk_cell HM1.out 3).trans rfl
  go_upto_region 6 with (first | (go_at_call 9; (with_reducible refine (member_Check.calls m.f0 m.f1 m.f2 m.f3 0 _ hck).mono ?_); rintro e w2 ⟨rfl, hb⟩; have HV2 := Aside0.mk (HV1.out.below hb); have HM2 := Aside0.mk (blk_below HM1.out hb); have HB2 := Aside0.mk (below_step HB1.out hb); clear hb c0w1 c1w1 c2w1 c3w1))
  clear hck HV1 HM1 HB1
  have c0w2 : w2.cell? ⟨mb, 0, none⟩ = some (.int .u32 m.f0) := (blk_cell HM2.out 0).trans rfl
  have c1w2 : w2.cell? ⟨mb, 1, none⟩ = some (.int .u32 m.f1) := (blk_cell HM2.out 1).trans rfl
  have c2w2 : w2.cell? ⟨mb, 2, none⟩ = some (.int .u8 m.f2) := (blk_cell HM2.out 2).trans rfl
  have c3w2 : w2.cell? ⟨mb, 3, none⟩ = some (.string m.f3) := (blk_cell HM2.out 3).trans rfl
  have hlk := fun W (hW : Vw W g b l) => hW.look h0 h1
  rw [hgl] at hlk
  simp only [Option.getD_some, Option.isSome_some, Option.getD_none, Option.isSome_none] at hlk
  unfold memV at hlk
  have HBd := Aside0.mk (below_drew1 (Below.refl w2.heap.size w2))
  have hs6 : w2.drew.cell? ⟨g, 0, none⟩ = some (.map (some b)) ∧ w2.drew.cell? ⟨mb, 0, none⟩ = some (.int .u32 m.f0) ∧ (Instr.lookup 61 (.map (some b)) (.int .u32 m.f0) true).run Try.prog w2.drew = .ok (.tuple #[.agg #[.int .u32 z25.f0, .int .u32 z25.f1, .int .u8 z25.f2, .string z25.f3], .bool false]) w2.drew := ⟨(HV2.out.below (below_drew1 (Below.refl _ _))).cell, c0w2, hlk _ (HV2.out.below (below_drew1 (Below.refl _ _)))⟩
  have HLK := Aside0.mk hlk
  clear hlk
  refine start_ (n := 13) (S := (fun w' => w'.cell? ⟨g, 0, none⟩ = some (.map (some b)) ∧ w'.cell? ⟨mb, 0, none⟩ = some (.int .u32 m.f0) ∧ (Instr.lookup 61 (.map (some b)) (.int .u32 m.f0) true).run Try.prog w' = .ok (.tuple #[.agg #[.int .u32 z25.f0, .int .u32 z25.f1, .int .u8 z25.f2, .string z25.f3], .bool false]) w')) (ds := [11]) #[false, false, false, false, false, false, false, false, false, false, false, false, false] (by kernel_rfl) rfl rfl hs6 (fun hHeld => ?_)
  generalize w2.drew = wd at HBd hs6 hHeld ⊢
  refine pure_ (i := 0) (N := some 17) (v := ?_) (a' := ?_) #[true, false, false, false, false, false, false, false, false, false, false, false, false] rfl rfl (by kernel_rfl) (fun _ _ _ h => h) (Or.inl ⟨by rfl, ?_⟩) ?_ ?_
  rotate_left
  · intro w'
    go_simp
    with_reducible rfl
  rotate_left
  · simp only [Act.put, List.setIfInBounds_toArray, List.set_cons_zero, List.set_cons_succ, i64_w, i32_w]
    rfl
  refine pure_ (i := 1) (N := some 18) (v := ?_) (a' := ?_) #[true, true, false, false, false, false, false, false, false, false, false, false, false] rfl rfl (by kernel_rfl) (fun _ _ _ h => h) (Or.inl ⟨by rfl, ?_⟩) ?_ ?_
  rotate_left
  · intro w'
    go_simp
    with_reducible rfl
  rotate_left
  · simp only [Act.put, List.setIfInBounds_toArray, List.set_cons_zero, List.set_cons_succ, i64_w, i32_w]
    rfl
  refine pure_ (i := 2) (N := some 19) (v := ?_) (a' := ?_) #[true, true, true, false, false, false, false, false, false, false, false, false, false] rfl rfl (by kernel_rfl) (fun _ _ _ h => h) (Or.inl ⟨by rfl, ?_⟩) ?_ ?_
  rotate_left
  · intro w'
    go_simp
    with_reducible rfl
  rotate_left
  · simp only [Act.put, List.setIfInBounds_toArray, List.set_cons_zero, List.set_cons_succ, i64_w, i32_w]
    rfl
  refine take_ (i := 3) (N := some 20) (v := ?_) (a' := ?_) #[true, true, true, true, false, false, false, false, false, false, false, false, false] rfl rfl (by kernel_rfl) (fun _ _ _ h => h) (Or.inl ⟨by rfl, ?_⟩) hHeld ?_ ?_
  rotate_left
  · rintro w' ⟨h0_, h1_, h2_⟩
    go_simp
    with_reducible rfl
  rotate_left
  · simp only [Act.put, List.setIfInBounds_toArray, List.set_cons_zero, List.set_cons_succ, i64_w, i32_w]
    rfl
  refine pure_ (i := 4) (N := some 21) (v := ?_) (a' := ?_) #[true, true, true, true, true, false, false, false, false, false, false, false, false] rfl rfl (by kernel_rfl) (fun _ _ _ h => h) (Or.inl ⟨by rfl, ?_⟩) ?_ ?_
  rotate_left
  · intro w'
    go_simp
    with_reducible rfl
  rotate_left
  · simp only [Act.put, List.setIfInBounds_toArray, List.set_cons_zero, List.set_cons_succ, i64_w, i32_w]
    rfl
  refine take_ (i := 5) (N := some 22) (v := ?_) (a' := ?_) #[true, true, true, true, true, true, false, false, false, false, false, false, false] rfl rfl (by kernel_rfl) (fun _ _ _ h => h) (Or.inl ⟨by rfl, ?_⟩) hHeld ?_ ?_
  rotate_left
  · rintro w' ⟨h0_, h1_, h2_⟩
    go_simp
    with_reducible rfl
  rotate_left
  · simp only [Act.put, List.setIfInBounds_toArray, List.set_cons_zero, List.set_cons_succ, i64_w, i32_w]
    rfl
  refine take_ (i := 6) (N := some 23) (v := ?_) (a' := ?_) #[true, true, true, true, true, true, true, false, false, false, false, false, false] rfl rfl (by kernel_rfl) (fun _ _ _ h => h) (Or.inl ⟨by rfl, ?_⟩) hHeld ?_ ?_
  rotate_left
  · rintro w' ⟨h0_, h1_, h2_⟩
    go_simp
    with_reducible rfl
  rotate_left
  · simp only [Act.put, List.setIfInBounds_toArray, List.set_cons_zero, List.set_cons_succ, i64_w, i32_w]
    rfl
  refine pure_ (i := 7) (N := some 16) (v := ?_) (a' := ?_) #[true, true, true, true, true, true, true, true, false, false, false, false, false] rfl rfl (by kernel_rfl) (fun _ _ _ h => h) (Or.inl ⟨by rfl, ?_⟩) ?_ ?_
  rotate_left
  · intro w'
    go_simp
    with_reducible rfl
  rotate_left
  · simp only [Act.put, List.setIfInBounds_toArray, List.set_cons_zero, List.set_cons_succ, i64_w, i32_w]
    rfl
  refine pure_ (i := 8) (N := some 24) (v := ?_) (a' := ?_) #[true, true, true, true, true, true, true, true, true, false, false, false, false] rfl rfl (by kernel_rfl) (fun _ _ _ h => h) (Or.inl ⟨by rfl, ?_⟩) ?_ ?_
  rotate_left
  · intro w'
    go_simp
    with_reducible rfl
  rotate_left
  · simp only [Act.put, List.setIfInBounds_toArray, List.set_cons_zero, List.set_cons_succ, i64_w, i32_w]
    rfl
  refine pure_ (i := 9) (N := some 25) (v := ?_) (a' := ?_) #[true, true, true, true, true, true, true, true, true, true, false, false, false] rfl rfl (by kernel_rfl) (fun _ _ _ h => h) (Or.inl ⟨by rfl, ?_⟩) ?_ ?_
  rotate_left
  · intro w'
    go_simp
    with_reducible rfl
  rotate_left
  · simp only [Act.put, List.setIfInBounds_toArray, List.set_cons_zero, List.set_cons_succ, i64_w, i32_w]
    rfl
  refine one_ (i := 10) (N := some 7) #[true, true, true, true, true, true, true, true, true, true, true, false, false] rfl rfl (by kernel_rfl) (by decide) (fun K hK => ?_)
  refine value_ (v := .pointer (some ⟨wd.heap.size, 0, none⟩)) (w1 := wd.alloc (.cells #[.int .u32 0, .int .u32 0, .int .u8 0, .string ⟨#[]⟩] 25)) (by rfl) rfl ?_ ?_
  · go_simp
    try with_reducible rfl
  refine hK.out _ _ (have ha := (below_alloc (Below.refl wd.heap.size wd) (.cells #[.int .u32 0, .int .u32 0, .int .u8 0, .string ⟨#[]⟩] 25 (0, 0))); ⟨pw_cell_below ha hHeld.1, pw_cell_below ha hHeld.2.1, HLK.out _ (HV2.out.below (below_alloc HBd.out _))⟩) (fun hHeld => ?_)
  clear hK K
  refine norm_ (a' := ?_) ?_ ?_
  rotate_left
  · show Act.put _ (some 7) _ = _
    simp only [Act.put, List.setIfInBounds_toArray, List.set_cons_zero, List.set_cons_succ, i64_w, i32_w]
    rfl
  refine last_ (i := 11) (N := none) #[true, true, true, true, true, true, true, true, true, true, true, true, false] rfl rfl (by kernel_rfl) (by decide) (fun K hK => ?_)
  refine skip_ (w1 := ?_) (by rfl) rfl ?_ ?_
  rotate_left
  · go_simp
    rfl
  refine hK.out _ _ ?_
  clear hK K
  refine pure_ (i := 12) (N := some 8) (v := ?_) (a' := ?_) #[true, true, true, true, true, true, true, true, true, true, true, true, true] rfl rfl (by kernel_rfl) (fun _ _ _ h => h) (Or.inl ⟨by rfl, ?_⟩) ?_ ?_
  rotate_left
  · intro w'
    go_simp
    with_reducible rfl
  rotate_left
  · simp only [Act.put, List.setIfInBounds_toArray, List.set_cons_zero, List.set_cons_succ, i64_w, i32_w]
    rfl
  refine done_ (by kernel_rfl) ?_
  have HO4 := Aside0.mk (blk_new wd (.cells #[.int .u32 z25.f0, .int .u32 z25.f1, .int .u8 z25.f2, .string z25.f3] 25))
  have hba := below_alloc HBd.out (.cells #[.int .u32 z25.f0, .int .u32 z25.f1, .int .u8 z25.f2, .string z25.f3] 25)
  have HV4 := Aside0.mk (HV2.out.below hba)
  have HM4 := Aside0.mk (blk_below HM2.out hba)
  have HB4 := Aside0.mk (below_step HB2.out hba)
  clear hba HV2 HM2 HB2 HBd hs6 hHeld HLK c0w2 c1w2 c2w2 c3w2
  generalize wd.alloc (.cells #[.int .u32 z25.f0, .int .u32 z25.f1, .int .u8 z25.f2, .string z25.f3] 25) = w4 at HO4 HV4 HM4 HB4 ⊢
  generalize wd.heap.size = ob at HO4 ⊢
  have hcl := HV4.out.cell
  have hln := HV4.out.len
  have hcc : decide ((32 : Int) ≤ (l.length : Int)) = true := decide_eq_true (by omega)
  go_wp2
  refine bodyPost_ret (results_tmp2 rfl _ _ _) rfl ?_
  exact ⟨rfl, HV4.out, VF.of HB4.out⟩
set_option maxHeartbeats 8000000 in
set_option maxRecDepth 100000 in
theorem merge_new (w : World) (g b : Nat) (l : List Mem) (m : Mem) (h0 : 0 ≤ m.f0) (h1 : m.f0 ≤ 4294967295) (hV : Vw w g b l) (hl : l.length ≤ 100000) (hm : mayM m = true) (hgl : getL l m.f0 = none) (hc : ¬ 32 ≤ l.length) :
    Calls Try.prog 17 #[.pointer (some ⟨g, 0, none⟩), memV m] w fun e w' => e = .returned (.tuple #[.bool true, .int .i64 0]) ∧ Vw w' g b (putL m l) ∧ VF w w' b := by
  have hu25 := Try.underlying25
  unfold memV
  have hck : member_Check.f m.f0 m.f1 m.f2 m.f3 = some 0 := by rw [check_f, hm]; rfl
  go_enter Try.func17, Try.ntmps17
  go_upto_region 3 with (fail)
  have HM1 := Aside0.mk (blk_new w (.cells #[.int .u32 m.f0, .int .u32 m.f1, .int .u8 m.f2, .string m.f3] 25))
  have hba := below_alloc (Below.refl w.heap.size w) (.cells #[.int .u32 m.f0, .int .u32 m.f1, .int .u8 m.f2, .string m.f3] 25)
  have HV1 := Aside0.mk (hV.below hba)
  have HB1 := Aside0.mk hba
  have hmb : mb_ne w.heap.size g b := ⟨Nat.ne_of_lt hV.ltg, Nat.ne_of_lt hV.ltb⟩
  clear hba hV
  generalize w.alloc (.cells #[.int .u32 m.f0, .int .u32 m.f1, .int .u8 m.f2, .string m.f3] 25) = w1 at HM1 HV1 HB1 ⊢
  obtain ⟨mb, hmbe⟩ : ∃ n, n = w.heap.size := ⟨_, rfl⟩
  rw [← hmbe] at HM1 hmb ⊢
  have HMB := Aside0.mk hmbe
  have HNE := Aside0.mk hmb
  clear hmbe hmb
  have c0w1 : w1.cell? ⟨mb, 0, none⟩ = some (.int .u32 m.f0) := (blk_cell HM1.out 0).trans rfl
  have c1w1 : w1.cell? ⟨mb, 1, none⟩ = some (.int .u32 m.f1) := (blk_cell HM1.out 1).trans rfl
  have c2w1 : w1.cell? ⟨mb, 2, none⟩ = some (.int .u8 m.f2) := (blk_cell HM1.out 2).trans rfl
  have c3w1 : w1.cell? ⟨mb, 3, none⟩ = some (.string m.f3) := (blk_cell HM1.out 3).trans rfl
  go_upto_region 6 with (first | (go_at_call 9; (with_reducible refine (member_Check.calls m.f0 m.f1 m.f2 m.f3 0 _ hck).mono ?_); rintro e w2 ⟨rfl, hb⟩; have HV2 := Aside0.mk (HV1.out.below hb); have HM2 := Aside0.mk (blk_below HM1.out hb); have HB2 := Aside0.mk (below_step HB1.out hb); clear hb c0w1 c1w1 c2w1 c3w1))
  clear hck HV1 HM1 HB1
  have c0w2 : w2.cell? ⟨mb, 0, none⟩ = some (.int .u32 m.f0) := (blk_cell HM2.out 0).trans rfl
  have c1w2 : w2.cell? ⟨mb, 1, none⟩ = some (.int .u32 m.f1) := (blk_cell HM2.out 1).trans rfl
  have c2w2 : w2.cell? ⟨mb, 2, none⟩ = some (.int .u8 m.f2) := (blk_cell HM2.out 2).trans rfl
  have c3w2 : w2.cell? ⟨mb, 3, none⟩ = some (.string m.f3) := (blk_cell HM2.out 3).trans rfl
  have hlk := fun W (hW : Vw W g b l) => hW.look h0 h1
  rw [hgl] at hlk
  simp only [Option.getD_some, Option.isSome_some, Option.getD_none, Option.isSome_none] at hlk
  unfold memV at hlk
  have HBd := Aside0.mk (below_drew1 (Below.refl w2.heap.size w2))
  have hs6 : w2.drew.cell? ⟨g, 0, none⟩ = some (.map (some b)) ∧ w2.drew.cell? ⟨mb, 0, none⟩ = some (.int .u32 m.f0) ∧ (Instr.lookup 61 (.map (some b)) (.int .u32 m.f0) true).run Try.prog w2.drew = .ok (.tuple #[.agg #[.int .u32 z25.f0, .int .u32 z25.f1, .int .u8 z25.f2, .string z25.f3], .bool false]) w2.drew := ⟨(HV2.out.below (below_drew1 (Below.refl _ _))).cell, c0w2, hlk _ (HV2.out.below (below_drew1 (Below.refl _ _)))⟩
  have HLK := Aside0.mk hlk
  clear hlk
  refine start_ (n := 13) (S := (fun w' => w'.cell? ⟨g, 0, none⟩ = some (.map (some b)) ∧ w'.cell? ⟨mb, 0, none⟩ = some (.int .u32 m.f0) ∧ (Instr.lookup 61 (.map (some b)) (.int .u32 m.f0) true).run Try.prog w' = .ok (.tuple #[.agg #[.int .u32 z25.f0, .int .u32 z25.f1, .int .u8 z25.f2, .string z25.f3], .bool false]) w')) (ds := [11]) #[false, false, false, false, false, false, false, false, false, false, false, false, false] (by kernel_rfl) rfl rfl hs6 (fun hHeld => ?_)
  generalize w2.drew = wd at HBd hs6 hHeld ⊢
  refine pure_ (i := 0) (N := some 17) (v := ?_) (a' := ?_) #[true, false, false, false, false, false, false, false, false, false, false, false, false] rfl rfl (by kernel_rfl) (fun _ _ _ h => h) (Or.inl ⟨by rfl, ?_⟩) ?_ ?_
  rotate_left
  · intro w'
    go_simp
    with_reducible rfl
  rotate_left
  · simp only [Act.put, List.setIfInBounds_toArray, List.set_cons_zero, List.set_cons_succ, i64_w, i32_w]
    rfl
  refine pure_ (i := 1) (N := some 18) (v := ?_) (a' := ?_) #[true, true, false, false, false, false, false, false, false, false, false, false, false] rfl rfl (by kernel_rfl) (fun _ _ _ h => h) (Or.inl ⟨by rfl, ?_⟩) ?_ ?_
  rotate_left
  · intro w'
    go_simp
    with_reducible rfl
  rotate_left
  · simp only [Act.put, List.setIfInBounds_toArray, List.set_cons_zero, List.set_cons_succ, i64_w, i32_w]
    rfl
  refine pure_ (i := 2) (N := some 19) (v := ?_) (a' := ?_) #[true, true, true, false, false, false, false, false, false, false, false, false, false] rfl rfl (by kernel_rfl) (fun _ _ _ h => h) (Or.inl ⟨by rfl, ?_⟩) ?_ ?_
  rotate_left
  · intro w'
    go_simp
    with_reducible rfl
  rotate_left
  · simp only [Act.put, List.setIfInBounds_toArray, List.set_cons_zero, List.set_cons_succ, i64_w, i32_w]
    rfl
  refine take_ (i := 3) (N := some 20) (v := ?_) (a' := ?_) #[true, true, true, true, false, false, false, false, false, false, false, false, false] rfl rfl (by kernel_rfl) (fun _ _ _ h => h) (Or.inl ⟨by rfl, ?_⟩) hHeld ?_ ?_
  rotate_left
  · rintro w' ⟨h0_, h1_, h2_⟩
    go_simp
    with_reducible rfl
  rotate_left
  · simp only [Act.put, List.setIfInBounds_toArray, List.set_cons_zero, List.set_cons_succ, i64_w, i32_w]
    rfl
  refine pure_ (i := 4) (N := some 21) (v := ?_) (a' := ?_) #[true, true, true, true, true, false, false, false, false, false, false, false, false] rfl rfl (by kernel_rfl) (fun _ _ _ h => h) (Or.inl ⟨by rfl, ?_⟩) ?_ ?_
  rotate_left
  · intro w'
    go_simp
    with_reducible rfl
  rotate_left
  · simp only [Act.put, List.setIfInBounds_toArray, List.set_cons_zero, List.set_cons_succ, i64_w, i32_w]
    rfl
  refine take_ (i := 5) (N := some 22) (v := ?_) (a' := ?_) #[true, true, true, true, true, true, false, false, false, false, false, false, false] rfl rfl (by kernel_rfl) (fun _ _ _ h => h) (Or.inl ⟨by rfl, ?_⟩) hHeld ?_ ?_
  rotate_left
  · rintro w' ⟨h0_, h1_, h2_⟩
    go_simp
    with_reducible rfl
  rotate_left
  · simp only [Act.put, List.setIfInBounds_toArray, List.set_cons_zero, List.set_cons_succ, i64_w, i32_w]
    rfl
  refine take_ (i := 6) (N := some 23) (v := ?_) (a' := ?_) #[true, true, true, true, true, true, true, false, false, false, false, false, false] rfl rfl (by kernel_rfl) (fun _ _ _ h => h) (Or.inl ⟨by rfl, ?_⟩) hHeld ?_ ?_
  rotate_left
  · rintro w' ⟨h0_, h1_, h2_⟩
    go_simp
    with_reducible rfl
  rotate_left
  · simp only [Act.put, List.setIfInBounds_toArray, List.set_cons_zero, List.set_cons_succ, i64_w, i32_w]
    rfl
  refine pure_ (i := 7) (N := some 16) (v := ?_) (a' := ?_) #[true, true, true, true, true, true, true, true, false, false, false, false, false] rfl rfl (by kernel_rfl) (fun _ _ _ h => h) (Or.inl ⟨by rfl, ?_⟩) ?_ ?_
  rotate_left
  · intro w'
    go_simp
    with_reducible rfl
  rotate_left
  · simp only [Act.put, List.setIfInBounds_toArray, List.set_cons_zero, List.set_cons_succ, i64_w, i32_w]
    rfl
  refine pure_ (i := 8) (N := some 24) (v := ?_) (a' := ?_) #[true, true, true, true, true, true, true, true, true, false, false, false, false] rfl rfl (by kernel_rfl) (fun _ _ _ h => h) (Or.inl ⟨by rfl, ?_⟩) ?_ ?_
  rotate_left
  · intro w'
    go_simp
    with_reducible rfl
  rotate_left
  · simp only [Act.put, List.setIfInBounds_toArray, List.set_cons_zero, List.set_cons_succ, i64_w, i32_w]
    rfl
  refine pure_ (i := 9) (N := some 25) (v := ?_) (a' := ?_) #[true, true, true, true, true, true, true, true, true, true, false, false, false] rfl rfl (by kernel_rfl) (fun _ _ _ h => h) (Or.inl ⟨by rfl, ?_⟩) ?_ ?_
  rotate_left
  · intro w'
    go_simp
    with_reducible rfl
  rotate_left
  · simp only [Act.put, List.setIfInBounds_toArray, List.set_cons_zero, List.set_cons_succ, i64_w, i32_w]
    rfl
  refine one_ (i := 10) (N := some 7) #[true, true, true, true, true, true, true, true, true, true, true, false, false] rfl rfl (by kernel_rfl) (by decide) (fun K hK => ?_)
  refine value_ (v := .pointer (some ⟨wd.heap.size, 0, none⟩)) (w1 := wd.alloc (.cells #[.int .u32 0, .int .u32 0, .int .u8 0, .string ⟨#[]⟩] 25)) (by rfl) rfl ?_ ?_
  · go_simp
    try with_reducible rfl
  refine hK.out _ _ (have ha := (below_alloc (Below.refl wd.heap.size wd) (.cells #[.int .u32 0, .int .u32 0, .int .u8 0, .string ⟨#[]⟩] 25 (0, 0))); ⟨pw_cell_below ha hHeld.1, pw_cell_below ha hHeld.2.1, HLK.out _ (HV2.out.below (below_alloc HBd.out _))⟩) (fun hHeld => ?_)
  clear hK K
  refine norm_ (a' := ?_) ?_ ?_
  rotate_left
  · show Act.put _ (some 7) _ = _
    simp only [Act.put, List.setIfInBounds_toArray, List.set_cons_zero, List.set_cons_succ, i64_w, i32_w]
    rfl
  refine last_ (i := 11) (N := none) #[true, true, true, true, true, true, true, true, true, true, true, true, false] rfl rfl (by kernel_rfl) (by decide) (fun K hK => ?_)
  refine skip_ (w1 := ?_) (by rfl) rfl ?_ ?_
  rotate_left
  · go_simp
    rfl
  refine hK.out _ _ ?_
  clear hK K
  refine pure_ (i := 12) (N := some 8) (v := ?_) (a' := ?_) #[true, true, true, true, true, true, true, true, true, true, true, true, true] rfl rfl (by kernel_rfl) (fun _ _ _ h => h) (Or.inl ⟨by rfl, ?_⟩) ?_ ?_
  rotate_left
  · intro w'
    go_simp
    with_reducible rfl
  rotate_left
  · simp only [Act.put, List.setIfInBounds_toArray, List.set_cons_zero, List.set_cons_succ, i64_w, i32_w]
    rfl
  refine done_ (by kernel_rfl) ?_
  have HO4 := Aside0.mk (blk_new wd (.cells #[.int .u32 z25.f0, .int .u32 z25.f1, .int .u8 z25.f2, .string z25.f3] 25))
  have hba := below_alloc HBd.out (.cells #[.int .u32 z25.f0, .int .u32 z25.f1, .int .u8 z25.f2, .string z25.f3] 25)
  have HV4 := Aside0.mk (HV2.out.below hba)
  have HM4 := Aside0.mk (blk_below HM2.out hba)
  have HB4 := Aside0.mk (below_step HB2.out hba)
  clear hba HV2 HM2 HB2 HBd hs6 hHeld HLK c0w2 c1w2 c2w2 c3w2
  generalize wd.alloc (.cells #[.int .u32 z25.f0, .int .u32 z25.f1, .int .u8 z25.f2, .string z25.f3] 25) = w4 at HO4 HV4 HM4 HB4 ⊢
  generalize wd.heap.size = ob at HO4 ⊢
  have hcl := HV4.out.cell
  have hln := HV4.out.len
  have hcc : decide ((32 : Int) ≤ (l.length : Int)) = false := decide_eq_false (by omega)
  go_upto_region 11 with (fail)
  clear hcl hln
  have HV5 := HV4
  have HM5 := HM4
  have HB5 := HB4
  clear HV4 HM4 HB4
  obtain ⟨w5, hw5⟩ : ∃ W, W = w4 := ⟨_, rfl⟩
  rw [← hw5] at HV5 HM5 HB5 ⊢
  clear hw5
  have c0w5 : w5.cell? ⟨mb, 0, none⟩ = some (.int .u32 m.f0) := (blk_cell HM5.out 0).trans rfl
  have c1w5 : w5.cell? ⟨mb, 1, none⟩ = some (.int .u32 m.f1) := (blk_cell HM5.out 1).trans rfl
  have c2w5 : w5.cell? ⟨mb, 2, none⟩ = some (.int .u8 m.f2) := (blk_cell HM5.out 2).trans rfl
  have c3w5 : w5.cell? ⟨mb, 3, none⟩ = some (.string m.f3) := (blk_cell HM5.out 3).trans rfl
  have HBe := Aside0.mk (below_drew1 (Below.refl w5.heap.size w5))
  have hs11 : w5.drew.cell? ⟨g, 0, none⟩ = some (.map (some b)) ∧ w5.drew.cell? ⟨mb, 0, none⟩ = some (.int .u32 m.f0) ∧ w5.drew.cell? ⟨mb, 1, none⟩ = some (.int .u32 m.f1) ∧ w5.drew.cell? ⟨mb, 2, none⟩ = some (.int .u8 m.f2) ∧ w5.drew.cell? ⟨mb, 3, none⟩ = some (.string m.f3) := ⟨HV5.out.cell, c0w5, c1w5, c2w5, c3w5⟩
  refine start_ (n := 8) (S := (fun w' => w'.cell? ⟨g, 0, none⟩ = some (.map (some b)) ∧ w'.cell? ⟨mb, 0, none⟩ = some (.int .u32 m.f0) ∧ w'.cell? ⟨mb, 1, none⟩ = some (.int .u32 m.f1) ∧ w'.cell? ⟨mb, 2, none⟩ = some (.int .u8 m.f2) ∧ w'.cell? ⟨mb, 3, none⟩ = some (.string m.f3))) (ds := [7]) #[false, false, false, false, false, false, false, false] (by kernel_rfl) rfl rfl hs11 (fun hHeld => ?_)
  generalize w5.drew = we at HBe hs11 hHeld ⊢
  refine pure_ (i := 0) (N := some 45) (v := ?_) (a' := ?_) #[true, false, false, false, false, false, false, false] rfl rfl (by kernel_rfl) (fun _ _ _ h => h) (Or.inl ⟨by rfl, ?_⟩) ?_ ?_
  rotate_left
  · intro w'
    go_simp
    with_reducible rfl
  rotate_left
  · simp only [Act.put, List.setIfInBounds_toArray, List.set_cons_zero, List.set_cons_succ, i64_w, i32_w]
    rfl
  refine pure_ (i := 1) (N := some 46) (v := ?_) (a' := ?_) #[true, true, false, false, false, false, false, false] rfl rfl (by kernel_rfl) (fun _ _ _ h => h) (Or.inl ⟨by rfl, ?_⟩) ?_ ?_
  rotate_left
  · intro w'
    go_simp
    with_reducible rfl
  rotate_left
  · simp only [Act.put, List.setIfInBounds_toArray, List.set_cons_zero, List.set_cons_succ, i64_w, i32_w]
    rfl
  refine pure_ (i := 2) (N := some 47) (v := ?_) (a' := ?_) #[true, true, true, false, false, false, false, false] rfl rfl (by kernel_rfl) (fun _ _ _ h => h) (Or.inl ⟨by rfl, ?_⟩) ?_ ?_
  rotate_left
  · intro w'
    go_simp
    with_reducible rfl
  rotate_left
  · simp only [Act.put, List.setIfInBounds_toArray, List.set_cons_zero, List.set_cons_succ, i64_w, i32_w]
    rfl
  refine take_ (i := 3) (N := some 48) (v := ?_) (a' := ?_) #[true, true, true, true, false, false, false, false] rfl rfl (by kernel_rfl) (fun _ _ _ h => h) (Or.inl ⟨by rfl, ?_⟩) hHeld ?_ ?_
  rotate_left
  · rintro w' ⟨h0_, h1_, h2_, h3_, h4_⟩
    go_simp
    with_reducible rfl
  rotate_left
  · simp only [Act.put, List.setIfInBounds_toArray, List.set_cons_zero, List.set_cons_succ, i64_w, i32_w]
    rfl
  refine pure_ (i := 4) (N := some 49) (v := ?_) (a' := ?_) #[true, true, true, true, true, false, false, false] rfl rfl (by kernel_rfl) (fun _ _ _ h => h) (Or.inl ⟨by rfl, ?_⟩) ?_ ?_
  rotate_left
  · intro w'
    go_simp
    with_reducible rfl
  rotate_left
  · simp only [Act.put, List.setIfInBounds_toArray, List.set_cons_zero, List.set_cons_succ, i64_w, i32_w]
    rfl
  refine take_ (i := 5) (N := some 50) (v := ?_) (a' := ?_) #[true, true, true, true, true, true, false, false] rfl rfl (by kernel_rfl) (fun _ _ _ h => h) (Or.inl ⟨by rfl, ?_⟩) hHeld ?_ ?_
  rotate_left
  · rintro w' ⟨h0_, h1_, h2_, h3_, h4_⟩
    go_simp
    with_reducible rfl
  rotate_left
  · simp only [Act.put, List.setIfInBounds_toArray, List.set_cons_zero, List.set_cons_succ, i64_w, i32_w]
    rfl
  refine take_ (i := 6) (N := some 51) (v := ?_) (a' := ?_) #[true, true, true, true, true, true, true, false] rfl rfl (by kernel_rfl) (fun _ _ _ h => h) (Or.inl ⟨by rfl, ?_⟩) hHeld ?_ ?_
  rotate_left
  · rintro w' ⟨h0_, h1_, h2_, h3_, h4_⟩
    go_simp
    with_reducible rfl
  rotate_left
  · simp only [Act.put, List.setIfInBounds_toArray, List.set_cons_zero, List.set_cons_succ, i64_w, i32_w]
    rfl
  obtain ⟨w6, hup, hv6, hg6⟩ := (HV5.out.below HBe.out).put h0 h1 (by omega)
  have HV6 := Aside0.mk hv6
  have HG6 := Aside0.mk hg6
  unfold memV at hup
  clear hv6 hg6
  refine last_ (i := 7) (N := none) #[true, true, true, true, true, true, true, true] rfl rfl (by kernel_rfl) (by decide) (fun K hK => ?_)
  refine skip_ (w1 := w6) (by rfl) rfl ?_ ?_
  · go_simp
    try with_reducible rfl
  refine hK.out _ _ ?_
  clear hK K
  refine done_ (by kernel_rfl) ?_
  go_wp2
  refine bodyPost_ret (results_tmp2 rfl _ _ _) rfl ?_
  exact ⟨rfl, HV6.out, VF.then (below_step HB5.out HBe.out) HG6.out⟩
theorem merge_calls (w : World) (g b : Nat) (l : List Mem) (m : Mem) (h0 : 0 ≤ m.f0) (h1 : m.f0 ≤ 4294967295) (hV : Vw w g b l) (hl : l.length ≤ 100000) :
    Calls Try.prog 17 #[.pointer (some ⟨g, 0, none⟩), memV m] w fun e w' => e = .returned (.tuple #[.bool (mergeM l m).1, .int .i64 (mergeM l m).2.1]) ∧ Vw w' g b (mergeM l m).2.2 ∧ VF w w' b := by
  cases hm : mayM m with
  | false =>
    have e : mergeM l m = (false, 170, l) := by unfold mergeM; rw [if_pos hm]
    rw [e]
    exact merge_bad w g b l m h0 h1 hV hl hm
  | true =>
    cases hgl : getL l m.f0 with
    | some y =>
      by_cases hc : cmpM m y ≤ 0
      · have e : mergeM l m = (false, 0, l) := by unfold mergeM; rw [if_neg (by simp [hm]), hgl]; simp only; rw [if_pos hc]
        rw [e]
        exact merge_weak w g b l m h0 h1 hV hl hm y hgl hc
      · have e : mergeM l m = (true, 0, putL m l) := by unfold mergeM; rw [if_neg (by simp [hm]), hgl]; simp only; rw [if_neg hc]
        rw [e]
        exact merge_strong w g b l m h0 h1 hV hl hm y hgl hc
    | none =>
      by_cases hc : 32 ≤ l.length
      · have e : mergeM l m = (false, 3, l) := by unfold mergeM; rw [if_neg (by simp [hm]), hgl]; simp only; rw [if_pos hc]
        rw [e]
        exact merge_full w g b l m h0 h1 hV hl hm hgl hc
      · have e : mergeM l m = (true, 0, putL m l) := by unfold mergeM; rw [if_neg (by simp [hm]), hgl]; simp only; rw [if_neg hc]
        rw [e]
        exact merge_new w g b l m h0 h1 hV hl hm hgl hc
theorem merge_length (l : List Mem) (m : Mem) (h : Rises l) (hl : l.length ≤ 32) : (mergeM l m).2.2.length ≤ 32 := by
  unfold mergeM
  split
  · exact hl
  · split
    · rename_i y hy
      split
      · exact hl
      · show (putL m l).length ≤ 32
        rw [length_putL h, hy]
        simpa using hl
    · rename_i hn
      split
      · exact hl
      · show (putL m l).length ≤ 32
        rw [length_putL h, hn]
        simp
        omega
end Go.Proofs.Ytognmibankcefaa.Print
