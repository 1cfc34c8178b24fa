/- A view of members, begun at a place, walked. -/
import Derived.Test.YtognmibankcefaaXFewM
import Derived.Test.YtognmibankcefaaXRises
namespace Go.Proofs.Ytognmibankcefaa.Print
open Go.RowKit Go.Maps Go.ChangeMaps Go.Proofs.YtognmibankcefaaW.PrintWords Go.Proofs.YtognmibankcefaaW.PrintLast Go.Proofs.YtognmibankcefaaW.PrintMore
set_option linter.unusedVariables false
set_option linter.unusedSimpArgs false
/-- members, begun at a place -/
def rot (l : List Mem) (p : Nat) : List Mem := (List.range l.length).map (fun i => rd_T25 l (((i + p) % l.length : Nat) : Int))
theorem rot_length (l : List Mem) (p : Nat) : (rot l p).length = l.length := by unfold rot; simp
theorem rot_at (l : List Mem) (p k : Nat) (h : k < l.length) : (rot l p)[k]? = some (rd_T25 l (((k + p) % l.length : Nat) : Int)) := by
  unfold rot
  rw [List.getElem?_map, List.getElem?_range h]
  rfl
theorem rd_mem (l : List Mem) (k : Nat) (h : k < l.length) : rd_T25 l (k : Int) = l[k] := by
  unfold rd_T25
  rw [Int.toNat_natCast, List.getD_eq_getElem?_getD, List.getElem?_eq_getElem h]
  rfl
theorem rot_mem (l : List Mem) (p : Nat) (y : Mem) : y ∈ rot l p ↔ y ∈ l := by
  unfold rot
  rw [List.mem_map]
  constructor
  · rintro ⟨i, hi, rfl⟩
    have hi := List.mem_range.1 hi
    rw [rd_mem _ _ (Nat.mod_lt _ (by omega))]
    exact List.getElem_mem _
  · intro hy
    obtain ⟨j, hj, rfl⟩ := List.getElem_of_mem hy
    have hn : 0 < l.length := by omega
    refine ⟨(j + (l.length - p % l.length)) % l.length, List.mem_range.2 (Nat.mod_lt _ hn), ?_⟩
    have hp := Nat.mod_lt p hn
    have e : ((j + (l.length - p % l.length)) % l.length + p) % l.length = j := by
      rw [Nat.mod_add_mod]
      have e1 : j + (l.length - p % l.length) + p = j + l.length * (p / l.length + 1) := by
        have := Nat.div_add_mod p l.length
        rw [Nat.mul_add]
        omega
      rw [e1, Nat.add_mul_mod_self_left, Nat.mod_eq_of_lt hj]
    rw [e, rd_mem _ _ hj]
set_option maxHeartbeats 8000000 in
set_option maxRecDepth 100000 in
theorem merged_calls (w : World) (A : Option Addr) (c : Nat) (l : List Mem) (p : Nat) (hC : Kd.C k25 w A l.length l) (hc : l.length ≤ c) (hl : l.length ≤ 1000000) (hp : p ≤ 255) (hwf : ∀ x ∈ l, 0 ≤ x.f0 ∧ x.f0 ≤ 4294967295) :
    Calls Try.prog 15 #[.slice A l.length c, .int .i64 p] w fun e w' => ∃ g b, e = .returned (.pointer (some ⟨g, 0, none⟩)) ∧ Vw w' g b (runM [] (rot l p)) ∧ (runM [] (rot l p)).length ≤ 32 ∧ w.heap.size ≤ g ∧ w.heap.size ≤ b ∧ Below w.heap.size w w' := by
  have hu25 := Try.underlying25
  have HC := Aside0.mk hC
  have HWF := Aside0.mk hwf
  clear hC hwf
  go_enter Try.func15, Try.ntmps15
  go_upto_region 2 with (first | (go_at_call 21; (with_reducible refine (new_calls _).mono ?_); rintro e w1 ⟨g, b, rfl, h1_, h2_, h3_, h4_⟩; have HV1 := Aside0.mk h1_; have HG := Aside0.mk (And.intro h2_ h3_); have HB1 := Aside0.mk h4_; clear h1_ h2_ h3_ h4_))
  go_wp2
  go_loopw [6] (fun i wr => ∃ k : Nat, k ≤ l.length ∧ i = .int .i64 k ∧ Aside0 (Vw wr g b (runM [] ((rot l p).take k)) ∧ (runM [] ((rot l p).take k)).length ≤ 32) ∧ Aside0 (Below w.heap.size w wr)) (fun i _ => l.length - (intOf i).toNat)
  case atStart => exact ⟨0, Nat.zero_le _, rfl, ⟨HV1.out, by simp [runM]⟩, HB1⟩
  case round =>
    clear HV1 HB1
    obtain ⟨k, hk, rfl, HV, HB⟩ := hrel
    by_cases hlt : (k : Int) < (l.length : Int)
    · have HLT := Aside0.mk (show k < l.length by omega)
      have hk0 : 0 ≤ (k : Int) := by omega
      obtain ⟨q, hq⟩ : ∃ q, q = (k + p) % l.length := ⟨_, rfl⟩
      have hql : (q : Int) < (l.length : Int) := by have := Nat.mod_lt (k + p) (show 0 < l.length by omega); omega
      have hq0 : 0 ≤ (q : Int) := by omega
      have hn0 : (l.length : Int) ≠ 0 := by omega
      have hrem : Int.tmod ((k : Int) + (p : Int)) (l.length : Int) = (q : Int) := by
        rw [hq, Int.tmod_eq_emod_of_nonneg (by omega)]
        simp
      obtain ⟨ad, eA, x0_, x1_, x2_, x3_⟩ := at_T25 (Kd.C_below HC.out HB.out) (q : Int) hq0 hql
      cases eA
      simp only [Int.toNat_natCast] at x0_ x1_ x2_ x3_
      obtain ⟨x, hx⟩ : ∃ x, x = rd_T25 l (q : Int) := ⟨_, rfl⟩
      have HX := Aside0.mk (wf_at HWF.out (q : Int))
      have hxa := rot_at l p k (by omega)
      rw [← hq, ← hx] at hxa
      rw [← hx] at HX x0_ x1_ x2_ x3_
      have HXA := Aside0.mk hxa
      clear hx hxa
      obtain ⟨L, hL⟩ : ∃ L, L = runM [] ((rot l p).take k) := ⟨_, rfl⟩
      rw [← hL] at HV
      have HL := Aside0.mk hL
      have hl32 : (mergeM L x).2.2.length ≤ 32 := merge_length L x HV.out.1.ord HV.out.2
      have HM : Aside0 (Calls Try.prog 17 #[.pointer (some ⟨g, 0, none⟩), .agg #[.int .u32 x.f0, .int .u32 x.f1, .int .u8 x.f2, .string x.f3]] wr fun e w' => ∃ t, e = .returned t ∧ Vw w' g b (mergeM L x).2.2 ∧ VF wr w' b) := ⟨(merge_calls wr g b L x HX.out.1 HX.out.2 HV.out.1 (by have := HV.out.2; omega)).mono fun e w' h => ⟨_, h.1, h.2⟩⟩
      have HL32 := Aside0.mk hl32
      clear hL hl32 hq
      go_wp2_with (first | (go_at_call 17; (with_reducible refine HM.out.mono ?_); rintro e w2 ⟨t, rfl, h1_, h2_⟩; have HV2 := Aside0.mk h1_; have HB2 := Aside0.mk (HB.out.trans (VF.below h2_ HG.out.2 HB.out.size)); clear h1_ h2_ x0_ x1_ x2_ x3_))
      go_roundw
      case rel => exact ⟨k + 1, by have := HLT.out; omega, by go_num, ⟨by rw [runM_take _ _ _ _ HXA.out, ← HL.out]; exact HV2.out, by rw [runM_take _ _ _ _ HXA.out, ← HL.out]; exact HL32.out⟩, HB2⟩
      case measure => have := HLT.out; simp [intOf, wrap64]; omega
    · have e : k = l.length := by omega
      subst e
      have et : (rot l p).take l.length = rot l p := List.take_of_length_le (by rw [rot_length]; exact Nat.le_refl _)
      rw [et] at HV
      go_wp2
      go_ret
      exact ⟨g, rfl, b, HV.out.1, HV.out.2, HG.out.1, HG.out.2, HB.out⟩
end Go.Proofs.Ytognmibankcefaa.Print
