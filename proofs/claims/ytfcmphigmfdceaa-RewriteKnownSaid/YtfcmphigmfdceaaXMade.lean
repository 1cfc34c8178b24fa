/- rewrite's made, walked as an iterator: the questions that rules make of one, in order. -/
import Derived.Test.YtfcmphigmfdceaaXRuleOf
import Derived.RangeFuncNested
import Derived.RangeFuncBound
import Derived.RangeFuncCalls
import Derived.RangeFuncLeaves
import Derived.RangeFuncFrom
import Derived.Shelf.Abstract
import Derived.Shelf.RegionOpen
import Derived.OwnWalkIn
import Derived.TacticsInMore
import Derived.LoopNIn
import Derived.LoopIn
import Derived.Outline
namespace Go.Proofs.Ytfcmphigmfdceaa.Print
open Go.RowKit Go.Shelf Go.Proofs.YtfcmphigmfdceaaW.PrintWords Go.Proofs.YtfcmphigmfdceaaW.PrintLast Go.Proofs.YtfcmphigmfdceaaW.PrintMore
attribute [local go_sem] Oper.semAt_some
set_option linter.unusedVariables false
set_option linter.unusedSimpArgs false
def ruleV (x : S38) : Value := .agg #[.int .u8 x.f0, .string x.f1, .string x.f2, .int .u16 x.f3, .int .u16 x.f4]
def qV (x : S32) : Value := .agg #[.string x.f0, .int .u16 x.f1, .int .u16 x.f2]
/-- what a rule makes of a question: the question, and whether it fits -/
def DoCalls (j : Nat) (x : S38) (q : S32) (t : S32 × Bool) : Prop := ∀ W : World, Calls Try.prog j #[.agg #[.int .u8 x.f0, .string x.f1, .string x.f2, .int .u16 x.f3, .int .u16 x.f4], .agg #[.string q.f0, .int .u16 q.f1, .int .u16 q.f2]] W fun e w' => e = .returned (.tuple #[.agg #[.string t.1.f0, .int .u16 t.1.f1, .int .u16 t.1.f2], .bool t.2]) ∧ Below W.heap.size W w'
def mades (D : S38 → S32 × Bool) (l : List S38) : List S32 := l.filterMap fun x => if (D x).2 then some (D x).1 else none
theorem mades_yes {D : S38 → S32 × Bool} {l : List S38} {k : Nat} {x : S38} {y : S32} (h : l[k]? = some x) (hD : D x = (y, true)) : mades D (l.take (k + 1)) = mades D (l.take k) ++ [y] := by
  rw [take_succ' h]; unfold mades; rw [List.filterMap_append]; simp [hD]
theorem mades_no {D : S38 → S32 × Bool} {l : List S38} {k : Nat} {x : S38} {y : S32} (h : l[k]? = some x) (hD : D x = (y, false)) : mades D (l.take (k + 1)) = mades D (l.take k) := by
  rw [take_succ' h]; unfold mades; rw [List.filterMap_append]; simp [hD]
theorem mades_len (D : S38 → S32 × Bool) (l : List S38) (k : Nat) : (mades D (l.take k)).length ≤ k := by
  refine Nat.le_trans (List.length_filterMap_le _ _) ?_
  rw [List.length_take]; omega
theorem mades_pre (D : S38 → S32 × Bool) (l : List S38) (k : Nat) : mades D (l.take k) <+: mades D l := by
  conv => rhs; rw [← List.take_append_drop k l]
  unfold mades
  rw [List.filterMap_append]
  exact List.prefix_append _ _
theorem rd_T38_at {l : List S38} {k : Nat} {x : S38} (h : l[k]? = some x) : rd_T38 l (k : Int) = x := by simp [rd_T38, List.getD_eq_getElem?_getD, h]
theorem ix1 (a b c d e : Value) (W : World) : (Instr.index 84 (.agg #[a, b, c, d, e]) (.int .u8 1)).run Try.prog W = .ok b W := by kernel_rfl
theorem ix2 (a b c d e : Value) (W : World) : (Instr.index 84 (.agg #[a, b, c, d, e]) (.int .u8 2)).run Try.prog W = .ok c W := by kernel_rfl
theorem ix3 (a b c d e : Value) (W : World) : (Instr.index 84 (.agg #[a, b, c, d, e]) (.int .u8 3)).run Try.prog W = .ok d W := by kernel_rfl
theorem ix4 (a b c d e : Value) (W : World) : (Instr.index 84 (.agg #[a, b, c, d, e]) (.int .u8 4)).run Try.prog W = .ok e W := by kernel_rfl
set_option maxHeartbeats 4000000 in
set_option maxRecDepth 100000 in
theorem made1_stops (n : Nat) (hn : 1 ≤ n) (Bl Bq : Nat) (A : Option Addr) (c : Nat) (l : List S38) (q : S32) (D : S38 → S32 × Bool) (w0 : World)
    (hl : w0.cell? ⟨Bl, 0, none⟩ = some (.slice A l.length c)) (hq0 : w0.cell? ⟨Bq, 0, none⟩ = some (.string q.f0)) (hq1 : w0.cell? ⟨Bq, 1, none⟩ = some (.int .u16 q.f1)) (hq2 : w0.cell? ⟨Bq, 2, none⟩ = some (.int .u16 q.f2))
    (hC : k38.C w0 A l.length l)
    (hdo : ∀ x ∈ l, (x.f0 = 1 ∧ DoCalls 40 x q (D x)) ∨ (x.f0 = 2 ∧ DoCalls 41 x q (D x)) ∨ (x.f0 = 3 ∧ DoCalls 42 x q (D x)) ∨ (x.f0 = 4 ∧ DoCalls 43 x q (D x))) :
    SeqStopsK Fence.wide n Try.prog 39 #[.pointer (some ⟨Bl, 0, none⟩), .pointer (some ⟨Bq, 0, none⟩)] (fun x : S32 => #[.agg #[.string x.f0, .int .u16 x.f1, .int .u16 x.f2]]) (Below w0.heap.size) (fun xs => xs = mades D l) (fun pre => pre <+: mades D l) l.length w0 := by
  intro lp J Jx W hW hJ hJx hY h0
  have hml : l.length ≤ 9223372036854775807 := Kd.C_max hC
  have HC := Aside0.mk hC
  have HD := Aside0.mk hdo
  have HY := Aside0.mk hY
  have HJ := Aside0.mk (show ∀ s W1 W2 row, J s W1 → W1.grownBy W2 row → (∀ r, row = some r → W.heap.size ≤ r ∧ ∃ o : Obj, W1.heap[r]? = some o ∧ o.isWalk = true) → J s W2 from hJ)
  have H0 := Aside0.mk h0
  have HW := Aside0.mk hW
  have HQ := Aside0.mk (And.intro hq0 (And.intro hq1 hq2))
  replace hl := pw_cell_below hW hl
  clear hC hdo hY hJ h0 hW hq0 hq1 hq2
  refine callsIn_of_wp Try.func39 rfl trivial ?_ rfl
  simp only [Try.ntmps39, List.size_toArray, List.length_cons, List.length_nil, Nat.reduceAdd, Nat.reduceSub, Array.replicate_succ, Array.replicate_zero, List.push_toArray, List.append_toArray, List.nil_append, List.cons_append]
  gi_wp2
  gi_loopw [12] (fun i wr => ∃ k : Nat, k ≤ l.length ∧ i = .int .i64 k ∧ Aside0 (J (mades D (l.take k)) wr) ∧ Aside0 (Below w0.heap.size w0 wr)) (fun i wr => l.length - (intOf i).toNat)
  case atStart => exact ⟨0, Nat.zero_le _, rfl, by simpa [mades] using H0, HW⟩
  case round =>
    obtain ⟨k, hk, rfl, HJk, HB⟩ := hrel
    by_cases hlt : k < l.length
    · obtain ⟨x, hx⟩ : ∃ x, l[k]? = some x := ⟨l[k], List.getElem?_eq_getElem hlt⟩
      obtain ⟨ad, hA, hc0, hc1, hc2, hc3, hc4⟩ := at_T38 (Kd.C_below HC.out HB.out) (k : Int) (by omega) (by omega)
      rw [rd_T38_at hx] at hc0 hc1 hc2 hc3 hc4
      simp only [Int.toNat_natCast] at hc0 hc1 hc2 hc3 hc4
      subst hA
      have hx' := HD.out x (List.mem_of_getElem? hx)
      have hq0 := pw_cell_below HB.out HQ.out.1
      have hq1 := pw_cell_below HB.out HQ.out.2.1
      have hq2 := pw_cell_below HB.out HQ.out.2.2
      obtain ⟨⟨y0, y1, y2⟩, b, hD⟩ : ∃ y b, D x = (y, b) := ⟨_, _, rfl⟩
      have HX := Aside0.mk hx
      have HE := Aside0.mk hD
      rw [hD] at hx'
      obtain ⟨x0, x1, x2, x3, x4⟩ := x
      simp only at hx' hc0 hc1 hc2 hc3 hc4
      have hsz := HB.out.size
      have hin : Bq < wr.heap.size := World.block_lt_of_cell? wr _ hq0
      clear hx hD
      rcases hx' with ⟨rfl, hd⟩ | ⟨rfl, hd⟩ | ⟨rfl, hd⟩ | ⟨rfl, hd⟩
      all_goals
        have HDo := Aside0.mk hd
        clear hd
        have hi1 := ix1
        have hi2 := ix2
        have hi3 := ix3
        have hi4 := ix4
        cases b
        · have HM := Aside0.mk (mades_no HX.out HE.out)
          gi_wp2
          refine ⟨trivial, ?_⟩
          refine (callsIn_wide.2 (HDo.out _)).mono ?_
          rintro e w2 ⟨rfl, hb2⟩
          have HB2 := Aside0.mk (((HB.out.alloc HB.out.size _).alloc (by have := HB.out.size; simp; omega) _).trans (below_to hb2 (by have := HB.out.size; simp; omega)))
          have HJ2 := Aside0.mk (HJ.out _ _ _ none (HJ.out _ _ _ none (HJ.out _ _ _ none (HJ.out _ _ _ none HJk.out (World.grownBy_alloc _ _ none) (by simp)) (World.grownBy_alloc _ _ none) (by simp)) (grown_of_below hb2 none) (by simp)) (World.grownBy_alloc w2 (.cells #[.string y0, .int .u16 y1, .int .u16 y2] 32) none) (by simp))
          clear hb2
          gi_wp2
          refine ⟨fun _ h => (by cases h), ?_⟩
          gi_wp2
          go_roundw
          case rel => exact ⟨k + 1, by omega, by go_num, by rw [HM.out]; exact HJ2, ⟨HB2.out.alloc HB2.out.size _⟩⟩
          case measure => simp [intOf]; omega
        · have HM := Aside0.mk (mades_yes HX.out HE.out)
          gi_wp2
          refine ⟨trivial, ?_⟩
          refine (callsIn_wide.2 (HDo.out _)).mono ?_
          rintro e w2 ⟨rfl, hb2⟩
          have HB2 := Aside0.mk (((HB.out.alloc HB.out.size _).alloc (by have := HB.out.size; simp; omega) _).trans (below_to hb2 (by have := HB.out.size; simp; omega)))
          have HJ2 := Aside0.mk (HJ.out _ _ _ none (HJ.out _ _ _ none (HJ.out _ _ _ none (HJ.out _ _ _ none HJk.out (World.grownBy_alloc _ _ none) (by simp)) (World.grownBy_alloc _ _ none) (by simp)) (grown_of_below hb2 none) (by simp)) (World.grownBy_alloc w2 (.cells #[.string y0, .int .u16 y1, .int .u16 y2] 32) none) (by simp))
          clear hb2
          obtain ⟨fn, tmps, assign, body, hy, hR⟩ := HY.out (mades D (l.take k)) ⟨y0, y1, y2⟩ _ HJ2.out (by have := mades_len D l k; omega)
          gi_wp2
          refine hR.mono ?_
          rintro e W' (⟨rfl, hJ', hk'⟩ | ⟨rfl, hJx'⟩)
          · have HB3 := Aside0.mk ((HB2.out.alloc HB2.out.size _).trans hk')
            rw [← HM.out] at hJ'
            have HJ3 := Aside0.mk hJ'
            clear hJ' hk'
            gi_wp2
            go_roundw
            case rel => exact ⟨k + 1, by omega, by go_num, HJ3, HB3⟩
            case measure => simp [intOf]; omega
          · rw [← HM.out] at hJx'
            gi_wp2
            refine bodyPost_ret (results_none rfl _ _ _) rfl ?_
            exact ⟨⟨_, rfl⟩, .inr ⟨_, mades_pre D l (k + 1), hJx'⟩⟩
    · obtain rfl : k = l.length := by omega
      rw [List.take_length] at HJk
      gi_wp2
      go_end0
      exact ⟨⟨_, rfl⟩, .inl ⟨_, rfl, HJk.out⟩⟩
end Go.Proofs.Ytfcmphigmfdceaa.Print
