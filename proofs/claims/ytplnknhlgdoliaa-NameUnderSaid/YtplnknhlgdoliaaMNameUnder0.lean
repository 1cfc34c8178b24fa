/- A part of the proof of NameUnderSaid: 13 texts in one. -/
import Derived.Test.YtplnknhlgdoliaaProg
import Derived.Below
import Derived.Deep.Draws
import Derived.Deep.AppendLies
import Derived.Maps.AppendAt
import Derived.OwnWalk
import Derived.Laws.BytesArg
import Derived.Laws.MakeOwn
import Derived.Laws.OwnMore
import Derived.Deep.OwnRows
import Derived.Tactics
import Derived.Lib.ConvBytes
import Derived.Laws.Slices
import Derived.WalkKit
import Derived.KernelRfl
import Derived.RowKit3
import Derived.Deep.LoopGhost
import Derived.Deep.QuietTactic
import Derived.BigQuiet
import Derived.WideLaws
import Derived.Deep.DeepCutAuto
import Derived.Deep.CutBlock
import Derived.Deep.RegionHeld3
import Derived.Laws.Rows
import Derived.Lib.AppendStr
import Derived.ArgAppend
import Derived.Laws.IdiomCopy
import Derived.OrdersHeld
import Derived.Laws.BitsLemmas
import Derived.RowKit
import Derived.Test.YtplnknhlgdoliaaWWords
import Derived.Test.YtplnknhlgdoliaaWLast
import Derived.Test.YtplnknhlgdoliaaWTab
import Derived.Test.YtplnknhlgdoliaaWFour
import Derived.Test.YtplnknhlgdoliaaWQPut
import Derived.Test.YtplnknhlgdoliaaWApart
import Derived.Test.YtplnknhlgdoliaaWArr
import Derived.Test.YtplnknhlgdoliaaWZeros
import Derived.Test.YtplnknhlgdoliaaWFoot
import Derived.Test.YtplnknhlgdoliaaWKept
import Derived.Test.YtplnknhlgdoliaaWShare
import Derived.Test.YtplnknhlgdoliaaWN
import Derived.Test.YtplnknhlgdoliaaWFootNe
import Derived.Test.YtplnknhlgdoliaaWAt
import Derived.Test.YtplnknhlgdoliaaWEqStruct
import Derived.Test.YtplnknhlgdoliaaWRepsOne
import Derived.Test.YtplnknhlgdoliaaWInv
import Derived.Test.YtplnknhlgdoliaaWInvWords
import Derived.Test.YtplnknhlgdoliaaWGuard
import Derived.Test.YtplnknhlgdoliaaWNEv
import Derived.Test.YtplnknhlgdoliaaWMore
import Derived.Lib.UnsafeStr
import Derived.Lib.Builder
import Derived.Shelf.Strings.Builder1
import Derived.Laws.AppendOwnNone
import Derived.Lib.OthersKept
import Derived.Lib.Hide
import Derived.Outline
import Derived.Shelf.Small.Strs
import Derived.Shelf.Strings.BuilderF
import Derived.Shelf.Strings.BuilderK
section
-- Written by a program of this session, built on the kit's print (it is not the print's own text).
namespace Go.Proofs.Ytplnknhlgdoliaa.Print
open Go.RowKit Go.Proofs.YtplnknhlgdoliaaW.PrintWords Go.Proofs.YtplnknhlgdoliaaW.PrintLast Go.Proofs.YtplnknhlgdoliaaW.PrintMore
attribute [local go_sem] max2_int min2_int max_two min_two max_three min_three max_four min_four   -- for this text's walks alone
set_option linter.unusedVariables false
set_option linter.unusedSimpArgs false



def errW : Option Int → Value
  | none => .nilIface
  | some c => .iface 0 (.int .i64 c)
theorem errW_none : errW none = .nilIface := rfl
theorem errW_some (c : Int) : errW (some c) = .iface 0 (.int .i64 c) := rfl

theorem info3 : (Try.prog.info? 3).map (fun i => (i.zero, i.size, i.bytes)) = some (some (.int .i64 0), 1, 8) := by kernel_rfl
theorem info5 : (Try.prog.info? 5).map (fun i => (i.zero, i.size, i.bytes)) = some (some (.int .u8 0), 1, 1) := by kernel_rfl
theorem info9 : (Try.prog.info? 9).map (fun i => (i.zero, i.size, i.bytes)) = some (some (.string ⟨#[]⟩), 1, 16) := by kernel_rfl
-- the values' own types
def rd_L2 (xs : List (List ByteArray)) (i : Int) : (List ByteArray) := xs.getD i.toNat ([] : List ByteArray)
theorem at_L2 {w : World} {A : Option Addr} {n : Nat} {xs : List (List ByteArray)} (h : Kd.C (Kd.slice 9 Kd.string) w A n xs) (i : Int) (h0 : 0 ≤ i) (h1 : i < n) : ∃ ad A0 c0, A = some ad ∧ w.cell? (ad.add i.toNat) = some (.slice A0 (rd_L2 xs i).length c0) ∧ (rd_L2 xs i).length ≤ c0 ∧ Kd.string.C w A0 (rd_L2 xs i).length (rd_L2 xs i) := by
  obtain ⟨ad, c, e, _, hK, hc0⟩ := Kd.C_get h ([] : List ByteArray) i h0 h1
  have hc : ∀ j u, c[j]? = some u → w.cell? (ad.add (i.toNat * 1 + j)) = some u := hc0
  obtain ⟨A0, c0, rfl, l0, g0⟩ := hK
  exact ⟨ad, A0, c0, e, by have hq := hc 0 _ rfl; rwa [Nat.mul_one, Nat.add_zero] at hq, l0, g0⟩

end Go.Proofs.Ytplnknhlgdoliaa.Print
end
section
-- Written by a program of this session, built on the kit's print (it is not the print's own text).
namespace Go.Proofs.Ytplnknhlgdoliaa.Print
open Go.RowKit Go.Proofs.YtplnknhlgdoliaaW.PrintWords Go.Proofs.YtplnknhlgdoliaaW.PrintLast Go.Proofs.YtplnknhlgdoliaaW.PrintMore
attribute [local go_sem] max2_int min2_int max_two min_two max_three min_three max_four min_four   -- for this text's walks alone
set_option linter.unusedVariables false
set_option linter.unusedSimpArgs false

/-! ### name_starts: function 43 -/
mutual
def name_starts.l0 : Nat → ByteArray → List Int → Int → Option (List Int × Bool)
  | 0, _, _, _ => none
  | k + 1, x0, x4, x5 => if x5 < (x0.size : Int) then (if 0 ≤ x5 then (name_starts.j1 k x0 x4 x5 ((bt x0 x5) != 0)) else (none)) else (name_starts.j1 k x0 x4 x5 false)
def name_starts.j1 : Nat → ByteArray → List Int → Int → Bool → Option (List Int × Bool)
  | 0, _, _, _, _ => none
  | k + 1, x0, x4, x5, x18 => if x18 = true then (if 0 ≤ x5 then (if x5 < (x0.size : Int) then (if (bt x0 x5) > 63 then (some (([] : List Int), false)) else (if x4.length < 17592186044416 then (name_starts.l0 k x0 (x4 ++ [x5]) (wrap64 (x5 + (wrap64 (1 + (wrap64 (bt x0 x5))))))) else (none))) else (none)) else (none)) else (some (x4, (x5 == (wrap64 ((x0.size : Int) - 1)))))
end
def name_starts.f (k : Nat) (a0 : ByteArray) : Option (List Int × Bool) := if (a0.size : Int) > 255 then (some (([] : List Int), false)) else (name_starts.l0 k a0 ([] : List Int) 0)
theorem name_starts.mono_l : ∀ k, (∀ y0 y1 y2, LeO (name_starts.l0 k y0 y1 y2) (name_starts.l0 (k + 1) y0 y1 y2)) ∧ (∀ y0 y1 y2 y3, LeO (name_starts.j1 k y0 y1 y2 y3) (name_starts.j1 (k + 1) y0 y1 y2 y3))
  | 0 => ⟨fun _ _ _ r h => by simp [name_starts.l0] at h, fun _ _ _ _ r h => by simp [name_starts.j1] at h⟩
  | k + 1 => by
    obtain ⟨ih0, ih1⟩ := name_starts.mono_l k
    refine ⟨?_, ?_⟩
    · intro y0 y1 y2
      unfold name_starts.l0
      repeat' first
      | (with_reducible exact ih0 _ _ _)
      | (with_reducible exact ih1 _ _ _ _)
      | (with_reducible exact LeO.refl _)
      | (with_reducible exact LeO.none _)
      | (with_reducible refine LeO.ite ?_ ?_)
      | (with_reducible refine LeO.bind ?_ (fun _ => ?_))
      | exact ih0 _ _ _
      | exact ih1 _ _ _ _
      | exact LeO.none _
      | refine LeO.ite ?_ ?_
      | refine LeO.bind ?_ (fun _ => ?_)
    · intro y0 y1 y2 y3
      unfold name_starts.j1
      repeat' first
      | (with_reducible exact ih0 _ _ _)
      | (with_reducible exact ih1 _ _ _ _)
      | (with_reducible exact LeO.refl _)
      | (with_reducible exact LeO.none _)
      | (with_reducible refine LeO.ite ?_ ?_)
      | (with_reducible refine LeO.bind ?_ (fun _ => ?_))
      | exact ih0 _ _ _
      | exact ih1 _ _ _ _
      | exact LeO.none _
      | refine LeO.ite ?_ ?_
      | refine LeO.bind ?_ (fun _ => ?_)
theorem name_starts.mono : ∀ a0 k, LeO (name_starts.f k a0) (name_starts.f (k + 1) a0) := by
  intro a0 k
  obtain ⟨ih0, ih1⟩ := name_starts.mono_l k
  unfold name_starts.f
  repeat' first
      | (with_reducible exact ih0 _ _ _)
      | (with_reducible exact ih1 _ _ _ _)
      | (with_reducible exact LeO.refl _)
      | (with_reducible exact LeO.none _)
      | (with_reducible refine LeO.ite ?_ ?_)
      | (with_reducible refine LeO.bind ?_ (fun _ => ?_))
      | exact ih0 _ _ _
      | exact ih1 _ _ _ _
      | exact LeO.none _
      | refine LeO.ite ?_ ?_
      | refine LeO.bind ?_ (fun _ => ?_)
set_option maxHeartbeats 8000000 in
set_option maxRecDepth 100000 in
theorem name_starts.calls (k : Nat) (a0 : ByteArray) (r1 : List Int) (r2 : Bool) (w : World) (h : name_starts.f k a0 = some (r1, r2)) :
    Calls Try.prog 43 #[.string a0] w fun e w' => ∃ v0_ : Value, e = .returned (.tuple #[v0_, .bool r2]) ∧ Kd.R (Kd.int .i64) 3 w' w.heap.size (fun _ => True) v0_ r1 ∧ Below w.heap.size w w' := by
  have HB := Aside0.mk (Below.refl w.heap.size w)
  have H : (if (a0.size : Int) > 255 then (some (([] : List Int), false)) else (name_starts.l0 k a0 ([] : List Int) 0)) = some (r1, r2) := h
  clear h
  by_cases c2 : (a0.size : Int) > 255
  · rw [if_pos c2] at H
    have c2b0 : decide (255 < (a0.size : Int)) = true := decide_eq_true c2
    have c2b1 : decide (255 < a0.size) = true := decide_eq_true (by omega)
    clear c2
    simp only [Option.some.injEq, Prod.mk.injEq] at H
    obtain ⟨rfl, rfl⟩ := H
    go_enter Try.func43, Try.ntmps43
    go_wp2
    go_ret2
    exact ⟨_, by first | rfl | (simp [errW_none, errW_some] <;> rfl) | (simp [*, errW_none, errW_some] <;> rfl), by first | exact Kd.R_nil _ _ _ _ _ | exact Kd.N_nil _ _ _ _ _ | exact Kd.V_nil _ _ _ _ _ | exact Kd.Q_nil _ _ _ _ _ | exact Kd.S_nil _ _ _ _ _, by repeat (first | (with_reducible first | exact HB.out | apply below_alloc | apply pw_below_drewN | apply below_drew1) | exact HB.out)⟩
  · rw [if_neg c2] at H
    have c2b0 : decide (255 < (a0.size : Int)) = false := decide_eq_false c2
    have c2b1 : decide (255 < a0.size) = false := decide_eq_false (by omega)
    clear c2
    have H' := Aside0.mk H
    clear H
    go_enter Try.func43, Try.ntmps43
    go_wp2
    go_loopg [4, 5] k (fun kq v4 v5 w' => ∃ (x4_1 : List Int) (x5_1 : Int), v5 = .int .i64 x5_1 ∧ Aside0 (name_starts.l0 kq a0 x4_1 x5_1 = some (r1, r2)) ∧ Aside0 (kq ≤ k) ∧ Aside0 (Kd.R (Kd.int .i64) 3 w' w.heap.size (fun _ => True) v4 x4_1) ∧ Aside0 (Below w.heap.size w w'))
    case atStart => exact ⟨(([] : List Int)), (0), (by first | rfl | (simp; done) | (simp [*]; done)), H', ⟨Nat.le_refl _⟩, ⟨by first | exact Kd.R_nil _ _ _ _ _ | exact Kd.N_nil _ _ _ _ _ | exact Kd.V_nil _ _ _ _ _ | exact Kd.Q_nil _ _ _ _ _ | exact Kd.S_nil _ _ _ _ _⟩, ⟨by repeat (first | (with_reducible first | exact HB.out | apply below_alloc | apply pw_below_drewN | apply below_drew1) | exact HB.out)⟩⟩
    case round =>
      clear H'
      try clear c2
      try clear c2b0
      try clear c2b1
      try clear p2
      obtain ⟨x4_1, x5_1, rfl, HA, HK1, HO_4, HB⟩ := hrel
      cases gk with
      | zero => exact absurd HA.out (by simp [name_starts.l0])
      | succ k1 =>
        have H := HA.out
        clear HA
        simp only [name_starts.l0] at H
        have HC3 := Aside0.mk H
        clear H
        go_upto_region 5 with (fail)
        go_cut [18] (fun v18 wc => ∃ (kq : Nat) (x18_2 : Bool), v18 = .bool x18_2 ∧ Aside0 (name_starts.j1 kq a0 x4_1 x5_1 x18_2 = some (r1, r2)) ∧ Aside0 (kq ≤ k1) ∧ Aside0 (Kd.R (Kd.int .i64) 3 wc w.heap.size (fun _ => True) u4 x4_1) ∧ Aside0 (Below w.heap.size w wc))
        case first =>
          have H := HC3.out
          clear HC3
          by_cases c4 : x5_1 < (a0.size : Int)
          · rw [if_pos c4] at H
            have c4b0 : decide (x5_1 < (a0.size : Int)) = true := decide_eq_true c4
            clear c4
            (first | rw [c4b0] | (simp only [i64_w, i32_w]; rw [c4b0]) | skip)
            by_cases c5 : 0 ≤ x5_1
            · rw [if_pos c5] at H
              have c5b0 : decide (0 ≤ x5_1) = true := decide_eq_true c5
              clear c5
              have H' := Aside0.mk H
              clear H
              have p6 : 0 ≤ (x5_1 : Int) := of_decide_eq_true (by first | (with_reducible assumption) | assumption)
              have q6 : x5_1 < (a0.size : Int) := of_decide_eq_true (by first | (with_reducible assumption) | assumption)
              have hx6 := bt_at a0 x5_1
              replace p6 := eq_true p6
              replace q6 := eq_true q6
              go_wp2
              go_meet
              case rel => exact ⟨_, (((bt a0 x5_1) != 0)), (by first | rfl | (simp; done) | (simp [*]; done)), H', ⟨by have := HK1.out; first | omega | exact Nat.le_refl _⟩, ⟨by (with_reducible repeat (first | apply Kd.R_alloc | apply Kd.R_drewN | apply Kd.R_drew)); exact HO_4.out⟩, ⟨by repeat (first | (with_reducible first | exact HB.out | apply below_alloc | apply pw_below_drewN | apply below_drew1) | exact HB.out)⟩⟩
            · rw [if_neg c5] at H
              exact absurd H (by simp)
          · rw [if_neg c4] at H
            have c4b0 : decide (x5_1 < (a0.size : Int)) = false := decide_eq_false c4
            clear c4
            (first | rw [c4b0] | (simp only [i64_w, i32_w]; rw [c4b0]) | skip)
            have H' := Aside0.mk H
            clear H
            go_wp2
            go_meet
            case rel => exact ⟨_, (false), (by first | rfl | (simp; done) | (simp [*]; done)), H', ⟨by have := HK1.out; first | omega | exact Nat.le_refl _⟩, ⟨by (with_reducible repeat (first | apply Kd.R_alloc | apply Kd.R_drewN | apply Kd.R_drew)); exact HO_4.out⟩, ⟨by repeat (first | (with_reducible first | exact HB.out | apply below_alloc | apply pw_below_drewN | apply below_drew1) | exact HB.out)⟩⟩
        case rest =>
          clear HC3
          try clear c2
          try clear c2b0
          try clear c2b1
          try clear p2
          try clear c4
          try clear c4b0
          try clear c5
          try clear c5b0
          try clear p6
          try clear q6
          try clear hx6
          try clear p2
          try clear p6
          try clear q6
          obtain ⟨kq, x18_2, rfl, HA, HJ2, HO_4, HB⟩ := hcut
          cases kq with
          | zero => exact absurd HA.out (by simp [name_starts.j1])
          | succ kj2 =>
            have H := HA.out
            clear HA
            simp only [name_starts.j1] at H
            by_cases c7 : x18_2 = true
            · subst c7
              have H1 : (if 0 ≤ x5_1 then (if x5_1 < (a0.size : Int) then (if (bt a0 x5_1) > 63 then (some (([] : List Int), false)) else (if x4_1.length < 17592186044416 then (name_starts.l0 kj2 a0 (x4_1 ++ [x5_1]) (wrap64 (x5_1 + (wrap64 (1 + (wrap64 (bt a0 x5_1))))))) else (none))) else (none)) else (none)) = some (r1, r2) := by rw [if_pos rfl] at H; exact H
              clear H
              have H := H1
              clear H1
              by_cases c8 : 0 ≤ x5_1
              · rw [if_pos c8] at H
                have c8b0 : decide (0 ≤ x5_1) = true := decide_eq_true c8
                clear c8
                by_cases c9 : x5_1 < (a0.size : Int)
                · rw [if_pos c9] at H
                  have c9b0 : decide (x5_1 < (a0.size : Int)) = true := decide_eq_true c9
                  clear c9
                  by_cases c11 : (bt a0 x5_1) > 63
                  · rw [if_pos c11] at H
                    have c11b0 : decide (63 < (bt a0 x5_1)) = true := decide_eq_true c11
                    clear c11
                    simp only [Option.some.injEq, Prod.mk.injEq] at H
                    obtain ⟨rfl, rfl⟩ := H
                    have p10 : 0 ≤ (x5_1 : Int) := of_decide_eq_true (by first | (with_reducible assumption) | assumption)
                    have q10 : x5_1 < (a0.size : Int) := of_decide_eq_true (by first | (with_reducible assumption) | assumption)
                    have hx10 := bt_at a0 x5_1
                    replace p10 := eq_true p10
                    replace q10 := eq_true q10
                    go_wp2
                    go_ret2
                    exact ⟨_, by first | rfl | (simp [errW_none, errW_some] <;> rfl) | (simp [*, errW_none, errW_some] <;> rfl), by first | exact Kd.R_nil _ _ _ _ _ | exact Kd.N_nil _ _ _ _ _ | exact Kd.V_nil _ _ _ _ _ | exact Kd.Q_nil _ _ _ _ _ | exact Kd.S_nil _ _ _ _ _, by repeat (first | (with_reducible first | exact HB.out | apply below_alloc | apply pw_below_drewN | apply below_drew1) | exact HB.out)⟩
                  · rw [if_neg c11] at H
                    have c11b0 : decide (63 < (bt a0 x5_1)) = false := decide_eq_false c11
                    clear c11
                    by_cases c12 : x4_1.length < 17592186044416
                    · rw [if_pos c12] at H
                      have LMc12 := Aside0.mk c12
                      clear c12
                      obtain ⟨y104, hy104⟩ : ∃ y_ : List Int, y_ = (x4_1 ++ [x5_1]) := ⟨_, rfl⟩
                      replace H : (name_starts.l0 kj2 a0 y104 (wrap64 (x5_1 + (wrap64 (1 + (wrap64 (bt a0 x5_1))))))) = some (r1, r2) := by first | (rw [hy104]; with_reducible exact H) | (have H2_ := (Option.bind_some _ _).symm.trans H; rw [hy104]; with_reducible exact H2_) | (have H2_ := (Option.bind_some _ _).symm.trans H; with_reducible exact H2_) | with_reducible exact H | (rw [hy104]; exact H) | exact H
                      have Ny104 := Aside0.mk hy104
                      clear hy104
                      have H' := Aside0.mk H
                      clear H
                      have p10 : 0 ≤ (x5_1 : Int) := of_decide_eq_true (by first | (with_reducible assumption) | assumption)
                      have q10 : x5_1 < (a0.size : Int) := of_decide_eq_true (by first | (with_reducible assumption) | assumption)
                      have hx10 := bt_at a0 x5_1
                      replace p10 := eq_true p10
                      replace q10 := eq_true q10
                      go_wp2_with (first | ((with_reducible refine gate_builtin (b := .append) (xs := #[.tmp 23, .tmp 25]) rfl ?_); at_builtin; refine Kd.R_append (Kd.int .i64) (w0 := w) w.heap.size rfl (.tmp 23) (.tmp 25) 55 3 (.int .i64 0) 8 rfl Try.underlying55 info3 rfl (by decide) (by omega) u4 x4_1 x5_1 [.int .i64 x5_1] (fun _ => True) (fun _ => False) rfl rfl ?aP (fun _ hk => hk.elim) ?aF ?aO ?aB ?aS ?aL ?_; (case aP => exact rfl); (case aB => exact (by repeat (first | (with_reducible first | exact HB.out | apply below_alloc | apply pw_below_drewN | apply below_drew1) | exact HB.out))); (case aF => exact (fun _ _ => trivial)); (case aO => exact (by (with_reducible repeat (first | apply Kd.R_alloc | apply Kd.R_drewN | apply Kd.R_drew)); exact HO_4.out)); (case aS => exact (below_size (by repeat (first | (with_reducible first | exact HB.out | apply below_alloc | apply pw_below_drewN | apply below_drew1) | exact HB.out)))); (case aL => have := LMc12.out; omega); intro v105 w14 ho hb hg hat; rw [← Ny104.out] at ho; have n0_ := Aside0.mk (hb); have n1_ := Aside0.mk (ho); clear HB; clear HO_4; have HB := n0_; have HO106 := n1_; clear n0_ n1_; clear ho hb hg hat; have p13 : 0 ≤ (x5_1 : Int) := of_decide_eq_true (by first | (with_reducible assumption) | assumption); have q13 : x5_1 < (a0.size : Int) := of_decide_eq_true (by first | (with_reducible assumption) | assumption); have hx13 := bt_at a0 x5_1; replace p13 := eq_true p13; replace q13 := eq_true q13))
                      go_roundg kj2
                      case measure => have := HK1.out; have := HJ2.out; omega
                      case rel => exact ⟨(y104), (wrap64 (x5_1 + (wrap64 (1 + (wrap64 (bt a0 x5_1)))))), (by first | rfl | (simp; done) | (simp [*]; done)), H', ⟨by have := HK1.out; have := HJ2.out; omega⟩, ⟨by (with_reducible repeat (first | apply Kd.R_alloc | apply Kd.R_drewN | apply Kd.R_drew)); exact HO106.out⟩, ⟨by repeat (first | (with_reducible first | exact HB.out | apply below_alloc | apply pw_below_drewN | apply below_drew1) | exact HB.out)⟩⟩
                    · rw [if_neg c12] at H
                      exact absurd H (by simp)
                · rw [if_neg c9] at H
                  exact absurd H (by simp)
              · rw [if_neg c8] at H
                exact absurd H (by simp)
            · replace c7 := Bool.eq_false_iff.mpr c7
              subst c7
              have H1 : (some (x4_1, (x5_1 == (wrap64 ((a0.size : Int) - 1))))) = some (r1, r2) := by rw [if_neg (show ¬ (false = true) by decide)] at H; exact H
              clear H
              have H := H1
              clear H1
              simp only [Option.some.injEq, Prod.mk.injEq] at H
              obtain ⟨rfl, rfl⟩ := H
              go_wp2
              go_ret2
              exact ⟨_, by first | rfl | (simp [errW_none, errW_some] <;> rfl) | (simp [*, errW_none, errW_some] <;> rfl), by (with_reducible repeat (first | apply Kd.R_alloc | apply Kd.R_drewN | apply Kd.R_drew)); exact HO_4.out, by repeat (first | (with_reducible first | exact HB.out | apply below_alloc | apply pw_below_drewN | apply below_drew1) | exact HB.out)⟩

end Go.Proofs.Ytplnknhlgdoliaa.Print
end
section
-- Written by a program of this session, built on the kit's print (it is not the print's own text).
namespace Go.Proofs.Ytplnknhlgdoliaa.Print
open Go.RowKit Go.Proofs.YtplnknhlgdoliaaW.PrintWords Go.Proofs.YtplnknhlgdoliaaW.PrintLast Go.Proofs.YtplnknhlgdoliaaW.PrintMore
attribute [local go_sem] max2_int min2_int max_two min_two max_three min_three max_four min_four   -- for this text's walks alone
set_option linter.unusedVariables false
set_option linter.unusedSimpArgs false

/-! ### name_Check: function 14 -/
def name_Check.f (k : Nat) (a0 : ByteArray) : Option (Int) := (name_starts.f k a0).bind fun bt107 => (if bt107.2 = true then (some 0) else (some 11))
theorem name_Check.mono : ∀ a0 k, LeO (name_Check.f k a0) (name_Check.f (k + 1) a0) := by
  intro a0 k
  unfold name_Check.f
  repeat' first
      | (with_reducible exact name_starts.mono _ _)
      | (with_reducible exact LeO.refl _)
      | (with_reducible exact LeO.none _)
      | (with_reducible refine LeO.ite ?_ ?_)
      | (with_reducible refine LeO.bind ?_ (fun _ => ?_))
      | exact name_starts.mono _ _
      | exact LeO.none _
      | refine LeO.ite ?_ ?_
      | refine LeO.bind ?_ (fun _ => ?_)
set_option maxHeartbeats 8000000 in
set_option maxRecDepth 100000 in
theorem name_Check.calls (k : Nat) (a0 : ByteArray) (r : Int) (w : World) (h : name_Check.f k a0 = some r) :
    Calls Try.prog 14 #[.string a0] w fun e w' => e = .returned (.int .i64 r) ∧ Below w.heap.size w w' := by
  have HB := Aside0.mk (Below.refl w.heap.size w)
  have H : ((name_starts.f k a0).bind fun bt107 => (if bt107.2 = true then (some 0) else (some 11))) = some r := h
  clear h
  replace H := Option.bind_eq_some_iff.mp H
  obtain ⟨⟨t107, t108⟩, A20, H⟩ := H
  replace H : (if t108 = true then (some 0) else (some 11)) = some r := H
  have A2 := Aside0.mk A20
  clear A20
  by_cases c3 : t108 = true
  · subst c3
    have H1 : (some 0) = some r := by rw [if_pos rfl] at H; exact H
    clear H
    have H := H1
    clear H1
    obtain rfl := Option.some.inj H
    go_enter Try.func14, Try.ntmps14
    go_wp2_with (first | ((with_reducible refine gate_callee (f := 43) rfl ?_); refine goesL_ (some 7) rfl rfl Try.func43 (by kernel_rfl) rfl #[.string a0] rfl (by (try simp only [List.map_toArray, List.map_cons, List.map_nil]); first | done | rfl | (simp only [List.length_drop, List.length_take]; rfl)) ?_; (with_reducible refine (name_starts.calls k a0 t107 true _ A2.out).mono ?_); rintro e w4 ⟨v109, rfl, ho0, hb⟩; refine ⟨_, rfl, ?_⟩; have n0_ := Aside0.mk (Kd.R_lower ho0 (below_size (by repeat (first | (with_reducible first | exact HB.out | apply below_alloc | apply pw_below_drewN | apply below_drew1) | exact HB.out)))); have n1_ := Aside0.mk (below_step (by repeat (first | (with_reducible first | exact HB.out | apply below_alloc | apply pw_below_drewN | apply below_drew1) | exact HB.out)) hb); clear HB; have HO110 := n0_; have HB := n1_; clear n0_ n1_; (try clear hb); (try clear hb2); (try clear hk); (try clear hi); (try clear ho0)))
    go_ret
    exact ⟨by first | rfl | (simp [errW_none, errW_some] <;> rfl) | (simp [*, errW_none, errW_some] <;> rfl), by repeat (first | (with_reducible first | exact HB.out | apply below_alloc | apply pw_below_drewN | apply below_drew1) | exact HB.out)⟩
  · replace c3 := Bool.eq_false_iff.mpr c3
    subst c3
    have H1 : (some 11) = some r := by rw [if_neg (show ¬ (false = true) by decide)] at H; exact H
    clear H
    have H := H1
    clear H1
    obtain rfl := Option.some.inj H
    go_enter Try.func14, Try.ntmps14
    go_wp2_with (first | ((with_reducible refine gate_callee (f := 43) rfl ?_); refine goesL_ (some 7) rfl rfl Try.func43 (by kernel_rfl) rfl #[.string a0] rfl (by (try simp only [List.map_toArray, List.map_cons, List.map_nil]); first | done | rfl | (simp only [List.length_drop, List.length_take]; rfl)) ?_; (with_reducible refine (name_starts.calls k a0 t107 false _ A2.out).mono ?_); rintro e w5 ⟨v109, rfl, ho0, hb⟩; refine ⟨_, rfl, ?_⟩; have n0_ := Aside0.mk (Kd.R_lower ho0 (below_size (by repeat (first | (with_reducible first | exact HB.out | apply below_alloc | apply pw_below_drewN | apply below_drew1) | exact HB.out)))); have n1_ := Aside0.mk (below_step (by repeat (first | (with_reducible first | exact HB.out | apply below_alloc | apply pw_below_drewN | apply below_drew1) | exact HB.out)) hb); clear HB; have HO110 := n0_; have HB := n1_; clear n0_ n1_; (try clear hb); (try clear hb2); (try clear hk); (try clear hi); (try clear ho0)))
    go_ret
    exact ⟨by first | rfl | (simp [errW_none, errW_some] <;> rfl) | (simp [*, errW_none, errW_some] <;> rfl), by repeat (first | (with_reducible first | exact HB.out | apply below_alloc | apply pw_below_drewN | apply below_drew1) | exact HB.out)⟩

end Go.Proofs.Ytplnknhlgdoliaa.Print
end
section
-- Written by a program of this session, built on the kit's print (it is not the print's own text).
namespace Go.Proofs.Ytplnknhlgdoliaa.Print
open Go.RowKit Go.Proofs.YtplnknhlgdoliaaW.PrintWords Go.Proofs.YtplnknhlgdoliaaW.PrintLast Go.Proofs.YtplnknhlgdoliaaW.PrintMore
attribute [local go_sem] max2_int min2_int max_two min_two max_three min_three max_four min_four   -- for this text's walks alone
set_option linter.unusedVariables false
set_option linter.unusedSimpArgs false

/-! ### name_Count: function 18 -/
def name_Count.f (k : Nat) (a0 : ByteArray) : Option (Int) := (name_starts.f k a0).bind fun bt120 => (if bt120.2 = true then (some (bt120.1.length : Int)) else (some 0))
theorem name_Count.mono : ∀ a0 k, LeO (name_Count.f k a0) (name_Count.f (k + 1) a0) := by
  intro a0 k
  unfold name_Count.f
  repeat' first
      | (with_reducible exact name_starts.mono _ _)
      | (with_reducible exact LeO.refl _)
      | (with_reducible exact LeO.none _)
      | (with_reducible refine LeO.ite ?_ ?_)
      | (with_reducible refine LeO.bind ?_ (fun _ => ?_))
      | exact name_starts.mono _ _
      | exact LeO.none _
      | refine LeO.ite ?_ ?_
      | refine LeO.bind ?_ (fun _ => ?_)
set_option maxHeartbeats 8000000 in
set_option maxRecDepth 100000 in
theorem name_Count.calls (k : Nat) (a0 : ByteArray) (r : Int) (w : World) (h : name_Count.f k a0 = some r) :
    Calls Try.prog 18 #[.string a0] w fun e w' => e = .returned (.int .i64 r) ∧ Below w.heap.size w w' := by
  have HB := Aside0.mk (Below.refl w.heap.size w)
  have H : ((name_starts.f k a0).bind fun bt120 => (if bt120.2 = true then (some (bt120.1.length : Int)) else (some 0))) = some r := h
  clear h
  replace H := Option.bind_eq_some_iff.mp H
  obtain ⟨⟨t120, t121⟩, A20, H⟩ := H
  replace H : (if t121 = true then (some (t120.length : Int)) else (some 0)) = some r := H
  have A2 := Aside0.mk A20
  clear A20
  by_cases c3 : t121 = true
  · subst c3
    have H1 : (some (t120.length : Int)) = some r := by rw [if_pos rfl] at H; exact H
    clear H
    have H := H1
    clear H1
    obtain rfl := Option.some.inj H
    go_enter Try.func18, Try.ntmps18
    go_wp2_with (first | ((with_reducible refine gate_callee (f := 43) rfl ?_); refine goesL_ (some 7) rfl rfl Try.func43 (by kernel_rfl) rfl #[.string a0] rfl (by (try simp only [List.map_toArray, List.map_cons, List.map_nil]); first | done | rfl | (simp only [List.length_drop, List.length_take]; rfl)) ?_; (with_reducible refine (name_starts.calls k a0 t120 true _ A2.out).mono ?_); rintro e w4 ⟨v122, rfl, ho0, hb⟩; refine ⟨_, rfl, ?_⟩; have n0_ := Aside0.mk (Kd.R_lower ho0 (below_size (by repeat (first | (with_reducible first | exact HB.out | apply below_alloc | apply pw_below_drewN | apply below_drew1) | exact HB.out)))); have n1_ := Aside0.mk (below_step (by repeat (first | (with_reducible first | exact HB.out | apply below_alloc | apply pw_below_drewN | apply below_drew1) | exact HB.out)) hb); clear HB; have HO123 := n0_; have HB := n1_; clear n0_ n1_; (try clear hb); (try clear hb2); (try clear hk); (try clear hi); (try clear ho0); obtain ⟨Ao5, co5, eo5⟩ := Kd.R_slice HO123.out; subst eo5))
    go_ret
    exact ⟨by first | rfl | (simp [errW_none, errW_some] <;> rfl) | (simp [*, errW_none, errW_some] <;> rfl), by repeat (first | (with_reducible first | exact HB.out | apply below_alloc | apply pw_below_drewN | apply below_drew1) | exact HB.out)⟩
  · replace c3 := Bool.eq_false_iff.mpr c3
    subst c3
    have H1 : (some 0) = some r := by rw [if_neg (show ¬ (false = true) by decide)] at H; exact H
    clear H
    have H := H1
    clear H1
    obtain rfl := Option.some.inj H
    go_enter Try.func18, Try.ntmps18
    go_wp2_with (first | ((with_reducible refine gate_callee (f := 43) rfl ?_); refine goesL_ (some 7) rfl rfl Try.func43 (by kernel_rfl) rfl #[.string a0] rfl (by (try simp only [List.map_toArray, List.map_cons, List.map_nil]); first | done | rfl | (simp only [List.length_drop, List.length_take]; rfl)) ?_; (with_reducible refine (name_starts.calls k a0 t120 false _ A2.out).mono ?_); rintro e w6 ⟨v122, rfl, ho0, hb⟩; refine ⟨_, rfl, ?_⟩; have n0_ := Aside0.mk (Kd.R_lower ho0 (below_size (by repeat (first | (with_reducible first | exact HB.out | apply below_alloc | apply pw_below_drewN | apply below_drew1) | exact HB.out)))); have n1_ := Aside0.mk (below_step (by repeat (first | (with_reducible first | exact HB.out | apply below_alloc | apply pw_below_drewN | apply below_drew1) | exact HB.out)) hb); clear HB; have HO123 := n0_; have HB := n1_; clear n0_ n1_; (try clear hb); (try clear hb2); (try clear hk); (try clear hi); (try clear ho0)))
    go_ret
    exact ⟨by first | rfl | (simp [errW_none, errW_some] <;> rfl) | (simp [*, errW_none, errW_some] <;> rfl), by repeat (first | (with_reducible first | exact HB.out | apply below_alloc | apply pw_below_drewN | apply below_drew1) | exact HB.out)⟩

end Go.Proofs.Ytplnknhlgdoliaa.Print
end
section
/- small laws on strings and their bytes, used by the walks. -/
namespace Go.Proofs.Ytplnknhlgdoliaa.Print
open Go.RowKit Go.Proofs.YtplnknhlgdoliaaW.PrintWords Go.Proofs.YtplnknhlgdoliaaW.PrintLast Go.Proofs.YtplnknhlgdoliaaW.PrintMore
theorem cell_fresh (W : World) (v : Value) (t : TypeId) : (W.alloc (.cells #[v] t)).cell? ⟨W.heap.size, 0, none⟩ = some v := by simp
theorem bt_nat (s : ByteArray) (k : Nat) (h : k < s.size) : ((s[k]'h).toNat : Int) = bt s (k : Int) := by simp [bt, h]
theorem bo_drop (s : ByteArray) (k : Nat) (h : k < s.size) : (bytesOf s).drop k = bt s (k : Int) :: (bytesOf s).drop (k + 1) := by
  have h' : k < (bytesOf s).length := by rw [bytesOf_length]; exact h
  rw [List.drop_eq_getElem_cons h', ← rd_bytesOf]
  simp [rd, List.getD_eq_getElem?_getD, List.getElem?_eq_getElem h']
theorem bo_end (s : ByteArray) (k : Nat) (h : s.size ≤ k) : (bytesOf s).drop k = [] := List.drop_eq_nil_of_le (by rw [bytesOf_length]; exact h)
theorem empty_true {s : ByteArray} (h : s.size = 0) : s.toList.isEmpty = true := by
  rw [ByteArray.toList_eq, List.isEmpty_iff]
  exact List.length_eq_zero_iff.1 h
theorem empty_false {s : ByteArray} (h : s.size ≠ 0) : s.toList.isEmpty = false := by
  rw [ByteArray.toList_eq, Bool.eq_false_iff]
  intro h1
  exact h (by rw [List.isEmpty_iff] at h1; show s.data.toList.length = 0; rw [h1]; rfl)
theorem empty_ne {s : ByteArray} (h : s.size ≠ 0) : ¬ s.toList = [] := fun h1 => by have := empty_false h; rw [h1] at this; simp at this
theorem empty_eq {s : ByteArray} (h : s.size = 0) : s.toList = [] := by have := empty_true h; simpa using this
theorem bo_range (s : ByteArray) : ∀ x ∈ bytesOf s, 0 ≤ x ∧ x < 256 := by
  intro x hx
  unfold bytesOf at hx
  obtain ⟨b, _, rfl⟩ := List.mem_map.1 hx
  have := b.toNat_lt
  omega
/-- cells of bytes, as the shelf tells them -/
theorem nums_cells (xs : List Int) (h : ∀ x ∈ xs, 0 ≤ x ∧ x < 256) : nums .u8 xs = Lib.byteCells ((strOfNums xs).data.toList) := by
  rw [strOfNums_data]
  unfold nums Lib.byteCells
  rw [List.map_map]
  refine List.map_congr_left fun x hx => ?_
  obtain ⟨h0, h1⟩ := h x hx
  simp only [Function.comp_apply]
  congr 1
  have e : (UInt8.ofNat x.toNat).toNat = x.toNat := by simp only [UInt8.toNat_ofNat']; omega
  rw [e]; omega
theorem str_eta (s : ByteArray) : (⟨s.data.toList.toArray⟩ : ByteArray) = s := by rw [Array.toArray_toList]
end Go.Proofs.Ytplnknhlgdoliaa.Print
end
section
/- A row of bytes made of a string ([]byte(s)), in memory: it is read, written, and made a string again. -/
namespace Go.Proofs.Ytplnknhlgdoliaa.Print
set_option linter.unusedVariables false
set_option linter.unusedSimpArgs false
open Go.RowKit Go.Proofs.YtplnknhlgdoliaaW.PrintWords Go.Proofs.YtplnknhlgdoliaaW.PrintLast Go.Proofs.YtplnknhlgdoliaaW.PrintMore
/-- the row at the head of block g, of which the first cells are xs; behind its end a mark -/
def BRow (W : World) (e g : Nat) (xs : List Int) : Prop := ∃ cs : Array Value, W.heap[g]? = some (.cells cs e (cs.size, cs.size + 1)) ∧ xs.length ≤ cs.size ∧ ∀ (j : Nat) (x : Int), xs[j]? = some x → cs[j]? = some (Value.int .u8 x)
theorem brow_new (W : World) (e : Nat) (s : ByteArray) : BRow (Lib.bytesWorld W e s) e W.heap.size (bytesOf s) := by
  refine ⟨_, Lib.bytesWorld_at_new W e s, ?_, ?_⟩
  · simp [Lib.bytesCells, bytesOf_length]
  · intro j x hx
    have hj : j < s.size := by have := (List.getElem?_eq_some_iff.1 hx).1; rwa [bytesOf_length] at this
    have hj' : j < s.data.toList.length := by rw [data_length]; exact hj
    have h := Lib.bytesWorld_cell W e s j hj
    simp only [World.cell?, Lib.bytesWorld_at_new] at h
    simp only [Option.isSome_none] at h
    rw [if_neg (by simp)] at h
    rw [h]
    unfold bytesOf at hx
    rw [List.getElem?_map, List.getElem?_eq_getElem hj'] at hx
    simp only [Option.map_some, Option.some.injEq] at hx
    rw [← hx, List.getD_eq_getElem?_getD, List.getElem?_eq_getElem hj', Option.getD_some]
theorem brow_cell {W : World} {e g : Nat} {xs : List Int} (h : BRow W e g xs) {j : Nat} {x : Int} (hj : xs[j]? = some x) : W.cell? ⟨g, j, none⟩ = some (.int .u8 x) ∧ W.frozen? ⟨g, j, none⟩ = false := by
  obtain ⟨cs, hb, hl, hc⟩ := h
  have hlt : j < xs.length := (List.getElem?_eq_some_iff.1 hj).1
  constructor
  · simp [World.cell?, hb, hc j x hj]
  · simp [World.frozen?, hb]; omega
theorem brow_set {W : World} {e g : Nat} {xs : List Int} (h : BRow W e g xs) (j : Nat) (v : Int) : BRow (W.setCell ⟨g, j, none⟩ (.int .u8 v)) e g (xs.set j v) := by
  obtain ⟨cs, hb, hl, hc⟩ := h
  refine ⟨cs.setIfInBounds j (.int .u8 v), ?_, by simpa using hl, ?_⟩
  · simp only [World.setCell, Array.getElem?_modify, hb]
    simp
  · intro i x hx
    rw [Array.getElem?_setIfInBounds]
    rw [List.getElem?_set] at hx
    split
    · rename_i hij
      subst hij
      rw [if_pos rfl] at hx
      split at hx
      · simp at hx; subst hx
        rw [if_pos (by omega)]
      · simp at hx
    · rename_i hij
      rw [if_neg hij] at hx
      exact hc i x hx
theorem brow_drewN {W : World} {e g : Nat} {xs : List Int} (h : BRow W e g xs) (n : Nat) : BRow (W.drewN n) e g xs := h
theorem brow_drew {W : World} {e g : Nat} {xs : List Int} (h : BRow W e g xs) : BRow W.drew e g xs := h
theorem brow_reads {W : World} {e g : Nat} {xs : List Int} (h : BRow W e g xs) (hm : xs.length ≤ 9223372036854775807) : ReadsInt W .u8 (some ⟨g, 0, none⟩) xs.length xs := by
  refine ⟨rfl, hm, fun _ => ⟨_, rfl, fun j hj => ?_⟩⟩
  rw [add_plain, (brow_cell h (List.getElem?_eq_getElem hj)).1, List.getD_eq_getElem?_getD, List.getElem?_eq_getElem hj]
  rfl
/-- a byte in small letters -/
def low1 (c : Int) : Int := if 65 ≤ c ∧ c ≤ 90 then c + 32 else c
theorem low_or (c : Int) (h0 : 65 ≤ c) (h1 : c ≤ 90) : Go.bits .or .u8 c 32 = c + 32 := by
  have : ∀ n : Fin 91, 65 ≤ n.val → Go.bits .or .u8 (n.val : Int) 32 = (n.val : Int) + 32 := by decide +kernel
  have h := this ⟨c.toNat, by omega⟩ (by simp; omega)
  have e : ((c.toNat : Nat) : Int) = c := by omega
  simp only at h
  rwa [e] at h
theorem low_range (c : Int) (h0 : 0 ≤ c) (h1 : c < 256) : 0 ≤ low1 c ∧ low1 c < 256 := by unfold low1; split <;> omega
/-- the first k bytes in small letters -/
def lowTo (xs : List Int) (k : Nat) : List Int := (xs.take k).map low1 ++ xs.drop k
theorem lowTo_zero (xs : List Int) : lowTo xs 0 = xs := by simp [lowTo]
theorem lowTo_length (xs : List Int) (k : Nat) : (lowTo xs k).length = xs.length := by simp [lowTo]; omega
theorem lowTo_at {xs : List Int} {k : Nat} (h : k < xs.length) : (lowTo xs k)[k]? = some xs[k] := by
  unfold lowTo
  rw [List.getElem?_append_right (by simp; omega)]
  simp [Nat.min_eq_left (Nat.le_of_lt h)]
theorem lowTo_succ {xs : List Int} {k : Nat} (h : k < xs.length) : (lowTo xs k).set k (low1 xs[k]) = lowTo xs (k + 1) := by
  unfold lowTo
  have hl : (List.map low1 (xs.take k)).length = k := by simp; omega
  rw [List.set_append_right _ _ (by omega), hl, Nat.sub_self, List.take_add_one, List.getElem?_eq_getElem h, List.drop_eq_getElem_cons h]
  simp only [List.set_cons_zero, Option.toList_some, List.map_append, List.append_assoc, List.map_cons, List.map_nil, List.singleton_append]
theorem lowTo_end {xs : List Int} {k : Nat} (h : xs.length ≤ k) : lowTo xs k = xs.map low1 := by unfold lowTo; rw [List.take_of_length_le h, List.drop_of_length_le h]; simp
def lowS (s : ByteArray) : ByteArray := strOfNums ((bytesOf s).map low1)
end Go.Proofs.Ytplnknhlgdoliaa.Print
end
section
/- name.Fold and hearsayref01.Low, walked: a text in small letters. -/
namespace Go.Proofs.Ytplnknhlgdoliaa.Print
set_option linter.unusedVariables false
set_option linter.unusedSimpArgs false
open Go.RowKit Go.Proofs.YtplnknhlgdoliaaW.PrintWords Go.Proofs.YtplnknhlgdoliaaW.PrintLast Go.Proofs.YtplnknhlgdoliaaW.PrintMore
def name_Fold.f (s : ByteArray) : Option ByteArray := if s.size ≤ 9223372036854775807 then some (lowS s) else none
theorem low_calls (c : Int) (w : World) : Calls Try.prog 44 #[.int .u8 c] w fun e w' => e = .returned (.int .u8 (low1 c)) ∧ w = w' := by
  unfold low1
  by_cases h1 : 65 ≤ c
  · by_cases h2 : c ≤ 90
    · have hor := low_or c h1 h2
      rw [if_pos ⟨h1, h2⟩]
      go_enter Try.func44, Try.ntmps44
      go_wp2
      go_ret
      exact ⟨by first | rfl | (simp; done) | (rw [hor]; done) | (simp [hor]; done), rfl⟩
    · rw [if_neg (by omega)]
      go_enter Try.func44, Try.ntmps44
      go_wp2
      go_ret
      exact ⟨rfl, rfl⟩
  · rw [if_neg (by omega)]
    go_enter Try.func44, Try.ntmps44
    go_wp2
    go_ret
    exact ⟨rfl, rfl⟩
theorem name_Fold.calls (a0 : ByteArray) (r : ByteArray) (w : World) (h : name_Fold.f a0 = some r) :
    Calls Try.prog 15 #[.string a0] w fun e w' => e = .returned (.string r) ∧ Below w.heap.size w w' := by
  unfold name_Fold.f at h
  by_cases hs : a0.size ≤ 9223372036854775807
  · rw [if_pos hs] at h
    simp only [Option.some.injEq] at h
    subst h
    have hcv := print_bytes (P := Try.prog) 22 58 5 Try.underlying22 Try.underlying58 Try.underlying5 a0 w
    have hr0 := brow_new w 5 a0
    have hb0 := bytes_below (Below.refl w.heap.size w) (Nat.le_refl _) 5 a0
    generalize Lib.bytesWorld w 5 a0 = W1 at hcv hr0 hb0
    generalize grownCap w a0.size 0 5 = cap at hcv
    have HR0 := Aside0.mk hr0
    have HB0 := Aside0.mk hb0
    have hlen : (bytesOf a0).length = a0.size := bytesOf_length a0
    have HLEN := Aside0.mk hlen
    clear hr0 hb0 hlen
    go_enter Try.func15, Try.ntmps15
    go_wp2
    go_loopw [10] (fun i wr => ∃ k : Nat, k ≤ a0.size ∧ i = .int .i64 k ∧ Aside0 (BRow wr 5 w.heap.size (lowTo (bytesOf a0) k)) ∧ Aside0 (Below w.heap.size w wr)) (fun i _ => a0.size - (intOf i).toNat)
    case atStart => exact ⟨0, Nat.zero_le _, rfl, ⟨by rw [lowTo_zero]; exact HR0.out⟩, HB0⟩
    case round =>
      clear HR0 HB0 hcv
      obtain ⟨k, hk, rfl, HR, HB⟩ := hrel
      by_cases hlt : k < a0.size
      · have hkl : k < (bytesOf a0).length := by have := HLEN.out; omega
        obtain ⟨hc, hf⟩ := brow_cell HR.out (lowTo_at hkl)
        obtain ⟨x, hx⟩ : ∃ x, x = (bytesOf a0)[k] := ⟨_, rfl⟩
        rw [← hx] at hc
        have HR' : ∀ W : World, Aside0 (BRow (wr.setCell ⟨w.heap.size, k, none⟩ (.int .u8 (low1 x))) 5 w.heap.size (lowTo (bytesOf a0) (k + 1))) := fun _ => ⟨by rw [hx, ← lowTo_succ hkl]; exact brow_set HR.out k _⟩
        have HR1 := HR' wr
        have HB1 := Aside0.mk (HB.out.setCell (p := ⟨w.heap.size, k, none⟩) (Nat.le_refl _) (.int .u8 (low1 x)))
        clear HR' hx hkl
        go_wp2_with (go_at_call 44; refine (low_calls _ _).mono ?_; rintro e w2 ⟨rfl, rfl⟩)
        go_roundw
        case rel => exact ⟨k + 1, by omega, by go_num, HR1, HB1⟩
        case measure => simp [intOf]; omega
      · have hkl : (bytesOf a0).length ≤ k := by have := HLEN.out; omega
        have hrow := HR.out
        rw [lowTo_end hkl] at hrow
        have hml : ((bytesOf a0).map low1).length = a0.size := by rw [List.length_map]; exact HLEN.out
        have hrd := brow_reads hrow (by omega)
        rw [hml] at hrd
        have hst := fun (c : Nat) => string_of_reads (P := Try.prog) (c := c) Try.underlying58 Try.underlying5 Try.underlying22 hrd
        clear hrow hrd hml hkl
        go_wp2
        go_ret
        exact ⟨by first | rfl | (simp; done), HB.out⟩
  · rw [if_neg hs] at h; exact absurd h (by simp)
def hearsayref01_Low.f (s : ByteArray) : Option ByteArray := name_Fold.f s
theorem hearsayref01_Low.calls (a0 : ByteArray) (r : ByteArray) (w : World) (h : hearsayref01_Low.f a0 = some r) :
    Calls Try.prog 45 #[.string a0] w fun e w' => e = .returned (.string r) ∧ Below w.heap.size w w' := by
  unfold hearsayref01_Low.f name_Fold.f at h
  by_cases hs : a0.size ≤ 9223372036854775807
  · rw [if_pos hs] at h
    simp only [Option.some.injEq] at h
    subst h
    have hcv := print_bytes (P := Try.prog) 9 58 5 Try.underlying9 Try.underlying58 Try.underlying5 a0 w
    have hr0 := brow_new w 5 a0
    have hb0 := bytes_below (Below.refl w.heap.size w) (Nat.le_refl _) 5 a0
    generalize Lib.bytesWorld w 5 a0 = W1 at hcv hr0 hb0
    generalize grownCap w a0.size 0 5 = cap at hcv
    have HR0 := Aside0.mk hr0
    have HB0 := Aside0.mk hb0
    have hlen : (bytesOf a0).length = a0.size := bytesOf_length a0
    have HLEN := Aside0.mk hlen
    clear hr0 hb0 hlen
    go_enter Try.func45, Try.ntmps45
    go_wp2
    go_loopw [4] (fun i wr => ∃ k : Nat, k ≤ a0.size ∧ i = .int .i64 k ∧ Aside0 (BRow wr 5 w.heap.size (lowTo (bytesOf a0) k)) ∧ Aside0 (Below w.heap.size w wr)) (fun i _ => a0.size - (intOf i).toNat)
    case atStart => exact ⟨0, Nat.zero_le _, rfl, ⟨by rw [lowTo_zero]; exact HR0.out⟩, HB0⟩
    case round =>
      clear HR0 HB0 hcv
      obtain ⟨k, hk, rfl, HR, HB⟩ := hrel
      by_cases hlt : k < a0.size
      · have hkl : k < (bytesOf a0).length := by have := HLEN.out; omega
        obtain ⟨hc, hf⟩ := brow_cell HR.out (lowTo_at hkl)
        have hrg := bo_range a0 _ (List.getElem_mem hkl)
        obtain ⟨x, hx⟩ : ∃ x, x = (bytesOf a0)[k] := ⟨_, rfl⟩
        rw [← hx] at hc hrg
        obtain ⟨hx0, hx1⟩ := hrg
        by_cases h65 : 65 ≤ x ∧ x ≤ 90
        · have hlow : low1 x = x + 32 := by unfold low1; rw [if_pos h65]
          have HR1 : Aside0 (BRow (wr.setCell ⟨w.heap.size, k, none⟩ (.int .u8 (x + 32))) 5 w.heap.size (lowTo (bytesOf a0) (k + 1))) := ⟨by rw [← hlow, hx, ← lowTo_succ hkl]; exact brow_set HR.out k _⟩
          have HB1 := Aside0.mk (HB.out.setCell (p := ⟨w.heap.size, k, none⟩) (Nat.le_refl _) (.int .u8 (x + 32)))
          obtain ⟨ha, hb⟩ := h65
          clear hx hkl hlow
          go_wp2
          go_roundw
          case rel => exact ⟨k + 1, by omega, by go_num, HR1, HB1⟩
          case measure => simp [intOf]; omega
        · have hlow : low1 x = x := by unfold low1; rw [if_neg h65]
          have HR1 : Aside0 (BRow wr 5 w.heap.size (lowTo (bytesOf a0) (k + 1))) := ⟨by
            rw [← lowTo_succ hkl, ← hx, hlow, hx]
            have h2 := lowTo_at hkl
            obtain ⟨h3, h4⟩ := List.getElem?_eq_some_iff.1 h2
            rw [← h4, List.set_getElem_self h3]
            exact HR.out⟩
          have hdec : (decide (65 ≤ x) && decide (x ≤ 90)) = false := by simp; omega
          clear hx hkl hlow
          by_cases h65a : 65 ≤ x
          · have h90 : ¬ x ≤ 90 := by omega
            clear h65 hdec
            go_wp2
            go_roundw
            case rel => exact ⟨k + 1, by omega, by go_num, HR1, HB⟩
            case measure => simp [intOf]; omega
          · clear h65 hdec
            go_wp2
            go_roundw
            case rel => exact ⟨k + 1, by omega, by go_num, HR1, HB⟩
            case measure => simp [intOf]; omega
      · have hkl : (bytesOf a0).length ≤ k := by have := HLEN.out; omega
        have hrow := HR.out
        rw [lowTo_end hkl] at hrow
        have hml : ((bytesOf a0).map low1).length = a0.size := by rw [List.length_map]; exact HLEN.out
        have hrd := brow_reads hrow (by omega)
        rw [hml] at hrd
        have hst := fun (c : Nat) => string_of_reads (P := Try.prog) (c := c) Try.underlying58 Try.underlying5 Try.underlying9 hrd
        clear hrow hrd hml hkl
        go_wp2
        go_ret
        exact ⟨by first | rfl | (simp; done), HB.out⟩
  · rw [if_neg hs] at h; exact absurd h (by simp)
end Go.Proofs.Ytplnknhlgdoliaa.Print
end
section
/- strings.Builder: copyCheck, Len, WriteByte, WriteString, Write, String, walked at this program. -/
namespace Go.Proofs.Ytplnknhlgdoliaa.Print
open Go.RowKit Go.Proofs.YtplnknhlgdoliaaW.PrintWords Go.Proofs.YtplnknhlgdoliaaW.PrintLast Go.Proofs.YtplnknhlgdoliaaW.PrintMore
set_option linter.unusedVariables false
set_option linter.unusedSimpArgs false

theorem sizeBuilder : (Try.prog.info? 63).map (·.size) = some 2 := by kernel_rfl
theorem copyCheck_used (b : Nat) (w : World) (h0 : w.cell? ⟨b, 0, none⟩ = some (.pointer (some ⟨b, 0, none⟩))) :
    Calls Try.prog 61 #[.pointer (some ⟨b, 0, none⟩)] w fun e w' => e = .returned (.tuple #[]) ∧ w = w' := by
  obtain ⟨j, hj, _⟩ := Option.map_eq_some_iff.1 sizeBuilder
  go_enter Try.func61, Try.ntmps61
  go_wp2
  rw [Lib.run_neq_ptr_same w _ Try.underlying61 hj]
  go_wp2
  go_end0
  exact ⟨rfl, rfl⟩
theorem copyCheck_fresh (b : Nat) (w : World) (h0 : w.cell? ⟨b, 0, none⟩ = some (.pointer none)) (hsh : w.shape? b = some (63, 2)) (hfz : w.frozen? ⟨b, 0, none⟩ = false) :
    Calls Try.prog 61 #[.pointer (some ⟨b, 0, none⟩)] w fun e w' => e = .returned (.tuple #[]) ∧ w.setCell ⟨b, 0, none⟩ (.pointer (some ⟨b, 0, none⟩)) = w' := by
  obtain ⟨j, hj, hjs⟩ := Option.map_eq_some_iff.1 sizeBuilder
  go_enter Try.func61, Try.ntmps61
  go_wp2
  rw [Lib.run_to_unsafe w ⟨b, 0, none⟩ Try.underlying61 Try.underlying80 hj (by rw [hjs]; decide) hsh (Nat.zero_lt_succ 1)]
  simp only [Result.andThen]
  rw [Oper.upon_value]
  go_wp2
  rw [run_callFunc_extern Try.func63 (by kernel_rfl) (by kernel_rfl) (by kernel_rfl) (e := Extern.AbiNoEscape.same) (by kernel_rfl)]
  rw [Lib.run_noEscape]
  simp only [Result.andThen]
  rw [Oper.upon_value]
  go_wp2
  rw [Lib.run_from_unsafe w ⟨b, 0, none⟩ Try.underlying80 Try.underlying61 hj hsh (by kernel_rfl)]
  simp only [Result.andThen]
  rw [Oper.upon_value]
  go_wp2
  go_end0
  exact ⟨rfl, rfl⟩
theorem copyCheck_any (B b : Nat) (bs : List Value) (w : World) (h : Lib.IsBuilder 63 5 B b bs w) :
    Calls Try.prog 61 #[.pointer (some ⟨b, 0, none⟩)] w fun e w' => e = .returned (.tuple #[]) ∧ (Lib.BuilderAt 63 5 B b (.pointer (some ⟨b, 0, none⟩)) bs w' ∧ Below B w w' ∧ Lib.OthersKept 5 (some b) w w') := by
  rcases h with h | h
  · refine (copyCheck_fresh b w h.cell0 h.shape h.frozen0).mono ?_
    rintro e w' ⟨rfl, rfl⟩
    exact ⟨rfl, h.used _, (Below.refl B w).setCell (p := ⟨b, 0, none⟩) h.1 _, (Lib.OthersKept.refl _ _ w).setCell ⟨b, 0, none⟩ rfl _⟩
  · refine (copyCheck_used b w h.cell0).mono ?_
    rintro e w' ⟨rfl, rfl⟩
    exact ⟨rfl, h, Below.refl B _, Lib.OthersKept.refl _ _ _⟩
theorem builder_form {B b : Nat} {bs : List Value} {w : World} (h : Lib.IsBuilder 63 5 B b bs w) : ∃ p, Lib.BuilderAt 63 5 B b p bs w := by
  rcases h with h | h
  · exact ⟨_, h⟩
  · exact ⟨_, h⟩
theorem builder_used {B b : Nat} {bs : List Value} {w : World} (h : Lib.BuilderAt 63 5 B b (.pointer (some ⟨b, 0, none⟩)) bs w) : Lib.IsBuilder 63 5 B b bs w := Or.inr h
theorem builder_lt {B b : Nat} {bs : List Value} {w : World} (h : Lib.IsBuilder 63 5 B b bs w) : b < w.heap.size := by
  obtain ⟨p, h⟩ := builder_form h
  exact h.lt
theorem builderAt_alloc {B b : Nat} {p : Value} {bs : List Value} {w : World} (h : Lib.BuilderAt 63 5 B b p bs w) (o : Obj) : Lib.BuilderAt 63 5 B b p bs (w.alloc o) := by
  have hlt := h.lt
  obtain ⟨hB, v, hb, hown, hne⟩ := h
  exact ⟨hB, v, by rw [Lib.alloc_old w o b hlt]; exact hb, hown.alloc o, hne⟩
theorem builder_alloc {B b : Nat} {bs : List Value} {w : World} (h : Lib.IsBuilder 63 5 B b bs w) (o : Obj) : Lib.IsBuilder 63 5 B b bs (w.alloc o) := h.imp (fun h => builderAt_alloc h o) (fun h => builderAt_alloc h o)
theorem builder_below {B b : Nat} {bs : List Value} {w w' : World} (h : Lib.IsBuilder 63 5 B b bs w) (hb : Below w.heap.size w w') : Lib.IsBuilder 63 5 B b bs w' := by
  have key : ∀ p, Lib.BuilderAt 63 5 B b p bs w → Lib.BuilderAt 63 5 B b p bs w' := fun p h => by
    have hlt := h.lt
    obtain ⟨hB, v, hbk, hown, hne⟩ := h
    exact ⟨hB, v, by rw [hb.block b hlt]; exact hbk, pw_own_below hown hb, hne⟩
  exact h.imp (key _) (key _)
theorem cells_new (W : World) (cs : List Value) (t : TypeId) : ∀ j u, cs[j]? = some u → (W.alloc (.cells cs.toArray t)).cell? ⟨W.heap.size, j, none⟩ = some u := by
  intro j u hu
  rw [Lib.cell_of_heap (heap_alloc_new W _)]
  simpa using hu
theorem Len_any (B b : Nat) (bs : List Value) (w : World) (h : Lib.IsBuilder 63 5 B b bs w) : Calls Try.prog 46 #[.pointer (some ⟨b, 0, none⟩)] w fun e w' => e = .returned (.int .i64 bs.length) ∧ w = w' := by
  obtain ⟨p, hB, v, hbk, hown, hne⟩ := builder_form h
  obtain ⟨ao, cap, rfl⟩ : ∃ ao cap, v = .slice ao bs.length cap := by
    rcases hown.2 with ⟨hv, h0⟩ | ⟨g, cap, cur, hv, _⟩
    · exact ⟨none, 0, by rw [hv, h0]⟩
    · exact ⟨_, _, hv⟩
  have c1 : w.cell? ⟨b, 1, none⟩ = some (.slice ao bs.length cap) := by rw [Lib.cell_of_heap hbk]; rfl
  go_enter Try.func46, Try.ntmps46
  go_wp2
  go_ret
  exact ⟨rfl, rfl⟩
theorem infoByte : (Try.prog.info? 5).map (fun i => (i.zero, i.size, i.bytes)) = some (some (.int .u8 0), 1, 1) := by kernel_rfl
set_option maxHeartbeats 2000000 in
set_option maxRecDepth 100000 in
theorem WriteByte_k (B b : Nat) (bs : List Value) (c : Int) (w : World) (h : Lib.IsBuilder 63 5 B b bs w) (hlen : bs.length + 1 ≤ 140737488355328) (hBw : B ≤ w.heap.size) :
    Calls Try.prog 47 #[.pointer (some ⟨b, 0, none⟩), .int .u8 c] w fun e w' => e = .returned .nilIface ∧ (Lib.BuilderAt 63 5 B b (.pointer (some ⟨b, 0, none⟩)) (bs ++ [.int .u8 c]) w' ∧ Below B w w' ∧ Lib.OthersKept 5 (some b) w w') := by
  obtain ⟨i0, hi, hz0, hz1, hz2⟩ := info_parts infoByte
  go_enter Try.func47, Try.ntmps47
  go_wp2_with (go_at_call 61; refine (copyCheck_any B b bs _ h).mono ?_)
  rintro e w1 ⟨rfl, h1, hb1, hk1⟩
  obtain ⟨hB, v, hbk, hown, hne⟩ := h1
  have c0 : w1.cell? ⟨b, 0, none⟩ = some (.pointer (some ⟨b, 0, none⟩)) := by rw [Lib.cell_of_heap hbk]; rfl
  have c1 : w1.cell? ⟨b, 1, none⟩ = some v := by rw [Lib.cell_of_heap hbk]; rfl
  go_wp2_with (at_builtin; refine wpList_append_own _ rfl _ _ 58 rfl B 5 i0 (.int .u8 0) 1 1 Try.underlying58 hi hz0 hz1 hz2 rfl (by decide) _ _ _ rfl (hown.alloc _) ⟨w1.heap.size, 0, none⟩ 1 1 [.int .u8 c] rfl rfl ?c1 ?c2 ?c3 ?c4 ?c5 ?_)
  case c1 =>
    intro j u hj
    match j, hj with
    | 0, hj => simp at hj; subst hj; simp [Addr.add]
  case c2 => intro u hu; simp at hu; subst hu; rfl
  case c3 => unfold maxLen; omega
  case c4 => omega
  case c5 => have := hb1.size; simp; omega
  intro v' w2 hown' hgrow _
  have hlt : b < w1.heap.size := by
    rcases Nat.lt_or_ge b w1.heap.size with h' | h'
    · exact h'
    · simp [Array.getElem?_eq_none h'] at hbk
  have hb2 : w2.heap[b]? = some (.cells #[.pointer (some ⟨b, 0, none⟩), v] 63 (0, 0)) := by
    rw [hgrow.block b (by simp; omega) (fun e => hne e.symm), Lib.alloc_old w1 _ b hlt]
    exact hbk
  have d0 : w2.cell? ⟨b, 0, none⟩ = some (.pointer (some ⟨b, 0, none⟩)) := by rw [Lib.cell_of_heap hb2]; rfl
  have d1 : w2.cell? ⟨b, 1, none⟩ = some v := by rw [Lib.cell_of_heap hb2]; rfl
  have f1 : w2.frozen? ⟨b, 1, none⟩ = false := Lib.frozen_of_heap hb2 1
  obtain ⟨g, cap, rfl⟩ : ∃ g cap, v' = .slice (some ⟨g, 0, none⟩) (bs.length + 1) cap := by
    rcases hown'.2 with ⟨_, h0⟩ | ⟨g, cap, cur, hv, _⟩
    · omega
    · exact ⟨g, cap, hv⟩
  go_wp2
  go_ret
  refine ⟨rfl, ?_, ?_, ?_⟩
  · exact Lib.BuilderAt.put (T := 63) (e := 5) hB hb2 (bs' := bs ++ [.int .u8 c]) (by simpa using hown') (by decide)
  · exact ((hb1.alloc (by have := hb1.size; omega) _).grown hgrow (by have := hb1.size; simp; omega) (fun k hk => (hown.lt k hk).1)).setCell (p := ⟨b, 1, none⟩) hB _
  · exact ((hk1.alloc _).grown hgrow (fun g hg => by obtain ⟨c, hc⟩ := own_typed (hown.alloc _) g hg; exact ⟨c, (0, 0), hc⟩)).setCell ⟨b, 1, none⟩ rfl _
theorem WriteByte_any (B b : Nat) (bs : List Value) (c : Int) (w : World) (h : Lib.IsBuilder 63 5 B b bs w) (hlen : bs.length + 1 ≤ 140737488355328) (hBw : B ≤ w.heap.size) :
    Calls Try.prog 47 #[.pointer (some ⟨b, 0, none⟩), .int .u8 c] w fun e w' => e = .returned .nilIface ∧ (Lib.BuilderAt 63 5 B b (.pointer (some ⟨b, 0, none⟩)) (bs ++ [.int .u8 c]) w' ∧ Below B w w') :=
  (WriteByte_k B b bs c w h hlen hBw).mono fun _ _ h => ⟨h.1, h.2.1, h.2.2.1⟩
set_option maxHeartbeats 2000000 in
set_option maxRecDepth 100000 in
theorem WriteString_k (B b : Nat) (bs : List Value) (s : ByteArray) (w : World) (h : Lib.IsBuilder 63 5 B b bs w) (hlen : bs.length + s.size ≤ 140737488355328) (hBw : B ≤ w.heap.size) :
    Calls Try.prog 48 #[.pointer (some ⟨b, 0, none⟩), .string s] w fun e w' => e = .returned (.tuple #[.int .i64 s.size, .nilIface]) ∧ (Lib.BuilderAt 63 5 B b (.pointer (some ⟨b, 0, none⟩)) (bs ++ Lib.strCells s) w' ∧ Below B w w' ∧ Lib.OthersKept 5 (some b) w w') := by
  obtain ⟨i0, hi, hz0, hz1, hz2⟩ := info_parts infoByte
  go_enter Try.func48, Try.ntmps48
  go_wp2_with (go_at_call 61; refine (copyCheck_any B b bs _ h).mono ?_)
  rintro e w1 ⟨rfl, h1, hb1, hk1⟩
  obtain ⟨hB, v, hbk, hown, hne⟩ := h1
  have c0 : w1.cell? ⟨b, 0, none⟩ = some (.pointer (some ⟨b, 0, none⟩)) := by rw [Lib.cell_of_heap hbk]; rfl
  have c1 : w1.cell? ⟨b, 1, none⟩ = some v := by rw [Lib.cell_of_heap hbk]; rfl
  go_wp2_with (at_builtin; refine Lib.wpList_append_own_string _ rfl _ _ 58 9 rfl B 5 i0 Try.underlying58 Try.underlying9 hi hz0 hz1 hz2 _ _ _ rfl hown s rfl ?c3 ?c4 ?c5 ?_)
  case c3 => unfold maxLen; omega
  case c4 => omega
  case c5 => have := hb1.size; omega
  intro v' w2 hown' hgrow _
  have hlt : b < w1.heap.size := by
    rcases Nat.lt_or_ge b w1.heap.size with h' | h'
    · exact h'
    · simp [Array.getElem?_eq_none h'] at hbk
  have hb2 : w2.heap[b]? = some (.cells #[.pointer (some ⟨b, 0, none⟩), v] 63 (0, 0)) := by
    rw [hgrow.block b hlt (fun e => hne e.symm)]
    exact hbk
  have d0 : w2.cell? ⟨b, 0, none⟩ = some (.pointer (some ⟨b, 0, none⟩)) := by rw [Lib.cell_of_heap hb2]; rfl
  have d1 : w2.cell? ⟨b, 1, none⟩ = some v := by rw [Lib.cell_of_heap hb2]; rfl
  have f1 : w2.frozen? ⟨b, 1, none⟩ = false := Lib.frozen_of_heap hb2 1
  obtain ⟨ao, n', cap, rfl⟩ : ∃ ao n' cap, v' = .slice ao n' cap := by
    rcases hown'.2 with ⟨hv, _⟩ | ⟨g, cap, cur, hv, _⟩
    · exact ⟨_, _, _, hv⟩
    · exact ⟨_, _, _, hv⟩
  go_wp2
  go_ret2
  refine ⟨rfl, ?_, ?_, ?_⟩
  · exact Lib.BuilderAt.put (T := 63) (e := 5) hB hb2 (bs' := bs ++ Lib.strCells s) (by simpa [Lib.strCells_length] using hown') (by decide)
  · exact (hb1.grown hgrow (by have := hb1.size; omega) (fun k hk => (hown.lt k hk).1)).setCell (p := ⟨b, 1, none⟩) hB _
  · exact (hk1.grown hgrow (fun g hg => by obtain ⟨c, hc⟩ := own_typed hown g hg; exact ⟨c, (0, 0), hc⟩)).setCell ⟨b, 1, none⟩ rfl _
theorem WriteString_any (B b : Nat) (bs : List Value) (s : ByteArray) (w : World) (h : Lib.IsBuilder 63 5 B b bs w) (hlen : bs.length + s.size ≤ 140737488355328) (hBw : B ≤ w.heap.size) :
    Calls Try.prog 48 #[.pointer (some ⟨b, 0, none⟩), .string s] w fun e w' => e = .returned (.tuple #[.int .i64 s.size, .nilIface]) ∧ (Lib.BuilderAt 63 5 B b (.pointer (some ⟨b, 0, none⟩)) (bs ++ Lib.strCells s) w' ∧ Below B w w') :=
  (WriteString_k B b bs s w h hlen hBw).mono fun _ _ h => ⟨h.1, h.2.1, h.2.2.1⟩
theorem copyCheck_far (B b : Nat) (bs : List Value) (w : World) (h : Lib.IsBuilder 63 5 B b bs w) :
    Calls Try.prog 61 #[.pointer (some ⟨b, 0, none⟩)] w fun e w' => e = .returned (.tuple #[]) ∧ (Lib.BuilderAt 63 5 B b (.pointer (some ⟨b, 0, none⟩)) bs w' ∧ Below B w w') ∧ ∀ (a : Addr), a.block ≠ b → w'.cell? a = w.cell? a := by
  rcases h with h | h
  · refine (copyCheck_fresh b w h.cell0 h.shape h.frozen0).mono ?_
    rintro e w' ⟨rfl, rfl⟩
    exact ⟨rfl, ⟨h.used _, (Below.refl B w).setCell (p := ⟨b, 0, none⟩) h.1 _⟩, fun a ha => World.cell?_setCell_far _ _ _ _ (fun h_ => ha h_.symm)⟩
  · refine (copyCheck_used b w h.cell0).mono ?_
    rintro e w' ⟨rfl, rfl⟩
    exact ⟨rfl, ⟨h, Below.refl B _⟩, fun _ _ => rfl⟩
set_option maxHeartbeats 2000000 in
set_option maxRecDepth 100000 in
theorem Write_any (B b : Nat) (bs : List Value) (g m c : Nat) (cs : List Value) (w : World) (h : Lib.IsBuilder 63 5 B b bs w) (hg : g ≠ b) (hm : cs.length = m) (hcs : ∀ j u, cs[j]? = some u → w.cell? ⟨g, j, none⟩ = some u) (h1c : ∀ u ∈ cs, u.oneCell' = true) (hlen : bs.length + m ≤ 140737488355328) (hBw : B ≤ w.heap.size) :
    Calls Try.prog 53 #[.pointer (some ⟨b, 0, none⟩), .slice (some ⟨g, 0, none⟩) m c] w fun e w' => e = .returned (.tuple #[.int .i64 m, .nilIface]) ∧ (Lib.BuilderAt 63 5 B b (.pointer (some ⟨b, 0, none⟩)) (bs ++ cs) w' ∧ Below B w w') := by
  obtain ⟨i0, hi, hz0, hz1, hz2⟩ := info_parts infoByte
  go_enter Try.func53, Try.ntmps53
  go_wp2_with (go_at_call 61; refine (copyCheck_far B b bs _ h).mono ?_)
  rintro e w1 ⟨rfl, ⟨h1, hb1⟩, hfar⟩
  obtain ⟨hB, v, hbk, hown, hne⟩ := h1
  have c0 : w1.cell? ⟨b, 0, none⟩ = some (.pointer (some ⟨b, 0, none⟩)) := by rw [Lib.cell_of_heap hbk]; rfl
  have c1 : w1.cell? ⟨b, 1, none⟩ = some v := by rw [Lib.cell_of_heap hbk]; rfl
  have hcs1 : ∀ j u, cs[j]? = some u → w1.cell? ((⟨g, 0, none⟩ : Addr).add j) = some u := fun j u hj => by rw [add_plain, hfar _ hg]; exact hcs j u hj
  have HF := Aside0.mk hfar
  have HC1 := Aside0.mk hcs1
  have HC := Aside0.mk hcs
  have HM := Aside0.mk hm
  clear hfar hcs1 hcs hm
  go_wp2_with (at_builtin; refine wpList_append_own _ rfl _ _ 58 rfl B 5 i0 (.int .u8 0) 1 1 Try.underlying58 hi hz0 hz1 hz2 rfl (by decide) _ _ _ rfl hown ⟨g, 0, none⟩ m c cs rfl (by have := HM.out; omega) ?c1 ?c2 ?c3 ?c4 ?c5 ?_)
  case c1 => intro j u hj; exact HC1.out j u hj
  case c2 => exact h1c
  case c3 => unfold maxLen; omega
  case c4 => omega
  case c5 => have := hb1.size; omega
  intro v' w2 hown' hgrow _
  have hlt : b < w1.heap.size := by
    rcases Nat.lt_or_ge b w1.heap.size with h' | h'
    · exact h'
    · simp [Array.getElem?_eq_none h'] at hbk
  have hb2 : w2.heap[b]? = some (.cells #[.pointer (some ⟨b, 0, none⟩), v] 63 (0, 0)) := by
    rw [hgrow.block b hlt (fun e => hne e.symm)]
    exact hbk
  have d0 : w2.cell? ⟨b, 0, none⟩ = some (.pointer (some ⟨b, 0, none⟩)) := by rw [Lib.cell_of_heap hb2]; rfl
  have d1 : w2.cell? ⟨b, 1, none⟩ = some v := by rw [Lib.cell_of_heap hb2]; rfl
  have f1 : w2.frozen? ⟨b, 1, none⟩ = false := Lib.frozen_of_heap hb2 1
  obtain ⟨ao, n', cap, rfl⟩ : ∃ ao n' cap, v' = .slice ao n' cap := by
    rcases hown'.2 with ⟨hv, _⟩ | ⟨g, cap, cur, hv, _⟩
    · exact ⟨_, _, _, hv⟩
    · exact ⟨_, _, _, hv⟩
  go_wp2
  go_ret2
  have hmm := HM.out
  refine ⟨rfl, ?_, ?_⟩
  · exact Lib.BuilderAt.put (T := 63) (e := 5) hB hb2 (bs' := bs ++ cs) (by rw [List.length_append, hmm]; exact hown') (by decide)
  · exact (hb1.grown hgrow (by have := hb1.size; omega) (fun k hk => (hown.lt k hk).1)).setCell (p := ⟨b, 1, none⟩) hB _
end Go.Proofs.Ytplnknhlgdoliaa.Print
end
section
/- name.Bytes, walked: it answers what 'unesc' says of the text. -/
namespace Go.Proofs.Ytplnknhlgdoliaa.Print
open Go.RowKit Go.Proofs.YtplnknhlgdoliaaW.PrintWords Go.Proofs.YtplnknhlgdoliaaW.PrintLast Go.Proofs.YtplnknhlgdoliaaW.PrintMore
set_option linter.unusedVariables false
set_option linter.unusedSimpArgs false

def isDig (c : Int) : Bool := decide (48 ≤ c) && decide (c ≤ 57)
/-- the closure 'digit' -/
def digAt (s : ByteArray) (i : Int) : Bool := decide (i < (s.size : Int)) && isDig (bt s i)

theorem digit_calls (s : ByteArray) (i : Int) (B : Nat) (w : World) (hi : 0 ≤ i) (hc : w.cell? ⟨B, 0, none⟩ = some (.string s)) :
    Calls Try.prog 51 #[.int .i64 i, .pointer (some ⟨B, 0, none⟩)] w fun e w' => e = .returned (.bool (digAt s i)) ∧ w = w' := by
  unfold digAt isDig
  by_cases h1 : i < (s.size : Int)
  · have hx := bt_at s i
    by_cases h2 : 48 ≤ bt s i
    · by_cases h3 : bt s i ≤ 57
      · go_enter Try.func51, Try.ntmps51
        go_wp2
        go_ret
        exact ⟨by simp [h1, h2, h3] <;> omega, rfl⟩
      · go_enter Try.func51, Try.ntmps51
        go_wp2
        go_ret
        exact ⟨by simp [h1, h2, h3] <;> omega, rfl⟩
    · go_enter Try.func51, Try.ntmps51
      go_wp2
      go_ret
      exact ⟨by simp [h1, h2] <;> omega, rfl⟩
  · go_enter Try.func51, Try.ntmps51
    go_wp2
    go_ret
    exact ⟨by simp [h1] <;> omega, rfl⟩


def unesc : List Int → Option (List Int)
  | [] => some []
  | c :: r => if c ≠ 92 then (unesc r).map (c :: ·) else
    match r with
    | [] => none
    | d :: r1 => if isDig d = false then (unesc r1).map (d :: ·) else
      match r1 with
      | e :: f :: r2 => if isDig e && isDig f then (if (d - 48) * 100 + (e - 48) * 10 + (f - 48) > 255 then none else (unesc r2).map (((d - 48) * 100 + (e - 48) * 10 + (f - 48)) :: ·)) else none
      | _ => none
theorem unesc_plain (c : Int) (r : List Int) (h : c ≠ 92) : unesc (c :: r) = (unesc r).map (c :: ·) := by rw [unesc.eq_def]; simp [h]
theorem unesc_last : unesc [92] = none := by rw [unesc.eq_def]; simp
theorem unesc_one (d : Int) (r : List Int) (h : isDig d = false) : unesc (92 :: d :: r) = (unesc r).map (d :: ·) := by rw [unesc.eq_def]; simp [h]
theorem unesc_three (d e f : Int) (r : List Int) (h : isDig d = true) : unesc (92 :: d :: e :: f :: r) = if isDig e && isDig f then (if (d - 48) * 100 + (e - 48) * 10 + (f - 48) > 255 then none else (unesc r).map (((d - 48) * 100 + (e - 48) * 10 + (f - 48)) :: ·)) else none := by rw [unesc.eq_def]; simp [h]
theorem unesc_two (d : Int) (r : List Int) (h : isDig d = true) (hr : r.length < 2) : unesc (92 :: d :: r) = none := by
  rw [unesc.eq_def]
  match r, hr with
  | [], _ => simp [h]
  | [e], _ => simp [h]
def name_Bytes.f (s : ByteArray) : Option (ByteArray × Int) :=
  if s.size < 140737488355328 then (match unesc (bytesOf s) with | some l => some (strOfNums l, 0) | none => some (⟨#[]⟩, 12)) else none


/-- what stands at the loop's head: 'acc' was told of the first k bytes -/
def Inv (s : ByteArray) (k : Nat) (acc : List Int) : Prop := k ≤ s.size ∧ acc.length ≤ k ∧ (unesc ((bytesOf s).drop k)).map (acc ++ ·) = unesc (bytesOf s)
theorem inv0 (s : ByteArray) : Inv s 0 [] := ⟨Nat.zero_le _, Nat.le_refl _, by simp⟩
theorem inv_end {s : ByteArray} {k : Nat} {acc : List Int} (h : Inv s k acc) (hk : ¬ k < s.size) : unesc (bytesOf s) = some acc := by
  rw [← h.2.2, bo_end s k (by omega)]; simp [unesc]
theorem inv_plain {s : ByteArray} {k : Nat} {acc : List Int} (h : Inv s k acc) (hk : k < s.size) (hc : bt s (k : Int) ≠ 92) : Inv s (k + 1) (acc ++ [bt s (k : Int)]) := by
  refine ⟨hk, by simp; exact h.2.1, ?_⟩
  rw [← h.2.2, bo_drop s k hk, unesc_plain _ _ hc]
  simp [Option.map_map, Function.comp_def]
theorem inv_last {s : ByteArray} {k : Nat} {acc : List Int} (h : Inv s k acc) (hk : k < s.size) (hc : bt s (k : Int) = 92) (he : k + 1 = s.size) : unesc (bytesOf s) = none := by
  rw [← h.2.2, bo_drop s k hk, hc, bo_end s (k + 1) (by omega), unesc_last]; rfl
theorem digAt_eq {s : ByteArray} {k : Nat} (hk : k < s.size) : digAt s (k : Int) = isDig (bt s (k : Int)) := by simp [digAt, hk]
theorem dig_bounds {s : ByteArray} {k : Nat} (hk : k < s.size) (h : digAt s (k : Int) = true) : 48 ≤ bt s (k : Int) ∧ bt s (k : Int) ≤ 57 := by rw [digAt_eq hk] at h; unfold isDig at h; simpa using h
theorem inv_one {s : ByteArray} {k : Nat} {acc : List Int} (h : Inv s k acc) (hk : k < s.size) (hc : bt s (k : Int) = 92) (he : k + 1 < s.size) (hd : digAt s ((k + 1 : Nat) : Int) = false) : Inv s (k + 2) (acc ++ [bt s ((k + 1 : Nat) : Int)]) := by
  refine ⟨by omega, by have := h.2.1; simp; omega, ?_⟩
  rw [digAt_eq he] at hd
  rw [← h.2.2, bo_drop s k hk, hc, bo_drop s (k + 1) he, unesc_one _ _ hd]
  simp [Option.map_map, Function.comp_def]
theorem inv_bad {s : ByteArray} {k : Nat} {acc : List Int} (h : Inv s k acc) (hk : k < s.size) (hc : bt s (k : Int) = 92) (he : k + 1 < s.size) (hd : digAt s ((k + 1 : Nat) : Int) = true)
    (hb : digAt s ((k + 2 : Nat) : Int) = false ∨ digAt s ((k + 3 : Nat) : Int) = false) : unesc (bytesOf s) = none := by
  rw [digAt_eq he] at hd
  rw [← h.2.2, bo_drop s k hk, hc, bo_drop s (k + 1) he]
  by_cases h3 : k + 3 < s.size
  · have h2 : k + 2 < s.size := by omega
    rw [digAt_eq h2, digAt_eq h3] at hb
    rw [bo_drop s (k + 1 + 1) h2, bo_drop s (k + 1 + 1 + 1) h3, unesc_three _ _ _ _ hd]
    simp only [show k + 1 + 1 = k + 2 from rfl, show k + 2 + 1 = k + 3 from rfl]
    rw [if_neg (by rcases hb with hb | hb <;> rw [hb] <;> simp)]; rfl
  · rw [unesc_two _ _ hd (by simp [bytesOf_length]; omega)]; rfl
def three (s : ByteArray) (k : Nat) : Int := (bt s ((k + 1 : Nat) : Int) - 48) * 100 + (bt s ((k + 2 : Nat) : Int) - 48) * 10 + (bt s ((k + 3 : Nat) : Int) - 48)
theorem inv_three {s : ByteArray} {k : Nat} {acc : List Int} (h : Inv s k acc) (hk : k < s.size) (hc : bt s (k : Int) = 92) (hd : digAt s ((k + 1 : Nat) : Int) = true)
    (h2 : digAt s ((k + 2 : Nat) : Int) = true) (h3 : digAt s ((k + 3 : Nat) : Int) = true) : (255 < three s k → unesc (bytesOf s) = none) ∧ (¬ 255 < three s k → Inv s (k + 4) (acc ++ [three s k])) := by
  have b3 : k + 3 < s.size := by unfold digAt at h3; simp at h3; omega
  rw [digAt_eq (by omega)] at hd h2 h3
  have e : unesc ((bytesOf s).drop k) = if three s k > 255 then none else (unesc ((bytesOf s).drop (k + 4))).map (three s k :: ·) := by
    rw [bo_drop s k hk, hc, bo_drop s (k + 1) (by omega), bo_drop s (k + 1 + 1) (by omega), bo_drop s (k + 1 + 1 + 1) (by omega), unesc_three _ _ _ _ hd]
    simp only [show k + 1 + 1 = k + 2 from rfl, show k + 2 + 1 = k + 3 from rfl, h2, h3]
    rfl
  constructor
  · intro hb; rw [← h.2.2, e, if_pos hb]; rfl
  · intro hb
    refine ⟨by omega, by have := h.2.1; simp; omega, ?_⟩
    rw [← h.2.2, e, if_neg hb]; simp [Option.map_map, Function.comp_def]

set_option maxHeartbeats 4000000 in
set_option maxRecDepth 100000 in
theorem name_Bytes.calls (a0 : ByteArray) (r1 : ByteArray) (r2 : Int) (w : World) (h : name_Bytes.f a0 = some (r1, r2)) :
    Calls Try.prog 23 #[.string a0] w fun e w' => e = .returned (.tuple #[.string r1, .int .i64 r2]) ∧ Below w.heap.size w w' := by
  unfold name_Bytes.f at h
  by_cases hlen : a0.size < 140737488355328
  · rw [if_pos hlen] at h
    have H := Aside0.mk h
    clear h
    have HL := Aside0.mk hlen
    clear hlen
    obtain ⟨W0, hW0⟩ : ∃ W0 : World, W0 = w.alloc (.cells #[.string a0] 9) := ⟨_, rfl⟩
    have hc0 : W0.cell? ⟨w.heap.size, 0, none⟩ = some (.string a0) := by rw [hW0]; exact cell_fresh w (.string a0) 9
    have hz0 : W0.heap.size = w.heap.size + 1 := by rw [hW0]; simp
    have hb0 : Below w.heap.size w W0 := by rw [hW0]; exact below_alloc (Below.refl _ _) _
    have HW0 := Aside0.mk hW0.symm
    have HZ0 := Aside0.mk hz0
    have HB0 := Aside0.mk hb0
    have HC0 := Aside0.mk hc0
    clear hW0 hz0 hb0 hc0
    obtain ⟨i5, hi, hz1, hz2, hz3⟩ := info_parts infoByte
    go_enter Try.func23, Try.ntmps23
    go_wp2_with (at_make; rw [HW0.out]; refine wpList_make_own W0 rfl _ _ 58 rfl W0.heap.size 5 i5 (.int .u8 0) 1 Try.underlying58 hi hz1 hz2 .i64 .i64 _ a0.size rfl rfl rfl (by have := HL.out; rw [hz3]; omega) (by have := HL.out; unfold maxLen; omega) (Nat.le_refl _) ?_; intro w1 hown1 hg1; have HO1 := Aside0.mk (Kd.R_of_own (ok := fun _ => True) (xs := ([] : List Int)) (enc := Value.int .u8) (h1 := fun _ => rfl) hown1 (fun _ _ => trivial)); have HB1 := Aside0.mk (pw_below_grown (Below.refl W0.heap.size W0) none (Nat.le_refl _) hg1 (by simp)); clear hown1 hg1)
    go_loopw [4, 6] (fun v i wr => ∃ (k : Nat) (acc : List Int), i = .int .i64 k ∧ Aside0 (Inv a0 k acc) ∧ Aside0 (Kd.R (Kd.int .u8) 5 wr W0.heap.size (fun _ => True) v acc) ∧ Aside0 (Below W0.heap.size W0 wr)) (fun _ i _ => a0.size - (intOf i).toNat)
    case atStart => exact ⟨0, [], rfl, ⟨inv0 a0⟩, HO1, HB1⟩
    case round =>
      clear HO1 HB1 hi hz1 hz2 hz3
      obtain ⟨k, acc, rfl, HI, HO, HB⟩ := hrel
      have hcell : wr.cell? ⟨w.heap.size, 0, none⟩ = some (.string a0) := pw_cell_below HB.out HC0.out
      have hkb : k ≤ 140737488355328 := by have := HI.out.1; have := HL.out; omega
      have hsb : a0.size ≤ 140737488355328 := by have := HL.out; omega
      by_cases hk : k < a0.size
      · have hx0 := bt_nat a0 k hk
        by_cases hc : bt a0 (k : Int) = 92
        · have hcb : ((bt a0 (k : Int)) != 92) = false := bne_eq_false_iff_eq.mpr hc
          by_cases he : k + 1 = a0.size
          · have heb : (((k : Int) + 1) == (a0.size : Int)) = true := beq_iff_eq.mpr (by omega)
            have h2 := H.out
            rw [inv_last HI.out hk hc he] at h2
            simp only [Option.some.injEq, Prod.mk.injEq] at h2
            obtain ⟨rfl, rfl⟩ := h2
            clear hc he
            go_wp2
            go_ret2
            exact ⟨by first | rfl | (simp; done) | (simp [*]; done), below_then HB0.out (by have := HZ0.out; omega) (by repeat (first | (with_reducible first | exact HB.out | apply below_alloc | apply pw_below_drewN | apply below_drew1) | exact HB.out))⟩
          · have heb : (((k : Int) + 1) == (a0.size : Int)) = false := beq_eq_false_iff_ne.mpr (by omega)
            have he1 : k + 1 < a0.size := by omega
            have hx1 := bt_nat a0 (k + 1) he1
            by_cases hd : digAt a0 ((k + 1 : Nat) : Int) = false
            · have HI' := Aside0.mk (inv_one HI.out hk hc he1 hd)
              have hd' : digAt a0 ((k : Int) + 1) = false := hd
              clear hc he hd
              go_wp2_with (first | (go_at_call 51; refine (digit_calls a0 _ w.heap.size _ (by omega) hcell).mono ?_; rintro e w2 ⟨rfl, rfl⟩) | ((with_reducible refine gate_builtin (b := .append) (xs := #[.tmp 74, .tmp 78]) rfl ?_); at_builtin; refine Kd.R_append (Kd.int .u8) (w0 := W0) W0.heap.size rfl (.tmp 74) (.tmp 78) 58 5 (.int .u8 0) 1 rfl Try.underlying58 infoByte rfl (by decide) (by omega) _ acc (bt a0 ((k + 1 : Nat) : Int)) [.int .u8 (bt a0 ((k + 1 : Nat) : Int))] (fun _ => True) (fun _ => False) rfl rfl ?aP (fun _ hk => hk.elim) ?aF ?aO ?aB ?aS ?aL ?_; (case aP => exact rfl); (case aB => exact (by repeat (first | (with_reducible first | exact HB.out | apply below_alloc | apply pw_below_drewN | apply below_drew1) | exact HB.out))); (case aF => exact (fun _ _ => trivial)); (case aO => exact (by (with_reducible repeat (first | apply Kd.R_alloc | apply Kd.R_drewN | apply Kd.R_drew)); exact HO.out)); (case aS => exact (below_size (by repeat (first | (with_reducible first | exact HB.out | apply below_alloc | apply pw_below_drewN | apply below_drew1) | exact HB.out)))); (case aL => exact (by have := HI.out.2.1; omega)); intro v1_ w1_ ho hb hg hat; have n0_ := Aside0.mk hb; have n1_ := Aside0.mk ho; clear HB HO; have HB := n0_; have HO := n1_; clear n0_ n1_; clear ho hb hg hat))
              go_roundw
              case rel => exact ⟨k + 2, acc ++ [bt a0 ((k + 1 : Nat) : Int)], by go_num, HI', ⟨by (with_reducible repeat (first | apply Kd.R_alloc | apply Kd.R_drewN | apply Kd.R_drew)); exact HO.out⟩, ⟨(by repeat (first | (with_reducible first | exact HB.out | apply below_alloc | apply pw_below_drewN | apply below_drew1) | exact HB.out))⟩⟩
              case measure => simp [intOf]; omega
            · simp only [Bool.not_eq_false] at hd
              have hd' : digAt a0 ((k : Int) + 1) = true := hd
              by_cases h2 : digAt a0 ((k + 2 : Nat) : Int) = false
              · have hh := H.out
                rw [inv_bad HI.out hk hc he1 hd (Or.inl h2)] at hh
                simp only [Option.some.injEq, Prod.mk.injEq] at hh
                obtain ⟨rfl, rfl⟩ := hh
                have h2' : digAt a0 ((k : Int) + 2) = false := h2
                clear hc he hd h2
                go_wp2_with (first | (go_at_call 51; refine (digit_calls a0 _ w.heap.size _ (by omega) hcell).mono ?_; rintro e w2 ⟨rfl, rfl⟩))
                go_ret2
                exact ⟨by first | rfl | (simp; done) | (simp [*]; done), below_then HB0.out (by have := HZ0.out; omega) (by repeat (first | (with_reducible first | exact HB.out | apply below_alloc | apply pw_below_drewN | apply below_drew1) | exact HB.out))⟩
              · simp only [Bool.not_eq_false] at h2
                have h2' : digAt a0 ((k : Int) + 2) = true := h2
                by_cases h3 : digAt a0 ((k + 3 : Nat) : Int) = false
                · have hh := H.out
                  rw [inv_bad HI.out hk hc he1 hd (Or.inr h3)] at hh
                  simp only [Option.some.injEq, Prod.mk.injEq] at hh
                  obtain ⟨rfl, rfl⟩ := hh
                  have h3' : digAt a0 ((k : Int) + 3) = false := h3
                  clear hc he hd h2 h3
                  go_wp2_with (first | (go_at_call 51; refine (digit_calls a0 _ w.heap.size _ (by omega) hcell).mono ?_; rintro e w2 ⟨rfl, rfl⟩))
                  go_ret2
                  exact ⟨by first | rfl | (simp; done) | (simp [*]; done), below_then HB0.out (by have := HZ0.out; omega) (by repeat (first | (with_reducible first | exact HB.out | apply below_alloc | apply pw_below_drewN | apply below_drew1) | exact HB.out))⟩
                · simp only [Bool.not_eq_false] at h3
                  have h3' : digAt a0 ((k : Int) + 3) = true := h3
                  have he3 : k + 3 < a0.size := by unfold digAt at h3; simp at h3; omega
                  have he2 : k + 2 < a0.size := by omega
                  have hx2 := bt_nat a0 (k + 2) he2
                  have hx3 := bt_nat a0 (k + 3) he3
                  have HT := Aside0.mk (inv_three HI.out hk hc hd h2 h3)
                  have g1 := dig_bounds he1 hd
                  have g2 := dig_bounds he2 h2
                  have g3 := dig_bounds he3 h3
                  clear hc he hd h2 h3
                  obtain ⟨g1a, g1b⟩ := g1
                  obtain ⟨g2a, g2b⟩ := g2
                  obtain ⟨g3a, g3b⟩ := g3
                  go_wp2_with (first | (go_at_call 51; refine (digit_calls a0 _ w.heap.size _ (by omega) hcell).mono ?_; rintro e w2 ⟨rfl, rfl⟩))
                  have w1q : IntKind.i64.wrap ((k : Int) + 1) = (k : Int) + 1 := (i64_w _).trans (by unfold wrap64; omega)
                  have w2q : IntKind.i64.wrap ((k : Int) + 2) = (k : Int) + 2 := (i64_w _).trans (by unfold wrap64; omega)
                  have w3q : IntKind.i64.wrap ((k : Int) + 3) = (k : Int) + 3 := (i64_w _).trans (by unfold wrap64; omega)
                  have p1 := eq_true (show 0 ≤ (k : Int) + 1 by omega)
                  have p2 := eq_true (show 0 ≤ (k : Int) + 2 by omega)
                  have p3 := eq_true (show 0 ≤ (k : Int) + 3 by omega)
                  have q1 := eq_true (show (k : Int) + 1 < (a0.size : Int) by omega)
                  have q2 := eq_true (show (k : Int) + 2 < (a0.size : Int) by omega)
                  have q3 := eq_true (show (k : Int) + 3 < (a0.size : Int) by omega)
                  have n1 : ((k : Int) + 1).toNat = k + 1 := by omega
                  have n2 : ((k : Int) + 2).toNat = k + 2 := by omega
                  have n3 : ((k : Int) + 3).toNat = k + 3 := by omega
                  go_quiet (fail)
                  clear w1q w2q w3q p1 p2 p3 q1 q2 q3 n1 n2 n3
                  have hv : (bt a0 ((k : Int) + 1) - 48) % 256 * 100 + (bt a0 ((k : Int) + 2) - 48) % 256 * 10 + (bt a0 ((k : Int) + 3) - 48) % 256 = three a0 k := by
                    have e1 : ((k + 1 : Nat) : Int) = (k : Int) + 1 := by omega
                    have e2 : ((k + 2 : Nat) : Int) = (k : Int) + 2 := by omega
                    have e3 : ((k + 3 : Nat) : Int) = (k : Int) + 3 := by omega
                    unfold three
                    rw [e1] at g1a g1b ⊢; rw [e2] at g2a g2b ⊢; rw [e3] at g3a g3b ⊢
                    omega
                  have hv0 : 0 ≤ three a0 k := by unfold three; omega
                  rw [hv]
                  clear hv hx1 hx2 hx3 g1a g1b g2a g2b g3a g3b
                  by_cases hb : 255 < three a0 k
                  · have hh := H.out
                    rw [HT.out.1 hb] at hh
                    simp only [Option.some.injEq, Prod.mk.injEq] at hh
                    obtain ⟨rfl, rfl⟩ := hh
                    go_wp2
                    go_ret2
                    exact ⟨by first | rfl | (simp; done) | (simp [*]; done), below_then HB0.out (by have := HZ0.out; omega) (by repeat (first | (with_reducible first | exact HB.out | apply below_alloc | apply pw_below_drewN | apply below_drew1) | exact HB.out))⟩
                  · have HI' := Aside0.mk (HT.out.2 (by omega))
                    have hb' : three a0 k ≤ 255 := by omega
                    go_wp2_with (first | ((with_reducible refine gate_builtin (b := .append) (xs := #[.tmp 42, .tmp 45]) rfl ?_); at_builtin; refine Kd.R_append (Kd.int .u8) (w0 := W0) W0.heap.size rfl (.tmp 42) (.tmp 45) 58 5 (.int .u8 0) 1 rfl Try.underlying58 infoByte rfl (by decide) (by omega) _ acc (three a0 k) [.int .u8 (three a0 k)] (fun _ => True) (fun _ => False) rfl rfl ?aP (fun _ hk => hk.elim) ?aF ?aO ?aB ?aS ?aL ?_; (case aP => exact rfl); (case aB => exact (by repeat (first | (with_reducible first | exact HB.out | apply below_alloc | apply pw_below_drewN | apply below_drew1) | exact HB.out))); (case aF => exact (fun _ _ => trivial)); (case aO => exact (by (with_reducible repeat (first | apply Kd.R_alloc | apply Kd.R_drewN | apply Kd.R_drew)); exact HO.out)); (case aS => exact (below_size (by repeat (first | (with_reducible first | exact HB.out | apply below_alloc | apply pw_below_drewN | apply below_drew1) | exact HB.out)))); (case aL => exact (by have := HI.out.2.1; omega)); intro v1_ w1_ ho hb hg hat; have n0_ := Aside0.mk hb; have n1_ := Aside0.mk ho; clear HB HO; have HB := n0_; have HO := n1_; clear n0_ n1_; clear ho hb hg hat))
                    go_roundw
                    case rel => exact ⟨k + 4, acc ++ [three a0 k], by go_num, HI', ⟨by (with_reducible repeat (first | apply Kd.R_alloc | apply Kd.R_drewN | apply Kd.R_drew)); exact HO.out⟩, ⟨(by repeat (first | (with_reducible first | exact HB.out | apply below_alloc | apply pw_below_drewN | apply below_drew1) | exact HB.out))⟩⟩
                    case measure => simp [intOf]; omega
        · have hcb : ((bt a0 (k : Int)) != 92) = true := bne_iff_ne.mpr hc
          have HI' := Aside0.mk (inv_plain HI.out hk hc)
          clear hc
          go_wp2_with (first | ((with_reducible refine gate_builtin (b := .append) (xs := #[.tmp 54, .tmp 58]) rfl ?_); at_builtin; refine Kd.R_append (Kd.int .u8) (w0 := W0) W0.heap.size rfl (.tmp 54) (.tmp 58) 58 5 (.int .u8 0) 1 rfl Try.underlying58 infoByte rfl (by decide) (by omega) _ acc (bt a0 (k : Int)) [.int .u8 (bt a0 (k : Int))] (fun _ => True) (fun _ => False) rfl rfl ?aP (fun _ hk => hk.elim) ?aF ?aO ?aB ?aS ?aL ?_; (case aP => exact rfl); (case aB => exact (by repeat (first | (with_reducible first | exact HB.out | apply below_alloc | apply pw_below_drewN | apply below_drew1) | exact HB.out))); (case aF => exact (fun _ _ => trivial)); (case aO => exact (by (with_reducible repeat (first | apply Kd.R_alloc | apply Kd.R_drewN | apply Kd.R_drew)); exact HO.out)); (case aS => exact (below_size (by repeat (first | (with_reducible first | exact HB.out | apply below_alloc | apply pw_below_drewN | apply below_drew1) | exact HB.out)))); (case aL => exact (by have := HI.out.2.1; omega)); intro v1_ w1_ ho hb hg hat; have n0_ := Aside0.mk hb; have n1_ := Aside0.mk ho; clear HB HO; have HB := n0_; have HO := n1_; clear n0_ n1_; clear ho hb hg hat))
          go_roundw
          case rel => exact ⟨k + 1, acc ++ [bt a0 (k : Int)], by go_num, HI', ⟨by (with_reducible repeat (first | apply Kd.R_alloc | apply Kd.R_drewN | apply Kd.R_drew)); exact HO.out⟩, ⟨(by repeat (first | (with_reducible first | exact HB.out | apply below_alloc | apply pw_below_drewN | apply below_drew1) | exact HB.out))⟩⟩
          case measure => simp [intOf]; omega
      · have hu := inv_end HI.out hk
        have h2 := H.out
        rw [hu] at h2
        simp only [Option.some.injEq, Prod.mk.injEq] at h2
        obtain ⟨rfl, rfl⟩ := h2
        have hcv := own_string (P := Try.prog) Try.underlying58 Try.underlying5 Try.underlying9 (Kd.own_of_R HO.out)
        clear hu
        go_wp2
        go_ret2
        exact ⟨by first | rfl | (simp; done) | (simp [*]; done), below_then HB0.out (by have := HZ0.out; omega) (by repeat (first | (with_reducible first | exact HB.out | apply below_alloc | apply pw_below_drewN | apply below_drew1) | exact HB.out))⟩
  · rw [if_neg hlen] at h; exact absurd h (by simp)

end Go.Proofs.Ytplnknhlgdoliaa.Print
end
section
/-
  DERIVED: THE SHELF's CONTRACTS AT THIS DUMP, IN PLAIN WORDS (tools/lay-plain.mjs out of 'YtplnknhlgdoliaaXShelf0.lean', which tools/lay-shelf.mjs wrote): THE SAME DECLARATIONS UNDER THE SAME NAMES: 'import', 'namespace', 'open', 'def', 'theorem' AND NOTHING ELSE: no command of the shelf's: FOR A HAND-IN. Each laying: the table of numbers ('.._ren') and one theorem, a field a fact of the dump's own or the kernel's comparison; each contract: ONE APPLICATION.
-/
namespace Go.Proofs
open Go.Shelf
def Try.lays170_ren : Go.Shelf.Ren := ⟨fun | 170 => 46 | n => n, fun | 70 => 61 | 3 => 3 | 0 => 0 | 72 => 63 | 37 => 58 | 5 => 5 | n => n, fun | n => n⟩
theorem Try.lays170 : Go.Proofs.Lays.n170 Try.prog Try.lays170_ren := {
  mixed := by kernel_rfl
  f170 := Try.func46.trans (congrArg some (by kernel_rfl))
  t0 := Try.underlying0
  a0 := Try.isAgg0
  z0 := Try.sizeOf0
  v0 := Try.zeroValue0
  t3 := Try.underlying3
  a3 := Try.isAgg3
  z3 := Try.sizeOf3
  v3 := Try.zeroValue3
  t37 := Try.underlying58
  a37 := Try.isAgg58
  z37 := Try.sizeOf58
  v37 := Try.zeroValue58
  t70 := Try.underlying61
  a70 := Try.isAgg61
  z70 := Try.sizeOf61
  v70 := Try.zeroValue61
  t72 := Try.underlying63
  a72 := Try.isAgg63
  z72 := Try.sizeOf63
  v72 := Try.zeroValue63 }
open Go.RowKit in
/-- (*strings.Builder).Len: "Len returns the number of accumulated bytes; b.Len() == len(b.String()).": the world is as it was. (LAID: no walk: one application.) -/
theorem Try.Builder_Len (B b : Nat) (bs : List Value) (w : World) (h : Lib.IsBuilder 63 5 B b bs w) :
    Calls Try.prog 46 #[.pointer (some ⟨b, 0, none⟩)] w fun e w' => e = .returned (.int .i64 bs.length) ∧ w' = w := Any.Builder_Len Try.lays170 B b bs w h
def Try.lays169_ren : Go.Shelf.Ren := ⟨fun | 169 => 49 | n => n, fun | 70 => 61 | 9 => 9 | 0 => 0 | 72 => 63 | 37 => 58 | 127 => 79 | 3 => 3 | 5 => 5 | n => n, fun | n => n⟩
theorem Try.lays169 : Go.Proofs.Lays.n169 Try.prog Try.lays169_ren := {
  mixed := by kernel_rfl
  f169 := Try.func49.trans (congrArg some (by kernel_rfl))
  t0 := Try.underlying0
  a0 := Try.isAgg0
  z0 := Try.sizeOf0
  v0 := Try.zeroValue0
  t3 := Try.underlying3
  a3 := Try.isAgg3
  z3 := Try.sizeOf3
  v3 := Try.zeroValue3
  t9 := Try.underlying9
  a9 := Try.isAgg9
  z9 := Try.sizeOf9
  v9 := Try.zeroValue9
  t37 := Try.underlying58
  a37 := Try.isAgg58
  z37 := Try.sizeOf58
  v37 := Try.zeroValue58
  t70 := Try.underlying61
  a70 := Try.isAgg61
  z70 := Try.sizeOf61
  v70 := Try.zeroValue61
  t72 := Try.underlying63
  a72 := Try.isAgg63
  z72 := Try.sizeOf63
  v72 := Try.zeroValue63
  t127 := Try.underlying79
  a127 := Try.isAgg79
  z127 := Try.sizeOf79
  v127 := Try.zeroValue79 }
theorem Try.Builder_Extra_169 : Builder.Extra Try.prog Try.lays169_ren := {
  sizeBuilder := by kernel_rfl
  liesBuilder := by kernel_rfl
  t5 := Try.underlying5
  a5 := Try.isAgg5
  z5 := Try.sizeOf5
  v5 := Try.zeroValue5
  infoByte := by kernel_rfl
  cellsByte := by kernel_rfl
  sizeByte := by kernel_rfl
  neB5 := by decide }
open Go.RowKit in
/-- (*strings.Builder).String: "String returns the accumulated string.": OF A BUILDER THAT HOLDS AT LEAST ONE BYTE. ✋ THE MODEL FREEZES THOSE BYTES IN THE BUFFER (unsafe.String): a later write INTO them ends the model's run without an answer; a later append BEHIND them goes on. The statement's order of evaluation is drawn: one draw. (LAID: no walk: one application.) -/
theorem Try.Builder_String (B b : Nat) (l : List UInt8) (w : World) (h : Lib.IsBuilder 63 5 B b (Lib.byteCells l) w) (h0 : l ≠ []) :
    Calls Try.prog 49 #[.pointer (some ⟨b, 0, none⟩)] w fun e w' => e = .returned (.string ⟨l.toArray⟩) ∧ Below B w w' := Any.Builder_String Try.lays169 Try.Builder_Extra_169 B b l w h h0
open Go.RowKit in
/-- (*strings.Builder).String OF A BUILDER THAT HOLDS NO BYTE: the empty string. (Its buffer is nil, or a row of which it has taken nothing yet; where that row has NO capacity the model lays one new block for unsafe.SliceData's 'some address'.) One draw. (LAID: no walk: one application.) -/
theorem Try.Builder_String_empty (B b : Nat) (w : World) (h : Lib.IsBuilder 63 5 B b [] w) (hBw : B ≤ w.heap.size) :
    Calls Try.prog 49 #[.pointer (some ⟨b, 0, none⟩)] w fun e w' => e = .returned (.string ⟨#[]⟩) ∧ Below B w w' := Any.Builder_String_empty Try.lays169 Try.Builder_Extra_169 B b w h hBw
open Go.RowKit in
/-- (*strings.Builder).String: "String returns the accumulated string.": WHATEVER THE BUILDER HOLDS. (LAID: no walk: one application.) -/
theorem Try.Builder_String_any (B b : Nat) (l : List UInt8) (w : World) (h : Lib.IsBuilder 63 5 B b (Lib.byteCells l) w) (hBw : B ≤ w.heap.size) :
    Calls Try.prog 49 #[.pointer (some ⟨b, 0, none⟩)] w fun e w' => e = .returned (.string ⟨l.toArray⟩) ∧ Below B w w' := Any.Builder_String_any Try.lays169 Try.Builder_Extra_169 B b l w h hBw
def Try.lays213_ren : Go.Shelf.Ren := ⟨fun | 213 => 62 | 265 => 64 | n => n, fun | 9 => 9 | 3 => 3 | n => n, fun | n => n⟩
theorem Try.lays213 : Go.Proofs.Lays.n213 Try.prog Try.lays213_ren := {
  mixed := by kernel_rfl
  f213 := Try.func62.trans (congrArg some (by kernel_rfl))
  f265 := Try.func64.trans (congrArg some (by kernel_rfl))
  t3 := Try.underlying3
  a3 := Try.isAgg3
  z3 := Try.sizeOf3
  v3 := Try.zeroValue3
  t9 := Try.underlying9
  a9 := Try.isAgg9
  z9 := Try.sizeOf9
  v9 := Try.zeroValue9 }
open Go.RowKit in
/-- internal/bytealg.CompareString (what strings.Compare calls): IT RETURNS 'Lib.compareBytes a b'; the world is as it was. (LAID: no walk: one application.) -/
theorem Try.bytealg_CompareString (a b : ByteArray) (w : World) :
    Calls Try.prog 62 #[.string a, .string b] w fun e w' => e = .returned (.int .i64 (Lib.compareBytes a.data.toList b.data.toList)) ∧ w' = w := Any.bytealg_CompareString Try.lays213 a b w
def Try.lays106_ren : Go.Shelf.Ren := ⟨fun | 106 => 59 | 213 => 62 | 265 => 64 | n => n, fun | 9 => 9 | 3 => 3 | n => n, fun | n => n⟩
theorem Try.lays106 : Go.Proofs.Lays.n106 Try.prog Try.lays106_ren := {
  mixed := by kernel_rfl
  f106 := Try.func59.trans (congrArg some (by kernel_rfl))
  f213 := Try.func62.trans (congrArg some (by kernel_rfl))
  f265 := Try.func64.trans (congrArg some (by kernel_rfl))
  t3 := Try.underlying3
  a3 := Try.isAgg3
  z3 := Try.sizeOf3
  v3 := Try.zeroValue3
  t9 := Try.underlying9
  a9 := Try.isAgg9
  z9 := Try.sizeOf9
  v9 := Try.zeroValue9 }
open Go.RowKit in
/-- strings.Compare: "Compare returns an integer comparing two strings lexicographically. The result will be 0 if a == b, -1 if a < b, and +1 if a > b.": IT RETURNS 'Lib.compareBytes a b'; the world is as it was. (LAID: no walk: one application.) -/
theorem Try.strings_Compare (a b : ByteArray) (w : World) :
    Calls Try.prog 59 #[.string a, .string b] w fun e w' => e = .returned (.int .i64 (Lib.compareBytes a.data.toList b.data.toList)) ∧ w' = w := Any.strings_Compare Try.lays106 a b w
open Go.RowKit in
/-- (*strings.Builder).Len: "Len returns the number of accumulated bytes; b.Len() == len(b.String()).": the world is as it was. (THE FORM '_f': 'Lib.IsBuilderF'.) (LAID: no walk: one application.) -/
theorem Try.Builder_Len_f (B b : Nat) (bs : List Value) (w : World) (h : Lib.IsBuilderF 63 5 B b bs w) :
    Calls Try.prog 46 #[.pointer (some ⟨b, 0, none⟩)] w fun e w' => e = .returned (.int .i64 bs.length) ∧ w' = w := Any.Builder_Len_f Try.lays170 B b bs w h
open Go.RowKit in
/-- (*strings.Builder).String: "String returns the accumulated string.": OF A BUILDER THAT HOLDS AT LEAST ONE BYTE. ✋ THE MODEL FREEZES THOSE BYTES IN THE BUFFER (unsafe.String): a later write INTO them ends the model's run without an answer; a later append BEHIND them goes on. The statement's order of evaluation is drawn: one draw. THE FORM '_f': IT SAYS BESIDES THAT THE BUILDER IS A BUILDER STILL ('Lib.IsBuilderF', the same bytes): SO IT CAN BE WRITTEN ON: 'b.WriteString(b.String()[:k])'. (LAID: no walk: one application.) -/
theorem Try.Builder_String_f (B b : Nat) (l : List UInt8) (w : World) (h : Lib.IsBuilderF 63 5 B b (Lib.byteCells l) w) (h0 : l ≠ []) :
    Calls Try.prog 49 #[.pointer (some ⟨b, 0, none⟩)] w fun e w' => e = .returned (.string ⟨l.toArray⟩) ∧ (Lib.IsBuilderF 63 5 B b (Lib.byteCells l) w' ∧ Below B w w') := Any.Builder_String_f Try.lays169 Try.Builder_Extra_169 B b l w h h0
open Go.RowKit in
/-- (*strings.Builder).String OF A BUILDER THAT HOLDS NO BYTE: the empty string; THE FORM '_f': a builder still. (LAID: no walk: one application.) -/
theorem Try.Builder_String_empty_f (B b : Nat) (w : World) (h : Lib.IsBuilderF 63 5 B b [] w) (hBw : B ≤ w.heap.size) :
    Calls Try.prog 49 #[.pointer (some ⟨b, 0, none⟩)] w fun e w' => e = .returned (.string ⟨#[]⟩) ∧ (Lib.IsBuilderF 63 5 B b [] w' ∧ Below B w w') := Any.Builder_String_empty_f Try.lays169 Try.Builder_Extra_169 B b w h hBw
open Go.RowKit in
/-- (*strings.Builder).String: "String returns the accumulated string.": WHATEVER THE BUILDER HOLDS; THE FORM '_f': OF A BUILDER THAT MAY HAVE BEEN READ BEFORE; AND IT IS A BUILDER STILL, holding the same bytes: it can be written on. (LAID: no walk: one application.) -/
theorem Try.Builder_String_any_f (B b : Nat) (l : List UInt8) (w : World) (h : Lib.IsBuilderF 63 5 B b (Lib.byteCells l) w) (hBw : B ≤ w.heap.size) :
    Calls Try.prog 49 #[.pointer (some ⟨b, 0, none⟩)] w fun e w' => e = .returned (.string ⟨l.toArray⟩) ∧ (Lib.IsBuilderF 63 5 B b (Lib.byteCells l) w' ∧ Below B w w') := Any.Builder_String_any_f Try.lays169 Try.Builder_Extra_169 B b l w h hBw
open Go.RowKit in
/-- (*strings.Builder).String: "String returns the accumulated string.": OF A BUILDER THAT HOLDS AT LEAST ONE BYTE. ✋ THE MODEL FREEZES THOSE BYTES IN THE BUFFER (unsafe.String): a later write INTO them ends the model's run without an answer; a later append BEHIND them goes on. The statement's order of evaluation is drawn: one draw. THE FORM '_k': OVER 'Lib.IsBuilderF' (a builder that 'String()' may have read), AND WITH THE FRAME THAT REACHES ABOVE THE BUILDER: 'Lib.OthersKept': every block that is not b and is no row of uint8's stands as it stood: the iterator of a range among them. (LAID: no walk: one application.) -/
theorem Try.Builder_String_k (B b : Nat) (l : List UInt8) (w : World) (h : Lib.IsBuilderF 63 5 B b (Lib.byteCells l) w) (h0 : l ≠ []) :
    Calls Try.prog 49 #[.pointer (some ⟨b, 0, none⟩)] w fun e w' => e = .returned (.string ⟨l.toArray⟩) ∧ (Lib.IsBuilderF 63 5 B b (Lib.byteCells l) w' ∧ Below B w w' ∧ Lib.OthersKept 5 (some b) w w') := Any.Builder_String_k Try.lays169 Try.Builder_Extra_169 B b l w h h0
open Go.RowKit in
/-- (*strings.Builder).String OF A BUILDER THAT HOLDS NO BYTE: the empty string; THE FORM '_k': OVER 'Lib.IsBuilderF' (a builder that 'String()' may have read), AND WITH THE FRAME THAT REACHES ABOVE THE BUILDER: 'Lib.OthersKept': every block that is not b and is no row of uint8's stands as it stood: the iterator of a range among them. (LAID: no walk: one application.) -/
theorem Try.Builder_String_empty_k (B b : Nat) (w : World) (h : Lib.IsBuilderF 63 5 B b [] w) (hBw : B ≤ w.heap.size) :
    Calls Try.prog 49 #[.pointer (some ⟨b, 0, none⟩)] w fun e w' => e = .returned (.string ⟨#[]⟩) ∧ (Lib.IsBuilderF 63 5 B b [] w' ∧ Below B w w' ∧ Lib.OthersKept 5 (some b) w w') := Any.Builder_String_empty_k Try.lays169 Try.Builder_Extra_169 B b w h hBw
open Go.RowKit in
/-- (*strings.Builder).String: "String returns the accumulated string.": WHATEVER THE BUILDER HOLDS; THE FORM '_k': OVER 'Lib.IsBuilderF' (a builder that 'String()' may have read), AND WITH THE FRAME THAT REACHES ABOVE THE BUILDER: 'Lib.OthersKept': every block that is not b and is no row of uint8's stands as it stood: the iterator of a range among them. (LAID: no walk: one application.) -/
theorem Try.Builder_String_any_k (B b : Nat) (l : List UInt8) (w : World) (h : Lib.IsBuilderF 63 5 B b (Lib.byteCells l) w) (hBw : B ≤ w.heap.size) :
    Calls Try.prog 49 #[.pointer (some ⟨b, 0, none⟩)] w fun e w' => e = .returned (.string ⟨l.toArray⟩) ∧ (Lib.IsBuilderF 63 5 B b (Lib.byteCells l) w' ∧ Below B w w' ∧ Lib.OthersKept 5 (some b) w w') := Any.Builder_String_any_k Try.lays169 Try.Builder_Extra_169 B b l w h hBw
end Go.Proofs
end
section
/- name.Of, walked: it answers what 'name_Of.f' says of the labels. -/
namespace Go.Proofs.Ytplnknhlgdoliaa.Print
open Go.RowKit Go.Proofs.YtplnknhlgdoliaaW.PrintWords Go.Proofs.YtplnknhlgdoliaaW.PrintLast Go.Proofs.YtplnknhlgdoliaaW.PrintMore
set_option linter.unusedVariables false
set_option linter.unusedSimpArgs false
/-- a label with its length ahead -/
def lab (s : ByteArray) : List Int := (s.size : Int) :: bytesOf s
def glue (l : List ByteArray) : List Int := l.flatMap lab
def badLab (s : ByteArray) : Bool := decide (s.size = 0) || decide (63 < s.size)
def name_Of.f (l : List ByteArray) : Option (ByteArray × Int) :=
  if l.any badLab then some (⟨#[]⟩, 10) else if 255 < (glue l).length + 1 then some (⟨#[]⟩, 2) else some (strOfNums (glue l ++ [0]), 0)
theorem glue_snoc (l : List ByteArray) (s : ByteArray) : glue (l ++ [s]) = glue l ++ lab s := by simp [glue]
theorem lab_length (s : ByteArray) : (lab s).length = s.size + 1 := by simp [lab, bytesOf_length]
/-- what stands at the loop's head -/
def OfInv (l : List ByteArray) (k : Nat) (long : Bool) (bs : List Value) : Prop :=
  k ≤ l.length ∧ (l.take k).any badLab = false ∧ long = decide (255 < (glue (l.take k)).length + 1) ∧ bs.length + 1 ≤ 255 ∧ (long = false → bs = nums .u8 (glue (l.take k)))
theorem of0 (l : List ByteArray) : OfInv l 0 false [] := by simp [OfInv, glue, nums]
theorem take_succ' {α : Type} {l : List α} {k : Nat} {s : α} (h : l[k]? = some s) : l.take (k + 1) = l.take k ++ [s] := by rw [List.take_add_one, h]; rfl
theorem of_bad {l : List ByteArray} {k : Nat} {s : ByteArray} (hs : l[k]? = some s) (hb : badLab s = true) : l.any badLab = true := by
  rw [List.any_eq_true]; exact ⟨s, List.mem_of_getElem? hs, hb⟩
theorem of_step_long {l : List ByteArray} {k : Nat} {long : Bool} {bs : List Value} {s : ByteArray} (h : OfInv l k long bs) (hs : l[k]? = some s) (hb : badLab s = false) (hl : long = true ∨ 255 < bs.length + s.size + 2) : OfInv l (k + 1) true bs := by
  obtain ⟨h1, h2, h3, h4, h5⟩ := h
  have hk : k < l.length := (List.getElem?_eq_some_iff.1 hs).1
  refine ⟨hk, by rw [take_succ' hs]; simp [h2, hb], ?_, h4, by simp⟩
  rw [take_succ' hs, glue_snoc, List.length_append, lab_length]
  cases long with
  | true => symm at h3; simp at h3 ⊢; omega
  | false =>
    have := h5 rfl
    subst this
    simp [nums_length] at hl
    simp; omega
theorem of_step {l : List ByteArray} {k : Nat} {bs : List Value} {s : ByteArray} (h : OfInv l k false bs) (hs : l[k]? = some s) (hb : badLab s = false) (hl : ¬ 255 < bs.length + s.size + 2) : OfInv l (k + 1) false (bs ++ [.int .u8 s.size] ++ Lib.strCells s) := by
  obtain ⟨h1, h2, h3, h4, h5⟩ := h
  have hk : k < l.length := (List.getElem?_eq_some_iff.1 hs).1
  have := h5 rfl
  subst this
  rw [nums_length] at hl
  refine ⟨hk, by rw [take_succ' hs]; simp [h2, hb], ?_, by simp [nums_length, Lib.strCells_length]; omega, fun _ => ?_⟩
  · rw [take_succ' hs, glue_snoc, List.length_append, lab_length]; simp; omega
  · rw [take_succ' hs, glue_snoc, nums_append, List.append_assoc]
    simp [lab, nums, bytesOf, Lib.strCells]
theorem of_end {l : List ByteArray} {k : Nat} {long : Bool} {bs : List Value} (h : OfInv l k long bs) (hk : ¬ k < l.length) : l.any badLab = false ∧ long = decide (255 < (glue l).length + 1) ∧ (long = false → bs = nums .u8 (glue l)) := by
  obtain ⟨h1, h2, h3, h4, h5⟩ := h
  rw [List.take_of_length_le (by omega)] at h2 h3 h5
  exact ⟨h2, h3, h5⟩
theorem bad_false {s : ByteArray} (h : badLab s = false) : 0 < s.size ∧ s.size ≤ 63 := by
  unfold badLab at h
  simp only [Bool.or_eq_false_iff, decide_eq_false_iff_not] at h
  omega
theorem glue_range (l : List ByteArray) (hb : l.any badLab = false) : ∀ x ∈ glue l ++ [0], 0 ≤ x ∧ x < 256 := by
  intro x hx
  rcases List.mem_append.1 hx with hx | hx
  · obtain ⟨s, hs, hx⟩ := List.mem_flatMap.1 hx
    have hbs : badLab s = false := by
      rw [List.any_eq_false] at hb; simpa using hb s hs
    have := bad_false hbs
    rcases List.mem_cons.1 hx with rfl | hx
    · omega
    · exact bo_range s x hx
  · simp at hx; omega
set_option maxHeartbeats 4000000 in
set_option maxRecDepth 100000 in
theorem name_Of.calls (A0 : Option Addr) (c0 : Nat) (l0 : List ByteArray) (r1 : ByteArray) (r2 : Int) (w : World) (hr0 : Kd.C Kd.string w A0 l0.length l0) (hc0 : l0.length ≤ c0) (h : name_Of.f l0 = some (r1, r2)) :
    Calls Try.prog 21 #[.slice A0 l0.length c0] w fun e w' => e = .returned (.tuple #[.string r1, .int .i64 r2]) ∧ Below w.heap.size w w' := by
  have H := Aside0.mk h
  clear h
  have HR := Aside0.mk hr0
  have hml : l0.length ≤ 9223372036854775807 := Kd.C_max hr0
  clear hr0 hc0
  have HI0 := Aside0.mk (Lib.fresh_isBuilder 63 5 w)
  have HB0 := Aside0.mk (below_alloc (Below.refl w.heap.size w) (.cells #[.pointer none, .slice none 0 0] 63))
  go_enter Try.func21, Try.ntmps21
  go_wp2
  go_loopw [5, 10] (fun lg i wr => ∃ (k : Nat) (long : Bool) (bs : List Value), lg = .bool long ∧ i = .int .i64 k ∧ Aside0 (OfInv l0 k long bs) ∧ Aside0 (Lib.IsBuilder 63 5 w.heap.size w.heap.size bs wr) ∧ Aside0 (Below w.heap.size w wr)) (fun _ i _ => l0.length - (intOf i).toNat)
  case atStart => exact ⟨0, false, [], rfl, rfl, ⟨of0 l0⟩, HI0, HB0⟩
  case round =>
    clear HI0 HB0
    obtain ⟨k, long, bs, rfl, rfl, HV, HI, HB⟩ := hrel
    by_cases hk : k < l0.length
    · obtain ⟨ad, hA, hcell⟩ := Kd.at_string (Kd.C_below HR.out HB.out) (k : Int) (by omega) (by omega)
      obtain ⟨s, hs⟩ : ∃ s, l0[k]? = some s := ⟨l0[k], List.getElem?_eq_getElem hk⟩
      have hrd : rdOf ByteArray.empty l0 (k : Int) = s := by simp [rdOf, List.getD_eq_getElem?_getD, hs]
      rw [hrd] at hcell
      simp only [Int.toNat_natCast] at hcell
      subst hA
      have HS := Aside0.mk hs
      clear hs hrd
      by_cases hz : s.size = 0
      · have hb : badLab s = true := by simp [badLab, hz]
        have he := empty_true hz
        have hh := H.out
        unfold name_Of.f at hh
        rw [if_pos (of_bad HS.out hb)] at hh
        simp only [Option.some.injEq, Prod.mk.injEq] at hh
        obtain ⟨rfl, rfl⟩ := hh
        clear hz
        go_wp2
        go_ret2
        exact ⟨by first | rfl | (simp; done), HB.out⟩
      · have he := empty_false hz
        by_cases h63 : 63 < s.size
        · have hb : badLab s = true := by simp [badLab, h63]
          have hh := H.out
          unfold name_Of.f at hh
          rw [if_pos (of_bad HS.out hb)] at hh
          simp only [Option.some.injEq, Prod.mk.injEq] at hh
          obtain ⟨rfl, rfl⟩ := hh
          clear hz
          go_wp2
          go_ret2
          exact ⟨by first | rfl | (simp; done), HB.out⟩
        · have hb : badLab s = false := by simp [badLab, h63, hz]
          have hlen := HV.out.2.2.2.1
          cases long with
          | true =>
            have HV' := Aside0.mk (of_step_long HV.out HS.out hb (Or.inl rfl))
            clear hz
            go_wp2
            go_roundw
            case rel => exact ⟨k + 1, true, bs, rfl, by go_num, HV', HI, HB⟩
            case measure => simp [intOf]; omega
          | false =>
            by_cases hl : 255 < bs.length + s.size + 2
            · have HV' := Aside0.mk (of_step_long HV.out HS.out hb (Or.inr hl))
              have hl' : decide ((255 : Int) < (bs.length : Int) + (s.size : Int) + 2) = true := decide_eq_true (by omega)
              clear hz
              go_wp2_with (first | (go_at_call 46; refine (Len_any w.heap.size w.heap.size bs _ HI.out).mono ?_; rintro e w2 ⟨rfl, rfl⟩))
              go_roundw
              case rel => exact ⟨k + 1, true, bs, by first | rfl | exact congrArg Value.bool (decide_eq_true (by omega)), by go_num, HV', HI, HB⟩
              case measure => simp [intOf]; omega
            · have HV' := Aside0.mk (of_step HV.out HS.out hb hl)
              have hl' : decide ((255 : Int) < (bs.length : Int) + (s.size : Int) + 2) = false := decide_eq_false (by omega)
              have hwz : w.heap.size ≤ wr.heap.size := HB.out.size
              clear hz
              go_wp2_with (first | (go_at_call 46; refine (Len_any w.heap.size w.heap.size bs _ HI.out).mono ?_; rintro e w2 ⟨rfl, rfl⟩) | (go_at_call 47; refine (WriteByte_any w.heap.size w.heap.size bs _ _ HI.out (by omega) hwz).mono ?_; rintro e w2 ⟨rfl, hat, hb2⟩; have HA := Aside0.mk hat; have HB2 := Aside0.mk (HB.out.trans hb2); have hwz2 : w.heap.size ≤ w2.heap.size := HB2.out.size; clear hat hb2) | (go_at_call 48; refine (WriteString_any w.heap.size w.heap.size _ s _ (Or.inr HA.out) (by simp; omega) hwz2).mono ?_; rintro e w3 ⟨rfl, hat, hb3⟩; have HA3 := Aside0.mk hat; have HB3 := Aside0.mk (HB2.out.trans hb3); clear hat hb3))
              go_roundw
              case rel => exact ⟨k + 1, false, _, by first | rfl | exact congrArg Value.bool (decide_eq_false (by omega)), by go_num, HV', ⟨Or.inr HA3.out⟩, HB3⟩
              case measure => simp [intOf]; omega
    · obtain ⟨he1, he2, he3⟩ := of_end HV.out hk
      have hh := H.out
      unfold name_Of.f at hh
      rw [if_neg (by rw [he1]; simp)] at hh
      cases long with
      | true =>
        rw [if_pos (by simpa using he2.symm)] at hh
        simp only [Option.some.injEq, Prod.mk.injEq] at hh
        obtain ⟨rfl, rfl⟩ := hh
        clear he1 he2 he3
        go_wp2
        go_ret2
        exact ⟨by first | rfl | (simp; done), HB.out⟩
      | false =>
        have hlen := HV.out.2.2.2.1
        have hwz : w.heap.size ≤ wr.heap.size := HB.out.size
        rw [if_neg (by simpa using he2.symm)] at hh
        simp only [Option.some.injEq, Prod.mk.injEq] at hh
        obtain ⟨rfl, rfl⟩ := hh
        have HE := Aside0.mk (he3 rfl)
        have HG := Aside0.mk (glue_range l0 he1)
        clear he1 he2 he3
        have hfin : ∀ W : World, Lib.BuilderAt 63 5 w.heap.size w.heap.size (.pointer (some ⟨w.heap.size, 0, none⟩)) (bs ++ [.int .u8 0]) W → Lib.IsBuilder 63 5 w.heap.size w.heap.size (Lib.byteCells (strOfNums (glue l0 ++ [0])).data.toList) W := fun W h => by
          rw [← nums_cells _ HG.out, nums_append, ← HE.out]; exact Or.inr h
        have HF := Aside0.mk hfin
        clear hfin
        go_wp2_with (first | (go_at_call 47; refine (WriteByte_any w.heap.size w.heap.size bs _ _ HI.out (by omega) hwz).mono ?_; rintro e w2 ⟨rfl, hat, hb2⟩; have HA := Aside0.mk (HF.out _ hat); have HB2 := Aside0.mk (HB.out.trans hb2); have hwz2 : w.heap.size ≤ w2.heap.size := HB2.out.size; clear hat hb2) | (go_at_call 49; refine (Try.Builder_String_any w.heap.size w.heap.size _ _ HA.out hwz2).mono ?_; rintro e w3 ⟨rfl, hb3⟩; have HB3 := Aside0.mk (HB2.out.trans hb3); clear hb3))
        go_ret2
        exact ⟨by first | rfl | (rw [str_eta]; done) | (simp; done), HB3.out⟩
end Go.Proofs.Ytplnknhlgdoliaa.Print
end
section
-- Written by a program of this session, built on the kit's print (it is not the print's own text).
namespace Go.Proofs.Ytplnknhlgdoliaa.Print
open Go.RowKit Go.Proofs.YtplnknhlgdoliaaW.PrintWords Go.Proofs.YtplnknhlgdoliaaW.PrintLast Go.Proofs.YtplnknhlgdoliaaW.PrintMore
attribute [local go_sem] max2_int min2_int max_two min_two max_three min_three max_four min_four   -- for this text's walks alone
set_option linter.unusedVariables false
set_option linter.unusedSimpArgs false

/-! ### name_Labels: function 17 -/
def name_Labels.l0 : Nat → ByteArray → List ByteArray → List Int → Int → Int → Option (List ByteArray)
  | 0, _, _, _, _, _ => none
  | k + 1, x0, x5, x15, x16, x17 => if x17 < x16 then (if 0 ≤ x17 then (if x17 < (x15.length : Int) then (if 0 ≤ (rd x15 x17) then (if (rd x15 x17) < (x0.size : Int) then (if 0 ≤ (wrap64 ((rd x15 x17) + 1)) then (if (wrap64 ((rd x15 x17) + 1)) ≤ (wrap64 ((wrap64 ((rd x15 x17) + 1)) + (wrap64 (bt x0 (rd x15 x17))))) then (if (wrap64 ((wrap64 ((rd x15 x17) + 1)) + (wrap64 (bt x0 (rd x15 x17))))) ≤ (x0.size : Int) then (if x5.length < 8796093022208 then (name_Labels.l0 k x0 (x5 ++ [x0.extract ((wrap64 ((rd x15 x17) + 1)) : Int).toNat ((wrap64 ((wrap64 ((rd x15 x17) + 1)) + (wrap64 (bt x0 (rd x15 x17))))) : Int).toNat]) x15 x16 (wrap64 (x17 + 1))) else (none)) else (none)) else (none)) else (none)) else (none)) else (none)) else (none)) else (none)) else (some x5)
def name_Labels.f (k : Nat) (a0 : ByteArray) : Option (List ByteArray) := (name_starts.f k a0).bind fun bt112 => (if bt112.2 = true then (name_Labels.l0 k a0 ([] : List ByteArray) bt112.1 (bt112.1.length : Int) 0) else (some ([] : List ByteArray)))
theorem name_Labels.mono_l : ∀ k, (∀ y0 y1 y2 y3 y4, LeO (name_Labels.l0 k y0 y1 y2 y3 y4) (name_Labels.l0 (k + 1) y0 y1 y2 y3 y4))
  | 0 => fun _ _ _ _ _ r h => by simp [name_Labels.l0] at h
  | k + 1 => by
    have ih0 := name_Labels.mono_l k
    · intro y0 y1 y2 y3 y4
      unfold name_Labels.l0
      repeat' first
      | (with_reducible exact ih0 _ _ _ _ _)
      | (with_reducible exact name_starts.mono _ _)
      | (with_reducible exact LeO.refl _)
      | (with_reducible exact LeO.none _)
      | (with_reducible refine LeO.ite ?_ ?_)
      | (with_reducible refine LeO.bind ?_ (fun _ => ?_))
      | exact ih0 _ _ _ _ _
      | exact name_starts.mono _ _
      | exact LeO.none _
      | refine LeO.ite ?_ ?_
      | refine LeO.bind ?_ (fun _ => ?_)
theorem name_Labels.mono : ∀ a0 k, LeO (name_Labels.f k a0) (name_Labels.f (k + 1) a0) := by
  intro a0 k
  have ih0 := name_Labels.mono_l k
  unfold name_Labels.f
  repeat' first
      | (with_reducible exact ih0 _ _ _ _ _)
      | (with_reducible exact name_starts.mono _ _)
      | (with_reducible exact LeO.refl _)
      | (with_reducible exact LeO.none _)
      | (with_reducible refine LeO.ite ?_ ?_)
      | (with_reducible refine LeO.bind ?_ (fun _ => ?_))
      | exact ih0 _ _ _ _ _
      | exact name_starts.mono _ _
      | exact LeO.none _
      | refine LeO.ite ?_ ?_
      | refine LeO.bind ?_ (fun _ => ?_)
set_option maxHeartbeats 8000000 in
set_option maxRecDepth 100000 in
theorem name_Labels.calls (k : Nat) (a0 : ByteArray) (r : List ByteArray) (w : World) (h : name_Labels.f k a0 = some r) :
    Calls Try.prog 17 #[.string a0] w fun e w' => ∃ v0_ : Value, e = .returned (v0_) ∧ Kd.R Kd.string 9 w' w.heap.size (fun _ => True) v0_ r ∧ Below w.heap.size w w' := by
  have HB := Aside0.mk (Below.refl w.heap.size w)
  have H : ((name_starts.f k a0).bind fun bt112 => (if bt112.2 = true then (name_Labels.l0 k a0 ([] : List ByteArray) bt112.1 (bt112.1.length : Int) 0) else (some ([] : List ByteArray)))) = some r := h
  clear h
  replace H := Option.bind_eq_some_iff.mp H
  obtain ⟨⟨t112, t113⟩, A20, H⟩ := H
  replace H : (if t113 = true then (name_Labels.l0 k a0 ([] : List ByteArray) t112 (t112.length : Int) 0) else (some ([] : List ByteArray))) = some r := H
  have A2 := Aside0.mk A20
  clear A20
  by_cases c3 : t113 = true
  · subst c3
    have H1 : (name_Labels.l0 k a0 ([] : List ByteArray) t112 (t112.length : Int) 0) = some r := by rw [if_pos rfl] at H; exact H
    clear H
    have H := H1
    clear H1
    have H' := Aside0.mk H
    clear H
    go_enter Try.func17, Try.ntmps17
    go_wp2_with (first | ((with_reducible refine gate_callee (f := 43) rfl ?_); refine goesL_ (some 10) rfl rfl Try.func43 (by kernel_rfl) rfl #[.string a0] rfl (by (try simp only [List.map_toArray, List.map_cons, List.map_nil]); first | done | rfl | (simp only [List.length_drop, List.length_take]; rfl)) ?_; (with_reducible refine (name_starts.calls k a0 t112 true _ A2.out).mono ?_); rintro e w4 ⟨v114, rfl, ho0, hb⟩; refine ⟨_, rfl, ?_⟩; have n0_ := Aside0.mk (Kd.R_lower ho0 (below_size (by repeat (first | (with_reducible first | exact HB.out | apply below_alloc | apply pw_below_drewN | apply below_drew1) | exact HB.out)))); have n1_ := Aside0.mk (below_step (by repeat (first | (with_reducible first | exact HB.out | apply below_alloc | apply pw_below_drewN | apply below_drew1) | exact HB.out)) hb); clear HB; have HO115 := n0_; have HB := n1_; clear n0_ n1_; (try clear hb); (try clear hb2); (try clear hk); (try clear hi); (try clear ho0); obtain ⟨Ao5, co5, eo5⟩ := Kd.R_slice HO115.out; subst eo5))
    go_loopg [5, 17] k (fun kq v5 v17 w' => ∃ (x5_1 : List ByteArray) (x17_1 : Int), v17 = .int .i64 x17_1 ∧ Aside0 (name_Labels.l0 kq a0 x5_1 t112 (t112.length : Int) x17_1 = some r) ∧ Aside0 (kq ≤ k) ∧ Aside0 (Kd.R Kd.string 9 w' w.heap.size (fun _ => True) v5 x5_1) ∧ Aside0 (Kd.R (Kd.int .i64) 3 w' w.heap.size (fun _ => True) (.slice Ao5 t112.length co5) t112) ∧ Aside0 (Below w.heap.size w w'))
    case atStart => exact ⟨(([] : List ByteArray)), (0), (by first | rfl | (simp; done) | (simp [*]; done)), H', ⟨Nat.le_refl _⟩, ⟨by first | exact Kd.R_nil _ _ _ _ _ | exact Kd.N_nil _ _ _ _ _ | exact Kd.V_nil _ _ _ _ _ | exact Kd.Q_nil _ _ _ _ _ | exact Kd.S_nil _ _ _ _ _⟩, ⟨by (with_reducible repeat (first | apply Kd.R_alloc | apply Kd.R_drewN | apply Kd.R_drew)); exact HO115.out⟩, ⟨by repeat (first | (with_reducible first | exact HB.out | apply below_alloc | apply pw_below_drewN | apply below_drew1) | exact HB.out)⟩⟩
    case round =>
      clear H'
      try clear c1
      try clear p2
      try clear c3
      try clear c4
      obtain ⟨x5_1, x17_1, rfl, HA, HK1, HO_5, HO_15, HB⟩ := hrel
      cases gk with
      | zero => exact absurd HA.out (by simp [name_Labels.l0])
      | succ k1 =>
        have H := HA.out
        clear HA
        simp only [name_Labels.l0] at H
        by_cases c6 : x17_1 < (t112.length : Int)
        · rw [if_pos c6] at H
          have c6b0 : decide (x17_1 < (t112.length : Int)) = true := decide_eq_true c6
          clear c6
          by_cases c7 : 0 ≤ x17_1
          · rw [if_pos c7] at H
            have c7b0 : decide (0 ≤ x17_1) = true := decide_eq_true c7
            clear c7
            by_cases c8 : x17_1 < (t112.length : Int)
            · rw [if_pos c8] at H
              have c8b0 : decide (x17_1 < (t112.length : Int)) = true := decide_eq_true c8
              clear c8
              by_cases c9 : 0 ≤ (rd t112 x17_1)
              · rw [if_pos c9] at H
                have c9b0 : decide (0 ≤ (rd t112 x17_1)) = true := decide_eq_true c9
                clear c9
                by_cases c10 : (rd t112 x17_1) < (a0.size : Int)
                · rw [if_pos c10] at H
                  have c10b0 : decide ((rd t112 x17_1) < (a0.size : Int)) = true := decide_eq_true c10
                  clear c10
                  obtain ⟨ji12, hji12⟩ : ∃ j_ : Int, (wrap64 ((rd t112 x17_1) + 1)) = j_ := ⟨_, rfl⟩
                  replace H : (if 0 ≤ (ji12) then (if (ji12) ≤ (wrap64 ((ji12) + (wrap64 (bt a0 (rd t112 x17_1))))) then (if (wrap64 ((ji12) + (wrap64 (bt a0 (rd t112 x17_1))))) ≤ (a0.size : Int) then (if x5_1.length < 8796093022208 then (name_Labels.l0 k1 a0 (x5_1 ++ [a0.extract ((ji12) : Int).toNat ((wrap64 ((ji12) + (wrap64 (bt a0 (rd t112 x17_1))))) : Int).toNat]) t112 (t112.length : Int) (wrap64 (x17_1 + 1))) else (none)) else (none)) else (none)) else (none)) = some r := by first | (rw [hji12] at H; exact H) | (simp only [hji12] at H ⊢; exact H)
                  have hji12w : (IntKind.i64.wrap ((rd t112 x17_1) + 1)) = ji12 := (i64_w _).trans hji12
                  by_cases c13 : 0 ≤ (ji12)
                  · rw [if_pos c13] at H
                    have c13b0 := eq_true c13
                    have c13b1 : decide (0 ≤ (ji12)) = true := decide_eq_true c13
                    clear c13
                    by_cases c14 : (ji12) ≤ (wrap64 ((ji12) + (wrap64 (bt a0 (rd t112 x17_1)))))
                    · rw [if_pos c14] at H
                      have c14b0 := eq_true c14
                      have c14b1 : decide ((ji12) ≤ (wrap64 ((ji12) + (wrap64 (bt a0 (rd t112 x17_1)))))) = true := decide_eq_true c14
                      by_cases c15 : (wrap64 ((ji12) + (wrap64 (bt a0 (rd t112 x17_1))))) ≤ (a0.size : Int)
                      · rw [if_pos c15] at H
                        have c15b0 := eq_true c15
                        have c15b1 : decide ((wrap64 ((ji12) + (wrap64 (bt a0 (rd t112 x17_1))))) ≤ (a0.size : Int)) = true := decide_eq_true c15
                        by_cases c16 : x5_1.length < 8796093022208
                        · rw [if_pos c16] at H
                          have LMc16 := Aside0.mk c16
                          clear c16
                          obtain ⟨y117, hy117⟩ : ∃ y_ : List ByteArray, y_ = (x5_1 ++ [a0.extract ((ji12) : Int).toNat ((wrap64 ((ji12) + (wrap64 (bt a0 (rd t112 x17_1))))) : Int).toNat]) := ⟨_, rfl⟩
                          replace H : (name_Labels.l0 k1 a0 y117 t112 (t112.length : Int) (wrap64 (x17_1 + 1))) = some r := by first | (rw [hy117]; with_reducible exact H) | (have H2_ := (Option.bind_some _ _).symm.trans H; rw [hy117]; with_reducible exact H2_) | (have H2_ := (Option.bind_some _ _).symm.trans H; with_reducible exact H2_) | with_reducible exact H | (rw [hy117]; exact H) | exact H
                          have Ny117 := Aside0.mk hy117
                          clear hy117
                          have H' := Aside0.mk H
                          clear H
                          have p116 : 0 ≤ (x17_1 : Int) := of_decide_eq_true (by first | (with_reducible assumption) | assumption)
                          have q116 : x17_1 < (t112.length : Int) := of_decide_eq_true (by first | (with_reducible assumption) | assumption)
                          obtain ⟨ad116, e116, hx116_0⟩ := Kd.at_int (Kd.R_reads' HO_15.out).2.2 x17_1 p116 q116
                          cases e116
                          replace p116 := eq_true p116
                          replace q116 := eq_true q116
                          have p11 : 0 ≤ ((rd t112 x17_1) : Int) := of_decide_eq_true (by first | (with_reducible assumption) | assumption)
                          have q11 : (rd t112 x17_1) < (a0.size : Int) := of_decide_eq_true (by first | (with_reducible assumption) | assumption)
                          have hx11 := bt_at a0 (rd t112 x17_1)
                          replace p11 := eq_true p11
                          replace q11 := eq_true q11
                          go_wp2_with (first | ((with_reducible refine gate_builtin (b := .append) (xs := #[.tmp 21, .tmp 33]) rfl ?_); at_builtin; refine Kd.R_append Kd.string (w0 := w) w.heap.size rfl (.tmp 21) (.tmp 33) 23 9 (.string ⟨#[]⟩) 16 rfl Try.underlying23 info9 rfl (by decide) (by omega) u5 x5_1 (a0.extract ((ji12) : Int).toNat ((wrap64 ((ji12) + (wrap64 (bt a0 (rd t112 x17_1))))) : Int).toNat) [.string (a0.extract ((ji12) : Int).toNat ((wrap64 ((ji12) + (wrap64 (bt a0 (rd t112 x17_1))))) : Int).toNat)] (fun _ => True) (fun _ => False) rfl rfl ?aP (fun _ hk => hk.elim) ?aF ?aO ?aB ?aS ?aL ?_; (case aP => exact rfl); (case aB => exact (by repeat (first | (with_reducible first | exact HB.out | apply below_alloc | apply pw_below_drewN | apply below_drew1) | exact HB.out))); (case aF => exact (fun _ _ => trivial)); (case aO => exact (by (with_reducible repeat (first | apply Kd.R_alloc | apply Kd.R_drewN | apply Kd.R_drew)); exact HO_5.out)); (case aS => exact (below_size (by repeat (first | (with_reducible first | exact HB.out | apply below_alloc | apply pw_below_drewN | apply below_drew1) | exact HB.out)))); (case aL => have := LMc16.out; omega); intro v118 w17 ho hb hg hat; rw [← Ny117.out] at ho; have n0_ := Aside0.mk (Kd.R_over' (by (with_reducible repeat (first | apply Kd.R_alloc | apply Kd.R_drewN | apply Kd.R_drew)); exact HO_15.out) (Kd.R_typed (by (with_reducible repeat (first | apply Kd.R_alloc | apply Kd.R_drewN | apply Kd.R_drew)); exact HO_5.out)) (by decide) hg); have n1_ := Aside0.mk (hb); have n2_ := Aside0.mk (ho); clear HO_15; clear HB; clear HO_5; have HO_15 := n0_; have HB := n1_; have HO119 := n2_; clear n0_ n1_ n2_; clear ho hb hg hat))
                          go_roundg k1
                          case measure => have := HK1.out; omega
                          case rel => exact ⟨(y117), (wrap64 (x17_1 + 1)), (by first | rfl | (simp; done) | (simp [*]; done)), H', ⟨by have := HK1.out; omega⟩, ⟨by (with_reducible repeat (first | apply Kd.R_alloc | apply Kd.R_drewN | apply Kd.R_drew)); exact HO119.out⟩, ⟨by (with_reducible repeat (first | apply Kd.R_alloc | apply Kd.R_drewN | apply Kd.R_drew)); exact HO_15.out⟩, ⟨by repeat (first | (with_reducible first | exact HB.out | apply below_alloc | apply pw_below_drewN | apply below_drew1) | exact HB.out)⟩⟩
                        · rw [if_neg c16] at H
                          exact absurd H (by simp)
                      · rw [if_neg c15] at H
                        exact absurd H (by simp)
                    · rw [if_neg c14] at H
                      exact absurd H (by simp)
                  · rw [if_neg c13] at H
                    exact absurd H (by simp)
                · rw [if_neg c10] at H
                  exact absurd H (by simp)
              · rw [if_neg c9] at H
                exact absurd H (by simp)
            · rw [if_neg c8] at H
              exact absurd H (by simp)
          · rw [if_neg c7] at H
            exact absurd H (by simp)
        · rw [if_neg c6] at H
          have c6b0 : decide (x17_1 < (t112.length : Int)) = false := decide_eq_false c6
          clear c6
          obtain rfl := Option.some.inj H
          go_wp2
          go_ret
          exact ⟨_, by first | rfl | (simp [errW_none, errW_some] <;> rfl) | (simp [*, errW_none, errW_some] <;> rfl), by (with_reducible repeat (first | apply Kd.R_alloc | apply Kd.R_drewN | apply Kd.R_drew)); exact HO_5.out, by repeat (first | (with_reducible first | exact HB.out | apply below_alloc | apply pw_below_drewN | apply below_drew1) | exact HB.out)⟩
  · replace c3 := Bool.eq_false_iff.mpr c3
    subst c3
    have H1 : (some ([] : List ByteArray)) = some r := by rw [if_neg (show ¬ (false = true) by decide)] at H; exact H
    clear H
    have H := H1
    clear H1
    obtain rfl := Option.some.inj H
    go_enter Try.func17, Try.ntmps17
    go_wp2_with (first | ((with_reducible refine gate_callee (f := 43) rfl ?_); refine goesL_ (some 10) rfl rfl Try.func43 (by kernel_rfl) rfl #[.string a0] rfl (by (try simp only [List.map_toArray, List.map_cons, List.map_nil]); first | done | rfl | (simp only [List.length_drop, List.length_take]; rfl)) ?_; (with_reducible refine (name_starts.calls k a0 t112 false _ A2.out).mono ?_); rintro e w18 ⟨v114, rfl, ho0, hb⟩; refine ⟨_, rfl, ?_⟩; have n0_ := Aside0.mk (Kd.R_lower ho0 (below_size (by repeat (first | (with_reducible first | exact HB.out | apply below_alloc | apply pw_below_drewN | apply below_drew1) | exact HB.out)))); have n1_ := Aside0.mk (below_step (by repeat (first | (with_reducible first | exact HB.out | apply below_alloc | apply pw_below_drewN | apply below_drew1) | exact HB.out)) hb); clear HB; have HO115 := n0_; have HB := n1_; clear n0_ n1_; (try clear hb); (try clear hb2); (try clear hk); (try clear hi); (try clear ho0)))
    go_ret
    exact ⟨_, by first | rfl | (simp [errW_none, errW_some] <;> rfl) | (simp [*, errW_none, errW_some] <;> rfl), by first | exact Kd.R_nil _ _ _ _ _ | exact Kd.N_nil _ _ _ _ _ | exact Kd.V_nil _ _ _ _ _ | exact Kd.Q_nil _ _ _ _ _ | exact Kd.S_nil _ _ _ _ _, by repeat (first | (with_reducible first | exact HB.out | apply below_alloc | apply pw_below_drewN | apply below_drew1) | exact HB.out)⟩

end Go.Proofs.Ytplnknhlgdoliaa.Print
end
section
-- Written by a program of this session, built on the kit's print (it is not the print's own text).
namespace Go.Proofs.Ytplnknhlgdoliaa.Print
open Go.RowKit Go.Proofs.YtplnknhlgdoliaaW.PrintWords Go.Proofs.YtplnknhlgdoliaaW.PrintLast Go.Proofs.YtplnknhlgdoliaaW.PrintMore
attribute [local go_sem] max2_int min2_int max_two min_two max_three min_three max_four min_four   -- for this text's walks alone
set_option linter.unusedVariables false
set_option linter.unusedSimpArgs false

/-! ### hearsayref01_Split: function 13 -/
def hearsayref01_Split.l0 : Nat → List ByteArray → ByteArray → Option (List ByteArray × Bool)
  | 0, _, _ => none
  | k + 1, x4, x5 => if (x5.size : Int) > 0 then (if 0 < (x5.size : Int) then (if (wrap64 (bt x5 0)) = 0 then (some (x4, ((x5.size : Int) == 1))) else (if (wrap64 (bt x5 0)) > 63 then (some (([] : List ByteArray), false)) else (if (x5.size : Int) < (wrap64 ((wrap64 (bt x5 0)) + 1)) then (some (([] : List ByteArray), false)) else (if 1 ≤ (wrap64 ((wrap64 (bt x5 0)) + 1)) then (if (wrap64 ((wrap64 (bt x5 0)) + 1)) ≤ (x5.size : Int) then (if x4.length < 8796093022208 then (if 0 ≤ (wrap64 ((wrap64 (bt x5 0)) + 1)) then (hearsayref01_Split.l0 k (x4 ++ [x5.extract 1 ((wrap64 ((wrap64 (bt x5 0)) + 1)) : Int).toNat]) (x5.extract ((wrap64 ((wrap64 (bt x5 0)) + 1)) : Int).toNat x5.size)) else (none)) else (none)) else (none)) else (none))))) else (none)) else (some (([] : List ByteArray), false))
def hearsayref01_Split.f (k : Nat) (a0 : ByteArray) : Option (List ByteArray × Bool) := if (a0.size : Int) > 255 then (some (([] : List ByteArray), false)) else (hearsayref01_Split.l0 k ([] : List ByteArray) a0)
theorem hearsayref01_Split.mono_l : ∀ k, (∀ y0 y1, LeO (hearsayref01_Split.l0 k y0 y1) (hearsayref01_Split.l0 (k + 1) y0 y1))
  | 0 => fun _ _ r h => by simp [hearsayref01_Split.l0] at h
  | k + 1 => by
    have ih0 := hearsayref01_Split.mono_l k
    · intro y0 y1
      unfold hearsayref01_Split.l0
      repeat' first
      | (with_reducible exact ih0 _ _)
      | (with_reducible exact LeO.refl _)
      | (with_reducible exact LeO.none _)
      | (with_reducible refine LeO.ite ?_ ?_)
      | (with_reducible refine LeO.bind ?_ (fun _ => ?_))
      | exact ih0 _ _
      | exact LeO.none _
      | refine LeO.ite ?_ ?_
      | refine LeO.bind ?_ (fun _ => ?_)
theorem hearsayref01_Split.mono : ∀ a0 k, LeO (hearsayref01_Split.f k a0) (hearsayref01_Split.f (k + 1) a0) := by
  intro a0 k
  have ih0 := hearsayref01_Split.mono_l k
  unfold hearsayref01_Split.f
  repeat' first
      | (with_reducible exact ih0 _ _)
      | (with_reducible exact LeO.refl _)
      | (with_reducible exact LeO.none _)
      | (with_reducible refine LeO.ite ?_ ?_)
      | (with_reducible refine LeO.bind ?_ (fun _ => ?_))
      | exact ih0 _ _
      | exact LeO.none _
      | refine LeO.ite ?_ ?_
      | refine LeO.bind ?_ (fun _ => ?_)
set_option maxHeartbeats 8000000 in
set_option maxRecDepth 100000 in
theorem hearsayref01_Split.calls (k : Nat) (a0 : ByteArray) (r1 : List ByteArray) (r2 : Bool) (w : World) (h : hearsayref01_Split.f k a0 = some (r1, r2)) :
    Calls Try.prog 13 #[.string a0] w fun e w' => ∃ v0_ : Value, e = .returned (.tuple #[v0_, .bool r2]) ∧ Kd.R Kd.string 9 w' w.heap.size (fun _ => True) v0_ r1 ∧ Below w.heap.size w w' := by
  have HB := Aside0.mk (Below.refl w.heap.size w)
  have H : (if (a0.size : Int) > 255 then (some (([] : List ByteArray), false)) else (hearsayref01_Split.l0 k ([] : List ByteArray) a0)) = some (r1, r2) := h
  clear h
  by_cases c2 : (a0.size : Int) > 255
  · rw [if_pos c2] at H
    have c2b0 : decide (255 < (a0.size : Int)) = true := decide_eq_true c2
    have c2b1 : decide (255 < a0.size) = true := decide_eq_true (by omega)
    clear c2
    simp only [Option.some.injEq, Prod.mk.injEq] at H
    obtain ⟨rfl, rfl⟩ := H
    go_enter Try.func13, Try.ntmps13
    go_wp2
    go_ret2
    exact ⟨_, by first | rfl | (simp [errW_none, errW_some] <;> rfl) | (simp [*, errW_none, errW_some] <;> rfl), by first | exact Kd.R_nil _ _ _ _ _ | exact Kd.N_nil _ _ _ _ _ | exact Kd.V_nil _ _ _ _ _ | exact Kd.Q_nil _ _ _ _ _ | exact Kd.S_nil _ _ _ _ _, by repeat (first | (with_reducible first | exact HB.out | apply below_alloc | apply pw_below_drewN | apply below_drew1) | exact HB.out)⟩
  · rw [if_neg c2] at H
    have c2b0 : decide (255 < (a0.size : Int)) = false := decide_eq_false c2
    have c2b1 : decide (255 < a0.size) = false := decide_eq_false (by omega)
    clear c2
    have H' := Aside0.mk H
    clear H
    go_enter Try.func13, Try.ntmps13
    go_wp2
    go_loopg [4, 5] k (fun kq v4 v5 w' => ∃ (x4_1 : List ByteArray) (x5_1 : ByteArray), v5 = .string x5_1 ∧ Aside0 (hearsayref01_Split.l0 kq x4_1 x5_1 = some (r1, r2)) ∧ Aside0 (kq ≤ k) ∧ Aside0 (Kd.R Kd.string 9 w' w.heap.size (fun _ => True) v4 x4_1) ∧ Aside0 (Below w.heap.size w w'))
    case atStart => exact ⟨(([] : List ByteArray)), (a0), (by first | rfl | (simp; done) | (simp [*]; done)), H', ⟨Nat.le_refl _⟩, ⟨by first | exact Kd.R_nil _ _ _ _ _ | exact Kd.N_nil _ _ _ _ _ | exact Kd.V_nil _ _ _ _ _ | exact Kd.Q_nil _ _ _ _ _ | exact Kd.S_nil _ _ _ _ _⟩, ⟨by repeat (first | (with_reducible first | exact HB.out | apply below_alloc | apply pw_below_drewN | apply below_drew1) | exact HB.out)⟩⟩
    case round =>
      clear H'
      try clear c1
      try clear c2
      try clear c2b0
      try clear c2b1
      try clear p2
      obtain ⟨x4_1, x5_1, rfl, HA, HK1, HO_4, HB⟩ := hrel
      cases gk with
      | zero => exact absurd HA.out (by simp [hearsayref01_Split.l0])
      | succ k1 =>
        have H := HA.out
        clear HA
        simp only [hearsayref01_Split.l0] at H
        by_cases c3 : (x5_1.size : Int) > 0
        · rw [if_pos c3] at H
          have c3b0 : decide (0 < (x5_1.size : Int)) = true := decide_eq_true c3
          have c3b1 : decide (0 < x5_1.size) = true := decide_eq_true (by omega)
          clear c3
          by_cases c4 : 0 < (x5_1.size : Int)
          · rw [if_pos c4] at H
            have c4b0 : decide (0 < (x5_1.size : Int)) = true := decide_eq_true c4
            have c4b1 : decide (0 < x5_1.size) = true := decide_eq_true (by omega)
            clear c4
            by_cases c6 : (wrap64 (bt x5_1 0)) = 0
            · rw [if_pos c6] at H
              have c6b0 : ((wrap64 (bt x5_1 0)) == 0) = true := beq_iff_eq.mpr c6
              have c6b1 : ((wrap64 (bt x5_1 0)) != 0) = false := bne_eq_false_iff_eq.mpr c6
              clear c6
              simp only [Option.some.injEq, Prod.mk.injEq] at H
              obtain ⟨rfl, rfl⟩ := H
              have p5 : 0 ≤ (0 : Int) := (by omega)
              have q5 : 0 < x5_1.size := (by have : (0 : Int) < (x5_1.size : Int) := of_decide_eq_true (by first | (with_reducible assumption) | assumption); omega)
              have hx5 : ∀ h : 0 < x5_1.size, ((x5_1[0]'h).toNat : Int) = bt x5_1 0 := bt_at x5_1 0
              clear p5
              have qi5 : (0 < (x5_1.size : Int)) = True := eq_true (of_decide_eq_true (by first | (with_reducible assumption) | assumption))
              replace q5 := eq_true q5
              go_wp2
              go_ret2
              exact ⟨_, by first | rfl | (simp [errW_none, errW_some] <;> rfl) | (simp [*, errW_none, errW_some] <;> rfl), by (with_reducible repeat (first | apply Kd.R_alloc | apply Kd.R_drewN | apply Kd.R_drew)); exact HO_4.out, by repeat (first | (with_reducible first | exact HB.out | apply below_alloc | apply pw_below_drewN | apply below_drew1) | exact HB.out)⟩
            · rw [if_neg c6] at H
              have c6b0 : ((wrap64 (bt x5_1 0)) == 0) = false := beq_eq_false_iff_ne.mpr c6
              have c6b1 : ((wrap64 (bt x5_1 0)) != 0) = true := bne_iff_ne.mpr c6
              by_cases c7 : (wrap64 (bt x5_1 0)) > 63
              · rw [if_pos c7] at H
                have c7b0 : decide (63 < (wrap64 (bt x5_1 0))) = true := decide_eq_true c7
                clear c7
                simp only [Option.some.injEq, Prod.mk.injEq] at H
                obtain ⟨rfl, rfl⟩ := H
                have p5 : 0 ≤ (0 : Int) := (by omega)
                have q5 : 0 < x5_1.size := (by have : (0 : Int) < (x5_1.size : Int) := of_decide_eq_true (by first | (with_reducible assumption) | assumption); omega)
                have hx5 : ∀ h : 0 < x5_1.size, ((x5_1[0]'h).toNat : Int) = bt x5_1 0 := bt_at x5_1 0
                clear p5
                have qi5 : (0 < (x5_1.size : Int)) = True := eq_true (of_decide_eq_true (by first | (with_reducible assumption) | assumption))
                replace q5 := eq_true q5
                go_wp2
                go_ret2
                exact ⟨_, by first | rfl | (simp [errW_none, errW_some] <;> rfl) | (simp [*, errW_none, errW_some] <;> rfl), by first | exact Kd.R_nil _ _ _ _ _ | exact Kd.N_nil _ _ _ _ _ | exact Kd.V_nil _ _ _ _ _ | exact Kd.Q_nil _ _ _ _ _ | exact Kd.S_nil _ _ _ _ _, by repeat (first | (with_reducible first | exact HB.out | apply below_alloc | apply pw_below_drewN | apply below_drew1) | exact HB.out)⟩
              · rw [if_neg c7] at H
                have c7b0 : decide (63 < (wrap64 (bt x5_1 0))) = false := decide_eq_false c7
                clear c7
                by_cases c8 : (x5_1.size : Int) < (wrap64 ((wrap64 (bt x5_1 0)) + 1))
                · rw [if_pos c8] at H
                  have c8b0 : decide ((x5_1.size : Int) < (wrap64 ((wrap64 (bt x5_1 0)) + 1))) = true := decide_eq_true c8
                  clear c8
                  simp only [Option.some.injEq, Prod.mk.injEq] at H
                  obtain ⟨rfl, rfl⟩ := H
                  have p5 : 0 ≤ (0 : Int) := (by omega)
                  have q5 : 0 < x5_1.size := (by have : (0 : Int) < (x5_1.size : Int) := of_decide_eq_true (by first | (with_reducible assumption) | assumption); omega)
                  have hx5 : ∀ h : 0 < x5_1.size, ((x5_1[0]'h).toNat : Int) = bt x5_1 0 := bt_at x5_1 0
                  clear p5
                  have qi5 : (0 < (x5_1.size : Int)) = True := eq_true (of_decide_eq_true (by first | (with_reducible assumption) | assumption))
                  replace q5 := eq_true q5
                  go_wp2
                  go_ret2
                  exact ⟨_, by first | rfl | (simp [errW_none, errW_some] <;> rfl) | (simp [*, errW_none, errW_some] <;> rfl), by first | exact Kd.R_nil _ _ _ _ _ | exact Kd.N_nil _ _ _ _ _ | exact Kd.V_nil _ _ _ _ _ | exact Kd.Q_nil _ _ _ _ _ | exact Kd.S_nil _ _ _ _ _, by repeat (first | (with_reducible first | exact HB.out | apply below_alloc | apply pw_below_drewN | apply below_drew1) | exact HB.out)⟩
                · rw [if_neg c8] at H
                  have c8b0 : decide ((x5_1.size : Int) < (wrap64 ((wrap64 (bt x5_1 0)) + 1))) = false := decide_eq_false c8
                  clear c8
                  by_cases c9 : 1 ≤ (wrap64 ((wrap64 (bt x5_1 0)) + 1))
                  · rw [if_pos c9] at H
                    have c9b0 := eq_true c9
                    have c9b1 : decide (1 ≤ (wrap64 ((wrap64 (bt x5_1 0)) + 1))) = true := decide_eq_true c9
                    by_cases c10 : (wrap64 ((wrap64 (bt x5_1 0)) + 1)) ≤ (x5_1.size : Int)
                    · rw [if_pos c10] at H
                      have c10b0 := eq_true c10
                      have c10b1 : decide ((wrap64 ((wrap64 (bt x5_1 0)) + 1)) ≤ (x5_1.size : Int)) = true := decide_eq_true c10
                      by_cases c11 : x4_1.length < 8796093022208
                      · rw [if_pos c11] at H
                        have LMc11 := Aside0.mk c11
                        clear c11
                        obtain ⟨y101, hy101⟩ : ∃ y_ : List ByteArray, y_ = (x4_1 ++ [x5_1.extract 1 ((wrap64 ((wrap64 (bt x5_1 0)) + 1)) : Int).toNat]) := ⟨_, rfl⟩
                        replace H : (if 0 ≤ (wrap64 ((wrap64 (bt x5_1 0)) + 1)) then (hearsayref01_Split.l0 k1 y101 (x5_1.extract ((wrap64 ((wrap64 (bt x5_1 0)) + 1)) : Int).toNat x5_1.size)) else (none)) = some (r1, r2) := by first | (rw [hy101]; with_reducible exact H) | (have H2_ := (Option.bind_some _ _).symm.trans H; rw [hy101]; with_reducible exact H2_) | (have H2_ := (Option.bind_some _ _).symm.trans H; with_reducible exact H2_) | with_reducible exact H | (rw [hy101]; exact H) | exact H
                        have Ny101 := Aside0.mk hy101
                        clear hy101
                        obtain ⟨ji12, hji12⟩ : ∃ j_ : Int, (wrap64 ((wrap64 (bt x5_1 0)) + 1)) = j_ := ⟨_, rfl⟩
                        replace H : (if 0 ≤ (ji12) then (hearsayref01_Split.l0 k1 y101 (x5_1.extract ((ji12) : Int).toNat x5_1.size)) else (none)) = some (r1, r2) := by first | (rw [hji12] at H; exact H) | (simp only [hji12] at H ⊢; exact H)
                        (try rw [hji12] at c8b0)
                        (try rw [hji12] at c9b0)
                        (try rw [hji12] at c9b1)
                        (try rw [hji12] at c9)
                        (try rw [hji12] at c10b0)
                        (try rw [hji12] at c10b1)
                        (try rw [hji12] at c10)
                        (try rw [hji12] at Ny101)
                        have hji12w : (IntKind.i64.wrap ((wrap64 (bt x5_1 0)) + 1)) = ji12 := (i64_w _).trans hji12
                        by_cases c13 : 0 ≤ (ji12)
                        · rw [if_pos c13] at H
                          have c13b0 := eq_true c13
                          have c13b1 : decide (0 ≤ (ji12)) = true := decide_eq_true c13
                          clear c13
                          have c14b0 := eq_true (of_decide_eq_true (by first | (with_reducible assumption) | assumption) : (ji12) ≤ (x5_1.size : Int))
                          have H' := Aside0.mk H
                          clear H
                          have p5 : 0 ≤ (0 : Int) := (by omega)
                          have q5 : 0 < x5_1.size := (by have : (0 : Int) < (x5_1.size : Int) := of_decide_eq_true (by first | (with_reducible assumption) | assumption); omega)
                          have hx5 : ∀ h : 0 < x5_1.size, ((x5_1[0]'h).toNat : Int) = bt x5_1 0 := bt_at x5_1 0
                          clear p5
                          have qi5 : (0 < (x5_1.size : Int)) = True := eq_true (of_decide_eq_true (by first | (with_reducible assumption) | assumption))
                          replace q5 := eq_true q5
                          go_wp2_with (first | ((with_reducible refine gate_builtin (b := .append) (xs := #[.tmp 32, .tmp 37]) rfl ?_); (try (refine gate_guard (by rfl) ?_; dsimp only)); at_builtin; refine Kd.R_append Kd.string (w0 := w) w.heap.size rfl (.tmp 32) (.tmp 37) 23 9 (.string ⟨#[]⟩) 16 rfl Try.underlying23 info9 rfl (by decide) (by omega) u4 x4_1 (x5_1.extract 1 ((ji12) : Int).toNat) [.string (x5_1.extract 1 ((ji12) : Int).toNat)] (fun _ => True) (fun _ => False) rfl rfl ?aP (fun _ hk => hk.elim) ?aF ?aO ?aB ?aS ?aL ?_; (case aP => exact rfl); (case aB => exact (by repeat (first | (with_reducible first | exact HB.out | apply below_alloc | apply pw_below_drewN | apply below_drew1) | exact HB.out))); (case aF => exact (fun _ _ => trivial)); (case aO => exact (by (with_reducible repeat (first | apply Kd.R_alloc | apply Kd.R_drewN | apply Kd.R_drew)); exact HO_4.out)); (case aS => exact (below_size (by repeat (first | (with_reducible first | exact HB.out | apply below_alloc | apply pw_below_drewN | apply below_drew1) | exact HB.out)))); (case aL => have := LMc11.out; omega); intro v102 w15 ho hb hg hat; rw [← Ny101.out] at ho; have n0_ := Aside0.mk (hb); have n1_ := Aside0.mk (ho); clear HB; clear HO_4; have HB := n0_; have HO103 := n1_; clear n0_ n1_; clear ho hb hg hat))
                          go_roundg k1
                          case measure => have := HK1.out; omega
                          case rel => exact ⟨(y101), (x5_1.extract ((ji12) : Int).toNat x5_1.size), (by first | rfl | (simp; done) | (simp only [← hji12] <;> (first | rfl | simp)) | (simp [*]; done)), H', ⟨by have := HK1.out; omega⟩, ⟨by (with_reducible repeat (first | apply Kd.R_alloc | apply Kd.R_drewN | apply Kd.R_drew)); exact HO103.out⟩, ⟨by repeat (first | (with_reducible first | exact HB.out | apply below_alloc | apply pw_below_drewN | apply below_drew1) | exact HB.out)⟩⟩
                        · rw [if_neg c13] at H
                          exact absurd H (by simp)
                      · rw [if_neg c11] at H
                        exact absurd H (by simp)
                    · rw [if_neg c10] at H
                      exact absurd H (by simp)
                  · rw [if_neg c9] at H
                    exact absurd H (by simp)
          · rw [if_neg c4] at H
            exact absurd H (by simp)
        · rw [if_neg c3] at H
          have c3b0 : decide (0 < (x5_1.size : Int)) = false := decide_eq_false c3
          have c3b1 : decide (0 < x5_1.size) = false := decide_eq_false (by omega)
          clear c3
          simp only [Option.some.injEq, Prod.mk.injEq] at H
          obtain ⟨rfl, rfl⟩ := H
          go_wp2
          go_ret2
          exact ⟨_, by first | rfl | (simp [errW_none, errW_some] <;> rfl) | (simp [*, errW_none, errW_some] <;> rfl), by first | exact Kd.R_nil _ _ _ _ _ | exact Kd.N_nil _ _ _ _ _ | exact Kd.V_nil _ _ _ _ _ | exact Kd.Q_nil _ _ _ _ _ | exact Kd.S_nil _ _ _ _ _, by repeat (first | (with_reducible first | exact HB.out | apply below_alloc | apply pw_below_drewN | apply below_drew1) | exact HB.out)⟩

end Go.Proofs.Ytplnknhlgdoliaa.Print
end
