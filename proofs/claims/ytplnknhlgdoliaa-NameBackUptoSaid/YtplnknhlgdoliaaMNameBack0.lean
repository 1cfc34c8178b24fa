/- A part of the proof of NameBackSaid: 19 texts in one. -/
import Derived.Test.YtplnknhlgdoliaaProg
import Derived.Below
import Derived.Deep.Draws
import Derived.Deep.AppendLies
import Derived.Maps.AppendAt
import Derived.OwnWalk
import Derived.Laws.BytesArg
import Derived.Laws.MakeOwn
import Derived.Laws.OwnMore
import Derived.Deep.OwnRows
import Derived.Tactics
import Derived.Lib.ConvBytes
import Derived.Laws.Slices
import Derived.WalkKit
import Derived.KernelRfl
import Derived.RowKit3
import Derived.Deep.LoopGhost
import Derived.Deep.QuietTactic
import Derived.BigQuiet
import Derived.WideLaws
import Derived.Deep.DeepCutAuto
import Derived.Deep.CutBlock
import Derived.Deep.RegionHeld3
import Derived.Laws.Rows
import Derived.Lib.AppendStr
import Derived.ArgAppend
import Derived.Laws.IdiomCopy
import Derived.OrdersHeld
import Derived.Laws.BitsLemmas
import Derived.RowKit
import Derived.Test.YtplnknhlgdoliaaWWords
import Derived.Test.YtplnknhlgdoliaaWLast
import Derived.Test.YtplnknhlgdoliaaWTab
import Derived.Test.YtplnknhlgdoliaaWFour
import Derived.Test.YtplnknhlgdoliaaWQPut
import Derived.Test.YtplnknhlgdoliaaWApart
import Derived.Test.YtplnknhlgdoliaaWArr
import Derived.Test.YtplnknhlgdoliaaWZeros
import Derived.Test.YtplnknhlgdoliaaWFoot
import Derived.Test.YtplnknhlgdoliaaWKept
import Derived.Test.YtplnknhlgdoliaaWShare
import Derived.Test.YtplnknhlgdoliaaWN
import Derived.Test.YtplnknhlgdoliaaWFootNe
import Derived.Test.YtplnknhlgdoliaaWAt
import Derived.Test.YtplnknhlgdoliaaWEqStruct
import Derived.Test.YtplnknhlgdoliaaWRepsOne
import Derived.Test.YtplnknhlgdoliaaWInv
import Derived.Test.YtplnknhlgdoliaaWInvWords
import Derived.Test.YtplnknhlgdoliaaWGuard
import Derived.Test.YtplnknhlgdoliaaWNEv
import Derived.Test.YtplnknhlgdoliaaWMore
import Derived.Lib.UnsafeStr
import Derived.Lib.Builder
import Derived.Shelf.Strings.Builder1
import Derived.Laws.AppendOwnNone
import Derived.Lib.OthersKept
import Derived.Lib.Hide
import Derived.Outline
import Derived.Shelf.Small.Strs
import Derived.Shelf.Strings.BuilderF
import Derived.Shelf.Strings.BuilderK
import Derived.Shelf.Strings.BuilderCap
section
-- Written by a program of this session, built on the kit's print (it is not the print's own text).
namespace Go.Proofs.Ytplnknhlgdoliaa.Print
open Go.RowKit Go.Proofs.YtplnknhlgdoliaaW.PrintWords Go.Proofs.YtplnknhlgdoliaaW.PrintLast Go.Proofs.YtplnknhlgdoliaaW.PrintMore
attribute [local go_sem] max2_int min2_int max_two min_two max_three min_three max_four min_four   -- for this text's walks alone
set_option linter.unusedVariables false
set_option linter.unusedSimpArgs false



def errW : Option Int → Value
  | none => .nilIface
  | some c => .iface 0 (.int .i64 c)
theorem errW_none : errW none = .nilIface := rfl
theorem errW_some (c : Int) : errW (some c) = .iface 0 (.int .i64 c) := rfl

theorem info3 : (Try.prog.info? 3).map (fun i => (i.zero, i.size, i.bytes)) = some (some (.int .i64 0), 1, 8) := by kernel_rfl
theorem info5 : (Try.prog.info? 5).map (fun i => (i.zero, i.size, i.bytes)) = some (some (.int .u8 0), 1, 1) := by kernel_rfl
theorem info9 : (Try.prog.info? 9).map (fun i => (i.zero, i.size, i.bytes)) = some (some (.string ⟨#[]⟩), 1, 16) := by kernel_rfl
-- the values' own types
def rd_L2 (xs : List (List ByteArray)) (i : Int) : (List ByteArray) := xs.getD i.toNat ([] : List ByteArray)
theorem at_L2 {w : World} {A : Option Addr} {n : Nat} {xs : List (List ByteArray)} (h : Kd.C (Kd.slice 9 Kd.string) w A n xs) (i : Int) (h0 : 0 ≤ i) (h1 : i < n) : ∃ ad A0 c0, A = some ad ∧ w.cell? (ad.add i.toNat) = some (.slice A0 (rd_L2 xs i).length c0) ∧ (rd_L2 xs i).length ≤ c0 ∧ Kd.string.C w A0 (rd_L2 xs i).length (rd_L2 xs i) := by
  obtain ⟨ad, c, e, _, hK, hc0⟩ := Kd.C_get h ([] : List ByteArray) i h0 h1
  have hc : ∀ j u, c[j]? = some u → w.cell? (ad.add (i.toNat * 1 + j)) = some u := hc0
  obtain ⟨A0, c0, rfl, l0, g0⟩ := hK
  exact ⟨ad, A0, c0, e, by have hq := hc 0 _ rfl; rwa [Nat.mul_one, Nat.add_zero] at hq, l0, g0⟩

end Go.Proofs.Ytplnknhlgdoliaa.Print
end
section
-- Written by a program of this session, built on the kit's print (it is not the print's own text).
namespace Go.Proofs.Ytplnknhlgdoliaa.Print
open Go.RowKit Go.Proofs.YtplnknhlgdoliaaW.PrintWords Go.Proofs.YtplnknhlgdoliaaW.PrintLast Go.Proofs.YtplnknhlgdoliaaW.PrintMore
attribute [local go_sem] max2_int min2_int max_two min_two max_three min_three max_four min_four   -- for this text's walks alone
set_option linter.unusedVariables false
set_option linter.unusedSimpArgs false

/-! ### name_starts: function 43 -/
mutual
def name_starts.l0 : Nat → ByteArray → List Int → Int → Option (List Int × Bool)
  | 0, _, _, _ => none
  | k + 1, x0, x4, x5 => if x5 < (x0.size : Int) then (if 0 ≤ x5 then (name_starts.j1 k x0 x4 x5 ((bt x0 x5) != 0)) else (none)) else (name_starts.j1 k x0 x4 x5 false)
def name_starts.j1 : Nat → ByteArray → List Int → Int → Bool → Option (List Int × Bool)
  | 0, _, _, _, _ => none
  | k + 1, x0, x4, x5, x18 => if x18 = true then (if 0 ≤ x5 then (if x5 < (x0.size : Int) then (if (bt x0 x5) > 63 then (some (([] : List Int), false)) else (if x4.length < 17592186044416 then (name_starts.l0 k x0 (x4 ++ [x5]) (wrap64 (x5 + (wrap64 (1 + (wrap64 (bt x0 x5))))))) else (none))) else (none)) else (none)) else (some (x4, (x5 == (wrap64 ((x0.size : Int) - 1)))))
end
def name_starts.f (k : Nat) (a0 : ByteArray) : Option (List Int × Bool) := if (a0.size : Int) > 255 then (some (([] : List Int), false)) else (name_starts.l0 k a0 ([] : List Int) 0)
theorem name_starts.mono_l : ∀ k, (∀ y0 y1 y2, LeO (name_starts.l0 k y0 y1 y2) (name_starts.l0 (k + 1) y0 y1 y2)) ∧ (∀ y0 y1 y2 y3, LeO (name_starts.j1 k y0 y1 y2 y3) (name_starts.j1 (k + 1) y0 y1 y2 y3))
  | 0 => ⟨fun _ _ _ r h => by simp [name_starts.l0] at h, fun _ _ _ _ r h => by simp [name_starts.j1] at h⟩
  | k + 1 => by
    obtain ⟨ih0, ih1⟩ := name_starts.mono_l k
    refine ⟨?_, ?_⟩
    · intro y0 y1 y2
      unfold name_starts.l0
      repeat' first
      | (with_reducible exact ih0 _ _ _)
      | (with_reducible exact ih1 _ _ _ _)
      | (with_reducible exact LeO.refl _)
      | (with_reducible exact LeO.none _)
      | (with_reducible refine LeO.ite ?_ ?_)
      | (with_reducible refine LeO.bind ?_ (fun _ => ?_))
      | exact ih0 _ _ _
      | exact ih1 _ _ _ _
      | exact LeO.none _
      | refine LeO.ite ?_ ?_
      | refine LeO.bind ?_ (fun _ => ?_)
    · intro y0 y1 y2 y3
      unfold name_starts.j1
      repeat' first
      | (with_reducible exact ih0 _ _ _)
      | (with_reducible exact ih1 _ _ _ _)
      | (with_reducible exact LeO.refl _)
      | (with_reducible exact LeO.none _)
      | (with_reducible refine LeO.ite ?_ ?_)
      | (with_reducible refine LeO.bind ?_ (fun _ => ?_))
      | exact ih0 _ _ _
      | exact ih1 _ _ _ _
      | exact LeO.none _
      | refine LeO.ite ?_ ?_
      | refine LeO.bind ?_ (fun _ => ?_)
theorem name_starts.mono : ∀ a0 k, LeO (name_starts.f k a0) (name_starts.f (k + 1) a0) := by
  intro a0 k
  obtain ⟨ih0, ih1⟩ := name_starts.mono_l k
  unfold name_starts.f
  repeat' first
      | (with_reducible exact ih0 _ _ _)
      | (with_reducible exact ih1 _ _ _ _)
      | (with_reducible exact LeO.refl _)
      | (with_reducible exact LeO.none _)
      | (with_reducible refine LeO.ite ?_ ?_)
      | (with_reducible refine LeO.bind ?_ (fun _ => ?_))
      | exact ih0 _ _ _
      | exact ih1 _ _ _ _
      | exact LeO.none _
      | refine LeO.ite ?_ ?_
      | refine LeO.bind ?_ (fun _ => ?_)
set_option maxHeartbeats 8000000 in
set_option maxRecDepth 100000 in
theorem name_starts.calls (k : Nat) (a0 : ByteArray) (r1 : List Int) (r2 : Bool) (w : World) (h : name_starts.f k a0 = some (r1, r2)) :
    Calls Try.prog 43 #[.string a0] w fun e w' => ∃ v0_ : Value, e = .returned (.tuple #[v0_, .bool r2]) ∧ Kd.R (Kd.int .i64) 3 w' w.heap.size (fun _ => True) v0_ r1 ∧ Below w.heap.size w w' := by
  have HB := Aside0.mk (Below.refl w.heap.size w)
  have H : (if (a0.size : Int) > 255 then (some (([] : List Int), false)) else (name_starts.l0 k a0 ([] : List Int) 0)) = some (r1, r2) := h
  clear h
  by_cases c2 : (a0.size : Int) > 255
  · rw [if_pos c2] at H
    have c2b0 : decide (255 < (a0.size : Int)) = true := decide_eq_true c2
    have c2b1 : decide (255 < a0.size) = true := decide_eq_true (by omega)
    clear c2
    simp only [Option.some.injEq, Prod.mk.injEq] at H
    obtain ⟨rfl, rfl⟩ := H
    go_enter Try.func43, Try.ntmps43
    go_wp2
    go_ret2
    exact ⟨_, by first | rfl | (simp [errW_none, errW_some] <;> rfl) | (simp [*, errW_none, errW_some] <;> rfl), by first | exact Kd.R_nil _ _ _ _ _ | exact Kd.N_nil _ _ _ _ _ | exact Kd.V_nil _ _ _ _ _ | exact Kd.Q_nil _ _ _ _ _ | exact Kd.S_nil _ _ _ _ _, by repeat (first | (with_reducible first | exact HB.out | apply below_alloc | apply pw_below_drewN | apply below_drew1) | exact HB.out)⟩
  · rw [if_neg c2] at H
    have c2b0 : decide (255 < (a0.size : Int)) = false := decide_eq_false c2
    have c2b1 : decide (255 < a0.size) = false := decide_eq_false (by omega)
    clear c2
    have H' := Aside0.mk H
    clear H
    go_enter Try.func43, Try.ntmps43
    go_wp2
    go_loopg [4, 5] k (fun kq v4 v5 w' => ∃ (x4_1 : List Int) (x5_1 : Int), v5 = .int .i64 x5_1 ∧ Aside0 (name_starts.l0 kq a0 x4_1 x5_1 = some (r1, r2)) ∧ Aside0 (kq ≤ k) ∧ Aside0 (Kd.R (Kd.int .i64) 3 w' w.heap.size (fun _ => True) v4 x4_1) ∧ Aside0 (Below w.heap.size w w'))
    case atStart => exact ⟨(([] : List Int)), (0), (by first | rfl | (simp; done) | (simp [*]; done)), H', ⟨Nat.le_refl _⟩, ⟨by first | exact Kd.R_nil _ _ _ _ _ | exact Kd.N_nil _ _ _ _ _ | exact Kd.V_nil _ _ _ _ _ | exact Kd.Q_nil _ _ _ _ _ | exact Kd.S_nil _ _ _ _ _⟩, ⟨by repeat (first | (with_reducible first | exact HB.out | apply below_alloc | apply pw_below_drewN | apply below_drew1) | exact HB.out)⟩⟩
    case round =>
      clear H'
      try clear c2
      try clear c2b0
      try clear c2b1
      try clear p2
      obtain ⟨x4_1, x5_1, rfl, HA, HK1, HO_4, HB⟩ := hrel
      cases gk with
      | zero => exact absurd HA.out (by simp [name_starts.l0])
      | succ k1 =>
        have H := HA.out
        clear HA
        simp only [name_starts.l0] at H
        have HC3 := Aside0.mk H
        clear H
        go_upto_region 5 with (fail)
        go_cut [18] (fun v18 wc => ∃ (kq : Nat) (x18_2 : Bool), v18 = .bool x18_2 ∧ Aside0 (name_starts.j1 kq a0 x4_1 x5_1 x18_2 = some (r1, r2)) ∧ Aside0 (kq ≤ k1) ∧ Aside0 (Kd.R (Kd.int .i64) 3 wc w.heap.size (fun _ => True) u4 x4_1) ∧ Aside0 (Below w.heap.size w wc))
        case first =>
          have H := HC3.out
          clear HC3
          by_cases c4 : x5_1 < (a0.size : Int)
          · rw [if_pos c4] at H
            have c4b0 : decide (x5_1 < (a0.size : Int)) = true := decide_eq_true c4
            clear c4
            (first | rw [c4b0] | (simp only [i64_w, i32_w]; rw [c4b0]) | skip)
            by_cases c5 : 0 ≤ x5_1
            · rw [if_pos c5] at H
              have c5b0 : decide (0 ≤ x5_1) = true := decide_eq_true c5
              clear c5
              have H' := Aside0.mk H
              clear H
              have p6 : 0 ≤ (x5_1 : Int) := of_decide_eq_true (by first | (with_reducible assumption) | assumption)
              have q6 : x5_1 < (a0.size : Int) := of_decide_eq_true (by first | (with_reducible assumption) | assumption)
              have hx6 := bt_at a0 x5_1
              replace p6 := eq_true p6
              replace q6 := eq_true q6
              go_wp2
              go_meet
              case rel => exact ⟨_, (((bt a0 x5_1) != 0)), (by first | rfl | (simp; done) | (simp [*]; done)), H', ⟨by have := HK1.out; first | omega | exact Nat.le_refl _⟩, ⟨by (with_reducible repeat (first | apply Kd.R_alloc | apply Kd.R_drewN | apply Kd.R_drew)); exact HO_4.out⟩, ⟨by repeat (first | (with_reducible first | exact HB.out | apply below_alloc | apply pw_below_drewN | apply below_drew1) | exact HB.out)⟩⟩
            · rw [if_neg c5] at H
              exact absurd H (by simp)
          · rw [if_neg c4] at H
            have c4b0 : decide (x5_1 < (a0.size : Int)) = false := decide_eq_false c4
            clear c4
            (first | rw [c4b0] | (simp only [i64_w, i32_w]; rw [c4b0]) | skip)
            have H' := Aside0.mk H
            clear H
            go_wp2
            go_meet
            case rel => exact ⟨_, (false), (by first | rfl | (simp; done) | (simp [*]; done)), H', ⟨by have := HK1.out; first | omega | exact Nat.le_refl _⟩, ⟨by (with_reducible repeat (first | apply Kd.R_alloc | apply Kd.R_drewN | apply Kd.R_drew)); exact HO_4.out⟩, ⟨by repeat (first | (with_reducible first | exact HB.out | apply below_alloc | apply pw_below_drewN | apply below_drew1) | exact HB.out)⟩⟩
        case rest =>
          clear HC3
          try clear c2
          try clear c2b0
          try clear c2b1
          try clear p2
          try clear c4
          try clear c4b0
          try clear c5
          try clear c5b0
          try clear p6
          try clear q6
          try clear hx6
          try clear p2
          try clear p6
          try clear q6
          obtain ⟨kq, x18_2, rfl, HA, HJ2, HO_4, HB⟩ := hcut
          cases kq with
          | zero => exact absurd HA.out (by simp [name_starts.j1])
          | succ kj2 =>
            have H := HA.out
            clear HA
            simp only [name_starts.j1] at H
            by_cases c7 : x18_2 = true
            · subst c7
              have H1 : (if 0 ≤ x5_1 then (if x5_1 < (a0.size : Int) then (if (bt a0 x5_1) > 63 then (some (([] : List Int), false)) else (if x4_1.length < 17592186044416 then (name_starts.l0 kj2 a0 (x4_1 ++ [x5_1]) (wrap64 (x5_1 + (wrap64 (1 + (wrap64 (bt a0 x5_1))))))) else (none))) else (none)) else (none)) = some (r1, r2) := by rw [if_pos rfl] at H; exact H
              clear H
              have H := H1
              clear H1
              by_cases c8 : 0 ≤ x5_1
              · rw [if_pos c8] at H
                have c8b0 : decide (0 ≤ x5_1) = true := decide_eq_true c8
                clear c8
                by_cases c9 : x5_1 < (a0.size : Int)
                · rw [if_pos c9] at H
                  have c9b0 : decide (x5_1 < (a0.size : Int)) = true := decide_eq_true c9
                  clear c9
                  by_cases c11 : (bt a0 x5_1) > 63
                  · rw [if_pos c11] at H
                    have c11b0 : decide (63 < (bt a0 x5_1)) = true := decide_eq_true c11
                    clear c11
                    simp only [Option.some.injEq, Prod.mk.injEq] at H
                    obtain ⟨rfl, rfl⟩ := H
                    have p10 : 0 ≤ (x5_1 : Int) := of_decide_eq_true (by first | (with_reducible assumption) | assumption)
                    have q10 : x5_1 < (a0.size : Int) := of_decide_eq_true (by first | (with_reducible assumption) | assumption)
                    have hx10 := bt_at a0 x5_1
                    replace p10 := eq_true p10
                    replace q10 := eq_true q10
                    go_wp2
                    go_ret2
                    exact ⟨_, by first | rfl | (simp [errW_none, errW_some] <;> rfl) | (simp [*, errW_none, errW_some] <;> rfl), by first | exact Kd.R_nil _ _ _ _ _ | exact Kd.N_nil _ _ _ _ _ | exact Kd.V_nil _ _ _ _ _ | exact Kd.Q_nil _ _ _ _ _ | exact Kd.S_nil _ _ _ _ _, by repeat (first | (with_reducible first | exact HB.out | apply below_alloc | apply pw_below_drewN | apply below_drew1) | exact HB.out)⟩
                  · rw [if_neg c11] at H
                    have c11b0 : decide (63 < (bt a0 x5_1)) = false := decide_eq_false c11
                    clear c11
                    by_cases c12 : x4_1.length < 17592186044416
                    · rw [if_pos c12] at H
                      have LMc12 := Aside0.mk c12
                      clear c12
                      obtain ⟨y104, hy104⟩ : ∃ y_ : List Int, y_ = (x4_1 ++ [x5_1]) := ⟨_, rfl⟩
                      replace H : (name_starts.l0 kj2 a0 y104 (wrap64 (x5_1 + (wrap64 (1 + (wrap64 (bt a0 x5_1))))))) = some (r1, r2) := by first | (rw [hy104]; with_reducible exact H) | (have H2_ := (Option.bind_some _ _).symm.trans H; rw [hy104]; with_reducible exact H2_) | (have H2_ := (Option.bind_some _ _).symm.trans H; with_reducible exact H2_) | with_reducible exact H | (rw [hy104]; exact H) | exact H
                      have Ny104 := Aside0.mk hy104
                      clear hy104
                      have H' := Aside0.mk H
                      clear H
                      have p10 : 0 ≤ (x5_1 : Int) := of_decide_eq_true (by first | (with_reducible assumption) | assumption)
                      have q10 : x5_1 < (a0.size : Int) := of_decide_eq_true (by first | (with_reducible assumption) | assumption)
                      have hx10 := bt_at a0 x5_1
                      replace p10 := eq_true p10
                      replace q10 := eq_true q10
                      go_wp2_with (first | ((with_reducible refine gate_builtin (b := .append) (xs := #[.tmp 23, .tmp 25]) rfl ?_); at_builtin; refine Kd.R_append (Kd.int .i64) (w0 := w) w.heap.size rfl (.tmp 23) (.tmp 25) 55 3 (.int .i64 0) 8 rfl Try.underlying55 info3 rfl (by decide) (by omega) u4 x4_1 x5_1 [.int .i64 x5_1] (fun _ => True) (fun _ => False) rfl rfl ?aP (fun _ hk => hk.elim) ?aF ?aO ?aB ?aS ?aL ?_; (case aP => exact rfl); (case aB => exact (by repeat (first | (with_reducible first | exact HB.out | apply below_alloc | apply pw_below_drewN | apply below_drew1) | exact HB.out))); (case aF => exact (fun _ _ => trivial)); (case aO => exact (by (with_reducible repeat (first | apply Kd.R_alloc | apply Kd.R_drewN | apply Kd.R_drew)); exact HO_4.out)); (case aS => exact (below_size (by repeat (first | (with_reducible first | exact HB.out | apply below_alloc | apply pw_below_drewN | apply below_drew1) | exact HB.out)))); (case aL => have := LMc12.out; omega); intro v105 w14 ho hb hg hat; rw [← Ny104.out] at ho; have n0_ := Aside0.mk (hb); have n1_ := Aside0.mk (ho); clear HB; clear HO_4; have HB := n0_; have HO106 := n1_; clear n0_ n1_; clear ho hb hg hat; have p13 : 0 ≤ (x5_1 : Int) := of_decide_eq_true (by first | (with_reducible assumption) | assumption); have q13 : x5_1 < (a0.size : Int) := of_decide_eq_true (by first | (with_reducible assumption) | assumption); have hx13 := bt_at a0 x5_1; replace p13 := eq_true p13; replace q13 := eq_true q13))
                      go_roundg kj2
                      case measure => have := HK1.out; have := HJ2.out; omega
                      case rel => exact ⟨(y104), (wrap64 (x5_1 + (wrap64 (1 + (wrap64 (bt a0 x5_1)))))), (by first | rfl | (simp; done) | (simp [*]; done)), H', ⟨by have := HK1.out; have := HJ2.out; omega⟩, ⟨by (with_reducible repeat (first | apply Kd.R_alloc | apply Kd.R_drewN | apply Kd.R_drew)); exact HO106.out⟩, ⟨by repeat (first | (with_reducible first | exact HB.out | apply below_alloc | apply pw_below_drewN | apply below_drew1) | exact HB.out)⟩⟩
                    · rw [if_neg c12] at H
                      exact absurd H (by simp)
                · rw [if_neg c9] at H
                  exact absurd H (by simp)
              · rw [if_neg c8] at H
                exact absurd H (by simp)
            · replace c7 := Bool.eq_false_iff.mpr c7
              subst c7
              have H1 : (some (x4_1, (x5_1 == (wrap64 ((a0.size : Int) - 1))))) = some (r1, r2) := by rw [if_neg (show ¬ (false = true) by decide)] at H; exact H
              clear H
              have H := H1
              clear H1
              simp only [Option.some.injEq, Prod.mk.injEq] at H
              obtain ⟨rfl, rfl⟩ := H
              go_wp2
              go_ret2
              exact ⟨_, by first | rfl | (simp [errW_none, errW_some] <;> rfl) | (simp [*, errW_none, errW_some] <;> rfl), by (with_reducible repeat (first | apply Kd.R_alloc | apply Kd.R_drewN | apply Kd.R_drew)); exact HO_4.out, by repeat (first | (with_reducible first | exact HB.out | apply below_alloc | apply pw_below_drewN | apply below_drew1) | exact HB.out)⟩

end Go.Proofs.Ytplnknhlgdoliaa.Print
end
section
-- Written by a program of this session, built on the kit's print (it is not the print's own text).
namespace Go.Proofs.Ytplnknhlgdoliaa.Print
open Go.RowKit Go.Proofs.YtplnknhlgdoliaaW.PrintWords Go.Proofs.YtplnknhlgdoliaaW.PrintLast Go.Proofs.YtplnknhlgdoliaaW.PrintMore
attribute [local go_sem] max2_int min2_int max_two min_two max_three min_three max_four min_four   -- for this text's walks alone
set_option linter.unusedVariables false
set_option linter.unusedSimpArgs false

/-! ### name_Check: function 14 -/
def name_Check.f (k : Nat) (a0 : ByteArray) : Option (Int) := (name_starts.f k a0).bind fun bt107 => (if bt107.2 = true then (some 0) else (some 11))
theorem name_Check.mono : ∀ a0 k, LeO (name_Check.f k a0) (name_Check.f (k + 1) a0) := by
  intro a0 k
  unfold name_Check.f
  repeat' first
      | (with_reducible exact name_starts.mono _ _)
      | (with_reducible exact LeO.refl _)
      | (with_reducible exact LeO.none _)
      | (with_reducible refine LeO.ite ?_ ?_)
      | (with_reducible refine LeO.bind ?_ (fun _ => ?_))
      | exact name_starts.mono _ _
      | exact LeO.none _
      | refine LeO.ite ?_ ?_
      | refine LeO.bind ?_ (fun _ => ?_)
set_option maxHeartbeats 8000000 in
set_option maxRecDepth 100000 in
theorem name_Check.calls (k : Nat) (a0 : ByteArray) (r : Int) (w : World) (h : name_Check.f k a0 = some r) :
    Calls Try.prog 14 #[.string a0] w fun e w' => e = .returned (.int .i64 r) ∧ Below w.heap.size w w' := by
  have HB := Aside0.mk (Below.refl w.heap.size w)
  have H : ((name_starts.f k a0).bind fun bt107 => (if bt107.2 = true then (some 0) else (some 11))) = some r := h
  clear h
  replace H := Option.bind_eq_some_iff.mp H
  obtain ⟨⟨t107, t108⟩, A20, H⟩ := H
  replace H : (if t108 = true then (some 0) else (some 11)) = some r := H
  have A2 := Aside0.mk A20
  clear A20
  by_cases c3 : t108 = true
  · subst c3
    have H1 : (some 0) = some r := by rw [if_pos rfl] at H; exact H
    clear H
    have H := H1
    clear H1
    obtain rfl := Option.some.inj H
    go_enter Try.func14, Try.ntmps14
    go_wp2_with (first | ((with_reducible refine gate_callee (f := 43) rfl ?_); refine goesL_ (some 7) rfl rfl Try.func43 (by kernel_rfl) rfl #[.string a0] rfl (by (try simp only [List.map_toArray, List.map_cons, List.map_nil]); first | done | rfl | (simp only [List.length_drop, List.length_take]; rfl)) ?_; (with_reducible refine (name_starts.calls k a0 t107 true _ A2.out).mono ?_); rintro e w4 ⟨v109, rfl, ho0, hb⟩; refine ⟨_, rfl, ?_⟩; have n0_ := Aside0.mk (Kd.R_lower ho0 (below_size (by repeat (first | (with_reducible first | exact HB.out | apply below_alloc | apply pw_below_drewN | apply below_drew1) | exact HB.out)))); have n1_ := Aside0.mk (below_step (by repeat (first | (with_reducible first | exact HB.out | apply below_alloc | apply pw_below_drewN | apply below_drew1) | exact HB.out)) hb); clear HB; have HO110 := n0_; have HB := n1_; clear n0_ n1_; (try clear hb); (try clear hb2); (try clear hk); (try clear hi); (try clear ho0)))
    go_ret
    exact ⟨by first | rfl | (simp [errW_none, errW_some] <;> rfl) | (simp [*, errW_none, errW_some] <;> rfl), by repeat (first | (with_reducible first | exact HB.out | apply below_alloc | apply pw_below_drewN | apply below_drew1) | exact HB.out)⟩
  · replace c3 := Bool.eq_false_iff.mpr c3
    subst c3
    have H1 : (some 11) = some r := by rw [if_neg (show ¬ (false = true) by decide)] at H; exact H
    clear H
    have H := H1
    clear H1
    obtain rfl := Option.some.inj H
    go_enter Try.func14, Try.ntmps14
    go_wp2_with (first | ((with_reducible refine gate_callee (f := 43) rfl ?_); refine goesL_ (some 7) rfl rfl Try.func43 (by kernel_rfl) rfl #[.string a0] rfl (by (try simp only [List.map_toArray, List.map_cons, List.map_nil]); first | done | rfl | (simp only [List.length_drop, List.length_take]; rfl)) ?_; (with_reducible refine (name_starts.calls k a0 t107 false _ A2.out).mono ?_); rintro e w5 ⟨v109, rfl, ho0, hb⟩; refine ⟨_, rfl, ?_⟩; have n0_ := Aside0.mk (Kd.R_lower ho0 (below_size (by repeat (first | (with_reducible first | exact HB.out | apply below_alloc | apply pw_below_drewN | apply below_drew1) | exact HB.out)))); have n1_ := Aside0.mk (below_step (by repeat (first | (with_reducible first | exact HB.out | apply below_alloc | apply pw_below_drewN | apply below_drew1) | exact HB.out)) hb); clear HB; have HO110 := n0_; have HB := n1_; clear n0_ n1_; (try clear hb); (try clear hb2); (try clear hk); (try clear hi); (try clear ho0)))
    go_ret
    exact ⟨by first | rfl | (simp [errW_none, errW_some] <;> rfl) | (simp [*, errW_none, errW_some] <;> rfl), by repeat (first | (with_reducible first | exact HB.out | apply below_alloc | apply pw_below_drewN | apply below_drew1) | exact HB.out)⟩

end Go.Proofs.Ytplnknhlgdoliaa.Print
end
section
-- Written by a program of this session, built on the kit's print (it is not the print's own text).
namespace Go.Proofs.Ytplnknhlgdoliaa.Print
open Go.RowKit Go.Proofs.YtplnknhlgdoliaaW.PrintWords Go.Proofs.YtplnknhlgdoliaaW.PrintLast Go.Proofs.YtplnknhlgdoliaaW.PrintMore
attribute [local go_sem] max2_int min2_int max_two min_two max_three min_three max_four min_four   -- for this text's walks alone
set_option linter.unusedVariables false
set_option linter.unusedSimpArgs false

/-! ### name_Count: function 18 -/
def name_Count.f (k : Nat) (a0 : ByteArray) : Option (Int) := (name_starts.f k a0).bind fun bt120 => (if bt120.2 = true then (some (bt120.1.length : Int)) else (some 0))
theorem name_Count.mono : ∀ a0 k, LeO (name_Count.f k a0) (name_Count.f (k + 1) a0) := by
  intro a0 k
  unfold name_Count.f
  repeat' first
      | (with_reducible exact name_starts.mono _ _)
      | (with_reducible exact LeO.refl _)
      | (with_reducible exact LeO.none _)
      | (with_reducible refine LeO.ite ?_ ?_)
      | (with_reducible refine LeO.bind ?_ (fun _ => ?_))
      | exact name_starts.mono _ _
      | exact LeO.none _
      | refine LeO.ite ?_ ?_
      | refine LeO.bind ?_ (fun _ => ?_)
set_option maxHeartbeats 8000000 in
set_option maxRecDepth 100000 in
theorem name_Count.calls (k : Nat) (a0 : ByteArray) (r : Int) (w : World) (h : name_Count.f k a0 = some r) :
    Calls Try.prog 18 #[.string a0] w fun e w' => e = .returned (.int .i64 r) ∧ Below w.heap.size w w' := by
  have HB := Aside0.mk (Below.refl w.heap.size w)
  have H : ((name_starts.f k a0).bind fun bt120 => (if bt120.2 = true then (some (bt120.1.length : Int)) else (some 0))) = some r := h
  clear h
  replace H := Option.bind_eq_some_iff.mp H
  obtain ⟨⟨t120, t121⟩, A20, H⟩ := H
  replace H : (if t121 = true then (some (t120.length : Int)) else (some 0)) = some r := H
  have A2 := Aside0.mk A20
  clear A20
  by_cases c3 : t121 = true
  · subst c3
    have H1 : (some (t120.length : Int)) = some r := by rw [if_pos rfl] at H; exact H
    clear H
    have H := H1
    clear H1
    obtain rfl := Option.some.inj H
    go_enter Try.func18, Try.ntmps18
    go_wp2_with (first | ((with_reducible refine gate_callee (f := 43) rfl ?_); refine goesL_ (some 7) rfl rfl Try.func43 (by kernel_rfl) rfl #[.string a0] rfl (by (try simp only [List.map_toArray, List.map_cons, List.map_nil]); first | done | rfl | (simp only [List.length_drop, List.length_take]; rfl)) ?_; (with_reducible refine (name_starts.calls k a0 t120 true _ A2.out).mono ?_); rintro e w4 ⟨v122, rfl, ho0, hb⟩; refine ⟨_, rfl, ?_⟩; have n0_ := Aside0.mk (Kd.R_lower ho0 (below_size (by repeat (first | (with_reducible first | exact HB.out | apply below_alloc | apply pw_below_drewN | apply below_drew1) | exact HB.out)))); have n1_ := Aside0.mk (below_step (by repeat (first | (with_reducible first | exact HB.out | apply below_alloc | apply pw_below_drewN | apply below_drew1) | exact HB.out)) hb); clear HB; have HO123 := n0_; have HB := n1_; clear n0_ n1_; (try clear hb); (try clear hb2); (try clear hk); (try clear hi); (try clear ho0); obtain ⟨Ao5, co5, eo5⟩ := Kd.R_slice HO123.out; subst eo5))
    go_ret
    exact ⟨by first | rfl | (simp [errW_none, errW_some] <;> rfl) | (simp [*, errW_none, errW_some] <;> rfl), by repeat (first | (with_reducible first | exact HB.out | apply below_alloc | apply pw_below_drewN | apply below_drew1) | exact HB.out)⟩
  · replace c3 := Bool.eq_false_iff.mpr c3
    subst c3
    have H1 : (some 0) = some r := by rw [if_neg (show ¬ (false = true) by decide)] at H; exact H
    clear H
    have H := H1
    clear H1
    obtain rfl := Option.some.inj H
    go_enter Try.func18, Try.ntmps18
    go_wp2_with (first | ((with_reducible refine gate_callee (f := 43) rfl ?_); refine goesL_ (some 7) rfl rfl Try.func43 (by kernel_rfl) rfl #[.string a0] rfl (by (try simp only [List.map_toArray, List.map_cons, List.map_nil]); first | done | rfl | (simp only [List.length_drop, List.length_take]; rfl)) ?_; (with_reducible refine (name_starts.calls k a0 t120 false _ A2.out).mono ?_); rintro e w6 ⟨v122, rfl, ho0, hb⟩; refine ⟨_, rfl, ?_⟩; have n0_ := Aside0.mk (Kd.R_lower ho0 (below_size (by repeat (first | (with_reducible first | exact HB.out | apply below_alloc | apply pw_below_drewN | apply below_drew1) | exact HB.out)))); have n1_ := Aside0.mk (below_step (by repeat (first | (with_reducible first | exact HB.out | apply below_alloc | apply pw_below_drewN | apply below_drew1) | exact HB.out)) hb); clear HB; have HO123 := n0_; have HB := n1_; clear n0_ n1_; (try clear hb); (try clear hb2); (try clear hk); (try clear hi); (try clear ho0)))
    go_ret
    exact ⟨by first | rfl | (simp [errW_none, errW_some] <;> rfl) | (simp [*, errW_none, errW_some] <;> rfl), by repeat (first | (with_reducible first | exact HB.out | apply below_alloc | apply pw_below_drewN | apply below_drew1) | exact HB.out)⟩

end Go.Proofs.Ytplnknhlgdoliaa.Print
end
section
/- small laws on strings and their bytes, used by the walks. -/
namespace Go.Proofs.Ytplnknhlgdoliaa.Print
open Go.RowKit Go.Proofs.YtplnknhlgdoliaaW.PrintWords Go.Proofs.YtplnknhlgdoliaaW.PrintLast Go.Proofs.YtplnknhlgdoliaaW.PrintMore
theorem cell_fresh (W : World) (v : Value) (t : TypeId) : (W.alloc (.cells #[v] t)).cell? ⟨W.heap.size, 0, none⟩ = some v := by simp
theorem bt_nat (s : ByteArray) (k : Nat) (h : k < s.size) : ((s[k]'h).toNat : Int) = bt s (k : Int) := by simp [bt, h]
theorem bo_drop (s : ByteArray) (k : Nat) (h : k < s.size) : (bytesOf s).drop k = bt s (k : Int) :: (bytesOf s).drop (k + 1) := by
  have h' : k < (bytesOf s).length := by rw [bytesOf_length]; exact h
  rw [List.drop_eq_getElem_cons h', ← rd_bytesOf]
  simp [rd, List.getD_eq_getElem?_getD, List.getElem?_eq_getElem h']
theorem bo_end (s : ByteArray) (k : Nat) (h : s.size ≤ k) : (bytesOf s).drop k = [] := List.drop_eq_nil_of_le (by rw [bytesOf_length]; exact h)
theorem empty_true {s : ByteArray} (h : s.size = 0) : s.toList.isEmpty = true := by
  rw [ByteArray.toList_eq, List.isEmpty_iff]
  exact List.length_eq_zero_iff.1 h
theorem empty_false {s : ByteArray} (h : s.size ≠ 0) : s.toList.isEmpty = false := by
  rw [ByteArray.toList_eq, Bool.eq_false_iff]
  intro h1
  exact h (by rw [List.isEmpty_iff] at h1; show s.data.toList.length = 0; rw [h1]; rfl)
theorem empty_ne {s : ByteArray} (h : s.size ≠ 0) : ¬ s.toList = [] := fun h1 => by have := empty_false h; rw [h1] at this; simp at this
theorem empty_eq {s : ByteArray} (h : s.size = 0) : s.toList = [] := by have := empty_true h; simpa using this
theorem bo_range (s : ByteArray) : ∀ x ∈ bytesOf s, 0 ≤ x ∧ x < 256 := by
  intro x hx
  unfold bytesOf at hx
  obtain ⟨b, _, rfl⟩ := List.mem_map.1 hx
  have := b.toNat_lt
  omega
/-- cells of bytes, as the shelf tells them -/
theorem nums_cells (xs : List Int) (h : ∀ x ∈ xs, 0 ≤ x ∧ x < 256) : nums .u8 xs = Lib.byteCells ((strOfNums xs).data.toList) := by
  rw [strOfNums_data]
  unfold nums Lib.byteCells
  rw [List.map_map]
  refine List.map_congr_left fun x hx => ?_
  obtain ⟨h0, h1⟩ := h x hx
  simp only [Function.comp_apply]
  congr 1
  have e : (UInt8.ofNat x.toNat).toNat = x.toNat := by simp only [UInt8.toNat_ofNat']; omega
  rw [e]; omega
theorem str_eta (s : ByteArray) : (⟨s.data.toList.toArray⟩ : ByteArray) = s := by rw [Array.toArray_toList]
end Go.Proofs.Ytplnknhlgdoliaa.Print
end
section
/- A row of bytes made of a string ([]byte(s)), in memory: it is read, written, and made a string again. -/
namespace Go.Proofs.Ytplnknhlgdoliaa.Print
set_option linter.unusedVariables false
set_option linter.unusedSimpArgs false
open Go.RowKit Go.Proofs.YtplnknhlgdoliaaW.PrintWords Go.Proofs.YtplnknhlgdoliaaW.PrintLast Go.Proofs.YtplnknhlgdoliaaW.PrintMore
/-- the row at the head of block g, of which the first cells are xs; behind its end a mark -/
def BRow (W : World) (e g : Nat) (xs : List Int) : Prop := ∃ cs : Array Value, W.heap[g]? = some (.cells cs e (cs.size, cs.size + 1)) ∧ xs.length ≤ cs.size ∧ ∀ (j : Nat) (x : Int), xs[j]? = some x → cs[j]? = some (Value.int .u8 x)
theorem brow_new (W : World) (e : Nat) (s : ByteArray) : BRow (Lib.bytesWorld W e s) e W.heap.size (bytesOf s) := by
  refine ⟨_, Lib.bytesWorld_at_new W e s, ?_, ?_⟩
  · simp [Lib.bytesCells, bytesOf_length]
  · intro j x hx
    have hj : j < s.size := by have := (List.getElem?_eq_some_iff.1 hx).1; rwa [bytesOf_length] at this
    have hj' : j < s.data.toList.length := by rw [data_length]; exact hj
    have h := Lib.bytesWorld_cell W e s j hj
    simp only [World.cell?, Lib.bytesWorld_at_new] at h
    simp only [Option.isSome_none] at h
    rw [if_neg (by simp)] at h
    rw [h]
    unfold bytesOf at hx
    rw [List.getElem?_map, List.getElem?_eq_getElem hj'] at hx
    simp only [Option.map_some, Option.some.injEq] at hx
    rw [← hx, List.getD_eq_getElem?_getD, List.getElem?_eq_getElem hj', Option.getD_some]
theorem brow_cell {W : World} {e g : Nat} {xs : List Int} (h : BRow W e g xs) {j : Nat} {x : Int} (hj : xs[j]? = some x) : W.cell? ⟨g, j, none⟩ = some (.int .u8 x) ∧ W.frozen? ⟨g, j, none⟩ = false := by
  obtain ⟨cs, hb, hl, hc⟩ := h
  have hlt : j < xs.length := (List.getElem?_eq_some_iff.1 hj).1
  constructor
  · simp [World.cell?, hb, hc j x hj]
  · simp [World.frozen?, hb]; omega
theorem brow_set {W : World} {e g : Nat} {xs : List Int} (h : BRow W e g xs) (j : Nat) (v : Int) : BRow (W.setCell ⟨g, j, none⟩ (.int .u8 v)) e g (xs.set j v) := by
  obtain ⟨cs, hb, hl, hc⟩ := h
  refine ⟨cs.setIfInBounds j (.int .u8 v), ?_, by simpa using hl, ?_⟩
  · simp only [World.setCell, Array.getElem?_modify, hb]
    simp
  · intro i x hx
    rw [Array.getElem?_setIfInBounds]
    rw [List.getElem?_set] at hx
    split
    · rename_i hij
      subst hij
      rw [if_pos rfl] at hx
      split at hx
      · simp at hx; subst hx
        rw [if_pos (by omega)]
      · simp at hx
    · rename_i hij
      rw [if_neg hij] at hx
      exact hc i x hx
theorem brow_drewN {W : World} {e g : Nat} {xs : List Int} (h : BRow W e g xs) (n : Nat) : BRow (W.drewN n) e g xs := h
theorem brow_drew {W : World} {e g : Nat} {xs : List Int} (h : BRow W e g xs) : BRow W.drew e g xs := h
theorem brow_reads {W : World} {e g : Nat} {xs : List Int} (h : BRow W e g xs) (hm : xs.length ≤ 9223372036854775807) : ReadsInt W .u8 (some ⟨g, 0, none⟩) xs.length xs := by
  refine ⟨rfl, hm, fun _ => ⟨_, rfl, fun j hj => ?_⟩⟩
  rw [add_plain, (brow_cell h (List.getElem?_eq_getElem hj)).1, List.getD_eq_getElem?_getD, List.getElem?_eq_getElem hj]
  rfl
/-- a byte in small letters -/
def low1 (c : Int) : Int := if 65 ≤ c ∧ c ≤ 90 then c + 32 else c
theorem low_or (c : Int) (h0 : 65 ≤ c) (h1 : c ≤ 90) : Go.bits .or .u8 c 32 = c + 32 := by
  have : ∀ n : Fin 91, 65 ≤ n.val → Go.bits .or .u8 (n.val : Int) 32 = (n.val : Int) + 32 := by decide +kernel
  have h := this ⟨c.toNat, by omega⟩ (by simp; omega)
  have e : ((c.toNat : Nat) : Int) = c := by omega
  simp only at h
  rwa [e] at h
theorem low_range (c : Int) (h0 : 0 ≤ c) (h1 : c < 256) : 0 ≤ low1 c ∧ low1 c < 256 := by unfold low1; split <;> omega
/-- the first k bytes in small letters -/
def lowTo (xs : List Int) (k : Nat) : List Int := (xs.take k).map low1 ++ xs.drop k
theorem lowTo_zero (xs : List Int) : lowTo xs 0 = xs := by simp [lowTo]
theorem lowTo_length (xs : List Int) (k : Nat) : (lowTo xs k).length = xs.length := by simp [lowTo]; omega
theorem lowTo_at {xs : List Int} {k : Nat} (h : k < xs.length) : (lowTo xs k)[k]? = some xs[k] := by
  unfold lowTo
  rw [List.getElem?_append_right (by simp; omega)]
  simp [Nat.min_eq_left (Nat.le_of_lt h)]
theorem lowTo_succ {xs : List Int} {k : Nat} (h : k < xs.length) : (lowTo xs k).set k (low1 xs[k]) = lowTo xs (k + 1) := by
  unfold lowTo
  have hl : (List.map low1 (xs.take k)).length = k := by simp; omega
  rw [List.set_append_right _ _ (by omega), hl, Nat.sub_self, List.take_add_one, List.getElem?_eq_getElem h, List.drop_eq_getElem_cons h]
  simp only [List.set_cons_zero, Option.toList_some, List.map_append, List.append_assoc, List.map_cons, List.map_nil, List.singleton_append]
theorem lowTo_end {xs : List Int} {k : Nat} (h : xs.length ≤ k) : lowTo xs k = xs.map low1 := by unfold lowTo; rw [List.take_of_length_le h, List.drop_of_length_le h]; simp
def lowS (s : ByteArray) : ByteArray := strOfNums ((bytesOf s).map low1)
end Go.Proofs.Ytplnknhlgdoliaa.Print
end
section
/- name.Fold and hearsayref01.Low, walked: a text in small letters. -/
namespace Go.Proofs.Ytplnknhlgdoliaa.Print
set_option linter.unusedVariables false
set_option linter.unusedSimpArgs false
open Go.RowKit Go.Proofs.YtplnknhlgdoliaaW.PrintWords Go.Proofs.YtplnknhlgdoliaaW.PrintLast Go.Proofs.YtplnknhlgdoliaaW.PrintMore
def name_Fold.f (s : ByteArray) : Option ByteArray := if s.size ≤ 9223372036854775807 then some (lowS s) else none
theorem low_calls (c : Int) (w : World) : Calls Try.prog 44 #[.int .u8 c] w fun e w' => e = .returned (.int .u8 (low1 c)) ∧ w = w' := by
  unfold low1
  by_cases h1 : 65 ≤ c
  · by_cases h2 : c ≤ 90
    · have hor := low_or c h1 h2
      rw [if_pos ⟨h1, h2⟩]
      go_enter Try.func44, Try.ntmps44
      go_wp2
      go_ret
      exact ⟨by first | rfl | (simp; done) | (rw [hor]; done) | (simp [hor]; done), rfl⟩
    · rw [if_neg (by omega)]
      go_enter Try.func44, Try.ntmps44
      go_wp2
      go_ret
      exact ⟨rfl, rfl⟩
  · rw [if_neg (by omega)]
    go_enter Try.func44, Try.ntmps44
    go_wp2
    go_ret
    exact ⟨rfl, rfl⟩
theorem name_Fold.calls (a0 : ByteArray) (r : ByteArray) (w : World) (h : name_Fold.f a0 = some r) :
    Calls Try.prog 15 #[.string a0] w fun e w' => e = .returned (.string r) ∧ Below w.heap.size w w' := by
  unfold name_Fold.f at h
  by_cases hs : a0.size ≤ 9223372036854775807
  · rw [if_pos hs] at h
    simp only [Option.some.injEq] at h
    subst h
    have hcv := print_bytes (P := Try.prog) 22 58 5 Try.underlying22 Try.underlying58 Try.underlying5 a0 w
    have hr0 := brow_new w 5 a0
    have hb0 := bytes_below (Below.refl w.heap.size w) (Nat.le_refl _) 5 a0
    generalize Lib.bytesWorld w 5 a0 = W1 at hcv hr0 hb0
    generalize grownCap w a0.size 0 5 = cap at hcv
    have HR0 := Aside0.mk hr0
    have HB0 := Aside0.mk hb0
    have hlen : (bytesOf a0).length = a0.size := bytesOf_length a0
    have HLEN := Aside0.mk hlen
    clear hr0 hb0 hlen
    go_enter Try.func15, Try.ntmps15
    go_wp2
    go_loopw [10] (fun i wr => ∃ k : Nat, k ≤ a0.size ∧ i = .int .i64 k ∧ Aside0 (BRow wr 5 w.heap.size (lowTo (bytesOf a0) k)) ∧ Aside0 (Below w.heap.size w wr)) (fun i _ => a0.size - (intOf i).toNat)
    case atStart => exact ⟨0, Nat.zero_le _, rfl, ⟨by rw [lowTo_zero]; exact HR0.out⟩, HB0⟩
    case round =>
      clear HR0 HB0 hcv
      obtain ⟨k, hk, rfl, HR, HB⟩ := hrel
      by_cases hlt : k < a0.size
      · have hkl : k < (bytesOf a0).length := by have := HLEN.out; omega
        obtain ⟨hc, hf⟩ := brow_cell HR.out (lowTo_at hkl)
        obtain ⟨x, hx⟩ : ∃ x, x = (bytesOf a0)[k] := ⟨_, rfl⟩
        rw [← hx] at hc
        have HR' : ∀ W : World, Aside0 (BRow (wr.setCell ⟨w.heap.size, k, none⟩ (.int .u8 (low1 x))) 5 w.heap.size (lowTo (bytesOf a0) (k + 1))) := fun _ => ⟨by rw [hx, ← lowTo_succ hkl]; exact brow_set HR.out k _⟩
        have HR1 := HR' wr
        have HB1 := Aside0.mk (HB.out.setCell (p := ⟨w.heap.size, k, none⟩) (Nat.le_refl _) (.int .u8 (low1 x)))
        clear HR' hx hkl
        go_wp2_with (go_at_call 44; refine (low_calls _ _).mono ?_; rintro e w2 ⟨rfl, rfl⟩)
        go_roundw
        case rel => exact ⟨k + 1, by omega, by go_num, HR1, HB1⟩
        case measure => simp [intOf]; omega
      · have hkl : (bytesOf a0).length ≤ k := by have := HLEN.out; omega
        have hrow := HR.out
        rw [lowTo_end hkl] at hrow
        have hml : ((bytesOf a0).map low1).length = a0.size := by rw [List.length_map]; exact HLEN.out
        have hrd := brow_reads hrow (by omega)
        rw [hml] at hrd
        have hst := fun (c : Nat) => string_of_reads (P := Try.prog) (c := c) Try.underlying58 Try.underlying5 Try.underlying22 hrd
        clear hrow hrd hml hkl
        go_wp2
        go_ret
        exact ⟨by first | rfl | (simp; done), HB.out⟩
  · rw [if_neg hs] at h; exact absurd h (by simp)
def hearsayref01_Low.f (s : ByteArray) : Option ByteArray := name_Fold.f s
theorem hearsayref01_Low.calls (a0 : ByteArray) (r : ByteArray) (w : World) (h : hearsayref01_Low.f a0 = some r) :
    Calls Try.prog 45 #[.string a0] w fun e w' => e = .returned (.string r) ∧ Below w.heap.size w w' := by
  unfold hearsayref01_Low.f name_Fold.f at h
  by_cases hs : a0.size ≤ 9223372036854775807
  · rw [if_pos hs] at h
    simp only [Option.some.injEq] at h
    subst h
    have hcv := print_bytes (P := Try.prog) 9 58 5 Try.underlying9 Try.underlying58 Try.underlying5 a0 w
    have hr0 := brow_new w 5 a0
    have hb0 := bytes_below (Below.refl w.heap.size w) (Nat.le_refl _) 5 a0
    generalize Lib.bytesWorld w 5 a0 = W1 at hcv hr0 hb0
    generalize grownCap w a0.size 0 5 = cap at hcv
    have HR0 := Aside0.mk hr0
    have HB0 := Aside0.mk hb0
    have hlen : (bytesOf a0).length = a0.size := bytesOf_length a0
    have HLEN := Aside0.mk hlen
    clear hr0 hb0 hlen
    go_enter Try.func45, Try.ntmps45
    go_wp2
    go_loopw [4] (fun i wr => ∃ k : Nat, k ≤ a0.size ∧ i = .int .i64 k ∧ Aside0 (BRow wr 5 w.heap.size (lowTo (bytesOf a0) k)) ∧ Aside0 (Below w.heap.size w wr)) (fun i _ => a0.size - (intOf i).toNat)
    case atStart => exact ⟨0, Nat.zero_le _, rfl, ⟨by rw [lowTo_zero]; exact HR0.out⟩, HB0⟩
    case round =>
      clear HR0 HB0 hcv
      obtain ⟨k, hk, rfl, HR, HB⟩ := hrel
      by_cases hlt : k < a0.size
      · have hkl : k < (bytesOf a0).length := by have := HLEN.out; omega
        obtain ⟨hc, hf⟩ := brow_cell HR.out (lowTo_at hkl)
        have hrg := bo_range a0 _ (List.getElem_mem hkl)
        obtain ⟨x, hx⟩ : ∃ x, x = (bytesOf a0)[k] := ⟨_, rfl⟩
        rw [← hx] at hc hrg
        obtain ⟨hx0, hx1⟩ := hrg
        by_cases h65 : 65 ≤ x ∧ x ≤ 90
        · have hlow : low1 x = x + 32 := by unfold low1; rw [if_pos h65]
          have HR1 : Aside0 (BRow (wr.setCell ⟨w.heap.size, k, none⟩ (.int .u8 (x + 32))) 5 w.heap.size (lowTo (bytesOf a0) (k + 1))) := ⟨by rw [← hlow, hx, ← lowTo_succ hkl]; exact brow_set HR.out k _⟩
          have HB1 := Aside0.mk (HB.out.setCell (p := ⟨w.heap.size, k, none⟩) (Nat.le_refl _) (.int .u8 (x + 32)))
          obtain ⟨ha, hb⟩ := h65
          clear hx hkl hlow
          go_wp2
          go_roundw
          case rel => exact ⟨k + 1, by omega, by go_num, HR1, HB1⟩
          case measure => simp [intOf]; omega
        · have hlow : low1 x = x := by unfold low1; rw [if_neg h65]
          have HR1 : Aside0 (BRow wr 5 w.heap.size (lowTo (bytesOf a0) (k + 1))) := ⟨by
            rw [← lowTo_succ hkl, ← hx, hlow, hx]
            have h2 := lowTo_at hkl
            obtain ⟨h3, h4⟩ := List.getElem?_eq_some_iff.1 h2
            rw [← h4, List.set_getElem_self h3]
            exact HR.out⟩
          have hdec : (decide (65 ≤ x) && decide (x ≤ 90)) = false := by simp; omega
          clear hx hkl hlow
          by_cases h65a : 65 ≤ x
          · have h90 : ¬ x ≤ 90 := by omega
            clear h65 hdec
            go_wp2
            go_roundw
            case rel => exact ⟨k + 1, by omega, by go_num, HR1, HB⟩
            case measure => simp [intOf]; omega
          · clear h65 hdec
            go_wp2
            go_roundw
            case rel => exact ⟨k + 1, by omega, by go_num, HR1, HB⟩
            case measure => simp [intOf]; omega
      · have hkl : (bytesOf a0).length ≤ k := by have := HLEN.out; omega
        have hrow := HR.out
        rw [lowTo_end hkl] at hrow
        have hml : ((bytesOf a0).map low1).length = a0.size := by rw [List.length_map]; exact HLEN.out
        have hrd := brow_reads hrow (by omega)
        rw [hml] at hrd
        have hst := fun (c : Nat) => string_of_reads (P := Try.prog) (c := c) Try.underlying58 Try.underlying5 Try.underlying9 hrd
        clear hrow hrd hml hkl
        go_wp2
        go_ret
        exact ⟨by first | rfl | (simp; done), HB.out⟩
  · rw [if_neg hs] at h; exact absurd h (by simp)
end Go.Proofs.Ytplnknhlgdoliaa.Print
end
section
/- strings.Builder: copyCheck, Len, WriteByte, WriteString, Write, String, walked at this program. -/
namespace Go.Proofs.Ytplnknhlgdoliaa.Print
open Go.RowKit Go.Proofs.YtplnknhlgdoliaaW.PrintWords Go.Proofs.YtplnknhlgdoliaaW.PrintLast Go.Proofs.YtplnknhlgdoliaaW.PrintMore
set_option linter.unusedVariables false
set_option linter.unusedSimpArgs false

theorem sizeBuilder : (Try.prog.info? 63).map (·.size) = some 2 := by kernel_rfl
theorem copyCheck_used (b : Nat) (w : World) (h0 : w.cell? ⟨b, 0, none⟩ = some (.pointer (some ⟨b, 0, none⟩))) :
    Calls Try.prog 61 #[.pointer (some ⟨b, 0, none⟩)] w fun e w' => e = .returned (.tuple #[]) ∧ w = w' := by
  obtain ⟨j, hj, _⟩ := Option.map_eq_some_iff.1 sizeBuilder
  go_enter Try.func61, Try.ntmps61
  go_wp2
  rw [Lib.run_neq_ptr_same w _ Try.underlying61 hj]
  go_wp2
  go_end0
  exact ⟨rfl, rfl⟩
theorem copyCheck_fresh (b : Nat) (w : World) (h0 : w.cell? ⟨b, 0, none⟩ = some (.pointer none)) (hsh : w.shape? b = some (63, 2)) (hfz : w.frozen? ⟨b, 0, none⟩ = false) :
    Calls Try.prog 61 #[.pointer (some ⟨b, 0, none⟩)] w fun e w' => e = .returned (.tuple #[]) ∧ w.setCell ⟨b, 0, none⟩ (.pointer (some ⟨b, 0, none⟩)) = w' := by
  obtain ⟨j, hj, hjs⟩ := Option.map_eq_some_iff.1 sizeBuilder
  go_enter Try.func61, Try.ntmps61
  go_wp2
  rw [Lib.run_to_unsafe w ⟨b, 0, none⟩ Try.underlying61 Try.underlying80 hj (by rw [hjs]; decide) hsh (Nat.zero_lt_succ 1)]
  simp only [Result.andThen]
  rw [Oper.upon_value]
  go_wp2
  rw [run_callFunc_extern Try.func63 (by kernel_rfl) (by kernel_rfl) (by kernel_rfl) (e := Extern.AbiNoEscape.same) (by kernel_rfl)]
  rw [Lib.run_noEscape]
  simp only [Result.andThen]
  rw [Oper.upon_value]
  go_wp2
  rw [Lib.run_from_unsafe w ⟨b, 0, none⟩ Try.underlying80 Try.underlying61 hj hsh (by kernel_rfl)]
  simp only [Result.andThen]
  rw [Oper.upon_value]
  go_wp2
  go_end0
  exact ⟨rfl, rfl⟩
theorem copyCheck_any (B b : Nat) (bs : List Value) (w : World) (h : Lib.IsBuilder 63 5 B b bs w) :
    Calls Try.prog 61 #[.pointer (some ⟨b, 0, none⟩)] w fun e w' => e = .returned (.tuple #[]) ∧ (Lib.BuilderAt 63 5 B b (.pointer (some ⟨b, 0, none⟩)) bs w' ∧ Below B w w' ∧ Lib.OthersKept 5 (some b) w w') := by
  rcases h with h | h
  · refine (copyCheck_fresh b w h.cell0 h.shape h.frozen0).mono ?_
    rintro e w' ⟨rfl, rfl⟩
    exact ⟨rfl, h.used _, (Below.refl B w).setCell (p := ⟨b, 0, none⟩) h.1 _, (Lib.OthersKept.refl _ _ w).setCell ⟨b, 0, none⟩ rfl _⟩
  · refine (copyCheck_used b w h.cell0).mono ?_
    rintro e w' ⟨rfl, rfl⟩
    exact ⟨rfl, h, Below.refl B _, Lib.OthersKept.refl _ _ _⟩
theorem builder_form {B b : Nat} {bs : List Value} {w : World} (h : Lib.IsBuilder 63 5 B b bs w) : ∃ p, Lib.BuilderAt 63 5 B b p bs w := by
  rcases h with h | h
  · exact ⟨_, h⟩
  · exact ⟨_, h⟩
theorem builder_used {B b : Nat} {bs : List Value} {w : World} (h : Lib.BuilderAt 63 5 B b (.pointer (some ⟨b, 0, none⟩)) bs w) : Lib.IsBuilder 63 5 B b bs w := Or.inr h
theorem builder_lt {B b : Nat} {bs : List Value} {w : World} (h : Lib.IsBuilder 63 5 B b bs w) : b < w.heap.size := by
  obtain ⟨p, h⟩ := builder_form h
  exact h.lt
theorem builderAt_alloc {B b : Nat} {p : Value} {bs : List Value} {w : World} (h : Lib.BuilderAt 63 5 B b p bs w) (o : Obj) : Lib.BuilderAt 63 5 B b p bs (w.alloc o) := by
  have hlt := h.lt
  obtain ⟨hB, v, hb, hown, hne⟩ := h
  exact ⟨hB, v, by rw [Lib.alloc_old w o b hlt]; exact hb, hown.alloc o, hne⟩
theorem builder_alloc {B b : Nat} {bs : List Value} {w : World} (h : Lib.IsBuilder 63 5 B b bs w) (o : Obj) : Lib.IsBuilder 63 5 B b bs (w.alloc o) := h.imp (fun h => builderAt_alloc h o) (fun h => builderAt_alloc h o)
theorem builder_below {B b : Nat} {bs : List Value} {w w' : World} (h : Lib.IsBuilder 63 5 B b bs w) (hb : Below w.heap.size w w') : Lib.IsBuilder 63 5 B b bs w' := by
  have key : ∀ p, Lib.BuilderAt 63 5 B b p bs w → Lib.BuilderAt 63 5 B b p bs w' := fun p h => by
    have hlt := h.lt
    obtain ⟨hB, v, hbk, hown, hne⟩ := h
    exact ⟨hB, v, by rw [hb.block b hlt]; exact hbk, pw_own_below hown hb, hne⟩
  exact h.imp (key _) (key _)
theorem cells_new (W : World) (cs : List Value) (t : TypeId) : ∀ j u, cs[j]? = some u → (W.alloc (.cells cs.toArray t)).cell? ⟨W.heap.size, j, none⟩ = some u := by
  intro j u hu
  rw [Lib.cell_of_heap (heap_alloc_new W _)]
  simpa using hu
theorem Len_any (B b : Nat) (bs : List Value) (w : World) (h : Lib.IsBuilder 63 5 B b bs w) : Calls Try.prog 46 #[.pointer (some ⟨b, 0, none⟩)] w fun e w' => e = .returned (.int .i64 bs.length) ∧ w = w' := by
  obtain ⟨p, hB, v, hbk, hown, hne⟩ := builder_form h
  obtain ⟨ao, cap, rfl⟩ : ∃ ao cap, v = .slice ao bs.length cap := by
    rcases hown.2 with ⟨hv, h0⟩ | ⟨g, cap, cur, hv, _⟩
    · exact ⟨none, 0, by rw [hv, h0]⟩
    · exact ⟨_, _, hv⟩
  have c1 : w.cell? ⟨b, 1, none⟩ = some (.slice ao bs.length cap) := by rw [Lib.cell_of_heap hbk]; rfl
  go_enter Try.func46, Try.ntmps46
  go_wp2
  go_ret
  exact ⟨rfl, rfl⟩
theorem infoByte : (Try.prog.info? 5).map (fun i => (i.zero, i.size, i.bytes)) = some (some (.int .u8 0), 1, 1) := by kernel_rfl
set_option maxHeartbeats 2000000 in
set_option maxRecDepth 100000 in
theorem WriteByte_k (B b : Nat) (bs : List Value) (c : Int) (w : World) (h : Lib.IsBuilder 63 5 B b bs w) (hlen : bs.length + 1 ≤ 140737488355328) (hBw : B ≤ w.heap.size) :
    Calls Try.prog 47 #[.pointer (some ⟨b, 0, none⟩), .int .u8 c] w fun e w' => e = .returned .nilIface ∧ (Lib.BuilderAt 63 5 B b (.pointer (some ⟨b, 0, none⟩)) (bs ++ [.int .u8 c]) w' ∧ Below B w w' ∧ Lib.OthersKept 5 (some b) w w') := by
  obtain ⟨i0, hi, hz0, hz1, hz2⟩ := info_parts infoByte
  go_enter Try.func47, Try.ntmps47
  go_wp2_with (go_at_call 61; refine (copyCheck_any B b bs _ h).mono ?_)
  rintro e w1 ⟨rfl, h1, hb1, hk1⟩
  obtain ⟨hB, v, hbk, hown, hne⟩ := h1
  have c0 : w1.cell? ⟨b, 0, none⟩ = some (.pointer (some ⟨b, 0, none⟩)) := by rw [Lib.cell_of_heap hbk]; rfl
  have c1 : w1.cell? ⟨b, 1, none⟩ = some v := by rw [Lib.cell_of_heap hbk]; rfl
  go_wp2_with (at_builtin; refine wpList_append_own _ rfl _ _ 58 rfl B 5 i0 (.int .u8 0) 1 1 Try.underlying58 hi hz0 hz1 hz2 rfl (by decide) _ _ _ rfl (hown.alloc _) ⟨w1.heap.size, 0, none⟩ 1 1 [.int .u8 c] rfl rfl ?c1 ?c2 ?c3 ?c4 ?c5 ?_)
  case c1 =>
    intro j u hj
    match j, hj with
    | 0, hj => simp at hj; subst hj; simp [Addr.add]
  case c2 => intro u hu; simp at hu; subst hu; rfl
  case c3 => unfold maxLen; omega
  case c4 => omega
  case c5 => have := hb1.size; simp; omega
  intro v' w2 hown' hgrow _
  have hlt : b < w1.heap.size := by
    rcases Nat.lt_or_ge b w1.heap.size with h' | h'
    · exact h'
    · simp [Array.getElem?_eq_none h'] at hbk
  have hb2 : w2.heap[b]? = some (.cells #[.pointer (some ⟨b, 0, none⟩), v] 63 (0, 0)) := by
    rw [hgrow.block b (by simp; omega) (fun e => hne e.symm), Lib.alloc_old w1 _ b hlt]
    exact hbk
  have d0 : w2.cell? ⟨b, 0, none⟩ = some (.pointer (some ⟨b, 0, none⟩)) := by rw [Lib.cell_of_heap hb2]; rfl
  have d1 : w2.cell? ⟨b, 1, none⟩ = some v := by rw [Lib.cell_of_heap hb2]; rfl
  have f1 : w2.frozen? ⟨b, 1, none⟩ = false := Lib.frozen_of_heap hb2 1
  obtain ⟨g, cap, rfl⟩ : ∃ g cap, v' = .slice (some ⟨g, 0, none⟩) (bs.length + 1) cap := by
    rcases hown'.2 with ⟨_, h0⟩ | ⟨g, cap, cur, hv, _⟩
    · omega
    · exact ⟨g, cap, hv⟩
  go_wp2
  go_ret
  refine ⟨rfl, ?_, ?_, ?_⟩
  · exact Lib.BuilderAt.put (T := 63) (e := 5) hB hb2 (bs' := bs ++ [.int .u8 c]) (by simpa using hown') (by decide)
  · exact ((hb1.alloc (by have := hb1.size; omega) _).grown hgrow (by have := hb1.size; simp; omega) (fun k hk => (hown.lt k hk).1)).setCell (p := ⟨b, 1, none⟩) hB _
  · exact ((hk1.alloc _).grown hgrow (fun g hg => by obtain ⟨c, hc⟩ := own_typed (hown.alloc _) g hg; exact ⟨c, (0, 0), hc⟩)).setCell ⟨b, 1, none⟩ rfl _
theorem WriteByte_any (B b : Nat) (bs : List Value) (c : Int) (w : World) (h : Lib.IsBuilder 63 5 B b bs w) (hlen : bs.length + 1 ≤ 140737488355328) (hBw : B ≤ w.heap.size) :
    Calls Try.prog 47 #[.pointer (some ⟨b, 0, none⟩), .int .u8 c] w fun e w' => e = .returned .nilIface ∧ (Lib.BuilderAt 63 5 B b (.pointer (some ⟨b, 0, none⟩)) (bs ++ [.int .u8 c]) w' ∧ Below B w w') :=
  (WriteByte_k B b bs c w h hlen hBw).mono fun _ _ h => ⟨h.1, h.2.1, h.2.2.1⟩
set_option maxHeartbeats 2000000 in
set_option maxRecDepth 100000 in
theorem WriteString_k (B b : Nat) (bs : List Value) (s : ByteArray) (w : World) (h : Lib.IsBuilder 63 5 B b bs w) (hlen : bs.length + s.size ≤ 140737488355328) (hBw : B ≤ w.heap.size) :
    Calls Try.prog 48 #[.pointer (some ⟨b, 0, none⟩), .string s] w fun e w' => e = .returned (.tuple #[.int .i64 s.size, .nilIface]) ∧ (Lib.BuilderAt 63 5 B b (.pointer (some ⟨b, 0, none⟩)) (bs ++ Lib.strCells s) w' ∧ Below B w w' ∧ Lib.OthersKept 5 (some b) w w') := by
  obtain ⟨i0, hi, hz0, hz1, hz2⟩ := info_parts infoByte
  go_enter Try.func48, Try.ntmps48
  go_wp2_with (go_at_call 61; refine (copyCheck_any B b bs _ h).mono ?_)
  rintro e w1 ⟨rfl, h1, hb1, hk1⟩
  obtain ⟨hB, v, hbk, hown, hne⟩ := h1
  have c0 : w1.cell? ⟨b, 0, none⟩ = some (.pointer (some ⟨b, 0, none⟩)) := by rw [Lib.cell_of_heap hbk]; rfl
  have c1 : w1.cell? ⟨b, 1, none⟩ = some v := by rw [Lib.cell_of_heap hbk]; rfl
  go_wp2_with (at_builtin; refine Lib.wpList_append_own_string _ rfl _ _ 58 9 rfl B 5 i0 Try.underlying58 Try.underlying9 hi hz0 hz1 hz2 _ _ _ rfl hown s rfl ?c3 ?c4 ?c5 ?_)
  case c3 => unfold maxLen; omega
  case c4 => omega
  case c5 => have := hb1.size; omega
  intro v' w2 hown' hgrow _
  have hlt : b < w1.heap.size := by
    rcases Nat.lt_or_ge b w1.heap.size with h' | h'
    · exact h'
    · simp [Array.getElem?_eq_none h'] at hbk
  have hb2 : w2.heap[b]? = some (.cells #[.pointer (some ⟨b, 0, none⟩), v] 63 (0, 0)) := by
    rw [hgrow.block b hlt (fun e => hne e.symm)]
    exact hbk
  have d0 : w2.cell? ⟨b, 0, none⟩ = some (.pointer (some ⟨b, 0, none⟩)) := by rw [Lib.cell_of_heap hb2]; rfl
  have d1 : w2.cell? ⟨b, 1, none⟩ = some v := by rw [Lib.cell_of_heap hb2]; rfl
  have f1 : w2.frozen? ⟨b, 1, none⟩ = false := Lib.frozen_of_heap hb2 1
  obtain ⟨ao, n', cap, rfl⟩ : ∃ ao n' cap, v' = .slice ao n' cap := by
    rcases hown'.2 with ⟨hv, _⟩ | ⟨g, cap, cur, hv, _⟩
    · exact ⟨_, _, _, hv⟩
    · exact ⟨_, _, _, hv⟩
  go_wp2
  go_ret2
  refine ⟨rfl, ?_, ?_, ?_⟩
  · exact Lib.BuilderAt.put (T := 63) (e := 5) hB hb2 (bs' := bs ++ Lib.strCells s) (by simpa [Lib.strCells_length] using hown') (by decide)
  · exact (hb1.grown hgrow (by have := hb1.size; omega) (fun k hk => (hown.lt k hk).1)).setCell (p := ⟨b, 1, none⟩) hB _
  · exact (hk1.grown hgrow (fun g hg => by obtain ⟨c, hc⟩ := own_typed hown g hg; exact ⟨c, (0, 0), hc⟩)).setCell ⟨b, 1, none⟩ rfl _
theorem WriteString_any (B b : Nat) (bs : List Value) (s : ByteArray) (w : World) (h : Lib.IsBuilder 63 5 B b bs w) (hlen : bs.length + s.size ≤ 140737488355328) (hBw : B ≤ w.heap.size) :
    Calls Try.prog 48 #[.pointer (some ⟨b, 0, none⟩), .string s] w fun e w' => e = .returned (.tuple #[.int .i64 s.size, .nilIface]) ∧ (Lib.BuilderAt 63 5 B b (.pointer (some ⟨b, 0, none⟩)) (bs ++ Lib.strCells s) w' ∧ Below B w w') :=
  (WriteString_k B b bs s w h hlen hBw).mono fun _ _ h => ⟨h.1, h.2.1, h.2.2.1⟩
theorem copyCheck_far (B b : Nat) (bs : List Value) (w : World) (h : Lib.IsBuilder 63 5 B b bs w) :
    Calls Try.prog 61 #[.pointer (some ⟨b, 0, none⟩)] w fun e w' => e = .returned (.tuple #[]) ∧ (Lib.BuilderAt 63 5 B b (.pointer (some ⟨b, 0, none⟩)) bs w' ∧ Below B w w') ∧ ∀ (a : Addr), a.block ≠ b → w'.cell? a = w.cell? a := by
  rcases h with h | h
  · refine (copyCheck_fresh b w h.cell0 h.shape h.frozen0).mono ?_
    rintro e w' ⟨rfl, rfl⟩
    exact ⟨rfl, ⟨h.used _, (Below.refl B w).setCell (p := ⟨b, 0, none⟩) h.1 _⟩, fun a ha => World.cell?_setCell_far _ _ _ _ (fun h_ => ha h_.symm)⟩
  · refine (copyCheck_used b w h.cell0).mono ?_
    rintro e w' ⟨rfl, rfl⟩
    exact ⟨rfl, ⟨h, Below.refl B _⟩, fun _ _ => rfl⟩
set_option maxHeartbeats 2000000 in
set_option maxRecDepth 100000 in
theorem Write_any (B b : Nat) (bs : List Value) (g m c : Nat) (cs : List Value) (w : World) (h : Lib.IsBuilder 63 5 B b bs w) (hg : g ≠ b) (hm : cs.length = m) (hcs : ∀ j u, cs[j]? = some u → w.cell? ⟨g, j, none⟩ = some u) (h1c : ∀ u ∈ cs, u.oneCell' = true) (hlen : bs.length + m ≤ 140737488355328) (hBw : B ≤ w.heap.size) :
    Calls Try.prog 53 #[.pointer (some ⟨b, 0, none⟩), .slice (some ⟨g, 0, none⟩) m c] w fun e w' => e = .returned (.tuple #[.int .i64 m, .nilIface]) ∧ (Lib.BuilderAt 63 5 B b (.pointer (some ⟨b, 0, none⟩)) (bs ++ cs) w' ∧ Below B w w') := by
  obtain ⟨i0, hi, hz0, hz1, hz2⟩ := info_parts infoByte
  go_enter Try.func53, Try.ntmps53
  go_wp2_with (go_at_call 61; refine (copyCheck_far B b bs _ h).mono ?_)
  rintro e w1 ⟨rfl, ⟨h1, hb1⟩, hfar⟩
  obtain ⟨hB, v, hbk, hown, hne⟩ := h1
  have c0 : w1.cell? ⟨b, 0, none⟩ = some (.pointer (some ⟨b, 0, none⟩)) := by rw [Lib.cell_of_heap hbk]; rfl
  have c1 : w1.cell? ⟨b, 1, none⟩ = some v := by rw [Lib.cell_of_heap hbk]; rfl
  have hcs1 : ∀ j u, cs[j]? = some u → w1.cell? ((⟨g, 0, none⟩ : Addr).add j) = some u := fun j u hj => by rw [add_plain, hfar _ hg]; exact hcs j u hj
  have HF := Aside0.mk hfar
  have HC1 := Aside0.mk hcs1
  have HC := Aside0.mk hcs
  have HM := Aside0.mk hm
  clear hfar hcs1 hcs hm
  go_wp2_with (at_builtin; refine wpList_append_own _ rfl _ _ 58 rfl B 5 i0 (.int .u8 0) 1 1 Try.underlying58 hi hz0 hz1 hz2 rfl (by decide) _ _ _ rfl hown ⟨g, 0, none⟩ m c cs rfl (by have := HM.out; omega) ?c1 ?c2 ?c3 ?c4 ?c5 ?_)
  case c1 => intro j u hj; exact HC1.out j u hj
  case c2 => exact h1c
  case c3 => unfold maxLen; omega
  case c4 => omega
  case c5 => have := hb1.size; omega
  intro v' w2 hown' hgrow _
  have hlt : b < w1.heap.size := by
    rcases Nat.lt_or_ge b w1.heap.size with h' | h'
    · exact h'
    · simp [Array.getElem?_eq_none h'] at hbk
  have hb2 : w2.heap[b]? = some (.cells #[.pointer (some ⟨b, 0, none⟩), v] 63 (0, 0)) := by
    rw [hgrow.block b hlt (fun e => hne e.symm)]
    exact hbk
  have d0 : w2.cell? ⟨b, 0, none⟩ = some (.pointer (some ⟨b, 0, none⟩)) := by rw [Lib.cell_of_heap hb2]; rfl
  have d1 : w2.cell? ⟨b, 1, none⟩ = some v := by rw [Lib.cell_of_heap hb2]; rfl
  have f1 : w2.frozen? ⟨b, 1, none⟩ = false := Lib.frozen_of_heap hb2 1
  obtain ⟨ao, n', cap, rfl⟩ : ∃ ao n' cap, v' = .slice ao n' cap := by
    rcases hown'.2 with ⟨hv, _⟩ | ⟨g, cap, cur, hv, _⟩
    · exact ⟨_, _, _, hv⟩
    · exact ⟨_, _, _, hv⟩
  go_wp2
  go_ret2
  have hmm := HM.out
  refine ⟨rfl, ?_, ?_⟩
  · exact Lib.BuilderAt.put (T := 63) (e := 5) hB hb2 (bs' := bs ++ cs) (by rw [List.length_append, hmm]; exact hown') (by decide)
  · exact (hb1.grown hgrow (by have := hb1.size; omega) (fun k hk => (hown.lt k hk).1)).setCell (p := ⟨b, 1, none⟩) hB _
end Go.Proofs.Ytplnknhlgdoliaa.Print
end
section
/- name.Bytes, walked: it answers what 'unesc' says of the text. -/
namespace Go.Proofs.Ytplnknhlgdoliaa.Print
open Go.RowKit Go.Proofs.YtplnknhlgdoliaaW.PrintWords Go.Proofs.YtplnknhlgdoliaaW.PrintLast Go.Proofs.YtplnknhlgdoliaaW.PrintMore
set_option linter.unusedVariables false
set_option linter.unusedSimpArgs false

def isDig (c : Int) : Bool := decide (48 ≤ c) && decide (c ≤ 57)
/-- the closure 'digit' -/
def digAt (s : ByteArray) (i : Int) : Bool := decide (i < (s.size : Int)) && isDig (bt s i)

theorem digit_calls (s : ByteArray) (i : Int) (B : Nat) (w : World) (hi : 0 ≤ i) (hc : w.cell? ⟨B, 0, none⟩ = some (.string s)) :
    Calls Try.prog 51 #[.int .i64 i, .pointer (some ⟨B, 0, none⟩)] w fun e w' => e = .returned (.bool (digAt s i)) ∧ w = w' := by
  unfold digAt isDig
  by_cases h1 : i < (s.size : Int)
  · have hx := bt_at s i
    by_cases h2 : 48 ≤ bt s i
    · by_cases h3 : bt s i ≤ 57
      · go_enter Try.func51, Try.ntmps51
        go_wp2
        go_ret
        exact ⟨by simp [h1, h2, h3] <;> omega, rfl⟩
      · go_enter Try.func51, Try.ntmps51
        go_wp2
        go_ret
        exact ⟨by simp [h1, h2, h3] <;> omega, rfl⟩
    · go_enter Try.func51, Try.ntmps51
      go_wp2
      go_ret
      exact ⟨by simp [h1, h2] <;> omega, rfl⟩
  · go_enter Try.func51, Try.ntmps51
    go_wp2
    go_ret
    exact ⟨by simp [h1] <;> omega, rfl⟩


def unesc : List Int → Option (List Int)
  | [] => some []
  | c :: r => if c ≠ 92 then (unesc r).map (c :: ·) else
    match r with
    | [] => none
    | d :: r1 => if isDig d = false then (unesc r1).map (d :: ·) else
      match r1 with
      | e :: f :: r2 => if isDig e && isDig f then (if (d - 48) * 100 + (e - 48) * 10 + (f - 48) > 255 then none else (unesc r2).map (((d - 48) * 100 + (e - 48) * 10 + (f - 48)) :: ·)) else none
      | _ => none
theorem unesc_plain (c : Int) (r : List Int) (h : c ≠ 92) : unesc (c :: r) = (unesc r).map (c :: ·) := by rw [unesc.eq_def]; simp [h]
theorem unesc_last : unesc [92] = none := by rw [unesc.eq_def]; simp
theorem unesc_one (d : Int) (r : List Int) (h : isDig d = false) : unesc (92 :: d :: r) = (unesc r).map (d :: ·) := by rw [unesc.eq_def]; simp [h]
theorem unesc_three (d e f : Int) (r : List Int) (h : isDig d = true) : unesc (92 :: d :: e :: f :: r) = if isDig e && isDig f then (if (d - 48) * 100 + (e - 48) * 10 + (f - 48) > 255 then none else (unesc r).map (((d - 48) * 100 + (e - 48) * 10 + (f - 48)) :: ·)) else none := by rw [unesc.eq_def]; simp [h]
theorem unesc_two (d : Int) (r : List Int) (h : isDig d = true) (hr : r.length < 2) : unesc (92 :: d :: r) = none := by
  rw [unesc.eq_def]
  match r, hr with
  | [], _ => simp [h]
  | [e], _ => simp [h]
def name_Bytes.f (s : ByteArray) : Option (ByteArray × Int) :=
  if s.size < 140737488355328 then (match unesc (bytesOf s) with | some l => some (strOfNums l, 0) | none => some (⟨#[]⟩, 12)) else none


/-- what stands at the loop's head: 'acc' was told of the first k bytes -/
def Inv (s : ByteArray) (k : Nat) (acc : List Int) : Prop := k ≤ s.size ∧ acc.length ≤ k ∧ (unesc ((bytesOf s).drop k)).map (acc ++ ·) = unesc (bytesOf s)
theorem inv0 (s : ByteArray) : Inv s 0 [] := ⟨Nat.zero_le _, Nat.le_refl _, by simp⟩
theorem inv_end {s : ByteArray} {k : Nat} {acc : List Int} (h : Inv s k acc) (hk : ¬ k < s.size) : unesc (bytesOf s) = some acc := by
  rw [← h.2.2, bo_end s k (by omega)]; simp [unesc]
theorem inv_plain {s : ByteArray} {k : Nat} {acc : List Int} (h : Inv s k acc) (hk : k < s.size) (hc : bt s (k : Int) ≠ 92) : Inv s (k + 1) (acc ++ [bt s (k : Int)]) := by
  refine ⟨hk, by simp; exact h.2.1, ?_⟩
  rw [← h.2.2, bo_drop s k hk, unesc_plain _ _ hc]
  simp [Option.map_map, Function.comp_def]
theorem inv_last {s : ByteArray} {k : Nat} {acc : List Int} (h : Inv s k acc) (hk : k < s.size) (hc : bt s (k : Int) = 92) (he : k + 1 = s.size) : unesc (bytesOf s) = none := by
  rw [← h.2.2, bo_drop s k hk, hc, bo_end s (k + 1) (by omega), unesc_last]; rfl
theorem digAt_eq {s : ByteArray} {k : Nat} (hk : k < s.size) : digAt s (k : Int) = isDig (bt s (k : Int)) := by simp [digAt, hk]
theorem dig_bounds {s : ByteArray} {k : Nat} (hk : k < s.size) (h : digAt s (k : Int) = true) : 48 ≤ bt s (k : Int) ∧ bt s (k : Int) ≤ 57 := by rw [digAt_eq hk] at h; unfold isDig at h; simpa using h
theorem inv_one {s : ByteArray} {k : Nat} {acc : List Int} (h : Inv s k acc) (hk : k < s.size) (hc : bt s (k : Int) = 92) (he : k + 1 < s.size) (hd : digAt s ((k + 1 : Nat) : Int) = false) : Inv s (k + 2) (acc ++ [bt s ((k + 1 : Nat) : Int)]) := by
  refine ⟨by omega, by have := h.2.1; simp; omega, ?_⟩
  rw [digAt_eq he] at hd
  rw [← h.2.2, bo_drop s k hk, hc, bo_drop s (k + 1) he, unesc_one _ _ hd]
  simp [Option.map_map, Function.comp_def]
theorem inv_bad {s : ByteArray} {k : Nat} {acc : List Int} (h : Inv s k acc) (hk : k < s.size) (hc : bt s (k : Int) = 92) (he : k + 1 < s.size) (hd : digAt s ((k + 1 : Nat) : Int) = true)
    (hb : digAt s ((k + 2 : Nat) : Int) = false ∨ digAt s ((k + 3 : Nat) : Int) = false) : unesc (bytesOf s) = none := by
  rw [digAt_eq he] at hd
  rw [← h.2.2, bo_drop s k hk, hc, bo_drop s (k + 1) he]
  by_cases h3 : k + 3 < s.size
  · have h2 : k + 2 < s.size := by omega
    rw [digAt_eq h2, digAt_eq h3] at hb
    rw [bo_drop s (k + 1 + 1) h2, bo_drop s (k + 1 + 1 + 1) h3, unesc_three _ _ _ _ hd]
    simp only [show k + 1 + 1 = k + 2 from rfl, show k + 2 + 1 = k + 3 from rfl]
    rw [if_neg (by rcases hb with hb | hb <;> rw [hb] <;> simp)]; rfl
  · rw [unesc_two _ _ hd (by simp [bytesOf_length]; omega)]; rfl
def three (s : ByteArray) (k : Nat) : Int := (bt s ((k + 1 : Nat) : Int) - 48) * 100 + (bt s ((k + 2 : Nat) : Int) - 48) * 10 + (bt s ((k + 3 : Nat) : Int) - 48)
theorem inv_three {s : ByteArray} {k : Nat} {acc : List Int} (h : Inv s k acc) (hk : k < s.size) (hc : bt s (k : Int) = 92) (hd : digAt s ((k + 1 : Nat) : Int) = true)
    (h2 : digAt s ((k + 2 : Nat) : Int) = true) (h3 : digAt s ((k + 3 : Nat) : Int) = true) : (255 < three s k → unesc (bytesOf s) = none) ∧ (¬ 255 < three s k → Inv s (k + 4) (acc ++ [three s k])) := by
  have b3 : k + 3 < s.size := by unfold digAt at h3; simp at h3; omega
  rw [digAt_eq (by omega)] at hd h2 h3
  have e : unesc ((bytesOf s).drop k) = if three s k > 255 then none else (unesc ((bytesOf s).drop (k + 4))).map (three s k :: ·) := by
    rw [bo_drop s k hk, hc, bo_drop s (k + 1) (by omega), bo_drop s (k + 1 + 1) (by omega), bo_drop s (k + 1 + 1 + 1) (by omega), unesc_three _ _ _ _ hd]
    simp only [show k + 1 + 1 = k + 2 from rfl, show k + 2 + 1 = k + 3 from rfl, h2, h3]
    rfl
  constructor
  · intro hb; rw [← h.2.2, e, if_pos hb]; rfl
  · intro hb
    refine ⟨by omega, by have := h.2.1; simp; omega, ?_⟩
    rw [← h.2.2, e, if_neg hb]; simp [Option.map_map, Function.comp_def]

set_option maxHeartbeats 4000000 in
set_option maxRecDepth 100000 in
theorem name_Bytes.calls (a0 : ByteArray) (r1 : ByteArray) (r2 : Int) (w : World) (h : name_Bytes.f a0 = some (r1, r2)) :
    Calls Try.prog 23 #[.string a0] w fun e w' => e = .returned (.tuple #[.string r1, .int .i64 r2]) ∧ Below w.heap.size w w' := by
  unfold name_Bytes.f at h
  by_cases hlen : a0.size < 140737488355328
  · rw [if_pos hlen] at h
    have H := Aside0.mk h
    clear h
    have HL := Aside0.mk hlen
    clear hlen
    obtain ⟨W0, hW0⟩ : ∃ W0 : World, W0 = w.alloc (.cells #[.string a0] 9) := ⟨_, rfl⟩
    have hc0 : W0.cell? ⟨w.heap.size, 0, none⟩ = some (.string a0) := by rw [hW0]; exact cell_fresh w (.string a0) 9
    have hz0 : W0.heap.size = w.heap.size + 1 := by rw [hW0]; simp
    have hb0 : Below w.heap.size w W0 := by rw [hW0]; exact below_alloc (Below.refl _ _) _
    have HW0 := Aside0.mk hW0.symm
    have HZ0 := Aside0.mk hz0
    have HB0 := Aside0.mk hb0
    have HC0 := Aside0.mk hc0
    clear hW0 hz0 hb0 hc0
    obtain ⟨i5, hi, hz1, hz2, hz3⟩ := info_parts infoByte
    go_enter Try.func23, Try.ntmps23
    go_wp2_with (at_make; rw [HW0.out]; refine wpList_make_own W0 rfl _ _ 58 rfl W0.heap.size 5 i5 (.int .u8 0) 1 Try.underlying58 hi hz1 hz2 .i64 .i64 _ a0.size rfl rfl rfl (by have := HL.out; rw [hz3]; omega) (by have := HL.out; unfold maxLen; omega) (Nat.le_refl _) ?_; intro w1 hown1 hg1; have HO1 := Aside0.mk (Kd.R_of_own (ok := fun _ => True) (xs := ([] : List Int)) (enc := Value.int .u8) (h1 := fun _ => rfl) hown1 (fun _ _ => trivial)); have HB1 := Aside0.mk (pw_below_grown (Below.refl W0.heap.size W0) none (Nat.le_refl _) hg1 (by simp)); clear hown1 hg1)
    go_loopw [4, 6] (fun v i wr => ∃ (k : Nat) (acc : List Int), i = .int .i64 k ∧ Aside0 (Inv a0 k acc) ∧ Aside0 (Kd.R (Kd.int .u8) 5 wr W0.heap.size (fun _ => True) v acc) ∧ Aside0 (Below W0.heap.size W0 wr)) (fun _ i _ => a0.size - (intOf i).toNat)
    case atStart => exact ⟨0, [], rfl, ⟨inv0 a0⟩, HO1, HB1⟩
    case round =>
      clear HO1 HB1 hi hz1 hz2 hz3
      obtain ⟨k, acc, rfl, HI, HO, HB⟩ := hrel
      have hcell : wr.cell? ⟨w.heap.size, 0, none⟩ = some (.string a0) := pw_cell_below HB.out HC0.out
      have hkb : k ≤ 140737488355328 := by have := HI.out.1; have := HL.out; omega
      have hsb : a0.size ≤ 140737488355328 := by have := HL.out; omega
      by_cases hk : k < a0.size
      · have hx0 := bt_nat a0 k hk
        by_cases hc : bt a0 (k : Int) = 92
        · have hcb : ((bt a0 (k : Int)) != 92) = false := bne_eq_false_iff_eq.mpr hc
          by_cases he : k + 1 = a0.size
          · have heb : (((k : Int) + 1) == (a0.size : Int)) = true := beq_iff_eq.mpr (by omega)
            have h2 := H.out
            rw [inv_last HI.out hk hc he] at h2
            simp only [Option.some.injEq, Prod.mk.injEq] at h2
            obtain ⟨rfl, rfl⟩ := h2
            clear hc he
            go_wp2
            go_ret2
            exact ⟨by first | rfl | (simp; done) | (simp [*]; done), below_then HB0.out (by have := HZ0.out; omega) (by repeat (first | (with_reducible first | exact HB.out | apply below_alloc | apply pw_below_drewN | apply below_drew1) | exact HB.out))⟩
          · have heb : (((k : Int) + 1) == (a0.size : Int)) = false := beq_eq_false_iff_ne.mpr (by omega)
            have he1 : k + 1 < a0.size := by omega
            have hx1 := bt_nat a0 (k + 1) he1
            by_cases hd : digAt a0 ((k + 1 : Nat) : Int) = false
            · have HI' := Aside0.mk (inv_one HI.out hk hc he1 hd)
              have hd' : digAt a0 ((k : Int) + 1) = false := hd
              clear hc he hd
              go_wp2_with (first | (go_at_call 51; refine (digit_calls a0 _ w.heap.size _ (by omega) hcell).mono ?_; rintro e w2 ⟨rfl, rfl⟩) | ((with_reducible refine gate_builtin (b := .append) (xs := #[.tmp 74, .tmp 78]) rfl ?_); at_builtin; refine Kd.R_append (Kd.int .u8) (w0 := W0) W0.heap.size rfl (.tmp 74) (.tmp 78) 58 5 (.int .u8 0) 1 rfl Try.underlying58 infoByte rfl (by decide) (by omega) _ acc (bt a0 ((k + 1 : Nat) : Int)) [.int .u8 (bt a0 ((k + 1 : Nat) : Int))] (fun _ => True) (fun _ => False) rfl rfl ?aP (fun _ hk => hk.elim) ?aF ?aO ?aB ?aS ?aL ?_; (case aP => exact rfl); (case aB => exact (by repeat (first | (with_reducible first | exact HB.out | apply below_alloc | apply pw_below_drewN | apply below_drew1) | exact HB.out))); (case aF => exact (fun _ _ => trivial)); (case aO => exact (by (with_reducible repeat (first | apply Kd.R_alloc | apply Kd.R_drewN | apply Kd.R_drew)); exact HO.out)); (case aS => exact (below_size (by repeat (first | (with_reducible first | exact HB.out | apply below_alloc | apply pw_below_drewN | apply below_drew1) | exact HB.out)))); (case aL => exact (by have := HI.out.2.1; omega)); intro v1_ w1_ ho hb hg hat; have n0_ := Aside0.mk hb; have n1_ := Aside0.mk ho; clear HB HO; have HB := n0_; have HO := n1_; clear n0_ n1_; clear ho hb hg hat))
              go_roundw
              case rel => exact ⟨k + 2, acc ++ [bt a0 ((k + 1 : Nat) : Int)], by go_num, HI', ⟨by (with_reducible repeat (first | apply Kd.R_alloc | apply Kd.R_drewN | apply Kd.R_drew)); exact HO.out⟩, ⟨(by repeat (first | (with_reducible first | exact HB.out | apply below_alloc | apply pw_below_drewN | apply below_drew1) | exact HB.out))⟩⟩
              case measure => simp [intOf]; omega
            · simp only [Bool.not_eq_false] at hd
              have hd' : digAt a0 ((k : Int) + 1) = true := hd
              by_cases h2 : digAt a0 ((k + 2 : Nat) : Int) = false
              · have hh := H.out
                rw [inv_bad HI.out hk hc he1 hd (Or.inl h2)] at hh
                simp only [Option.some.injEq, Prod.mk.injEq] at hh
                obtain ⟨rfl, rfl⟩ := hh
                have h2' : digAt a0 ((k : Int) + 2) = false := h2
                clear hc he hd h2
                go_wp2_with (first | (go_at_call 51; refine (digit_calls a0 _ w.heap.size _ (by omega) hcell).mono ?_; rintro e w2 ⟨rfl, rfl⟩))
                go_ret2
                exact ⟨by first | rfl | (simp; done) | (simp [*]; done), below_then HB0.out (by have := HZ0.out; omega) (by repeat (first | (with_reducible first | exact HB.out | apply below_alloc | apply pw_below_drewN | apply below_drew1) | exact HB.out))⟩
              · simp only [Bool.not_eq_false] at h2
                have h2' : digAt a0 ((k : Int) + 2) = true := h2
                by_cases h3 : digAt a0 ((k + 3 : Nat) : Int) = false
                · have hh := H.out
                  rw [inv_bad HI.out hk hc he1 hd (Or.inr h3)] at hh
                  simp only [Option.some.injEq, Prod.mk.injEq] at hh
                  obtain ⟨rfl, rfl⟩ := hh
                  have h3' : digAt a0 ((k : Int) + 3) = false := h3
                  clear hc he hd h2 h3
                  go_wp2_with (first | (go_at_call 51; refine (digit_calls a0 _ w.heap.size _ (by omega) hcell).mono ?_; rintro e w2 ⟨rfl, rfl⟩))
                  go_ret2
                  exact ⟨by first | rfl | (simp; done) | (simp [*]; done), below_then HB0.out (by have := HZ0.out; omega) (by repeat (first | (with_reducible first | exact HB.out | apply below_alloc | apply pw_below_drewN | apply below_drew1) | exact HB.out))⟩
                · simp only [Bool.not_eq_false] at h3
                  have h3' : digAt a0 ((k : Int) + 3) = true := h3
                  have he3 : k + 3 < a0.size := by unfold digAt at h3; simp at h3; omega
                  have he2 : k + 2 < a0.size := by omega
                  have hx2 := bt_nat a0 (k + 2) he2
                  have hx3 := bt_nat a0 (k + 3) he3
                  have HT := Aside0.mk (inv_three HI.out hk hc hd h2 h3)
                  have g1 := dig_bounds he1 hd
                  have g2 := dig_bounds he2 h2
                  have g3 := dig_bounds he3 h3
                  clear hc he hd h2 h3
                  obtain ⟨g1a, g1b⟩ := g1
                  obtain ⟨g2a, g2b⟩ := g2
                  obtain ⟨g3a, g3b⟩ := g3
                  go_wp2_with (first | (go_at_call 51; refine (digit_calls a0 _ w.heap.size _ (by omega) hcell).mono ?_; rintro e w2 ⟨rfl, rfl⟩))
                  have w1q : IntKind.i64.wrap ((k : Int) + 1) = (k : Int) + 1 := (i64_w _).trans (by unfold wrap64; omega)
                  have w2q : IntKind.i64.wrap ((k : Int) + 2) = (k : Int) + 2 := (i64_w _).trans (by unfold wrap64; omega)
                  have w3q : IntKind.i64.wrap ((k : Int) + 3) = (k : Int) + 3 := (i64_w _).trans (by unfold wrap64; omega)
                  have p1 := eq_true (show 0 ≤ (k : Int) + 1 by omega)
                  have p2 := eq_true (show 0 ≤ (k : Int) + 2 by omega)
                  have p3 := eq_true (show 0 ≤ (k : Int) + 3 by omega)
                  have q1 := eq_true (show (k : Int) + 1 < (a0.size : Int) by omega)
                  have q2 := eq_true (show (k : Int) + 2 < (a0.size : Int) by omega)
                  have q3 := eq_true (show (k : Int) + 3 < (a0.size : Int) by omega)
                  have n1 : ((k : Int) + 1).toNat = k + 1 := by omega
                  have n2 : ((k : Int) + 2).toNat = k + 2 := by omega
                  have n3 : ((k : Int) + 3).toNat = k + 3 := by omega
                  go_quiet (fail)
                  clear w1q w2q w3q p1 p2 p3 q1 q2 q3 n1 n2 n3
                  have hv : (bt a0 ((k : Int) + 1) - 48) % 256 * 100 + (bt a0 ((k : Int) + 2) - 48) % 256 * 10 + (bt a0 ((k : Int) + 3) - 48) % 256 = three a0 k := by
                    have e1 : ((k + 1 : Nat) : Int) = (k : Int) + 1 := by omega
                    have e2 : ((k + 2 : Nat) : Int) = (k : Int) + 2 := by omega
                    have e3 : ((k + 3 : Nat) : Int) = (k : Int) + 3 := by omega
                    unfold three
                    rw [e1] at g1a g1b ⊢; rw [e2] at g2a g2b ⊢; rw [e3] at g3a g3b ⊢
                    omega
                  have hv0 : 0 ≤ three a0 k := by unfold three; omega
                  rw [hv]
                  clear hv hx1 hx2 hx3 g1a g1b g2a g2b g3a g3b
                  by_cases hb : 255 < three a0 k
                  · have hh := H.out
                    rw [HT.out.1 hb] at hh
                    simp only [Option.some.injEq, Prod.mk.injEq] at hh
                    obtain ⟨rfl, rfl⟩ := hh
                    go_wp2
                    go_ret2
                    exact ⟨by first | rfl | (simp; done) | (simp [*]; done), below_then HB0.out (by have := HZ0.out; omega) (by repeat (first | (with_reducible first | exact HB.out | apply below_alloc | apply pw_below_drewN | apply below_drew1) | exact HB.out))⟩
                  · have HI' := Aside0.mk (HT.out.2 (by omega))
                    have hb' : three a0 k ≤ 255 := by omega
                    go_wp2_with (first | ((with_reducible refine gate_builtin (b := .append) (xs := #[.tmp 42, .tmp 45]) rfl ?_); at_builtin; refine Kd.R_append (Kd.int .u8) (w0 := W0) W0.heap.size rfl (.tmp 42) (.tmp 45) 58 5 (.int .u8 0) 1 rfl Try.underlying58 infoByte rfl (by decide) (by omega) _ acc (three a0 k) [.int .u8 (three a0 k)] (fun _ => True) (fun _ => False) rfl rfl ?aP (fun _ hk => hk.elim) ?aF ?aO ?aB ?aS ?aL ?_; (case aP => exact rfl); (case aB => exact (by repeat (first | (with_reducible first | exact HB.out | apply below_alloc | apply pw_below_drewN | apply below_drew1) | exact HB.out))); (case aF => exact (fun _ _ => trivial)); (case aO => exact (by (with_reducible repeat (first | apply Kd.R_alloc | apply Kd.R_drewN | apply Kd.R_drew)); exact HO.out)); (case aS => exact (below_size (by repeat (first | (with_reducible first | exact HB.out | apply below_alloc | apply pw_below_drewN | apply below_drew1) | exact HB.out)))); (case aL => exact (by have := HI.out.2.1; omega)); intro v1_ w1_ ho hb hg hat; have n0_ := Aside0.mk hb; have n1_ := Aside0.mk ho; clear HB HO; have HB := n0_; have HO := n1_; clear n0_ n1_; clear ho hb hg hat))
                    go_roundw
                    case rel => exact ⟨k + 4, acc ++ [three a0 k], by go_num, HI', ⟨by (with_reducible repeat (first | apply Kd.R_alloc | apply Kd.R_drewN | apply Kd.R_drew)); exact HO.out⟩, ⟨(by repeat (first | (with_reducible first | exact HB.out | apply below_alloc | apply pw_below_drewN | apply below_drew1) | exact HB.out))⟩⟩
                    case measure => simp [intOf]; omega
        · have hcb : ((bt a0 (k : Int)) != 92) = true := bne_iff_ne.mpr hc
          have HI' := Aside0.mk (inv_plain HI.out hk hc)
          clear hc
          go_wp2_with (first | ((with_reducible refine gate_builtin (b := .append) (xs := #[.tmp 54, .tmp 58]) rfl ?_); at_builtin; refine Kd.R_append (Kd.int .u8) (w0 := W0) W0.heap.size rfl (.tmp 54) (.tmp 58) 58 5 (.int .u8 0) 1 rfl Try.underlying58 infoByte rfl (by decide) (by omega) _ acc (bt a0 (k : Int)) [.int .u8 (bt a0 (k : Int))] (fun _ => True) (fun _ => False) rfl rfl ?aP (fun _ hk => hk.elim) ?aF ?aO ?aB ?aS ?aL ?_; (case aP => exact rfl); (case aB => exact (by repeat (first | (with_reducible first | exact HB.out | apply below_alloc | apply pw_below_drewN | apply below_drew1) | exact HB.out))); (case aF => exact (fun _ _ => trivial)); (case aO => exact (by (with_reducible repeat (first | apply Kd.R_alloc | apply Kd.R_drewN | apply Kd.R_drew)); exact HO.out)); (case aS => exact (below_size (by repeat (first | (with_reducible first | exact HB.out | apply below_alloc | apply pw_below_drewN | apply below_drew1) | exact HB.out)))); (case aL => exact (by have := HI.out.2.1; omega)); intro v1_ w1_ ho hb hg hat; have n0_ := Aside0.mk hb; have n1_ := Aside0.mk ho; clear HB HO; have HB := n0_; have HO := n1_; clear n0_ n1_; clear ho hb hg hat))
          go_roundw
          case rel => exact ⟨k + 1, acc ++ [bt a0 (k : Int)], by go_num, HI', ⟨by (with_reducible repeat (first | apply Kd.R_alloc | apply Kd.R_drewN | apply Kd.R_drew)); exact HO.out⟩, ⟨(by repeat (first | (with_reducible first | exact HB.out | apply below_alloc | apply pw_below_drewN | apply below_drew1) | exact HB.out))⟩⟩
          case measure => simp [intOf]; omega
      · have hu := inv_end HI.out hk
        have h2 := H.out
        rw [hu] at h2
        simp only [Option.some.injEq, Prod.mk.injEq] at h2
        obtain ⟨rfl, rfl⟩ := h2
        have hcv := own_string (P := Try.prog) Try.underlying58 Try.underlying5 Try.underlying9 (Kd.own_of_R HO.out)
        clear hu
        go_wp2
        go_ret2
        exact ⟨by first | rfl | (simp; done) | (simp [*]; done), below_then HB0.out (by have := HZ0.out; omega) (by repeat (first | (with_reducible first | exact HB.out | apply below_alloc | apply pw_below_drewN | apply below_drew1) | exact HB.out))⟩
  · rw [if_neg hlen] at h; exact absurd h (by simp)

end Go.Proofs.Ytplnknhlgdoliaa.Print
end
section
/-
  DERIVED: THE SHELF's CONTRACTS AT THIS DUMP, IN PLAIN WORDS (tools/lay-plain.mjs out of 'YtplnknhlgdoliaaXShelf0.lean', which tools/lay-shelf.mjs wrote): THE SAME DECLARATIONS UNDER THE SAME NAMES: 'import', 'namespace', 'open', 'def', 'theorem' AND NOTHING ELSE: no command of the shelf's: FOR A HAND-IN. Each laying: the table of numbers ('.._ren') and one theorem, a field a fact of the dump's own or the kernel's comparison; each contract: ONE APPLICATION.
-/
namespace Go.Proofs
open Go.Shelf
def Try.lays170_ren : Go.Shelf.Ren := ⟨fun | 170 => 46 | n => n, fun | 70 => 61 | 3 => 3 | 0 => 0 | 72 => 63 | 37 => 58 | 5 => 5 | n => n, fun | n => n⟩
theorem Try.lays170 : Go.Proofs.Lays.n170 Try.prog Try.lays170_ren := {
  mixed := by kernel_rfl
  f170 := Try.func46.trans (congrArg some (by kernel_rfl))
  t0 := Try.underlying0
  a0 := Try.isAgg0
  z0 := Try.sizeOf0
  v0 := Try.zeroValue0
  t3 := Try.underlying3
  a3 := Try.isAgg3
  z3 := Try.sizeOf3
  v3 := Try.zeroValue3
  t37 := Try.underlying58
  a37 := Try.isAgg58
  z37 := Try.sizeOf58
  v37 := Try.zeroValue58
  t70 := Try.underlying61
  a70 := Try.isAgg61
  z70 := Try.sizeOf61
  v70 := Try.zeroValue61
  t72 := Try.underlying63
  a72 := Try.isAgg63
  z72 := Try.sizeOf63
  v72 := Try.zeroValue63 }
open Go.RowKit in
/-- (*strings.Builder).Len: "Len returns the number of accumulated bytes; b.Len() == len(b.String()).": the world is as it was. (LAID: no walk: one application.) -/
theorem Try.Builder_Len (B b : Nat) (bs : List Value) (w : World) (h : Lib.IsBuilder 63 5 B b bs w) :
    Calls Try.prog 46 #[.pointer (some ⟨b, 0, none⟩)] w fun e w' => e = .returned (.int .i64 bs.length) ∧ w' = w := Any.Builder_Len Try.lays170 B b bs w h
def Try.lays169_ren : Go.Shelf.Ren := ⟨fun | 169 => 49 | n => n, fun | 70 => 61 | 9 => 9 | 0 => 0 | 72 => 63 | 37 => 58 | 127 => 79 | 3 => 3 | 5 => 5 | n => n, fun | n => n⟩
theorem Try.lays169 : Go.Proofs.Lays.n169 Try.prog Try.lays169_ren := {
  mixed := by kernel_rfl
  f169 := Try.func49.trans (congrArg some (by kernel_rfl))
  t0 := Try.underlying0
  a0 := Try.isAgg0
  z0 := Try.sizeOf0
  v0 := Try.zeroValue0
  t3 := Try.underlying3
  a3 := Try.isAgg3
  z3 := Try.sizeOf3
  v3 := Try.zeroValue3
  t9 := Try.underlying9
  a9 := Try.isAgg9
  z9 := Try.sizeOf9
  v9 := Try.zeroValue9
  t37 := Try.underlying58
  a37 := Try.isAgg58
  z37 := Try.sizeOf58
  v37 := Try.zeroValue58
  t70 := Try.underlying61
  a70 := Try.isAgg61
  z70 := Try.sizeOf61
  v70 := Try.zeroValue61
  t72 := Try.underlying63
  a72 := Try.isAgg63
  z72 := Try.sizeOf63
  v72 := Try.zeroValue63
  t127 := Try.underlying79
  a127 := Try.isAgg79
  z127 := Try.sizeOf79
  v127 := Try.zeroValue79 }
theorem Try.Builder_Extra_169 : Builder.Extra Try.prog Try.lays169_ren := {
  sizeBuilder := by kernel_rfl
  liesBuilder := by kernel_rfl
  t5 := Try.underlying5
  a5 := Try.isAgg5
  z5 := Try.sizeOf5
  v5 := Try.zeroValue5
  infoByte := by kernel_rfl
  cellsByte := by kernel_rfl
  sizeByte := by kernel_rfl
  neB5 := by decide }
open Go.RowKit in
/-- (*strings.Builder).String: "String returns the accumulated string.": OF A BUILDER THAT HOLDS AT LEAST ONE BYTE. ✋ THE MODEL FREEZES THOSE BYTES IN THE BUFFER (unsafe.String): a later write INTO them ends the model's run without an answer; a later append BEHIND them goes on. The statement's order of evaluation is drawn: one draw. (LAID: no walk: one application.) -/
theorem Try.Builder_String (B b : Nat) (l : List UInt8) (w : World) (h : Lib.IsBuilder 63 5 B b (Lib.byteCells l) w) (h0 : l ≠ []) :
    Calls Try.prog 49 #[.pointer (some ⟨b, 0, none⟩)] w fun e w' => e = .returned (.string ⟨l.toArray⟩) ∧ Below B w w' := Any.Builder_String Try.lays169 Try.Builder_Extra_169 B b l w h h0
open Go.RowKit in
/-- (*strings.Builder).String OF A BUILDER THAT HOLDS NO BYTE: the empty string. (Its buffer is nil, or a row of which it has taken nothing yet; where that row has NO capacity the model lays one new block for unsafe.SliceData's 'some address'.) One draw. (LAID: no walk: one application.) -/
theorem Try.Builder_String_empty (B b : Nat) (w : World) (h : Lib.IsBuilder 63 5 B b [] w) (hBw : B ≤ w.heap.size) :
    Calls Try.prog 49 #[.pointer (some ⟨b, 0, none⟩)] w fun e w' => e = .returned (.string ⟨#[]⟩) ∧ Below B w w' := Any.Builder_String_empty Try.lays169 Try.Builder_Extra_169 B b w h hBw
open Go.RowKit in
/-- (*strings.Builder).String: "String returns the accumulated string.": WHATEVER THE BUILDER HOLDS. (LAID: no walk: one application.) -/
theorem Try.Builder_String_any (B b : Nat) (l : List UInt8) (w : World) (h : Lib.IsBuilder 63 5 B b (Lib.byteCells l) w) (hBw : B ≤ w.heap.size) :
    Calls Try.prog 49 #[.pointer (some ⟨b, 0, none⟩)] w fun e w' => e = .returned (.string ⟨l.toArray⟩) ∧ Below B w w' := Any.Builder_String_any Try.lays169 Try.Builder_Extra_169 B b l w h hBw
def Try.lays213_ren : Go.Shelf.Ren := ⟨fun | 213 => 62 | 265 => 64 | n => n, fun | 9 => 9 | 3 => 3 | n => n, fun | n => n⟩
theorem Try.lays213 : Go.Proofs.Lays.n213 Try.prog Try.lays213_ren := {
  mixed := by kernel_rfl
  f213 := Try.func62.trans (congrArg some (by kernel_rfl))
  f265 := Try.func64.trans (congrArg some (by kernel_rfl))
  t3 := Try.underlying3
  a3 := Try.isAgg3
  z3 := Try.sizeOf3
  v3 := Try.zeroValue3
  t9 := Try.underlying9
  a9 := Try.isAgg9
  z9 := Try.sizeOf9
  v9 := Try.zeroValue9 }
open Go.RowKit in
/-- internal/bytealg.CompareString (what strings.Compare calls): IT RETURNS 'Lib.compareBytes a b'; the world is as it was. (LAID: no walk: one application.) -/
theorem Try.bytealg_CompareString (a b : ByteArray) (w : World) :
    Calls Try.prog 62 #[.string a, .string b] w fun e w' => e = .returned (.int .i64 (Lib.compareBytes a.data.toList b.data.toList)) ∧ w' = w := Any.bytealg_CompareString Try.lays213 a b w
def Try.lays106_ren : Go.Shelf.Ren := ⟨fun | 106 => 59 | 213 => 62 | 265 => 64 | n => n, fun | 9 => 9 | 3 => 3 | n => n, fun | n => n⟩
theorem Try.lays106 : Go.Proofs.Lays.n106 Try.prog Try.lays106_ren := {
  mixed := by kernel_rfl
  f106 := Try.func59.trans (congrArg some (by kernel_rfl))
  f213 := Try.func62.trans (congrArg some (by kernel_rfl))
  f265 := Try.func64.trans (congrArg some (by kernel_rfl))
  t3 := Try.underlying3
  a3 := Try.isAgg3
  z3 := Try.sizeOf3
  v3 := Try.zeroValue3
  t9 := Try.underlying9
  a9 := Try.isAgg9
  z9 := Try.sizeOf9
  v9 := Try.zeroValue9 }
open Go.RowKit in
/-- strings.Compare: "Compare returns an integer comparing two strings lexicographically. The result will be 0 if a == b, -1 if a < b, and +1 if a > b.": IT RETURNS 'Lib.compareBytes a b'; the world is as it was. (LAID: no walk: one application.) -/
theorem Try.strings_Compare (a b : ByteArray) (w : World) :
    Calls Try.prog 59 #[.string a, .string b] w fun e w' => e = .returned (.int .i64 (Lib.compareBytes a.data.toList b.data.toList)) ∧ w' = w := Any.strings_Compare Try.lays106 a b w
open Go.RowKit in
/-- (*strings.Builder).Len: "Len returns the number of accumulated bytes; b.Len() == len(b.String()).": the world is as it was. (THE FORM '_f': 'Lib.IsBuilderF'.) (LAID: no walk: one application.) -/
theorem Try.Builder_Len_f (B b : Nat) (bs : List Value) (w : World) (h : Lib.IsBuilderF 63 5 B b bs w) :
    Calls Try.prog 46 #[.pointer (some ⟨b, 0, none⟩)] w fun e w' => e = .returned (.int .i64 bs.length) ∧ w' = w := Any.Builder_Len_f Try.lays170 B b bs w h
open Go.RowKit in
/-- (*strings.Builder).String: "String returns the accumulated string.": OF A BUILDER THAT HOLDS AT LEAST ONE BYTE. ✋ THE MODEL FREEZES THOSE BYTES IN THE BUFFER (unsafe.String): a later write INTO them ends the model's run without an answer; a later append BEHIND them goes on. The statement's order of evaluation is drawn: one draw. THE FORM '_f': IT SAYS BESIDES THAT THE BUILDER IS A BUILDER STILL ('Lib.IsBuilderF', the same bytes): SO IT CAN BE WRITTEN ON: 'b.WriteString(b.String()[:k])'. (LAID: no walk: one application.) -/
theorem Try.Builder_String_f (B b : Nat) (l : List UInt8) (w : World) (h : Lib.IsBuilderF 63 5 B b (Lib.byteCells l) w) (h0 : l ≠ []) :
    Calls Try.prog 49 #[.pointer (some ⟨b, 0, none⟩)] w fun e w' => e = .returned (.string ⟨l.toArray⟩) ∧ (Lib.IsBuilderF 63 5 B b (Lib.byteCells l) w' ∧ Below B w w') := Any.Builder_String_f Try.lays169 Try.Builder_Extra_169 B b l w h h0
open Go.RowKit in
/-- (*strings.Builder).String OF A BUILDER THAT HOLDS NO BYTE: the empty string; THE FORM '_f': a builder still. (LAID: no walk: one application.) -/
theorem Try.Builder_String_empty_f (B b : Nat) (w : World) (h : Lib.IsBuilderF 63 5 B b [] w) (hBw : B ≤ w.heap.size) :
    Calls Try.prog 49 #[.pointer (some ⟨b, 0, none⟩)] w fun e w' => e = .returned (.string ⟨#[]⟩) ∧ (Lib.IsBuilderF 63 5 B b [] w' ∧ Below B w w') := Any.Builder_String_empty_f Try.lays169 Try.Builder_Extra_169 B b w h hBw
open Go.RowKit in
/-- (*strings.Builder).String: "String returns the accumulated string.": WHATEVER THE BUILDER HOLDS; THE FORM '_f': OF A BUILDER THAT MAY HAVE BEEN READ BEFORE; AND IT IS A BUILDER STILL, holding the same bytes: it can be written on. (LAID: no walk: one application.) -/
theorem Try.Builder_String_any_f (B b : Nat) (l : List UInt8) (w : World) (h : Lib.IsBuilderF 63 5 B b (Lib.byteCells l) w) (hBw : B ≤ w.heap.size) :
    Calls Try.prog 49 #[.pointer (some ⟨b, 0, none⟩)] w fun e w' => e = .returned (.string ⟨l.toArray⟩) ∧ (Lib.IsBuilderF 63 5 B b (Lib.byteCells l) w' ∧ Below B w w') := Any.Builder_String_any_f Try.lays169 Try.Builder_Extra_169 B b l w h hBw
open Go.RowKit in
/-- (*strings.Builder).String: "String returns the accumulated string.": OF A BUILDER THAT HOLDS AT LEAST ONE BYTE. ✋ THE MODEL FREEZES THOSE BYTES IN THE BUFFER (unsafe.String): a later write INTO them ends the model's run without an answer; a later append BEHIND them goes on. The statement's order of evaluation is drawn: one draw. THE FORM '_k': OVER 'Lib.IsBuilderF' (a builder that 'String()' may have read), AND WITH THE FRAME THAT REACHES ABOVE THE BUILDER: 'Lib.OthersKept': every block that is not b and is no row of uint8's stands as it stood: the iterator of a range among them. (LAID: no walk: one application.) -/
theorem Try.Builder_String_k (B b : Nat) (l : List UInt8) (w : World) (h : Lib.IsBuilderF 63 5 B b (Lib.byteCells l) w) (h0 : l ≠ []) :
    Calls Try.prog 49 #[.pointer (some ⟨b, 0, none⟩)] w fun e w' => e = .returned (.string ⟨l.toArray⟩) ∧ (Lib.IsBuilderF 63 5 B b (Lib.byteCells l) w' ∧ Below B w w' ∧ Lib.OthersKept 5 (some b) w w') := Any.Builder_String_k Try.lays169 Try.Builder_Extra_169 B b l w h h0
open Go.RowKit in
/-- (*strings.Builder).String OF A BUILDER THAT HOLDS NO BYTE: the empty string; THE FORM '_k': OVER 'Lib.IsBuilderF' (a builder that 'String()' may have read), AND WITH THE FRAME THAT REACHES ABOVE THE BUILDER: 'Lib.OthersKept': every block that is not b and is no row of uint8's stands as it stood: the iterator of a range among them. (LAID: no walk: one application.) -/
theorem Try.Builder_String_empty_k (B b : Nat) (w : World) (h : Lib.IsBuilderF 63 5 B b [] w) (hBw : B ≤ w.heap.size) :
    Calls Try.prog 49 #[.pointer (some ⟨b, 0, none⟩)] w fun e w' => e = .returned (.string ⟨#[]⟩) ∧ (Lib.IsBuilderF 63 5 B b [] w' ∧ Below B w w' ∧ Lib.OthersKept 5 (some b) w w') := Any.Builder_String_empty_k Try.lays169 Try.Builder_Extra_169 B b w h hBw
open Go.RowKit in
/-- (*strings.Builder).String: "String returns the accumulated string.": WHATEVER THE BUILDER HOLDS; THE FORM '_k': OVER 'Lib.IsBuilderF' (a builder that 'String()' may have read), AND WITH THE FRAME THAT REACHES ABOVE THE BUILDER: 'Lib.OthersKept': every block that is not b and is no row of uint8's stands as it stood: the iterator of a range among them. (LAID: no walk: one application.) -/
theorem Try.Builder_String_any_k (B b : Nat) (l : List UInt8) (w : World) (h : Lib.IsBuilderF 63 5 B b (Lib.byteCells l) w) (hBw : B ≤ w.heap.size) :
    Calls Try.prog 49 #[.pointer (some ⟨b, 0, none⟩)] w fun e w' => e = .returned (.string ⟨l.toArray⟩) ∧ (Lib.IsBuilderF 63 5 B b (Lib.byteCells l) w' ∧ Below B w w' ∧ Lib.OthersKept 5 (some b) w w') := Any.Builder_String_any_k Try.lays169 Try.Builder_Extra_169 B b l w h hBw
end Go.Proofs
end
section
/- name.Of, walked: it answers what 'name_Of.f' says of the labels. -/
namespace Go.Proofs.Ytplnknhlgdoliaa.Print
open Go.RowKit Go.Proofs.YtplnknhlgdoliaaW.PrintWords Go.Proofs.YtplnknhlgdoliaaW.PrintLast Go.Proofs.YtplnknhlgdoliaaW.PrintMore
set_option linter.unusedVariables false
set_option linter.unusedSimpArgs false
/-- a label with its length ahead -/
def lab (s : ByteArray) : List Int := (s.size : Int) :: bytesOf s
def glue (l : List ByteArray) : List Int := l.flatMap lab
def badLab (s : ByteArray) : Bool := decide (s.size = 0) || decide (63 < s.size)
def name_Of.f (l : List ByteArray) : Option (ByteArray × Int) :=
  if l.any badLab then some (⟨#[]⟩, 10) else if 255 < (glue l).length + 1 then some (⟨#[]⟩, 2) else some (strOfNums (glue l ++ [0]), 0)
theorem glue_snoc (l : List ByteArray) (s : ByteArray) : glue (l ++ [s]) = glue l ++ lab s := by simp [glue]
theorem lab_length (s : ByteArray) : (lab s).length = s.size + 1 := by simp [lab, bytesOf_length]
/-- what stands at the loop's head -/
def OfInv (l : List ByteArray) (k : Nat) (long : Bool) (bs : List Value) : Prop :=
  k ≤ l.length ∧ (l.take k).any badLab = false ∧ long = decide (255 < (glue (l.take k)).length + 1) ∧ bs.length + 1 ≤ 255 ∧ (long = false → bs = nums .u8 (glue (l.take k)))
theorem of0 (l : List ByteArray) : OfInv l 0 false [] := by simp [OfInv, glue, nums]
theorem take_succ' {α : Type} {l : List α} {k : Nat} {s : α} (h : l[k]? = some s) : l.take (k + 1) = l.take k ++ [s] := by rw [List.take_add_one, h]; rfl
theorem of_bad {l : List ByteArray} {k : Nat} {s : ByteArray} (hs : l[k]? = some s) (hb : badLab s = true) : l.any badLab = true := by
  rw [List.any_eq_true]; exact ⟨s, List.mem_of_getElem? hs, hb⟩
theorem of_step_long {l : List ByteArray} {k : Nat} {long : Bool} {bs : List Value} {s : ByteArray} (h : OfInv l k long bs) (hs : l[k]? = some s) (hb : badLab s = false) (hl : long = true ∨ 255 < bs.length + s.size + 2) : OfInv l (k + 1) true bs := by
  obtain ⟨h1, h2, h3, h4, h5⟩ := h
  have hk : k < l.length := (List.getElem?_eq_some_iff.1 hs).1
  refine ⟨hk, by rw [take_succ' hs]; simp [h2, hb], ?_, h4, by simp⟩
  rw [take_succ' hs, glue_snoc, List.length_append, lab_length]
  cases long with
  | true => symm at h3; simp at h3 ⊢; omega
  | false =>
    have := h5 rfl
    subst this
    simp [nums_length] at hl
    simp; omega
theorem of_step {l : List ByteArray} {k : Nat} {bs : List Value} {s : ByteArray} (h : OfInv l k false bs) (hs : l[k]? = some s) (hb : badLab s = false) (hl : ¬ 255 < bs.length + s.size + 2) : OfInv l (k + 1) false (bs ++ [.int .u8 s.size] ++ Lib.strCells s) := by
  obtain ⟨h1, h2, h3, h4, h5⟩ := h
  have hk : k < l.length := (List.getElem?_eq_some_iff.1 hs).1
  have := h5 rfl
  subst this
  rw [nums_length] at hl
  refine ⟨hk, by rw [take_succ' hs]; simp [h2, hb], ?_, by simp [nums_length, Lib.strCells_length]; omega, fun _ => ?_⟩
  · rw [take_succ' hs, glue_snoc, List.length_append, lab_length]; simp; omega
  · rw [take_succ' hs, glue_snoc, nums_append, List.append_assoc]
    simp [lab, nums, bytesOf, Lib.strCells]
theorem of_end {l : List ByteArray} {k : Nat} {long : Bool} {bs : List Value} (h : OfInv l k long bs) (hk : ¬ k < l.length) : l.any badLab = false ∧ long = decide (255 < (glue l).length + 1) ∧ (long = false → bs = nums .u8 (glue l)) := by
  obtain ⟨h1, h2, h3, h4, h5⟩ := h
  rw [List.take_of_length_le (by omega)] at h2 h3 h5
  exact ⟨h2, h3, h5⟩
theorem bad_false {s : ByteArray} (h : badLab s = false) : 0 < s.size ∧ s.size ≤ 63 := by
  unfold badLab at h
  simp only [Bool.or_eq_false_iff, decide_eq_false_iff_not] at h
  omega
theorem glue_range (l : List ByteArray) (hb : l.any badLab = false) : ∀ x ∈ glue l ++ [0], 0 ≤ x ∧ x < 256 := by
  intro x hx
  rcases List.mem_append.1 hx with hx | hx
  · obtain ⟨s, hs, hx⟩ := List.mem_flatMap.1 hx
    have hbs : badLab s = false := by
      rw [List.any_eq_false] at hb; simpa using hb s hs
    have := bad_false hbs
    rcases List.mem_cons.1 hx with rfl | hx
    · omega
    · exact bo_range s x hx
  · simp at hx; omega
set_option maxHeartbeats 4000000 in
set_option maxRecDepth 100000 in
theorem name_Of.calls (A0 : Option Addr) (c0 : Nat) (l0 : List ByteArray) (r1 : ByteArray) (r2 : Int) (w : World) (hr0 : Kd.C Kd.string w A0 l0.length l0) (hc0 : l0.length ≤ c0) (h : name_Of.f l0 = some (r1, r2)) :
    Calls Try.prog 21 #[.slice A0 l0.length c0] w fun e w' => e = .returned (.tuple #[.string r1, .int .i64 r2]) ∧ Below w.heap.size w w' := by
  have H := Aside0.mk h
  clear h
  have HR := Aside0.mk hr0
  have hml : l0.length ≤ 9223372036854775807 := Kd.C_max hr0
  clear hr0 hc0
  have HI0 := Aside0.mk (Lib.fresh_isBuilder 63 5 w)
  have HB0 := Aside0.mk (below_alloc (Below.refl w.heap.size w) (.cells #[.pointer none, .slice none 0 0] 63))
  go_enter Try.func21, Try.ntmps21
  go_wp2
  go_loopw [5, 10] (fun lg i wr => ∃ (k : Nat) (long : Bool) (bs : List Value), lg = .bool long ∧ i = .int .i64 k ∧ Aside0 (OfInv l0 k long bs) ∧ Aside0 (Lib.IsBuilder 63 5 w.heap.size w.heap.size bs wr) ∧ Aside0 (Below w.heap.size w wr)) (fun _ i _ => l0.length - (intOf i).toNat)
  case atStart => exact ⟨0, false, [], rfl, rfl, ⟨of0 l0⟩, HI0, HB0⟩
  case round =>
    clear HI0 HB0
    obtain ⟨k, long, bs, rfl, rfl, HV, HI, HB⟩ := hrel
    by_cases hk : k < l0.length
    · obtain ⟨ad, hA, hcell⟩ := Kd.at_string (Kd.C_below HR.out HB.out) (k : Int) (by omega) (by omega)
      obtain ⟨s, hs⟩ : ∃ s, l0[k]? = some s := ⟨l0[k], List.getElem?_eq_getElem hk⟩
      have hrd : rdOf ByteArray.empty l0 (k : Int) = s := by simp [rdOf, List.getD_eq_getElem?_getD, hs]
      rw [hrd] at hcell
      simp only [Int.toNat_natCast] at hcell
      subst hA
      have HS := Aside0.mk hs
      clear hs hrd
      by_cases hz : s.size = 0
      · have hb : badLab s = true := by simp [badLab, hz]
        have he := empty_true hz
        have hh := H.out
        unfold name_Of.f at hh
        rw [if_pos (of_bad HS.out hb)] at hh
        simp only [Option.some.injEq, Prod.mk.injEq] at hh
        obtain ⟨rfl, rfl⟩ := hh
        clear hz
        go_wp2
        go_ret2
        exact ⟨by first | rfl | (simp; done), HB.out⟩
      · have he := empty_false hz
        by_cases h63 : 63 < s.size
        · have hb : badLab s = true := by simp [badLab, h63]
          have hh := H.out
          unfold name_Of.f at hh
          rw [if_pos (of_bad HS.out hb)] at hh
          simp only [Option.some.injEq, Prod.mk.injEq] at hh
          obtain ⟨rfl, rfl⟩ := hh
          clear hz
          go_wp2
          go_ret2
          exact ⟨by first | rfl | (simp; done), HB.out⟩
        · have hb : badLab s = false := by simp [badLab, h63, hz]
          have hlen := HV.out.2.2.2.1
          cases long with
          | true =>
            have HV' := Aside0.mk (of_step_long HV.out HS.out hb (Or.inl rfl))
            clear hz
            go_wp2
            go_roundw
            case rel => exact ⟨k + 1, true, bs, rfl, by go_num, HV', HI, HB⟩
            case measure => simp [intOf]; omega
          | false =>
            by_cases hl : 255 < bs.length + s.size + 2
            · have HV' := Aside0.mk (of_step_long HV.out HS.out hb (Or.inr hl))
              have hl' : decide ((255 : Int) < (bs.length : Int) + (s.size : Int) + 2) = true := decide_eq_true (by omega)
              clear hz
              go_wp2_with (first | (go_at_call 46; refine (Len_any w.heap.size w.heap.size bs _ HI.out).mono ?_; rintro e w2 ⟨rfl, rfl⟩))
              go_roundw
              case rel => exact ⟨k + 1, true, bs, by first | rfl | exact congrArg Value.bool (decide_eq_true (by omega)), by go_num, HV', HI, HB⟩
              case measure => simp [intOf]; omega
            · have HV' := Aside0.mk (of_step HV.out HS.out hb hl)
              have hl' : decide ((255 : Int) < (bs.length : Int) + (s.size : Int) + 2) = false := decide_eq_false (by omega)
              have hwz : w.heap.size ≤ wr.heap.size := HB.out.size
              clear hz
              go_wp2_with (first | (go_at_call 46; refine (Len_any w.heap.size w.heap.size bs _ HI.out).mono ?_; rintro e w2 ⟨rfl, rfl⟩) | (go_at_call 47; refine (WriteByte_any w.heap.size w.heap.size bs _ _ HI.out (by omega) hwz).mono ?_; rintro e w2 ⟨rfl, hat, hb2⟩; have HA := Aside0.mk hat; have HB2 := Aside0.mk (HB.out.trans hb2); have hwz2 : w.heap.size ≤ w2.heap.size := HB2.out.size; clear hat hb2) | (go_at_call 48; refine (WriteString_any w.heap.size w.heap.size _ s _ (Or.inr HA.out) (by simp; omega) hwz2).mono ?_; rintro e w3 ⟨rfl, hat, hb3⟩; have HA3 := Aside0.mk hat; have HB3 := Aside0.mk (HB2.out.trans hb3); clear hat hb3))
              go_roundw
              case rel => exact ⟨k + 1, false, _, by first | rfl | exact congrArg Value.bool (decide_eq_false (by omega)), by go_num, HV', ⟨Or.inr HA3.out⟩, HB3⟩
              case measure => simp [intOf]; omega
    · obtain ⟨he1, he2, he3⟩ := of_end HV.out hk
      have hh := H.out
      unfold name_Of.f at hh
      rw [if_neg (by rw [he1]; simp)] at hh
      cases long with
      | true =>
        rw [if_pos (by simpa using he2.symm)] at hh
        simp only [Option.some.injEq, Prod.mk.injEq] at hh
        obtain ⟨rfl, rfl⟩ := hh
        clear he1 he2 he3
        go_wp2
        go_ret2
        exact ⟨by first | rfl | (simp; done), HB.out⟩
      | false =>
        have hlen := HV.out.2.2.2.1
        have hwz : w.heap.size ≤ wr.heap.size := HB.out.size
        rw [if_neg (by simpa using he2.symm)] at hh
        simp only [Option.some.injEq, Prod.mk.injEq] at hh
        obtain ⟨rfl, rfl⟩ := hh
        have HE := Aside0.mk (he3 rfl)
        have HG := Aside0.mk (glue_range l0 he1)
        clear he1 he2 he3
        have hfin : ∀ W : World, Lib.BuilderAt 63 5 w.heap.size w.heap.size (.pointer (some ⟨w.heap.size, 0, none⟩)) (bs ++ [.int .u8 0]) W → Lib.IsBuilder 63 5 w.heap.size w.heap.size (Lib.byteCells (strOfNums (glue l0 ++ [0])).data.toList) W := fun W h => by
          rw [← nums_cells _ HG.out, nums_append, ← HE.out]; exact Or.inr h
        have HF := Aside0.mk hfin
        clear hfin
        go_wp2_with (first | (go_at_call 47; refine (WriteByte_any w.heap.size w.heap.size bs _ _ HI.out (by omega) hwz).mono ?_; rintro e w2 ⟨rfl, hat, hb2⟩; have HA := Aside0.mk (HF.out _ hat); have HB2 := Aside0.mk (HB.out.trans hb2); have hwz2 : w.heap.size ≤ w2.heap.size := HB2.out.size; clear hat hb2) | (go_at_call 49; refine (Try.Builder_String_any w.heap.size w.heap.size _ _ HA.out hwz2).mono ?_; rintro e w3 ⟨rfl, hb3⟩; have HB3 := Aside0.mk (HB2.out.trans hb3); clear hb3))
        go_ret2
        exact ⟨by first | rfl | (rw [str_eta]; done) | (simp; done), HB3.out⟩
end Go.Proofs.Ytplnknhlgdoliaa.Print
end
section
-- Written by a program of this session, built on the kit's print (it is not the print's own text).
namespace Go.Proofs.Ytplnknhlgdoliaa.Print
open Go.RowKit Go.Proofs.YtplnknhlgdoliaaW.PrintWords Go.Proofs.YtplnknhlgdoliaaW.PrintLast Go.Proofs.YtplnknhlgdoliaaW.PrintMore
attribute [local go_sem] max2_int min2_int max_two min_two max_three min_three max_four min_four   -- for this text's walks alone
set_option linter.unusedVariables false
set_option linter.unusedSimpArgs false

/-! ### name_Labels: function 17 -/
def name_Labels.l0 : Nat → ByteArray → List ByteArray → List Int → Int → Int → Option (List ByteArray)
  | 0, _, _, _, _, _ => none
  | k + 1, x0, x5, x15, x16, x17 => if x17 < x16 then (if 0 ≤ x17 then (if x17 < (x15.length : Int) then (if 0 ≤ (rd x15 x17) then (if (rd x15 x17) < (x0.size : Int) then (if 0 ≤ (wrap64 ((rd x15 x17) + 1)) then (if (wrap64 ((rd x15 x17) + 1)) ≤ (wrap64 ((wrap64 ((rd x15 x17) + 1)) + (wrap64 (bt x0 (rd x15 x17))))) then (if (wrap64 ((wrap64 ((rd x15 x17) + 1)) + (wrap64 (bt x0 (rd x15 x17))))) ≤ (x0.size : Int) then (if x5.length < 8796093022208 then (name_Labels.l0 k x0 (x5 ++ [x0.extract ((wrap64 ((rd x15 x17) + 1)) : Int).toNat ((wrap64 ((wrap64 ((rd x15 x17) + 1)) + (wrap64 (bt x0 (rd x15 x17))))) : Int).toNat]) x15 x16 (wrap64 (x17 + 1))) else (none)) else (none)) else (none)) else (none)) else (none)) else (none)) else (none)) else (none)) else (some x5)
def name_Labels.f (k : Nat) (a0 : ByteArray) : Option (List ByteArray) := (name_starts.f k a0).bind fun bt112 => (if bt112.2 = true then (name_Labels.l0 k a0 ([] : List ByteArray) bt112.1 (bt112.1.length : Int) 0) else (some ([] : List ByteArray)))
theorem name_Labels.mono_l : ∀ k, (∀ y0 y1 y2 y3 y4, LeO (name_Labels.l0 k y0 y1 y2 y3 y4) (name_Labels.l0 (k + 1) y0 y1 y2 y3 y4))
  | 0 => fun _ _ _ _ _ r h => by simp [name_Labels.l0] at h
  | k + 1 => by
    have ih0 := name_Labels.mono_l k
    · intro y0 y1 y2 y3 y4
      unfold name_Labels.l0
      repeat' first
      | (with_reducible exact ih0 _ _ _ _ _)
      | (with_reducible exact name_starts.mono _ _)
      | (with_reducible exact LeO.refl _)
      | (with_reducible exact LeO.none _)
      | (with_reducible refine LeO.ite ?_ ?_)
      | (with_reducible refine LeO.bind ?_ (fun _ => ?_))
      | exact ih0 _ _ _ _ _
      | exact name_starts.mono _ _
      | exact LeO.none _
      | refine LeO.ite ?_ ?_
      | refine LeO.bind ?_ (fun _ => ?_)
theorem name_Labels.mono : ∀ a0 k, LeO (name_Labels.f k a0) (name_Labels.f (k + 1) a0) := by
  intro a0 k
  have ih0 := name_Labels.mono_l k
  unfold name_Labels.f
  repeat' first
      | (with_reducible exact ih0 _ _ _ _ _)
      | (with_reducible exact name_starts.mono _ _)
      | (with_reducible exact LeO.refl _)
      | (with_reducible exact LeO.none _)
      | (with_reducible refine LeO.ite ?_ ?_)
      | (with_reducible refine LeO.bind ?_ (fun _ => ?_))
      | exact ih0 _ _ _ _ _
      | exact name_starts.mono _ _
      | exact LeO.none _
      | refine LeO.ite ?_ ?_
      | refine LeO.bind ?_ (fun _ => ?_)
set_option maxHeartbeats 8000000 in
set_option maxRecDepth 100000 in
theorem name_Labels.calls (k : Nat) (a0 : ByteArray) (r : List ByteArray) (w : World) (h : name_Labels.f k a0 = some r) :
    Calls Try.prog 17 #[.string a0] w fun e w' => ∃ v0_ : Value, e = .returned (v0_) ∧ Kd.R Kd.string 9 w' w.heap.size (fun _ => True) v0_ r ∧ Below w.heap.size w w' := by
  have HB := Aside0.mk (Below.refl w.heap.size w)
  have H : ((name_starts.f k a0).bind fun bt112 => (if bt112.2 = true then (name_Labels.l0 k a0 ([] : List ByteArray) bt112.1 (bt112.1.length : Int) 0) else (some ([] : List ByteArray)))) = some r := h
  clear h
  replace H := Option.bind_eq_some_iff.mp H
  obtain ⟨⟨t112, t113⟩, A20, H⟩ := H
  replace H : (if t113 = true then (name_Labels.l0 k a0 ([] : List ByteArray) t112 (t112.length : Int) 0) else (some ([] : List ByteArray))) = some r := H
  have A2 := Aside0.mk A20
  clear A20
  by_cases c3 : t113 = true
  · subst c3
    have H1 : (name_Labels.l0 k a0 ([] : List ByteArray) t112 (t112.length : Int) 0) = some r := by rw [if_pos rfl] at H; exact H
    clear H
    have H := H1
    clear H1
    have H' := Aside0.mk H
    clear H
    go_enter Try.func17, Try.ntmps17
    go_wp2_with (first | ((with_reducible refine gate_callee (f := 43) rfl ?_); refine goesL_ (some 10) rfl rfl Try.func43 (by kernel_rfl) rfl #[.string a0] rfl (by (try simp only [List.map_toArray, List.map_cons, List.map_nil]); first | done | rfl | (simp only [List.length_drop, List.length_take]; rfl)) ?_; (with_reducible refine (name_starts.calls k a0 t112 true _ A2.out).mono ?_); rintro e w4 ⟨v114, rfl, ho0, hb⟩; refine ⟨_, rfl, ?_⟩; have n0_ := Aside0.mk (Kd.R_lower ho0 (below_size (by repeat (first | (with_reducible first | exact HB.out | apply below_alloc | apply pw_below_drewN | apply below_drew1) | exact HB.out)))); have n1_ := Aside0.mk (below_step (by repeat (first | (with_reducible first | exact HB.out | apply below_alloc | apply pw_below_drewN | apply below_drew1) | exact HB.out)) hb); clear HB; have HO115 := n0_; have HB := n1_; clear n0_ n1_; (try clear hb); (try clear hb2); (try clear hk); (try clear hi); (try clear ho0); obtain ⟨Ao5, co5, eo5⟩ := Kd.R_slice HO115.out; subst eo5))
    go_loopg [5, 17] k (fun kq v5 v17 w' => ∃ (x5_1 : List ByteArray) (x17_1 : Int), v17 = .int .i64 x17_1 ∧ Aside0 (name_Labels.l0 kq a0 x5_1 t112 (t112.length : Int) x17_1 = some r) ∧ Aside0 (kq ≤ k) ∧ Aside0 (Kd.R Kd.string 9 w' w.heap.size (fun _ => True) v5 x5_1) ∧ Aside0 (Kd.R (Kd.int .i64) 3 w' w.heap.size (fun _ => True) (.slice Ao5 t112.length co5) t112) ∧ Aside0 (Below w.heap.size w w'))
    case atStart => exact ⟨(([] : List ByteArray)), (0), (by first | rfl | (simp; done) | (simp [*]; done)), H', ⟨Nat.le_refl _⟩, ⟨by first | exact Kd.R_nil _ _ _ _ _ | exact Kd.N_nil _ _ _ _ _ | exact Kd.V_nil _ _ _ _ _ | exact Kd.Q_nil _ _ _ _ _ | exact Kd.S_nil _ _ _ _ _⟩, ⟨by (with_reducible repeat (first | apply Kd.R_alloc | apply Kd.R_drewN | apply Kd.R_drew)); exact HO115.out⟩, ⟨by repeat (first | (with_reducible first | exact HB.out | apply below_alloc | apply pw_below_drewN | apply below_drew1) | exact HB.out)⟩⟩
    case round =>
      clear H'
      try clear c1
      try clear p2
      try clear c3
      try clear c4
      obtain ⟨x5_1, x17_1, rfl, HA, HK1, HO_5, HO_15, HB⟩ := hrel
      cases gk with
      | zero => exact absurd HA.out (by simp [name_Labels.l0])
      | succ k1 =>
        have H := HA.out
        clear HA
        simp only [name_Labels.l0] at H
        by_cases c6 : x17_1 < (t112.length : Int)
        · rw [if_pos c6] at H
          have c6b0 : decide (x17_1 < (t112.length : Int)) = true := decide_eq_true c6
          clear c6
          by_cases c7 : 0 ≤ x17_1
          · rw [if_pos c7] at H
            have c7b0 : decide (0 ≤ x17_1) = true := decide_eq_true c7
            clear c7
            by_cases c8 : x17_1 < (t112.length : Int)
            · rw [if_pos c8] at H
              have c8b0 : decide (x17_1 < (t112.length : Int)) = true := decide_eq_true c8
              clear c8
              by_cases c9 : 0 ≤ (rd t112 x17_1)
              · rw [if_pos c9] at H
                have c9b0 : decide (0 ≤ (rd t112 x17_1)) = true := decide_eq_true c9
                clear c9
                by_cases c10 : (rd t112 x17_1) < (a0.size : Int)
                · rw [if_pos c10] at H
                  have c10b0 : decide ((rd t112 x17_1) < (a0.size : Int)) = true := decide_eq_true c10
                  clear c10
                  obtain ⟨ji12, hji12⟩ : ∃ j_ : Int, (wrap64 ((rd t112 x17_1) + 1)) = j_ := ⟨_, rfl⟩
                  replace H : (if 0 ≤ (ji12) then (if (ji12) ≤ (wrap64 ((ji12) + (wrap64 (bt a0 (rd t112 x17_1))))) then (if (wrap64 ((ji12) + (wrap64 (bt a0 (rd t112 x17_1))))) ≤ (a0.size : Int) then (if x5_1.length < 8796093022208 then (name_Labels.l0 k1 a0 (x5_1 ++ [a0.extract ((ji12) : Int).toNat ((wrap64 ((ji12) + (wrap64 (bt a0 (rd t112 x17_1))))) : Int).toNat]) t112 (t112.length : Int) (wrap64 (x17_1 + 1))) else (none)) else (none)) else (none)) else (none)) = some r := by first | (rw [hji12] at H; exact H) | (simp only [hji12] at H ⊢; exact H)
                  have hji12w : (IntKind.i64.wrap ((rd t112 x17_1) + 1)) = ji12 := (i64_w _).trans hji12
                  by_cases c13 : 0 ≤ (ji12)
                  · rw [if_pos c13] at H
                    have c13b0 := eq_true c13
                    have c13b1 : decide (0 ≤ (ji12)) = true := decide_eq_true c13
                    clear c13
                    by_cases c14 : (ji12) ≤ (wrap64 ((ji12) + (wrap64 (bt a0 (rd t112 x17_1)))))
                    · rw [if_pos c14] at H
                      have c14b0 := eq_true c14
                      have c14b1 : decide ((ji12) ≤ (wrap64 ((ji12) + (wrap64 (bt a0 (rd t112 x17_1)))))) = true := decide_eq_true c14
                      by_cases c15 : (wrap64 ((ji12) + (wrap64 (bt a0 (rd t112 x17_1))))) ≤ (a0.size : Int)
                      · rw [if_pos c15] at H
                        have c15b0 := eq_true c15
                        have c15b1 : decide ((wrap64 ((ji12) + (wrap64 (bt a0 (rd t112 x17_1))))) ≤ (a0.size : Int)) = true := decide_eq_true c15
                        by_cases c16 : x5_1.length < 8796093022208
                        · rw [if_pos c16] at H
                          have LMc16 := Aside0.mk c16
                          clear c16
                          obtain ⟨y117, hy117⟩ : ∃ y_ : List ByteArray, y_ = (x5_1 ++ [a0.extract ((ji12) : Int).toNat ((wrap64 ((ji12) + (wrap64 (bt a0 (rd t112 x17_1))))) : Int).toNat]) := ⟨_, rfl⟩
                          replace H : (name_Labels.l0 k1 a0 y117 t112 (t112.length : Int) (wrap64 (x17_1 + 1))) = some r := by first | (rw [hy117]; with_reducible exact H) | (have H2_ := (Option.bind_some _ _).symm.trans H; rw [hy117]; with_reducible exact H2_) | (have H2_ := (Option.bind_some _ _).symm.trans H; with_reducible exact H2_) | with_reducible exact H | (rw [hy117]; exact H) | exact H
                          have Ny117 := Aside0.mk hy117
                          clear hy117
                          have H' := Aside0.mk H
                          clear H
                          have p116 : 0 ≤ (x17_1 : Int) := of_decide_eq_true (by first | (with_reducible assumption) | assumption)
                          have q116 : x17_1 < (t112.length : Int) := of_decide_eq_true (by first | (with_reducible assumption) | assumption)
                          obtain ⟨ad116, e116, hx116_0⟩ := Kd.at_int (Kd.R_reads' HO_15.out).2.2 x17_1 p116 q116
                          cases e116
                          replace p116 := eq_true p116
                          replace q116 := eq_true q116
                          have p11 : 0 ≤ ((rd t112 x17_1) : Int) := of_decide_eq_true (by first | (with_reducible assumption) | assumption)
                          have q11 : (rd t112 x17_1) < (a0.size : Int) := of_decide_eq_true (by first | (with_reducible assumption) | assumption)
                          have hx11 := bt_at a0 (rd t112 x17_1)
                          replace p11 := eq_true p11
                          replace q11 := eq_true q11
                          go_wp2_with (first | ((with_reducible refine gate_builtin (b := .append) (xs := #[.tmp 21, .tmp 33]) rfl ?_); at_builtin; refine Kd.R_append Kd.string (w0 := w) w.heap.size rfl (.tmp 21) (.tmp 33) 23 9 (.string ⟨#[]⟩) 16 rfl Try.underlying23 info9 rfl (by decide) (by omega) u5 x5_1 (a0.extract ((ji12) : Int).toNat ((wrap64 ((ji12) + (wrap64 (bt a0 (rd t112 x17_1))))) : Int).toNat) [.string (a0.extract ((ji12) : Int).toNat ((wrap64 ((ji12) + (wrap64 (bt a0 (rd t112 x17_1))))) : Int).toNat)] (fun _ => True) (fun _ => False) rfl rfl ?aP (fun _ hk => hk.elim) ?aF ?aO ?aB ?aS ?aL ?_; (case aP => exact rfl); (case aB => exact (by repeat (first | (with_reducible first | exact HB.out | apply below_alloc | apply pw_below_drewN | apply below_drew1) | exact HB.out))); (case aF => exact (fun _ _ => trivial)); (case aO => exact (by (with_reducible repeat (first | apply Kd.R_alloc | apply Kd.R_drewN | apply Kd.R_drew)); exact HO_5.out)); (case aS => exact (below_size (by repeat (first | (with_reducible first | exact HB.out | apply below_alloc | apply pw_below_drewN | apply below_drew1) | exact HB.out)))); (case aL => have := LMc16.out; omega); intro v118 w17 ho hb hg hat; rw [← Ny117.out] at ho; have n0_ := Aside0.mk (Kd.R_over' (by (with_reducible repeat (first | apply Kd.R_alloc | apply Kd.R_drewN | apply Kd.R_drew)); exact HO_15.out) (Kd.R_typed (by (with_reducible repeat (first | apply Kd.R_alloc | apply Kd.R_drewN | apply Kd.R_drew)); exact HO_5.out)) (by decide) hg); have n1_ := Aside0.mk (hb); have n2_ := Aside0.mk (ho); clear HO_15; clear HB; clear HO_5; have HO_15 := n0_; have HB := n1_; have HO119 := n2_; clear n0_ n1_ n2_; clear ho hb hg hat))
                          go_roundg k1
                          case measure => have := HK1.out; omega
                          case rel => exact ⟨(y117), (wrap64 (x17_1 + 1)), (by first | rfl | (simp; done) | (simp [*]; done)), H', ⟨by have := HK1.out; omega⟩, ⟨by (with_reducible repeat (first | apply Kd.R_alloc | apply Kd.R_drewN | apply Kd.R_drew)); exact HO119.out⟩, ⟨by (with_reducible repeat (first | apply Kd.R_alloc | apply Kd.R_drewN | apply Kd.R_drew)); exact HO_15.out⟩, ⟨by repeat (first | (with_reducible first | exact HB.out | apply below_alloc | apply pw_below_drewN | apply below_drew1) | exact HB.out)⟩⟩
                        · rw [if_neg c16] at H
                          exact absurd H (by simp)
                      · rw [if_neg c15] at H
                        exact absurd H (by simp)
                    · rw [if_neg c14] at H
                      exact absurd H (by simp)
                  · rw [if_neg c13] at H
                    exact absurd H (by simp)
                · rw [if_neg c10] at H
                  exact absurd H (by simp)
              · rw [if_neg c9] at H
                exact absurd H (by simp)
            · rw [if_neg c8] at H
              exact absurd H (by simp)
          · rw [if_neg c7] at H
            exact absurd H (by simp)
        · rw [if_neg c6] at H
          have c6b0 : decide (x17_1 < (t112.length : Int)) = false := decide_eq_false c6
          clear c6
          obtain rfl := Option.some.inj H
          go_wp2
          go_ret
          exact ⟨_, by first | rfl | (simp [errW_none, errW_some] <;> rfl) | (simp [*, errW_none, errW_some] <;> rfl), by (with_reducible repeat (first | apply Kd.R_alloc | apply Kd.R_drewN | apply Kd.R_drew)); exact HO_5.out, by repeat (first | (with_reducible first | exact HB.out | apply below_alloc | apply pw_below_drewN | apply below_drew1) | exact HB.out)⟩
  · replace c3 := Bool.eq_false_iff.mpr c3
    subst c3
    have H1 : (some ([] : List ByteArray)) = some r := by rw [if_neg (show ¬ (false = true) by decide)] at H; exact H
    clear H
    have H := H1
    clear H1
    obtain rfl := Option.some.inj H
    go_enter Try.func17, Try.ntmps17
    go_wp2_with (first | ((with_reducible refine gate_callee (f := 43) rfl ?_); refine goesL_ (some 10) rfl rfl Try.func43 (by kernel_rfl) rfl #[.string a0] rfl (by (try simp only [List.map_toArray, List.map_cons, List.map_nil]); first | done | rfl | (simp only [List.length_drop, List.length_take]; rfl)) ?_; (with_reducible refine (name_starts.calls k a0 t112 false _ A2.out).mono ?_); rintro e w18 ⟨v114, rfl, ho0, hb⟩; refine ⟨_, rfl, ?_⟩; have n0_ := Aside0.mk (Kd.R_lower ho0 (below_size (by repeat (first | (with_reducible first | exact HB.out | apply below_alloc | apply pw_below_drewN | apply below_drew1) | exact HB.out)))); have n1_ := Aside0.mk (below_step (by repeat (first | (with_reducible first | exact HB.out | apply below_alloc | apply pw_below_drewN | apply below_drew1) | exact HB.out)) hb); clear HB; have HO115 := n0_; have HB := n1_; clear n0_ n1_; (try clear hb); (try clear hb2); (try clear hk); (try clear hi); (try clear ho0)))
    go_ret
    exact ⟨_, by first | rfl | (simp [errW_none, errW_some] <;> rfl) | (simp [*, errW_none, errW_some] <;> rfl), by first | exact Kd.R_nil _ _ _ _ _ | exact Kd.N_nil _ _ _ _ _ | exact Kd.V_nil _ _ _ _ _ | exact Kd.Q_nil _ _ _ _ _ | exact Kd.S_nil _ _ _ _ _, by repeat (first | (with_reducible first | exact HB.out | apply below_alloc | apply pw_below_drewN | apply below_drew1) | exact HB.out)⟩

end Go.Proofs.Ytplnknhlgdoliaa.Print
end
section
-- Written by a program of this session, built on the kit's print (it is not the print's own text).
namespace Go.Proofs.Ytplnknhlgdoliaa.Print
open Go.RowKit Go.Proofs.YtplnknhlgdoliaaW.PrintWords Go.Proofs.YtplnknhlgdoliaaW.PrintLast Go.Proofs.YtplnknhlgdoliaaW.PrintMore
attribute [local go_sem] max2_int min2_int max_two min_two max_three min_three max_four min_four   -- for this text's walks alone
set_option linter.unusedVariables false
set_option linter.unusedSimpArgs false

/-! ### hearsayref01_Split: function 13 -/
def hearsayref01_Split.l0 : Nat → List ByteArray → ByteArray → Option (List ByteArray × Bool)
  | 0, _, _ => none
  | k + 1, x4, x5 => if (x5.size : Int) > 0 then (if 0 < (x5.size : Int) then (if (wrap64 (bt x5 0)) = 0 then (some (x4, ((x5.size : Int) == 1))) else (if (wrap64 (bt x5 0)) > 63 then (some (([] : List ByteArray), false)) else (if (x5.size : Int) < (wrap64 ((wrap64 (bt x5 0)) + 1)) then (some (([] : List ByteArray), false)) else (if 1 ≤ (wrap64 ((wrap64 (bt x5 0)) + 1)) then (if (wrap64 ((wrap64 (bt x5 0)) + 1)) ≤ (x5.size : Int) then (if x4.length < 8796093022208 then (if 0 ≤ (wrap64 ((wrap64 (bt x5 0)) + 1)) then (hearsayref01_Split.l0 k (x4 ++ [x5.extract 1 ((wrap64 ((wrap64 (bt x5 0)) + 1)) : Int).toNat]) (x5.extract ((wrap64 ((wrap64 (bt x5 0)) + 1)) : Int).toNat x5.size)) else (none)) else (none)) else (none)) else (none))))) else (none)) else (some (([] : List ByteArray), false))
def hearsayref01_Split.f (k : Nat) (a0 : ByteArray) : Option (List ByteArray × Bool) := if (a0.size : Int) > 255 then (some (([] : List ByteArray), false)) else (hearsayref01_Split.l0 k ([] : List ByteArray) a0)
theorem hearsayref01_Split.mono_l : ∀ k, (∀ y0 y1, LeO (hearsayref01_Split.l0 k y0 y1) (hearsayref01_Split.l0 (k + 1) y0 y1))
  | 0 => fun _ _ r h => by simp [hearsayref01_Split.l0] at h
  | k + 1 => by
    have ih0 := hearsayref01_Split.mono_l k
    · intro y0 y1
      unfold hearsayref01_Split.l0
      repeat' first
      | (with_reducible exact ih0 _ _)
      | (with_reducible exact LeO.refl _)
      | (with_reducible exact LeO.none _)
      | (with_reducible refine LeO.ite ?_ ?_)
      | (with_reducible refine LeO.bind ?_ (fun _ => ?_))
      | exact ih0 _ _
      | exact LeO.none _
      | refine LeO.ite ?_ ?_
      | refine LeO.bind ?_ (fun _ => ?_)
theorem hearsayref01_Split.mono : ∀ a0 k, LeO (hearsayref01_Split.f k a0) (hearsayref01_Split.f (k + 1) a0) := by
  intro a0 k
  have ih0 := hearsayref01_Split.mono_l k
  unfold hearsayref01_Split.f
  repeat' first
      | (with_reducible exact ih0 _ _)
      | (with_reducible exact LeO.refl _)
      | (with_reducible exact LeO.none _)
      | (with_reducible refine LeO.ite ?_ ?_)
      | (with_reducible refine LeO.bind ?_ (fun _ => ?_))
      | exact ih0 _ _
      | exact LeO.none _
      | refine LeO.ite ?_ ?_
      | refine LeO.bind ?_ (fun _ => ?_)
set_option maxHeartbeats 8000000 in
set_option maxRecDepth 100000 in
theorem hearsayref01_Split.calls (k : Nat) (a0 : ByteArray) (r1 : List ByteArray) (r2 : Bool) (w : World) (h : hearsayref01_Split.f k a0 = some (r1, r2)) :
    Calls Try.prog 13 #[.string a0] w fun e w' => ∃ v0_ : Value, e = .returned (.tuple #[v0_, .bool r2]) ∧ Kd.R Kd.string 9 w' w.heap.size (fun _ => True) v0_ r1 ∧ Below w.heap.size w w' := by
  have HB := Aside0.mk (Below.refl w.heap.size w)
  have H : (if (a0.size : Int) > 255 then (some (([] : List ByteArray), false)) else (hearsayref01_Split.l0 k ([] : List ByteArray) a0)) = some (r1, r2) := h
  clear h
  by_cases c2 : (a0.size : Int) > 255
  · rw [if_pos c2] at H
    have c2b0 : decide (255 < (a0.size : Int)) = true := decide_eq_true c2
    have c2b1 : decide (255 < a0.size) = true := decide_eq_true (by omega)
    clear c2
    simp only [Option.some.injEq, Prod.mk.injEq] at H
    obtain ⟨rfl, rfl⟩ := H
    go_enter Try.func13, Try.ntmps13
    go_wp2
    go_ret2
    exact ⟨_, by first | rfl | (simp [errW_none, errW_some] <;> rfl) | (simp [*, errW_none, errW_some] <;> rfl), by first | exact Kd.R_nil _ _ _ _ _ | exact Kd.N_nil _ _ _ _ _ | exact Kd.V_nil _ _ _ _ _ | exact Kd.Q_nil _ _ _ _ _ | exact Kd.S_nil _ _ _ _ _, by repeat (first | (with_reducible first | exact HB.out | apply below_alloc | apply pw_below_drewN | apply below_drew1) | exact HB.out)⟩
  · rw [if_neg c2] at H
    have c2b0 : decide (255 < (a0.size : Int)) = false := decide_eq_false c2
    have c2b1 : decide (255 < a0.size) = false := decide_eq_false (by omega)
    clear c2
    have H' := Aside0.mk H
    clear H
    go_enter Try.func13, Try.ntmps13
    go_wp2
    go_loopg [4, 5] k (fun kq v4 v5 w' => ∃ (x4_1 : List ByteArray) (x5_1 : ByteArray), v5 = .string x5_1 ∧ Aside0 (hearsayref01_Split.l0 kq x4_1 x5_1 = some (r1, r2)) ∧ Aside0 (kq ≤ k) ∧ Aside0 (Kd.R Kd.string 9 w' w.heap.size (fun _ => True) v4 x4_1) ∧ Aside0 (Below w.heap.size w w'))
    case atStart => exact ⟨(([] : List ByteArray)), (a0), (by first | rfl | (simp; done) | (simp [*]; done)), H', ⟨Nat.le_refl _⟩, ⟨by first | exact Kd.R_nil _ _ _ _ _ | exact Kd.N_nil _ _ _ _ _ | exact Kd.V_nil _ _ _ _ _ | exact Kd.Q_nil _ _ _ _ _ | exact Kd.S_nil _ _ _ _ _⟩, ⟨by repeat (first | (with_reducible first | exact HB.out | apply below_alloc | apply pw_below_drewN | apply below_drew1) | exact HB.out)⟩⟩
    case round =>
      clear H'
      try clear c1
      try clear c2
      try clear c2b0
      try clear c2b1
      try clear p2
      obtain ⟨x4_1, x5_1, rfl, HA, HK1, HO_4, HB⟩ := hrel
      cases gk with
      | zero => exact absurd HA.out (by simp [hearsayref01_Split.l0])
      | succ k1 =>
        have H := HA.out
        clear HA
        simp only [hearsayref01_Split.l0] at H
        by_cases c3 : (x5_1.size : Int) > 0
        · rw [if_pos c3] at H
          have c3b0 : decide (0 < (x5_1.size : Int)) = true := decide_eq_true c3
          have c3b1 : decide (0 < x5_1.size) = true := decide_eq_true (by omega)
          clear c3
          by_cases c4 : 0 < (x5_1.size : Int)
          · rw [if_pos c4] at H
            have c4b0 : decide (0 < (x5_1.size : Int)) = true := decide_eq_true c4
            have c4b1 : decide (0 < x5_1.size) = true := decide_eq_true (by omega)
            clear c4
            by_cases c6 : (wrap64 (bt x5_1 0)) = 0
            · rw [if_pos c6] at H
              have c6b0 : ((wrap64 (bt x5_1 0)) == 0) = true := beq_iff_eq.mpr c6
              have c6b1 : ((wrap64 (bt x5_1 0)) != 0) = false := bne_eq_false_iff_eq.mpr c6
              clear c6
              simp only [Option.some.injEq, Prod.mk.injEq] at H
              obtain ⟨rfl, rfl⟩ := H
              have p5 : 0 ≤ (0 : Int) := (by omega)
              have q5 : 0 < x5_1.size := (by have : (0 : Int) < (x5_1.size : Int) := of_decide_eq_true (by first | (with_reducible assumption) | assumption); omega)
              have hx5 : ∀ h : 0 < x5_1.size, ((x5_1[0]'h).toNat : Int) = bt x5_1 0 := bt_at x5_1 0
              clear p5
              have qi5 : (0 < (x5_1.size : Int)) = True := eq_true (of_decide_eq_true (by first | (with_reducible assumption) | assumption))
              replace q5 := eq_true q5
              go_wp2
              go_ret2
              exact ⟨_, by first | rfl | (simp [errW_none, errW_some] <;> rfl) | (simp [*, errW_none, errW_some] <;> rfl), by (with_reducible repeat (first | apply Kd.R_alloc | apply Kd.R_drewN | apply Kd.R_drew)); exact HO_4.out, by repeat (first | (with_reducible first | exact HB.out | apply below_alloc | apply pw_below_drewN | apply below_drew1) | exact HB.out)⟩
            · rw [if_neg c6] at H
              have c6b0 : ((wrap64 (bt x5_1 0)) == 0) = false := beq_eq_false_iff_ne.mpr c6
              have c6b1 : ((wrap64 (bt x5_1 0)) != 0) = true := bne_iff_ne.mpr c6
              by_cases c7 : (wrap64 (bt x5_1 0)) > 63
              · rw [if_pos c7] at H
                have c7b0 : decide (63 < (wrap64 (bt x5_1 0))) = true := decide_eq_true c7
                clear c7
                simp only [Option.some.injEq, Prod.mk.injEq] at H
                obtain ⟨rfl, rfl⟩ := H
                have p5 : 0 ≤ (0 : Int) := (by omega)
                have q5 : 0 < x5_1.size := (by have : (0 : Int) < (x5_1.size : Int) := of_decide_eq_true (by first | (with_reducible assumption) | assumption); omega)
                have hx5 : ∀ h : 0 < x5_1.size, ((x5_1[0]'h).toNat : Int) = bt x5_1 0 := bt_at x5_1 0
                clear p5
                have qi5 : (0 < (x5_1.size : Int)) = True := eq_true (of_decide_eq_true (by first | (with_reducible assumption) | assumption))
                replace q5 := eq_true q5
                go_wp2
                go_ret2
                exact ⟨_, by first | rfl | (simp [errW_none, errW_some] <;> rfl) | (simp [*, errW_none, errW_some] <;> rfl), by first | exact Kd.R_nil _ _ _ _ _ | exact Kd.N_nil _ _ _ _ _ | exact Kd.V_nil _ _ _ _ _ | exact Kd.Q_nil _ _ _ _ _ | exact Kd.S_nil _ _ _ _ _, by repeat (first | (with_reducible first | exact HB.out | apply below_alloc | apply pw_below_drewN | apply below_drew1) | exact HB.out)⟩
              · rw [if_neg c7] at H
                have c7b0 : decide (63 < (wrap64 (bt x5_1 0))) = false := decide_eq_false c7
                clear c7
                by_cases c8 : (x5_1.size : Int) < (wrap64 ((wrap64 (bt x5_1 0)) + 1))
                · rw [if_pos c8] at H
                  have c8b0 : decide ((x5_1.size : Int) < (wrap64 ((wrap64 (bt x5_1 0)) + 1))) = true := decide_eq_true c8
                  clear c8
                  simp only [Option.some.injEq, Prod.mk.injEq] at H
                  obtain ⟨rfl, rfl⟩ := H
                  have p5 : 0 ≤ (0 : Int) := (by omega)
                  have q5 : 0 < x5_1.size := (by have : (0 : Int) < (x5_1.size : Int) := of_decide_eq_true (by first | (with_reducible assumption) | assumption); omega)
                  have hx5 : ∀ h : 0 < x5_1.size, ((x5_1[0]'h).toNat : Int) = bt x5_1 0 := bt_at x5_1 0
                  clear p5
                  have qi5 : (0 < (x5_1.size : Int)) = True := eq_true (of_decide_eq_true (by first | (with_reducible assumption) | assumption))
                  replace q5 := eq_true q5
                  go_wp2
                  go_ret2
                  exact ⟨_, by first | rfl | (simp [errW_none, errW_some] <;> rfl) | (simp [*, errW_none, errW_some] <;> rfl), by first | exact Kd.R_nil _ _ _ _ _ | exact Kd.N_nil _ _ _ _ _ | exact Kd.V_nil _ _ _ _ _ | exact Kd.Q_nil _ _ _ _ _ | exact Kd.S_nil _ _ _ _ _, by repeat (first | (with_reducible first | exact HB.out | apply below_alloc | apply pw_below_drewN | apply below_drew1) | exact HB.out)⟩
                · rw [if_neg c8] at H
                  have c8b0 : decide ((x5_1.size : Int) < (wrap64 ((wrap64 (bt x5_1 0)) + 1))) = false := decide_eq_false c8
                  clear c8
                  by_cases c9 : 1 ≤ (wrap64 ((wrap64 (bt x5_1 0)) + 1))
                  · rw [if_pos c9] at H
                    have c9b0 := eq_true c9
                    have c9b1 : decide (1 ≤ (wrap64 ((wrap64 (bt x5_1 0)) + 1))) = true := decide_eq_true c9
                    by_cases c10 : (wrap64 ((wrap64 (bt x5_1 0)) + 1)) ≤ (x5_1.size : Int)
                    · rw [if_pos c10] at H
                      have c10b0 := eq_true c10
                      have c10b1 : decide ((wrap64 ((wrap64 (bt x5_1 0)) + 1)) ≤ (x5_1.size : Int)) = true := decide_eq_true c10
                      by_cases c11 : x4_1.length < 8796093022208
                      · rw [if_pos c11] at H
                        have LMc11 := Aside0.mk c11
                        clear c11
                        obtain ⟨y101, hy101⟩ : ∃ y_ : List ByteArray, y_ = (x4_1 ++ [x5_1.extract 1 ((wrap64 ((wrap64 (bt x5_1 0)) + 1)) : Int).toNat]) := ⟨_, rfl⟩
                        replace H : (if 0 ≤ (wrap64 ((wrap64 (bt x5_1 0)) + 1)) then (hearsayref01_Split.l0 k1 y101 (x5_1.extract ((wrap64 ((wrap64 (bt x5_1 0)) + 1)) : Int).toNat x5_1.size)) else (none)) = some (r1, r2) := by first | (rw [hy101]; with_reducible exact H) | (have H2_ := (Option.bind_some _ _).symm.trans H; rw [hy101]; with_reducible exact H2_) | (have H2_ := (Option.bind_some _ _).symm.trans H; with_reducible exact H2_) | with_reducible exact H | (rw [hy101]; exact H) | exact H
                        have Ny101 := Aside0.mk hy101
                        clear hy101
                        obtain ⟨ji12, hji12⟩ : ∃ j_ : Int, (wrap64 ((wrap64 (bt x5_1 0)) + 1)) = j_ := ⟨_, rfl⟩
                        replace H : (if 0 ≤ (ji12) then (hearsayref01_Split.l0 k1 y101 (x5_1.extract ((ji12) : Int).toNat x5_1.size)) else (none)) = some (r1, r2) := by first | (rw [hji12] at H; exact H) | (simp only [hji12] at H ⊢; exact H)
                        (try rw [hji12] at c8b0)
                        (try rw [hji12] at c9b0)
                        (try rw [hji12] at c9b1)
                        (try rw [hji12] at c9)
                        (try rw [hji12] at c10b0)
                        (try rw [hji12] at c10b1)
                        (try rw [hji12] at c10)
                        (try rw [hji12] at Ny101)
                        have hji12w : (IntKind.i64.wrap ((wrap64 (bt x5_1 0)) + 1)) = ji12 := (i64_w _).trans hji12
                        by_cases c13 : 0 ≤ (ji12)
                        · rw [if_pos c13] at H
                          have c13b0 := eq_true c13
                          have c13b1 : decide (0 ≤ (ji12)) = true := decide_eq_true c13
                          clear c13
                          have c14b0 := eq_true (of_decide_eq_true (by first | (with_reducible assumption) | assumption) : (ji12) ≤ (x5_1.size : Int))
                          have H' := Aside0.mk H
                          clear H
                          have p5 : 0 ≤ (0 : Int) := (by omega)
                          have q5 : 0 < x5_1.size := (by have : (0 : Int) < (x5_1.size : Int) := of_decide_eq_true (by first | (with_reducible assumption) | assumption); omega)
                          have hx5 : ∀ h : 0 < x5_1.size, ((x5_1[0]'h).toNat : Int) = bt x5_1 0 := bt_at x5_1 0
                          clear p5
                          have qi5 : (0 < (x5_1.size : Int)) = True := eq_true (of_decide_eq_true (by first | (with_reducible assumption) | assumption))
                          replace q5 := eq_true q5
                          go_wp2_with (first | ((with_reducible refine gate_builtin (b := .append) (xs := #[.tmp 32, .tmp 37]) rfl ?_); (try (refine gate_guard (by rfl) ?_; dsimp only)); at_builtin; refine Kd.R_append Kd.string (w0 := w) w.heap.size rfl (.tmp 32) (.tmp 37) 23 9 (.string ⟨#[]⟩) 16 rfl Try.underlying23 info9 rfl (by decide) (by omega) u4 x4_1 (x5_1.extract 1 ((ji12) : Int).toNat) [.string (x5_1.extract 1 ((ji12) : Int).toNat)] (fun _ => True) (fun _ => False) rfl rfl ?aP (fun _ hk => hk.elim) ?aF ?aO ?aB ?aS ?aL ?_; (case aP => exact rfl); (case aB => exact (by repeat (first | (with_reducible first | exact HB.out | apply below_alloc | apply pw_below_drewN | apply below_drew1) | exact HB.out))); (case aF => exact (fun _ _ => trivial)); (case aO => exact (by (with_reducible repeat (first | apply Kd.R_alloc | apply Kd.R_drewN | apply Kd.R_drew)); exact HO_4.out)); (case aS => exact (below_size (by repeat (first | (with_reducible first | exact HB.out | apply below_alloc | apply pw_below_drewN | apply below_drew1) | exact HB.out)))); (case aL => have := LMc11.out; omega); intro v102 w15 ho hb hg hat; rw [← Ny101.out] at ho; have n0_ := Aside0.mk (hb); have n1_ := Aside0.mk (ho); clear HB; clear HO_4; have HB := n0_; have HO103 := n1_; clear n0_ n1_; clear ho hb hg hat))
                          go_roundg k1
                          case measure => have := HK1.out; omega
                          case rel => exact ⟨(y101), (x5_1.extract ((ji12) : Int).toNat x5_1.size), (by first | rfl | (simp; done) | (simp only [← hji12] <;> (first | rfl | simp)) | (simp [*]; done)), H', ⟨by have := HK1.out; omega⟩, ⟨by (with_reducible repeat (first | apply Kd.R_alloc | apply Kd.R_drewN | apply Kd.R_drew)); exact HO103.out⟩, ⟨by repeat (first | (with_reducible first | exact HB.out | apply below_alloc | apply pw_below_drewN | apply below_drew1) | exact HB.out)⟩⟩
                        · rw [if_neg c13] at H
                          exact absurd H (by simp)
                      · rw [if_neg c11] at H
                        exact absurd H (by simp)
                    · rw [if_neg c10] at H
                      exact absurd H (by simp)
                  · rw [if_neg c9] at H
                    exact absurd H (by simp)
          · rw [if_neg c4] at H
            exact absurd H (by simp)
        · rw [if_neg c3] at H
          have c3b0 : decide (0 < (x5_1.size : Int)) = false := decide_eq_false c3
          have c3b1 : decide (0 < x5_1.size) = false := decide_eq_false (by omega)
          clear c3
          simp only [Option.some.injEq, Prod.mk.injEq] at H
          obtain ⟨rfl, rfl⟩ := H
          go_wp2
          go_ret2
          exact ⟨_, by first | rfl | (simp [errW_none, errW_some] <;> rfl) | (simp [*, errW_none, errW_some] <;> rfl), by first | exact Kd.R_nil _ _ _ _ _ | exact Kd.N_nil _ _ _ _ _ | exact Kd.V_nil _ _ _ _ _ | exact Kd.Q_nil _ _ _ _ _ | exact Kd.S_nil _ _ _ _ _, by repeat (first | (with_reducible first | exact HB.out | apply below_alloc | apply pw_below_drewN | apply below_drew1) | exact HB.out)⟩

end Go.Proofs.Ytplnknhlgdoliaa.Print
end
section
/- Plain laws of names: their labels, and what the printed functions starts, Check, Labels, Count, Split tell of them. -/
namespace Go.Proofs.Ytplnknhlgdoliaa.Print
set_option linter.unusedVariables false
set_option linter.unusedSimpArgs false
open Go.RowKit Go.Proofs.YtplnknhlgdoliaaW.PrintWords Go.Proofs.YtplnknhlgdoliaaW.PrintLast Go.Proofs.YtplnknhlgdoliaaW.PrintMore
theorem strOfNums_bytes' (s : ByteArray) : strOfNums (bytesOf s) = s := by
  apply ByteArray.ext
  apply Array.ext'
  rw [strOfNums_data]
  unfold bytesOf
  rw [List.map_map]
  conv => rhs; rw [← List.map_id s.data.toList]
  refine List.map_congr_left fun b _ => ?_
  simp
theorem bytes_inj {a b : ByteArray} (h : bytesOf a = bytesOf b) : a = b := by rw [← strOfNums_bytes' a, h, strOfNums_bytes']
theorem bytes_strOfNums (xs : List Int) (h : ∀ x ∈ xs, 0 ≤ x ∧ x < 256) : bytesOf (strOfNums xs) = xs := by
  unfold bytesOf
  rw [strOfNums_data, List.map_map]
  conv => rhs; rw [← List.map_id xs]
  refine List.map_congr_left fun x hx => ?_
  obtain ⟨h0, h1⟩ := h x hx
  simp only [Function.comp_apply, UInt8.toNat_ofNat', id_eq]
  omega
theorem bytes_extract (s : ByteArray) (a b : Nat) : bytesOf (s.extract a b) = ((bytesOf s).drop a).take (b - a) := by
  unfold bytesOf
  rw [Lib.extract_data, List.map_take, List.map_drop]
theorem w64 {n : Int} (h0 : -9223372036854775808 ≤ n) (h1 : n ≤ 9223372036854775807) : wrap64 n = n := by unfold wrap64; omega
/-! ### labels -/
def cutF : Nat → List Int → Option (List ByteArray)
  | 0, _ => none
  | _ + 1, [] => none
  | k + 1, c :: r => if c = 0 then (if r = [] then some [] else none) else if 63 < c then none else if r.length < c.toNat then none else (cutF k (r.drop c.toNat)).map (strOfNums (r.take c.toNat) :: ·)
def cut (l : List Int) : Option (List ByteArray) := cutF (l.length + 1) l
theorem cutF_enough : ∀ (k : Nat) (l : List Int), l.length < k → cutF k l = cut l := by
  intro k
  induction k with
  | zero => intro l h; omega
  | succ k ih =>
    intro l h
    cases l with
    | nil => rfl
    | cons c r =>
      simp only [cut, cutF, List.length_cons]
      rw [ih (r.drop c.toNat) (by simp at h ⊢; omega)]
      have e : cutF (r.length + 1) (r.drop c.toNat) = cut (r.drop c.toNat) := by
        unfold cut
        rcases Nat.lt_or_ge (r.drop c.toNat).length k with h1 | h1
        · have h2 := ih (r.drop c.toNat) h1
          rcases Nat.lt_or_ge r.length k with h3 | h3
          · by_cases h4 : (r.drop c.toNat).length = r.length
            · rw [h4]
            · have h5 : (r.drop c.toNat).length < r.length := by simp at h4 ⊢; omega
              clear h2
              exact cutF_mono _ _ _ (by omega) (by omega)
          · simp at h; omega
        · simp at h h1; omega
      rw [e]
where cutF_mono : ∀ (a b : Nat) (l : List Int), l.length < a → l.length < b → cutF a l = cutF b l
  | 0, _, _, h, _ => by omega
  | _ + 1, 0, _, _, h => by omega
  | a + 1, b + 1, [], _, _ => rfl
  | a + 1, b + 1, c :: r, h1, h2 => by
    simp only [cutF]
    rw [cutF_mono a b (r.drop c.toNat) (by simp at h1 ⊢; omega) (by simp at h2 ⊢; omega)]
theorem cut_nil : cut [] = none := rfl
theorem cut_cons (c : Int) (r : List Int) : cut (c :: r) = if c = 0 then (if r = [] then some [] else none) else if 63 < c then none else if r.length < c.toNat then none else (cut (r.drop c.toNat)).map (strOfNums (r.take c.toNat) :: ·) := by
  show cutF (r.length + 1 + 1) (c :: r) = _
  simp only [cutF]
  rw [cutF_enough (r.length + 1) (r.drop c.toNat) (by simp; omega)]
theorem cut_some : ∀ (L : List ByteArray) (l : List Int), (∀ x ∈ l, 0 ≤ x ∧ x < 256) → cut l = some L → l = glue L ++ [0] ∧ L.any badLab = false
  | L, [], _, h => by rw [cut_nil] at h; cases h
  | L, c :: r, hr, h => by
    rw [cut_cons] at h
    have hc := hr c (by simp)
    split at h
    · split at h
      · rename_i h0 h1; cases h; subst h0 h1; exact ⟨rfl, rfl⟩
      · cases h
    · split at h
      · cases h
      · split at h
        · cases h
        · rename_i h0 h63 hlen
          obtain ⟨L', hL', rfl⟩ := Option.map_eq_some_iff.1 h
          have hrg : ∀ x ∈ r.take c.toNat, 0 ≤ x ∧ x < 256 := fun x hx => hr x (List.mem_cons_of_mem _ (List.mem_of_mem_take hx))
          obtain ⟨h1, h2⟩ := cut_some L' (r.drop c.toNat) (fun x hx => hr x (List.mem_cons_of_mem _ (List.mem_of_mem_drop hx))) hL'
          have hsz : (strOfNums (r.take c.toNat)).size = c.toNat := by rw [strOfNums_size, List.length_take]; omega
          refine ⟨?_, ?_⟩
          · show c :: r = lab _ ++ glue L' ++ [0]
            rw [List.append_assoc, ← h1]
            unfold lab
            rw [bytes_strOfNums _ hrg, hsz, List.cons_append, List.take_append_drop]
            congr 1; omega
          · rw [List.any_cons, h2, Bool.or_false]
            unfold badLab
            rw [hsz]; simp; omega
  termination_by _ l => l.length
  decreasing_by simp; omega
theorem cut_glue : ∀ (L : List ByteArray), L.any badLab = false → cut (glue L ++ [0]) = some L
  | [], _ => by simp [glue, cut_cons]
  | s :: L, h => by
    rw [List.any_cons, Bool.or_eq_false_iff] at h
    have hs := bad_false h.1
    have ih := cut_glue L h.2
    have e : glue (s :: L) ++ [0] = (s.size : Int) :: (bytesOf s ++ (glue L ++ [0])) := by simp [glue, lab]
    rw [e, cut_cons, if_neg (by omega), if_neg (by omega), if_neg (by simp [bytesOf_length])]
    have e1 : ((s.size : Int)).toNat = (bytesOf s).length := by rw [bytesOf_length]; omega
    rw [e1, List.drop_left, List.take_left, ih, strOfNums_bytes']
    rfl
/-- a name's labels; none: it is no name -/
def dec (n : ByteArray) : Option (List ByteArray) := if 255 < n.size then none else cut (bytesOf n)
theorem dec_some {n : ByteArray} {L : List ByteArray} (h : dec n = some L) : n.size ≤ 255 ∧ bytesOf n = glue L ++ [0] ∧ L.any badLab = false := by
  unfold dec at h
  split at h
  · cases h
  · exact ⟨by omega, cut_some L _ (bo_range n) h⟩
theorem dec_size {n : ByteArray} {L : List ByteArray} (h : dec n = some L) : n.size = (glue L).length + 1 := by
  have h1 := (dec_some h).2.1
  have h2 := congrArg List.length h1
  rw [bytesOf_length] at h2
  simpa using h2
theorem dec_inj {a b : ByteArray} {L : List ByteArray} (ha : dec a = some L) (hb : dec b = some L) : a = b := bytes_inj (by rw [(dec_some ha).2.1, (dec_some hb).2.1])
/-- the name of labels -/
def nameOf (L : List ByteArray) : ByteArray := strOfNums (glue L ++ [0])
theorem bytes_nameOf {L : List ByteArray} (h : L.any badLab = false) : bytesOf (nameOf L) = glue L ++ [0] := bytes_strOfNums _ (glue_range L h)
theorem dec_nameOf {L : List ByteArray} (h : L.any badLab = false) (hl : (glue L).length + 1 ≤ 255) : dec (nameOf L) = some L := by
  unfold dec nameOf
  rw [strOfNums_size, if_neg (by simp; omega)]
  have := bytes_nameOf h
  unfold nameOf at this
  rw [this]
  exact cut_glue L h
theorem nameOf_dec {n : ByteArray} {L : List ByteArray} (h : dec n = some L) : nameOf L = n := by
  have h1 := dec_some h
  exact bytes_inj (by rw [bytes_nameOf h1.2.2, h1.2.1])
/-- where labels begin -/
def offs : Nat → List ByteArray → List Int
  | _, [] => []
  | p, s :: L => (p : Int) :: offs (p + 1 + s.size) L
theorem offs_length : ∀ (p : Nat) (L : List ByteArray), (offs p L).length = L.length
  | _, [] => rfl
  | p, s :: L => by simp [offs, offs_length]
theorem offs_at : ∀ (L1 : List ByteArray) (p : Nat) (s : ByteArray) (L2 : List ByteArray), (offs p (L1 ++ s :: L2))[L1.length]? = some ((p + (glue L1).length : Nat) : Int)
  | [], p, s, L2 => by simp [offs, glue]
  | t :: L1, p, s, L2 => by
    simp only [List.cons_append, offs, List.length_cons, List.getElem?_cons_succ]
    rw [offs_at L1]
    simp [glue, lab_length]; omega
/-! ### starts -/
theorem starts_ev (n : ByteArray) (hn : n.size ≤ 255) (d : Nat) : ∀ (p : Nat) (acc : List Int), n.size + 64 - p ≤ d → acc.length ≤ p → p ≤ 400 →
    ∃ l', Ev (fun k => name_starts.l0 k n acc (p : Int)) (l', (cut ((bytesOf n).drop p)).isSome) ∧ ∀ L, cut ((bytesOf n).drop p) = some L → l' = acc ++ offs p L := by
  induction d with
  | zero =>
    intro p acc hd ha hp
    refine ⟨acc, ?_, ?_⟩
    · rw [bo_end n p (by omega), cut_nil]
      refine Ev.step (f := fun k => name_starts.j1 k n acc p false) (fun k => by simp only [name_starts.l0]; rw [if_neg (by omega)]) ?_
      refine Ev.step (f := fun _ => some (acc, false)) (fun k => ?_) (Ev.now _)
      simp only [name_starts.j1]
      rw [if_neg (by simp), w64 (by omega) (by omega)]
      congr 2
      exact beq_eq_false_iff_ne.2 (by omega)
    · intro L hL; rw [bo_end n p (by omega), cut_nil] at hL; cases hL
  | succ d ih =>
    intro p acc hd ha hp
    by_cases hlt : p < n.size
    · have hb := bt_range n (p : Int)
      rw [bo_drop n p hlt, cut_cons]
      by_cases hc : bt n (p : Int) = 0
      · rw [if_pos hc]
        refine ⟨acc, ?_, ?_⟩
        · refine Ev.step (f := fun k => name_starts.j1 k n acc p false) (fun k => by simp only [name_starts.l0]; rw [if_pos (by omega), if_pos (by omega)]; congr 1; simp [hc]) ?_
          refine Ev.step (f := fun _ => some (acc, _)) (fun k => ?_) (Ev.now _)
          simp only [name_starts.j1]
          rw [if_neg (by simp), w64 (by omega) (by omega)]
          congr 2
          by_cases hl : p + 1 = n.size
          · rw [bo_end n (p + 1) (by omega), if_pos rfl]
            exact beq_iff_eq.2 (by omega)
          · have : (bytesOf n).drop (p + 1) ≠ [] := by
              intro h0; have := congrArg List.length h0; simp [bytesOf_length] at this; omega
            rw [if_neg this]
            exact beq_eq_false_iff_ne.2 (by omega)
        · intro L hL
          split at hL
          · cases hL; simp [offs]
          · cases hL
      · rw [if_neg hc]
        have hj : ∀ k, name_starts.l0 (k + 1) n acc (p : Int) = name_starts.j1 k n acc p true := fun k => by
          simp only [name_starts.l0]; rw [if_pos (by omega), if_pos (by omega)]; congr 1; simp [hc]
        by_cases h63 : 63 < bt n (p : Int)
        · rw [if_pos h63]
          refine ⟨[], ?_, by intro L hL; cases hL⟩
          refine Ev.step hj (Ev.step (f := fun _ => some ([], false)) (fun k => ?_) (Ev.now _))
          simp only [name_starts.j1]
          rw [if_pos trivial, if_pos (by omega), if_pos (by omega), if_pos (by omega)]
        · rw [if_neg h63]
          have hstep : ∀ k, name_starts.j1 (k + 1) n acc p true = name_starts.l0 k n (acc ++ [(p : Int)]) ((p + 1 + (bt n (p : Int)).toNat : Nat) : Int) := fun k => by
            simp only [name_starts.j1]
            rw [if_pos trivial, if_pos (by omega), if_pos (by omega), if_neg (by omega), if_pos (by omega)]
            rw [w64 (n := bt n (p : Int)) (by omega) (by omega), w64 (n := 1 + bt n (p : Int)) (by omega) (by omega), w64 (by omega) (by omega)]
            congr 1; omega
          obtain ⟨l', hE, hL'⟩ := ih (p + 1 + (bt n (p : Int)).toNat) (acc ++ [(p : Int)]) (by omega) (by simp; omega) (by omega)
          refine ⟨l', ?_, ?_⟩
          · have e : (if ((bytesOf n).drop (p + 1)).length < (bt n (p : Int)).toNat then none else (cut (((bytesOf n).drop (p + 1)).drop (bt n (p : Int)).toNat)).map (strOfNums (((bytesOf n).drop (p + 1)).take (bt n (p : Int)).toNat) :: ·)).isSome = (cut ((bytesOf n).drop (p + 1 + (bt n (p : Int)).toNat))).isSome := by
              split
              · rename_i hh
                simp only [List.length_drop, bytesOf_length] at hh
                rw [bo_end n (p + 1 + (bt n (p : Int)).toNat) (by omega), cut_nil]
              · rw [List.drop_drop, Option.isSome_map]
            rw [e]
            exact Ev.step hj (Ev.step hstep hE)
          · intro L hL
            split at hL
            · cases hL
            · rename_i hh
              rw [List.drop_drop] at hL
              obtain ⟨L2, h2, rfl⟩ := Option.map_eq_some_iff.1 hL
              rw [hL' L2 h2]
              have hsz : (strOfNums (((bytesOf n).drop (p + 1)).take (bt n (p : Int)).toNat)).size = (bt n (p : Int)).toNat := by
                rw [strOfNums_size, List.length_take]; omega
              simp [offs, hsz]
    · refine ⟨acc, ?_, ?_⟩
      · rw [bo_end n p (by omega), cut_nil]
        refine Ev.step (f := fun k => name_starts.j1 k n acc p false) (fun k => by simp only [name_starts.l0]; rw [if_neg (by omega)]) ?_
        refine Ev.step (f := fun _ => some (acc, false)) (fun k => ?_) (Ev.now _)
        simp only [name_starts.j1]
        rw [if_neg (by simp), w64 (by omega) (by omega)]
        congr 2
        exact beq_eq_false_iff_ne.2 (by omega)
      · intro L hL; rw [bo_end n p (by omega), cut_nil] at hL; cases hL
/-- what starts tells -/
theorem starts_f (n : ByteArray) : ∃ l', Ev (fun k => name_starts.f k n) (l', (dec n).isSome) ∧ ∀ L, dec n = some L → l' = offs 0 L := by
  unfold dec
  by_cases h : 255 < n.size
  · rw [if_pos h]
    refine ⟨[], Ev.congr (f := fun _ => some ([], false)) (fun k => ?_) (Ev.now _), by intro L hL; cases hL⟩
    unfold name_starts.f; rw [if_pos (by omega)]
  · rw [if_neg h]
    obtain ⟨l', hE, hL⟩ := starts_ev n (by omega) (n.size + 64) 0 [] (by omega) (by simp) (by omega)
    refine ⟨l', Ev.congr (fun k => ?_) hE, fun L h => by simpa using hL L (by simpa using h)⟩
    unfold name_starts.f; rw [if_neg (by omega)]; rfl
theorem check_f (n : ByteArray) : Ev (fun k => name_Check.f k n) (if (dec n).isSome then 0 else 11) := by
  obtain ⟨l', hE, _⟩ := starts_f n
  refine Ev.bind (f := fun _ (b : List Int × Bool) => if b.2 = true then some (0 : Int) else some 11) hE (Ev.congr (f := fun _ => some (if (dec n).isSome then (0 : Int) else 11)) (fun k => ?_) (Ev.now _))
  dsimp only
  cases (dec n).isSome <;> rfl
theorem count_f (n : ByteArray) : Ev (fun k => name_Count.f k n) (((dec n).getD []).length : Int) := by
  obtain ⟨l', hE, hL⟩ := starts_f n
  refine Ev.bind (f := fun _ (b : List Int × Bool) => if b.2 = true then some (b.1.length : Int) else some 0) hE (Ev.congr (f := fun _ => some (((dec n).getD []).length : Int)) (fun k => ?_) (Ev.now _))
  dsimp only
  cases h : dec n with
  | none => rfl
  | some L => rw [hL L h, offs_length]; rfl
theorem label_at {n : ByteArray} {L1 L2 : List ByteArray} {s : ByteArray} (h : dec n = some (L1 ++ s :: L2)) :
    bt n ((glue L1).length : Int) = s.size ∧ (glue L1).length + 1 + s.size + 1 ≤ n.size ∧ n.extract ((glue L1).length + 1) ((glue L1).length + 1 + s.size) = s := by
  obtain ⟨h1, h2, h3⟩ := dec_some h
  have hsz := dec_size h
  have e : bytesOf n = glue L1 ++ ((s.size : Int) :: (bytesOf s ++ (glue L2 ++ [0]))) := by rw [h2]; simp [glue, lab]
  have hlen : (glue (L1 ++ s :: L2)).length = (glue L1).length + (s.size + 1) + (glue L2).length := by simp [glue, lab, bytesOf_length]; omega
  refine ⟨?_, by omega, ?_⟩
  · rw [← rd_bytesOf]
    simp [rd, e, List.getD_eq_getElem?_getD]
  · refine bytes_inj ?_
    rw [bytes_extract, e]
    rw [List.drop_append]
    have e1 : (glue L1).drop ((glue L1).length + 1) = [] := List.drop_of_length_le (by omega)
    rw [e1, List.nil_append, show (glue L1).length + 1 - (glue L1).length = 1 from by omega, List.drop_succ_cons, List.drop_zero]
    rw [List.take_append_of_le_length (by rw [bytesOf_length]; omega), List.take_of_length_le (by rw [bytesOf_length]; omega)]
theorem labels_length {n : ByteArray} {L : List ByteArray} (h : dec n = some L) : L.length ≤ 127 := by
  have h1 := dec_size h
  have h2 := (dec_some h).1
  have h3 := (dec_some h).2.2
  have : ∀ (L : List ByteArray), L.any badLab = false → L.length * 2 ≤ (glue L).length := by
    intro L
    induction L with
    | nil => intro _; simp
    | cons s L ih =>
      intro h
      rw [List.any_cons, Bool.or_eq_false_iff] at h
      have hs := bad_false h.1
      have := ih h.2
      simp [glue, lab, bytesOf_length] at this ⊢; omega
  have := this L h3
  omega
theorem labels_l0 {n : ByteArray} {L : List ByteArray} (h : dec n = some L) : ∀ (L2 L1 : List ByteArray), L = L1 ++ L2 →
    Ev (fun k => name_Labels.l0 k n L1 (offs 0 L) (L.length : Int) (L1.length : Int)) L := by
  have hm := labels_length h
  intro L2
  induction L2 with
  | nil =>
    intro L1 e
    rw [List.append_nil] at e
    subst e
    refine Ev.step (f := fun _ => some L) (fun k => ?_) (Ev.now _)
    simp only [name_Labels.l0]
    rw [if_neg (by omega)]
  | cons s L2 ih =>
    intro L1 e
    have hn := (dec_some h).1
    subst e
    obtain ⟨h1, h2, h3⟩ := label_at h
    have ho := offs_at L1 0 s L2
    rw [Nat.zero_add] at ho
    have hr : rd (offs 0 (L1 ++ s :: L2)) (L1.length : Int) = ((glue L1).length : Int) := by simp [rd, List.getD_eq_getElem?_getD, ho]
    have hlen : (L1 ++ s :: L2).length = L1.length + 1 + L2.length := by simp; omega
    have ih' := ih (L1 ++ [s]) (by simp)
    refine Ev.step (fun k => ?_) ih'
    simp only [name_Labels.l0]
    rw [if_pos (by omega), if_pos (by omega), if_pos (by rw [offs_length]; omega), hr, h1]
    rw [w64 (n := ((glue L1).length : Int) + 1) (by omega) (by omega), w64 (n := (s.size : Int)) (by omega) (by omega), w64 (n := ((glue L1).length : Int) + 1 + (s.size : Int)) (by omega) (by omega), w64 (n := (L1.length : Int) + 1) (by omega) (by omega)]
    rw [if_pos (by omega), if_pos (by omega), if_pos (by omega), if_pos (by omega), if_pos (by omega), if_pos (by omega)]
    have e1 : (((glue L1).length : Int) + 1).toNat = (glue L1).length + 1 := by omega
    have e2 : (((glue L1).length : Int) + 1 + (s.size : Int)).toNat = (glue L1).length + 1 + s.size := by omega
    rw [e1, e2, h3]
    simp
theorem labels_f (n : ByteArray) : Ev (fun k => name_Labels.f k n) ((dec n).getD []) := by
  obtain ⟨l', hE, hL⟩ := starts_f n
  refine Ev.bind (f := fun k (b : List Int × Bool) => if b.2 = true then name_Labels.l0 k n [] b.1 (b.1.length : Int) 0 else some []) hE ?_
  cases h : dec n with
  | none => exact Ev.now _
  | some L =>
    have := labels_l0 h L [] rfl
    rw [hL L h, offs_length]
    exact this
/-! ### Split -/
theorem split_l0 (d : Nat) : ∀ (s : ByteArray) (acc : List ByteArray), s.size ≤ d → s.size ≤ 255 → acc.length ≤ 255 - s.size →
    ∃ l', Ev (fun k => hearsayref01_Split.l0 k acc s) (l', (cut (bytesOf s)).isSome) ∧ ∀ L, cut (bytesOf s) = some L → l' = acc ++ L := by
  induction d with
  | zero =>
    intro s acc hd h1 ha
    have e : bytesOf s = [] := List.length_eq_zero_iff.1 (by rw [bytesOf_length]; omega)
    rw [e, cut_nil]
    refine ⟨[], Ev.step (f := fun _ => some ([], false)) (fun k => ?_) (Ev.now _), by intro L h; cases h⟩
    simp only [hearsayref01_Split.l0]
    rw [if_neg (by omega)]
  | succ d ih =>
    intro s acc hd h1 ha
    by_cases h0 : s.size = 0
    · have e : bytesOf s = [] := List.length_eq_zero_iff.1 (by rw [bytesOf_length]; omega)
      rw [e, cut_nil]
      refine ⟨[], Ev.step (f := fun _ => some ([], false)) (fun k => ?_) (Ev.now _), by intro L h; cases h⟩
      simp only [hearsayref01_Split.l0]
      rw [if_neg (by omega)]
    · have hb := bt_range s 0
      have e := bo_drop s 0 (by omega)
      rw [List.drop_zero] at e
      have e0 : ((0 : Nat) : Int) = 0 := rfl
      rw [e0] at e
      rw [e, cut_cons]
      have hlen : ((bytesOf s).drop (0 + 1)).length = s.size - 1 := by simp [bytesOf_length]
      by_cases hc : bt s 0 = 0
      · rw [if_pos hc]
        refine ⟨acc, Ev.step (f := fun _ => some (acc, _)) (fun k => ?_) (Ev.now _), ?_⟩
        · simp only [hearsayref01_Split.l0]
          rw [if_pos (by omega), if_pos (by omega), w64 (by omega) (by omega), if_pos hc]
          congr 2
          by_cases hl : s.size = 1
          · have : (bytesOf s).drop (0 + 1) = [] := List.length_eq_zero_iff.1 (by omega)
            rw [if_pos this]; exact beq_iff_eq.2 (by omega)
          · have : (bytesOf s).drop (0 + 1) ≠ [] := fun h => by rw [h] at hlen; simp at hlen; omega
            rw [if_neg this]; exact beq_eq_false_iff_ne.2 (by omega)
        · intro L hL
          split at hL
          · cases hL; simp
          · cases hL
      · rw [if_neg hc]
        by_cases h63 : 63 < bt s 0
        · rw [if_pos h63]
          refine ⟨[], Ev.step (f := fun _ => some ([], false)) (fun k => ?_) (Ev.now _), by intro L h; cases h⟩
          simp only [hearsayref01_Split.l0]
          rw [if_pos (by omega), if_pos (by omega), w64 (by omega) (by omega), if_neg hc, if_pos (by omega)]
        · rw [if_neg h63, hlen]
          by_cases hs : s.size - 1 < (bt s 0).toNat
          · rw [if_pos hs]
            refine ⟨[], Ev.step (f := fun _ => some ([], false)) (fun k => ?_) (Ev.now _), by intro L h; cases h⟩
            simp only [hearsayref01_Split.l0]
            rw [if_pos (by omega), if_pos (by omega), w64 (n := bt s 0) (by omega) (by omega), if_neg hc, if_neg (by omega), w64 (by omega) (by omega), if_pos (by omega)]
          · rw [if_neg hs]
            have hlab : s.extract 1 (bt s 0 + 1).toNat = strOfNums (((bytesOf s).drop (0 + 1)).take (bt s 0).toNat) := by
              refine bytes_inj ?_
              rw [bytes_extract, bytes_strOfNums _ (fun x hx => bo_range s x (List.mem_of_mem_drop (List.mem_of_mem_take hx)))]
              congr 1; omega
            have hrest : bytesOf (s.extract (bt s 0 + 1).toNat s.size) = ((bytesOf s).drop (0 + 1)).drop (bt s 0).toNat := by
              rw [bytes_extract, List.drop_drop, List.take_of_length_le (by simp [bytesOf_length])]
              congr 1; omega
            have hsz : (s.extract (bt s 0 + 1).toNat s.size).size = s.size - (bt s 0 + 1).toNat := by simp
            obtain ⟨l', hE, hL⟩ := ih (s.extract (bt s 0 + 1).toNat s.size) (acc ++ [s.extract 1 (bt s 0 + 1).toNat]) (by omega) (by omega) (by simp; omega)
            rw [hrest] at hE hL
            refine ⟨l', ?_, ?_⟩
            · rw [Option.isSome_map]
              refine Ev.step (fun k => ?_) hE
              simp only [hearsayref01_Split.l0]
              rw [if_pos (by omega), if_pos (by omega), w64 (n := bt s 0) (by omega) (by omega), if_neg hc, if_neg (by omega), w64 (by omega) (by omega), if_neg (by omega), if_pos (by omega), if_pos (by omega), if_pos (by omega), if_pos (by omega)]
            · intro L h
              obtain ⟨L2, h2, rfl⟩ := Option.map_eq_some_iff.1 h
              rw [hL L2 h2, hlab]; simp
theorem split_f (n : ByteArray) : ∃ l', Ev (fun k => hearsayref01_Split.f k n) (l', (dec n).isSome) ∧ ∀ L, dec n = some L → l' = L := by
  unfold dec
  by_cases h : 255 < n.size
  · rw [if_pos h]
    refine ⟨[], Ev.congr (f := fun _ => some ([], false)) (fun k => ?_) (Ev.now _), by intro L hL; cases hL⟩
    unfold hearsayref01_Split.f; rw [if_pos (by omega)]
  · rw [if_neg h]
    obtain ⟨l', hE, hL⟩ := split_l0 n.size n [] (by omega) (by omega) (by simp)
    refine ⟨l', Ev.congr (fun k => ?_) hE, fun L h => by simpa using hL L h⟩
    unfold hearsayref01_Split.f; rw [if_neg (by omega)]
end Go.Proofs.Ytplnknhlgdoliaa.Print
end
section
/- name.Parse's closure 'piece', walked. -/
namespace Go.Proofs.Ytplnknhlgdoliaa.Print
set_option linter.unusedVariables false
set_option linter.unusedSimpArgs false
open Go.RowKit Go.Proofs.YtplnknhlgdoliaaW.PrintWords Go.Proofs.YtplnknhlgdoliaaW.PrintLast Go.Proofs.YtplnknhlgdoliaaW.PrintMore
theorem infoStr : (Try.prog.info? 9).map (fun i => (i.zero, i.size, i.bytes)) = some (some (.string ⟨#[]⟩), 1, 16) := by kernel_rfl
theorem Kd.R_ne' {α : Type} {d : Kd α} {e : Nat} {w : World} {base : Nat} {ok : Nat → Prop} {v : Value} {xs : List α} (h : d.R e w base ok v xs) {b : Nat} (hb : b < base) : some b ≠ v.ownBlock := fun h1 => by have := Kd.R_base h b h1.symm; omega
theorem below_to {A B : Nat} {w w' : World} (h : Below A w w') (hB : B ≤ A) : Below B w w' := ⟨h.os, h.tape, h.output, h.size, fun i hi => h.block i (Nat.lt_of_lt_of_le hi hB)⟩
/-- what the text of a piece means -/
def bytesP (t : ByteArray) : ByteArray × Int := match unesc (bytesOf t) with | some l => (strOfNums l, 0) | none => (⟨#[]⟩, 12)
theorem bytesP_f (t : ByteArray) (h : t.size < 140737488355328) : name_Bytes.f t = some (bytesP t) := by
  unfold name_Bytes.f bytesP
  rw [if_pos h]
  cases unesc (bytesOf t) <;> rfl
theorem unesc_len : ∀ (n : Nat) (l m : List Int), l.length ≤ n → unesc l = some m → m.length ≤ l.length
  | n, [], m, _, h => by simp [unesc] at h; subst h; simp
  | 0, c :: r, m, hn, h => by simp at hn
  | n + 1, c :: r, m, hn, h => by
    have hn' : r.length ≤ n := by simpa using hn
    by_cases hc : c = 92
    · subst hc
      match r, hn' with
      | [], _ => rw [unesc_last] at h; cases h
      | d :: r1, hn' =>
        by_cases hd : isDig d = false
        · rw [unesc_one _ _ hd] at h
          obtain ⟨m1, h1, rfl⟩ := Option.map_eq_some_iff.1 h
          have := unesc_len n r1 m1 (by simp at hn'; omega) h1
          simp; omega
        · have hd' : isDig d = true := by simpa using hd
          match r1, hn' with
          | [], _ => rw [unesc_two _ _ hd' (by simp)] at h; cases h
          | [e], _ => rw [unesc_two _ _ hd' (by simp)] at h; cases h
          | e :: f :: r2, hn' =>
            rw [unesc_three _ _ _ _ hd'] at h
            split at h
            · split at h
              · cases h
              · obtain ⟨m1, h1, rfl⟩ := Option.map_eq_some_iff.1 h
                have := unesc_len n r2 m1 (by simp at hn'; omega) h1
                simp; omega
            · cases h
    · rw [unesc_plain _ _ hc] at h
      obtain ⟨m1, h1, rfl⟩ := Option.map_eq_some_iff.1 h
      have := unesc_len n r m1 hn' h1
      simp; omega
theorem bytesP_size {t s : ByteArray} {er : Int} (h : bytesP t = (s, er)) (ht : t.size ≤ 1099511627776) : s.size ≤ 1099511627776 := by
  unfold bytesP at h
  cases hu : unesc (bytesOf t) with
  | none => rw [hu] at h; cases h; exact Nat.zero_le _
  | some l =>
    rw [hu] at h
    cases h
    rw [strOfNums_size]
    have := unesc_len _ _ _ (Nat.le_refl _) hu
    rw [bytesOf_length] at this
    omega
def pieceP (t : ByteArray) (a b : Nat) : ByteArray × Int := let p := bytesP (t.extract a b); if p.2 = 0 ∧ (p.1.size = 0 ∨ 63 < p.1.size) then (p.1, 10) else p
/-- Parse's boxes: the text, where the piece begins, the labels -/
structure PState (W : World) (tb fb lb base : Nat) (t : ByteArray) (frm : Nat) (L : List ByteArray) : Prop where
  tbox : W.heap[tb]? = some (.cells #[.string t] 9 (0, 0))
  fbox : W.heap[fb]? = some (.cells #[.int .i64 (frm : Int)] 3 (0, 0))
  lbox : ∃ vl, W.heap[lb]? = some (.cells #[vl] 23 (0, 0)) ∧ Kd.R Kd.string 9 W base (fun k_ => base ≤ k_) vl L
  tb_lt : tb < base
  fb_lt : fb < base
  lb_lt : lb < base
  size : base ≤ W.heap.size
theorem PState.below {W W' : World} {tb fb lb base : Nat} {t : ByteArray} {frm : Nat} {L : List ByteArray} (h : PState W tb fb lb base t frm L) (hb : Below W.heap.size W W') : PState W' tb fb lb base t frm L := by
  obtain ⟨vl, h1, h2⟩ := h.lbox
  exact ⟨blk_below h.tbox hb, blk_below h.fbox hb, ⟨vl, blk_below h1 hb, Kd.R_below h2 hb⟩, h.tb_lt, h.fb_lt, h.lb_lt, Nat.le_trans h.size hb.size⟩
theorem PState.after {w0 W : World} {tb fb lb base : Nat} {t : ByteArray} {frm : Nat} {vl v : Value} {L : List ByteArray} {k : Int} {upt : Nat} (hk : k = (upt : Int)) (hT : W.heap[tb]? = some (.cells #[.string t] 9 (0, 0))) (hF : W.heap[fb]? = some (.cells #[.int .i64 (frm : Int)] 3 (0, 0))) (hL : W.heap[lb]? = some (.cells #[vl] 23 (0, 0)))
    (hR : Kd.R Kd.string 9 W base (fun k_ => base ≤ k_) v L) (htb : tb < base) (hfb : fb < base) (hlb : lb < base) (n1 : tb ≠ fb) (n2 : tb ≠ lb) (n3 : fb ≠ lb) (hb : Below base w0 W) (hs : base ≤ w0.heap.size) :
    PState ((W.setCell ⟨lb, 0, none⟩ v).setCell ⟨fb, 0, none⟩ (.int .i64 k)) tb fb lb base t upt L ∧ ∀ B, B ≤ tb → B ≤ fb → B ≤ lb → B ≤ base → Below B w0 ((W.setCell ⟨lb, 0, none⟩ v).setCell ⟨fb, 0, none⟩ (.int .i64 k)) := by
  subst hk
  have hsz : base ≤ W.heap.size := Nat.le_trans hs hb.size
  refine ⟨⟨?_, ?_, ⟨v, ?_, ?_⟩, htb, hfb, hlb, by simpa only [World.size_setCell] using hsz⟩, fun B h1 h2 h3 h4 => ((below_to hb h4).setCell h3 _).setCell h2 _⟩
  · exact blk_far (blk_far hT n2 _) n1 _
  · exact blk_set (blk_far hF n3 _) 0 _
  · exact blk_far (blk_set hL 0 v) (Ne.symm n3) _
  · exact Kd.R_far (Kd.R_far hR (fun k hk => by show k ≠ lb; omega) _) (fun k hk => by show k ≠ fb; omega) _
set_option maxHeartbeats 4000000 in
set_option maxRecDepth 100000 in
theorem piece_calls (t : ByteArray) (frm upt : Nat) (L : List ByteArray) (tb fb lb base : Nat) (w : World) (hS : PState w tb fb lb base t frm L) (hft : frm ≤ upt) (hto : upt ≤ t.size) (hsz : t.size ≤ 1099511627776) (hLl : L.length ≤ 1099511627776) (hne : tb ≠ fb ∧ tb ≠ lb ∧ fb ≠ lb) :
    Calls Try.prog 55 #[.int .i64 (upt : Int), .pointer (some ⟨tb, 0, none⟩), .pointer (some ⟨fb, 0, none⟩), .pointer (some ⟨lb, 0, none⟩)] w fun e w' =>
      e = .returned (.int .i64 (pieceP t frm upt).2) ∧ PState w' tb fb lb base t (upt + 1) (L ++ [(pieceP t frm upt).1]) ∧ ∀ B, B ≤ tb → B ≤ fb → B ≤ lb → B ≤ base → Below B w w' := by
  obtain ⟨hbox, hfbox, ⟨vl, hlbox, hR⟩, htb, hfb, hlb, hbs⟩ := hS
  obtain ⟨n1, n2, n3⟩ := hne
  have hext : (t.extract frm upt).size = upt - frm := by simp; omega
  obtain ⟨u, hu⟩ : ∃ u, t.extract frm upt = u := ⟨_, rfl⟩
  rw [hu] at hext
  obtain ⟨⟨s, er⟩, hp⟩ : ∃ p, bytesP u = p := ⟨_, rfl⟩
  have hbf := bytesP_f u (by omega)
  rw [hp] at hbf
  have hP : pieceP t frm upt = if er = 0 ∧ (s.size = 0 ∨ 63 < s.size) then (s, 10) else (s, er) := by unfold pieceP; rw [hu, hp]
  have hsl : s.size ≤ 1099511627776 := bytesP_size hp (by omega)
  have HBF := Aside0.mk hbf
  have HP := Aside0.mk hP
  have HT := Aside0.mk hbox
  have HF := Aside0.mk hfbox
  have HL := Aside0.mk hlbox
  have HR := Aside0.mk hR
  have ct : w.cell? ⟨tb, 0, none⟩ = some (.string t) := (blk_cell hbox 0).trans rfl
  have cf : w.cell? ⟨fb, 0, none⟩ = some (.int .i64 (frm : Int)) := (blk_cell hfbox 0).trans rfl
  replace htb := Aside0.mk htb
  replace hfb := Aside0.mk hfb
  replace hlb := Aside0.mk hlb
  have hbs0 := Aside0.mk hbs
  replace hbs := Aside0.mk hbs
  clear hbf hP hbox hfbox hlbox hR hp
  have h0 : (0 : Int) ≤ (frm : Int) := by omega
  have h1 : (frm : Int) ≤ (upt : Int) := by omega
  have h2 : (upt : Int) ≤ (t.size : Int) := by omega
  have hu' := Aside0.mk hu
  by_cases hz : er = 0
  · by_cases hs0 : s.size = 0
    · have hsb := empty_true hs0
      have HP2 : Aside0 (pieceP t frm upt = (s, 10)) := ⟨by rw [HP.out, if_pos ⟨hz, Or.inl hs0⟩]⟩
      have hzb : (er == 0) = true := beq_iff_eq.2 hz
      clear hs0 hz
      clear hu
      go_enter Try.func55, Try.ntmps55
      go_wp2_with (first | (go_at_call 23; (rw [hu'.out]; (with_reducible refine (name_Bytes.calls u s er _ HBF.out).mono ?_); rintro e w1 ⟨rfl, hb1⟩; have HT1 := Aside0.mk (blk_below HT.out hb1); have HF1 := Aside0.mk (blk_below HF.out hb1); have HL1 := Aside0.mk (blk_below HL.out hb1); have HR1 := Aside0.mk (Kd.R_below HR.out hb1); have HB1 := Aside0.mk hb1; have hbs := Aside0.mk (Nat.le_trans hbs.out hb1.size); have HBb := Aside0.mk (below_to hb1 hbs0.out); have cl1 : w1.cell? ⟨lb, 0, none⟩ = some vl := (blk_cell HL1.out 0).trans rfl; clear hb1)) | ((with_reducible refine gate_builtin (b := .append) (xs := #[.tmp 27, .tmp 29]) rfl ?_); at_builtin; refine Kd.R_append Kd.string (w0 := w) base rfl (.tmp 27) (.tmp 29) 23 9 (.string ⟨#[]⟩) 16 rfl Try.underlying23 infoStr rfl (by decide) (by omega) _ L s [.string s] (fun k_ => base ≤ k_) (fun _ => False) rfl rfl ?aP (fun _ hk => hk.elim) ?aF ?aO ?aB ?aS ?aL ?_; (case aP => exact rfl); (case aB => exact (by repeat (first | (with_reducible first | exact HBb.out | apply below_alloc | apply pw_below_drewN | apply below_drew1) | exact HBb.out))); (case aF => exact (fun k_ hk_ => Nat.le_trans hbs.out hk_)); (case aO => exact (by (with_reducible repeat (first | apply Kd.R_alloc | apply Kd.R_drewN | apply Kd.R_drew)); exact HR1.out)); (case aS => exact hbs.out); (case aL => exact (by have := hLl; omega)); intro v1_ w1_ ho hb hg hat; obtain ⟨A3, c3, rfl, hle3, hC3⟩ := Kd.R_reads ho; clear hle3 hC3; have hl3 := blk_grown HL1.out hg (Kd.R_ne' HR1.out hlb.out); have ht3 := blk_grown HT1.out hg (Kd.R_ne' HR1.out htb.out); have hf3 := blk_grown HF1.out hg (Kd.R_ne' HR1.out hfb.out); have HL3 := Aside0.mk hl3; have HT3 := Aside0.mk ht3; have HF3 := Aside0.mk hf3; have cl3 : w1_.cell? ⟨lb, 0, none⟩ = some vl := (blk_cell hl3 0).trans rfl; have fl3 := blk_frozen hl3 0; have cf3 : w1_.cell? ⟨fb, 0, none⟩ = some (.int .i64 (frm : Int)) := (blk_cell hf3 0).trans rfl; have ff3 := blk_frozen hf3 0; clear hl3 ht3 hf3; have n0_ := Aside0.mk hb; have n1_ := Aside0.mk ho; clear HBb HR1; have HBb := n0_; have HR1 := n1_; clear n0_ n1_; clear ho hb hg hat))
      go_ret
      rw [HP2.out]
      have hR9 := HR1.out
      rw [show (L ++ [s]).length = L.length + 1 by simp] at hR9
      exact ⟨rfl, PState.after (by first | rfl | omega) HT3.out HF3.out HL3.out hR9 htb.out hfb.out hlb.out n1 n2 n3 HBb.out hbs0.out⟩
    · have hsb := empty_false hs0
      by_cases h63 : 63 < s.size
      · have HP2 : Aside0 (pieceP t frm upt = (s, 10)) := ⟨by rw [HP.out, if_pos ⟨hz, Or.inr h63⟩]⟩
        have hzb : (er == 0) = true := beq_iff_eq.2 hz
        clear hs0 hz
        clear hu
        go_enter Try.func55, Try.ntmps55
        go_wp2_with (first | (go_at_call 23; (rw [hu'.out]; (with_reducible refine (name_Bytes.calls u s er _ HBF.out).mono ?_); rintro e w1 ⟨rfl, hb1⟩; have HT1 := Aside0.mk (blk_below HT.out hb1); have HF1 := Aside0.mk (blk_below HF.out hb1); have HL1 := Aside0.mk (blk_below HL.out hb1); have HR1 := Aside0.mk (Kd.R_below HR.out hb1); have HB1 := Aside0.mk hb1; have hbs := Aside0.mk (Nat.le_trans hbs.out hb1.size); have HBb := Aside0.mk (below_to hb1 hbs0.out); have cl1 : w1.cell? ⟨lb, 0, none⟩ = some vl := (blk_cell HL1.out 0).trans rfl; clear hb1)) | ((with_reducible refine gate_builtin (b := .append) (xs := #[.tmp 27, .tmp 29]) rfl ?_); at_builtin; refine Kd.R_append Kd.string (w0 := w) base rfl (.tmp 27) (.tmp 29) 23 9 (.string ⟨#[]⟩) 16 rfl Try.underlying23 infoStr rfl (by decide) (by omega) _ L s [.string s] (fun k_ => base ≤ k_) (fun _ => False) rfl rfl ?aP (fun _ hk => hk.elim) ?aF ?aO ?aB ?aS ?aL ?_; (case aP => exact rfl); (case aB => exact (by repeat (first | (with_reducible first | exact HBb.out | apply below_alloc | apply pw_below_drewN | apply below_drew1) | exact HBb.out))); (case aF => exact (fun k_ hk_ => Nat.le_trans hbs.out hk_)); (case aO => exact (by (with_reducible repeat (first | apply Kd.R_alloc | apply Kd.R_drewN | apply Kd.R_drew)); exact HR1.out)); (case aS => exact hbs.out); (case aL => exact (by have := hLl; omega)); intro v1_ w1_ ho hb hg hat; obtain ⟨A3, c3, rfl, hle3, hC3⟩ := Kd.R_reads ho; clear hle3 hC3; have hl3 := blk_grown HL1.out hg (Kd.R_ne' HR1.out hlb.out); have ht3 := blk_grown HT1.out hg (Kd.R_ne' HR1.out htb.out); have hf3 := blk_grown HF1.out hg (Kd.R_ne' HR1.out hfb.out); have HL3 := Aside0.mk hl3; have HT3 := Aside0.mk ht3; have HF3 := Aside0.mk hf3; have cl3 : w1_.cell? ⟨lb, 0, none⟩ = some vl := (blk_cell hl3 0).trans rfl; have fl3 := blk_frozen hl3 0; have cf3 : w1_.cell? ⟨fb, 0, none⟩ = some (.int .i64 (frm : Int)) := (blk_cell hf3 0).trans rfl; have ff3 := blk_frozen hf3 0; clear hl3 ht3 hf3; have n0_ := Aside0.mk hb; have n1_ := Aside0.mk ho; clear HBb HR1; have HBb := n0_; have HR1 := n1_; clear n0_ n1_; clear ho hb hg hat))
        go_ret
        rw [HP2.out]
        have hR9 := HR1.out
        rw [show (L ++ [s]).length = L.length + 1 by simp] at hR9
        exact ⟨rfl, PState.after (by first | rfl | omega) HT3.out HF3.out HL3.out hR9 htb.out hfb.out hlb.out n1 n2 n3 HBb.out hbs0.out⟩
      · have HP2 : Aside0 (pieceP t frm upt = (s, er)) := ⟨by rw [HP.out, if_neg (by omega)]⟩
        have hzb : (er == 0) = true := beq_iff_eq.2 hz
        clear hs0 hz
        clear hu
        go_enter Try.func55, Try.ntmps55
        go_wp2_with (first | (go_at_call 23; (rw [hu'.out]; (with_reducible refine (name_Bytes.calls u s er _ HBF.out).mono ?_); rintro e w1 ⟨rfl, hb1⟩; have HT1 := Aside0.mk (blk_below HT.out hb1); have HF1 := Aside0.mk (blk_below HF.out hb1); have HL1 := Aside0.mk (blk_below HL.out hb1); have HR1 := Aside0.mk (Kd.R_below HR.out hb1); have HB1 := Aside0.mk hb1; have hbs := Aside0.mk (Nat.le_trans hbs.out hb1.size); have HBb := Aside0.mk (below_to hb1 hbs0.out); have cl1 : w1.cell? ⟨lb, 0, none⟩ = some vl := (blk_cell HL1.out 0).trans rfl; clear hb1)) | ((with_reducible refine gate_builtin (b := .append) (xs := #[.tmp 27, .tmp 29]) rfl ?_); at_builtin; refine Kd.R_append Kd.string (w0 := w) base rfl (.tmp 27) (.tmp 29) 23 9 (.string ⟨#[]⟩) 16 rfl Try.underlying23 infoStr rfl (by decide) (by omega) _ L s [.string s] (fun k_ => base ≤ k_) (fun _ => False) rfl rfl ?aP (fun _ hk => hk.elim) ?aF ?aO ?aB ?aS ?aL ?_; (case aP => exact rfl); (case aB => exact (by repeat (first | (with_reducible first | exact HBb.out | apply below_alloc | apply pw_below_drewN | apply below_drew1) | exact HBb.out))); (case aF => exact (fun k_ hk_ => Nat.le_trans hbs.out hk_)); (case aO => exact (by (with_reducible repeat (first | apply Kd.R_alloc | apply Kd.R_drewN | apply Kd.R_drew)); exact HR1.out)); (case aS => exact hbs.out); (case aL => exact (by have := hLl; omega)); intro v1_ w1_ ho hb hg hat; obtain ⟨A3, c3, rfl, hle3, hC3⟩ := Kd.R_reads ho; clear hle3 hC3; have hl3 := blk_grown HL1.out hg (Kd.R_ne' HR1.out hlb.out); have ht3 := blk_grown HT1.out hg (Kd.R_ne' HR1.out htb.out); have hf3 := blk_grown HF1.out hg (Kd.R_ne' HR1.out hfb.out); have HL3 := Aside0.mk hl3; have HT3 := Aside0.mk ht3; have HF3 := Aside0.mk hf3; have cl3 : w1_.cell? ⟨lb, 0, none⟩ = some vl := (blk_cell hl3 0).trans rfl; have fl3 := blk_frozen hl3 0; have cf3 : w1_.cell? ⟨fb, 0, none⟩ = some (.int .i64 (frm : Int)) := (blk_cell hf3 0).trans rfl; have ff3 := blk_frozen hf3 0; clear hl3 ht3 hf3; have n0_ := Aside0.mk hb; have n1_ := Aside0.mk ho; clear HBb HR1; have HBb := n0_; have HR1 := n1_; clear n0_ n1_; clear ho hb hg hat))
        go_ret
        rw [HP2.out]
        have hR9 := HR1.out
        rw [show (L ++ [s]).length = L.length + 1 by simp] at hR9
        exact ⟨rfl, PState.after (by first | rfl | omega) HT3.out HF3.out HL3.out hR9 htb.out hfb.out hlb.out n1 n2 n3 HBb.out hbs0.out⟩
  · have HP2 : Aside0 (pieceP t frm upt = (s, er)) := ⟨by rw [HP.out, if_neg (fun h => hz h.1)]⟩
    have hzb : (er == 0) = false := beq_eq_false_iff_ne.2 hz
    clear hz
    clear hu
    go_enter Try.func55, Try.ntmps55
    go_wp2_with (first | (go_at_call 23; (rw [hu'.out]; (with_reducible refine (name_Bytes.calls u s er _ HBF.out).mono ?_); rintro e w1 ⟨rfl, hb1⟩; have HT1 := Aside0.mk (blk_below HT.out hb1); have HF1 := Aside0.mk (blk_below HF.out hb1); have HL1 := Aside0.mk (blk_below HL.out hb1); have HR1 := Aside0.mk (Kd.R_below HR.out hb1); have HB1 := Aside0.mk hb1; have hbs := Aside0.mk (Nat.le_trans hbs.out hb1.size); have HBb := Aside0.mk (below_to hb1 hbs0.out); have cl1 : w1.cell? ⟨lb, 0, none⟩ = some vl := (blk_cell HL1.out 0).trans rfl; clear hb1)) | ((with_reducible refine gate_builtin (b := .append) (xs := #[.tmp 27, .tmp 29]) rfl ?_); at_builtin; refine Kd.R_append Kd.string (w0 := w) base rfl (.tmp 27) (.tmp 29) 23 9 (.string ⟨#[]⟩) 16 rfl Try.underlying23 infoStr rfl (by decide) (by omega) _ L s [.string s] (fun k_ => base ≤ k_) (fun _ => False) rfl rfl ?aP (fun _ hk => hk.elim) ?aF ?aO ?aB ?aS ?aL ?_; (case aP => exact rfl); (case aB => exact (by repeat (first | (with_reducible first | exact HBb.out | apply below_alloc | apply pw_below_drewN | apply below_drew1) | exact HBb.out))); (case aF => exact (fun k_ hk_ => Nat.le_trans hbs.out hk_)); (case aO => exact (by (with_reducible repeat (first | apply Kd.R_alloc | apply Kd.R_drewN | apply Kd.R_drew)); exact HR1.out)); (case aS => exact hbs.out); (case aL => exact (by have := hLl; omega)); intro v1_ w1_ ho hb hg hat; obtain ⟨A3, c3, rfl, hle3, hC3⟩ := Kd.R_reads ho; clear hle3 hC3; have hl3 := blk_grown HL1.out hg (Kd.R_ne' HR1.out hlb.out); have ht3 := blk_grown HT1.out hg (Kd.R_ne' HR1.out htb.out); have hf3 := blk_grown HF1.out hg (Kd.R_ne' HR1.out hfb.out); have HL3 := Aside0.mk hl3; have HT3 := Aside0.mk ht3; have HF3 := Aside0.mk hf3; have cl3 : w1_.cell? ⟨lb, 0, none⟩ = some vl := (blk_cell hl3 0).trans rfl; have fl3 := blk_frozen hl3 0; have cf3 : w1_.cell? ⟨fb, 0, none⟩ = some (.int .i64 (frm : Int)) := (blk_cell hf3 0).trans rfl; have ff3 := blk_frozen hf3 0; clear hl3 ht3 hf3; have n0_ := Aside0.mk hb; have n1_ := Aside0.mk ho; clear HBb HR1; have HBb := n0_; have HR1 := n1_; clear n0_ n1_; clear ho hb hg hat))
    go_ret
    rw [HP2.out]
    have hR9 := HR1.out
    rw [show (L ++ [s]).length = L.length + 1 by simp] at hR9
    exact ⟨rfl, PState.after (by first | rfl | omega) HT3.out HF3.out HL3.out hR9 htb.out hfb.out hlb.out n1 n2 n3 HBb.out hbs0.out⟩
end Go.Proofs.Ytplnknhlgdoliaa.Print
end
section
/- name.Parse, walked: a text's name. -/
namespace Go.Proofs.Ytplnknhlgdoliaa.Print
set_option linter.unusedVariables false
set_option linter.unusedSimpArgs false
open Go.RowKit Go.Proofs.YtplnknhlgdoliaaW.PrintWords Go.Proofs.YtplnknhlgdoliaaW.PrintLast Go.Proofs.YtplnknhlgdoliaaW.PrintMore
/-- the pieces of a text that end with a dot, from byte i on: an error, where the last piece begins, the labels -/
def scanL (t : ByteArray) : List Int → Nat → Nat → List ByteArray → Int × Nat × List ByteArray
  | [], _, frm, L => (0, frm, L)
  | c :: r, i, frm, L => if c = 92 then (match r with | [] => (0, frm, L) | _ :: r2 => scanL t r2 (i + 2) frm L)
    else if c = 46 then (if (pieceP t frm i).2 = 0 then scanL t r (i + 1) (i + 1) (L ++ [(pieceP t frm i).1]) else ((pieceP t frm i).2, frm, L))
    else scanL t r (i + 1) frm L
def scan (t : ByteArray) (i frm : Nat) (L : List ByteArray) : Int × Nat × List ByteArray := scanL t ((bytesOf t).drop i) i frm L
theorem scan_end (t : ByteArray) (i frm : Nat) (L : List ByteArray) (h : ¬ i < t.size) : scan t i frm L = (0, frm, L) := by
  unfold scan; rw [bo_end t i (by omega)]; rfl
theorem scan_esc (t : ByteArray) (i frm : Nat) (L : List ByteArray) (h : i < t.size) (hc : bt t (i : Int) = 92) : scan t i frm L = scan t (i + 2) frm L := by
  unfold scan
  rw [bo_drop t i h, hc]
  by_cases h2 : i + 1 < t.size
  · rw [bo_drop t (i + 1) h2]; simp [scanL]
  · rw [bo_end t (i + 1) (by omega), bo_end t (i + 2) (by omega)]; simp [scanL]
theorem scan_dot (t : ByteArray) (i frm : Nat) (L : List ByteArray) (h : i < t.size) (hc : bt t (i : Int) = 46) : scan t i frm L = if (pieceP t frm i).2 = 0 then scan t (i + 1) (i + 1) (L ++ [(pieceP t frm i).1]) else ((pieceP t frm i).2, frm, L) := by
  unfold scan
  rw [bo_drop t i h, hc, scanL.eq_def]
  simp
theorem scan_plain (t : ByteArray) (i frm : Nat) (L : List ByteArray) (h : i < t.size) (hc : bt t (i : Int) ≠ 92) (hd : bt t (i : Int) ≠ 46) : scan t i frm L = scan t (i + 1) frm L := by
  unfold scan
  rw [bo_drop t i h, scanL.eq_def]; simp only []; rw [if_neg hc, if_neg hd]
def parseP (t o : ByteArray) : ByteArray × Int :=
  match dec o with
  | none => (⟨#[]⟩, 11)
  | some B => if t.toList = [46] then (⟨#[0]⟩, 0) else
    let s := scan t 0 0 []
    if s.1 ≠ 0 then (⟨#[]⟩, s.1) else
    if s.2.1 < t.size ∨ s.2.1 = 0 then
      let p := pieceP t s.2.1 t.size
      if p.2 ≠ 0 then (⟨#[]⟩, p.2) else (name_Of.f (s.2.2 ++ [p.1] ++ B)).getD (⟨#[]⟩, 0)
    else (name_Of.f s.2.2).getD (⟨#[]⟩, 0)
theorem name_Of.some_ (l : List ByteArray) : name_Of.f l = some ((name_Of.f l).getD (⟨#[]⟩, 0)) := by
  unfold name_Of.f
  split
  · rfl
  · split <;> rfl
def name_Parse.f (t o : ByteArray) : Option (ByteArray × Int) := if t.size ≤ 1099511627775 then some (parseP t o) else none
def ParseInv (t : ByteArray) (k frm : Nat) (L : List ByteArray) : Prop := frm ≤ k ∧ frm ≤ t.size ∧ k ≤ t.size + 1 ∧ L.length ≤ frm ∧ scan t k frm L = scan t 0 0 []
theorem parse0 (t : ByteArray) : ParseInv t 0 0 [] := ⟨Nat.le_refl _, Nat.zero_le _, by omega, Nat.le_refl _, rfl⟩
theorem parse_esc {t : ByteArray} {k frm : Nat} {L : List ByteArray} (h : ParseInv t k frm L) (hk : k < t.size) (hc : bt t (k : Int) = 92) : ParseInv t (k + 2) frm L := by
  obtain ⟨h1, h2, h3, h4, h5⟩ := h
  exact ⟨by omega, h2, by omega, h4, by rw [← h5, scan_esc t k frm L hk hc]⟩
theorem parse_dot {t : ByteArray} {k frm : Nat} {L : List ByteArray} {s : ByteArray} (h : ParseInv t k frm L) (hk : k < t.size) (hc : bt t (k : Int) = 46) (hp : pieceP t frm k = (s, 0)) : ParseInv t (k + 1) (k + 1) (L ++ [s]) := by
  obtain ⟨h1, h2, h3, h4, h5⟩ := h
  exact ⟨by omega, by omega, by omega, by rw [List.length_append, List.length_singleton]; omega, by rw [← h5, scan_dot t k frm L hk hc, hp, if_pos rfl]⟩
theorem parse_plain {t : ByteArray} {k frm : Nat} {L : List ByteArray} (h : ParseInv t k frm L) (hk : k < t.size) (hc : bt t (k : Int) ≠ 92) (hd : bt t (k : Int) ≠ 46) : ParseInv t (k + 1) frm L := by
  obtain ⟨h1, h2, h3, h4, h5⟩ := h
  exact ⟨by omega, h2, by omega, h4, by rw [← h5, scan_plain t k frm L hk hc hd]⟩
theorem parse_of {o t : ByteArray} {B : List ByteArray} (ho : dec o = some B) (ht : (t.toList == [46]) = false) : parseP t o = if (scan t 0 0 []).1 ≠ 0 then (⟨#[]⟩, (scan t 0 0 []).1) else
    if (scan t 0 0 []).2.1 < t.size ∨ (scan t 0 0 []).2.1 = 0 then
      if (pieceP t (scan t 0 0 []).2.1 t.size).2 ≠ 0 then (⟨#[]⟩, (pieceP t (scan t 0 0 []).2.1 t.size).2) else (name_Of.f ((scan t 0 0 []).2.2 ++ [(pieceP t (scan t 0 0 []).2.1 t.size).1] ++ B)).getD (⟨#[]⟩, 0)
    else (name_Of.f (scan t 0 0 []).2.2).getD (⟨#[]⟩, 0) := by
  unfold parseP
  rw [ho]
  simp only []
  rw [if_neg (by simpa using ht)]
set_option maxHeartbeats 4000000 in
set_option maxRecDepth 100000 in
theorem name_Parse.calls (t o : ByteArray) (r1 : ByteArray) (r2 : Int) (w : World) (h : name_Parse.f t o = some (r1, r2)) :
    Calls Try.prog 27 #[.string t, .string o] w fun e w' => e = .returned (.tuple #[.string r1, .int .i64 r2]) ∧ Below w.heap.size w w' := by
  unfold name_Parse.f at h
  by_cases hsz : t.size ≤ 1099511627775
  case neg => rw [if_neg hsz] at h; cases h
  rw [if_pos hsz] at h
  simp only [Option.some.injEq] at h
  obtain ⟨kc, hkc⟩ := (check_f o).rounds
  have HB0 := Aside0.mk (below_alloc (Below.refl w.heap.size w) (.cells #[.string t] 9 (0, 0)))
  have HT0 := Aside0.mk (blk_new w (.cells #[.string t] 9 (0, 0)))
  cases hd : dec o with
  | none =>
    rw [hd] at hkc
    have h2 : parseP t o = (⟨#[]⟩, 11) := by unfold parseP; rw [hd]
    rw [h2] at h
    cases h
    have hkc' : name_Check.f kc o = some 11 := hkc
    have HKC := Aside0.mk hkc'
    clear hkc hkc' hd h2
    go_enter Try.func27, Try.ntmps27
    go_wp2_with (first | (go_at_call 14; (with_reducible refine (name_Check.calls kc o 11 _ HKC.out).mono ?_); rintro e w1 ⟨rfl, hb1⟩; have HB1 := Aside0.mk (below_then HB0.out (by simp) hb1); clear hb1))
    go_ret2
    exact ⟨rfl, HB1.out⟩
  | some B =>
    rw [hd] at hkc
    have hkc' : name_Check.f kc o = some 0 := hkc
    have HKC := Aside0.mk hkc'
    clear hkc hkc'
    by_cases ht : (t.toList == [46]) = true
    · have h2 : parseP t o = (⟨#[0]⟩, 0) := by unfold parseP; rw [hd]; simp only []; rw [if_pos (by simpa using ht)]
      rw [h2] at h
      cases h
      clear h2 hd
      go_enter Try.func27, Try.ntmps27
      go_wp2_with (first | (go_at_call 14; (with_reducible refine (name_Check.calls kc o 0 _ HKC.out).mono ?_); rintro e w1 ⟨rfl, hb1⟩; have HB1 := Aside0.mk (below_then HB0.out (by simp) hb1); have ct1 : w1.cell? ⟨w.heap.size, 0, none⟩ = some (.string t) := (blk_cell (blk_below HT0.out hb1) 0).trans rfl; clear hb1))
      go_ret2
      exact ⟨rfl, HB1.out⟩
    · replace ht : (t.toList == [46]) = false := by simpa using ht
      rw [parse_of hd ht] at h
      obtain ⟨kl, hkl⟩ := (labels_f o).rounds
      rw [hd, Option.getD_some] at hkl
      have hlB : B.length ≤ 127 := labels_length hd
      have HKL := Aside0.mk hkl
      have HH := Aside0.mk h
      clear h hd hkl
      have hmf : ∀ (fn : Fn) (first cap : Array Value) (w : World), (Instr.makeFunc fn first cap).run Try.prog w = .ok (.func fn first cap) w := fun _ _ _ _ => rfl
      go_enter Try.func27, Try.ntmps27
      go_wp2_with (first | (go_at_call 14; (with_reducible refine (name_Check.calls kc o 0 _ HKC.out).mono ?_); rintro e w1 ⟨rfl, hb1⟩; have HB1 := Aside0.mk (below_then HB0.out (by simp) hb1); have HT1 := Aside0.mk (blk_below HT0.out hb1); have ct1 : w1.cell? ⟨w.heap.size, 0, none⟩ = some (.string t) := (blk_cell HT1.out 0).trans rfl; clear hb1))
      obtain ⟨tx, htx⟩ : ∃ x, x = w1.heap.size := ⟨_, rfl⟩
      have hw0 : w.heap.size + 1 ≤ w1.heap.size := by have := HB1.out.size; have := blk_lt HT1.out; omega
      have hw1 : w.heap.size ≤ w1.heap.size := by omega
      have hw1' : w.heap.size ≤ w1.heap.size + 1 := by omega
      have hw2 : w.heap.size ≤ w1.heap.size + 2 := by omega
      have hne : w.heap.size ≠ w1.heap.size + 1 ∧ w.heap.size ≠ w1.heap.size ∧ w1.heap.size + 1 ≠ w1.heap.size := by omega
      have hsz' : t.size ≤ 1099511627776 := by omega
      go_loopw [9] (fun i wr => ∃ (k frm : Nat) (L : List ByteArray), i = .int .i64 k ∧ Aside0 (ParseInv t k frm L) ∧ Aside0 (PState wr w.heap.size (w1.heap.size + 1) w1.heap.size (w1.heap.size + 2) t frm L) ∧ Aside0 (Below w.heap.size w wr)) (fun i _ => t.size - (intOf i).toNat)
      case atStart =>
        refine ⟨0, 0, [], rfl, ⟨parse0 t⟩, ⟨⟨?_, ?_, ⟨_, ?_, Kd.R_nil _ _ _ _ _⟩, by omega, by omega, by omega, by simp only [World.size_alloc]; omega⟩⟩, ⟨below_alloc (below_alloc HB1.out _) _⟩⟩
        · exact blk_alloc (blk_alloc HT1.out _) _
        · have := blk_new (w1.alloc (.cells #[.slice none 0 0] 23 (0, 0))) (.cells #[.int .i64 0] 3 (0, 0)); rw [World.size_alloc] at this; exact this
        · exact blk_alloc (blk_new w1 _) _
      case round =>
        clear HB0 HT0 HB1 HT1 ct1
        obtain ⟨k, frm, L, rfl, HI, HS, HB⟩ := hrel
        have ct : wr.cell? ⟨w.heap.size, 0, none⟩ = some (.string t) := (blk_cell HS.out.tbox 0).trans rfl
        have cf : wr.cell? ⟨w1.heap.size + 1, 0, none⟩ = some (.int .i64 (frm : Int)) := (blk_cell HS.out.fbox 0).trans rfl
        have hLl : L.length ≤ 1099511627776 := by have := HI.out; unfold ParseInv at this; omega
        have hk1 : k ≤ t.size + 1 := HI.out.2.2.1
        by_cases hk : k < t.size
        · have hx0 := bt_nat t k hk
          obtain ⟨c, hc⟩ : ∃ c, bt t (k : Int) = c := ⟨_, rfl⟩
          rw [hc] at hx0
          by_cases h92 : c = 92
          · subst h92
            have HI' := Aside0.mk (parse_esc HI.out hk hc)
            clear hc
            go_wp2
            go_roundw
            case rel => exact ⟨k + 2, frm, L, by go_num, HI', HS, HB⟩
            case measure => simp [intOf]; omega
          · by_cases h46 : c = 46
            · subst h46
              have hfk : frm ≤ k := HI.out.1
              have hks : k ≤ t.size := by omega
              obtain ⟨⟨s, er⟩, hpc⟩ : ∃ p, pieceP t frm k = p := ⟨_, rfl⟩
              by_cases hz : er = 0
              · subst hz
                have HI' := Aside0.mk (parse_dot HI.out hk hc hpc)
                clear hc
                go_wp2_with (first | (go_at_call 55; (with_reducible refine (piece_calls t frm k L w.heap.size (w1.heap.size + 1) w1.heap.size (w1.heap.size + 2) _ HS.out hfk hks hsz' hLl hne).mono ?_); rw [hpc]; rintro e w2 ⟨rfl, hs2, hb2⟩; have HS2 := Aside0.mk hs2; have HB2 := Aside0.mk (HB.out.trans (hb2 _ (Nat.le_refl _) hw1' hw1 hw2)); clear hs2 hb2))
                go_roundw
                case rel => exact ⟨k + 1, k + 1, _, by go_num, HI', HS2, HB2⟩
                case measure => simp [intOf]; omega
              · have hh := HH.out
                rw [← HI.out.2.2.2.2, scan_dot t k frm L hk hc, hpc, if_neg hz] at hh
                rw [if_pos hz] at hh
                cases hh
                have hzb : (er != 0) = true := bne_iff_ne.2 hz
                clear hc hz
                go_wp2_with (first | (go_at_call 55; (with_reducible refine (piece_calls t frm k L w.heap.size (w1.heap.size + 1) w1.heap.size (w1.heap.size + 2) _ HS.out hfk hks hsz' hLl hne).mono ?_); rw [hpc]; rintro e w2 ⟨rfl, hs2, hb2⟩; have HS2 := Aside0.mk hs2; have HB2 := Aside0.mk (HB.out.trans (hb2 _ (Nat.le_refl _) hw1' hw1 hw2)); clear hs2 hb2))
                go_ret2
                exact ⟨rfl, HB2.out⟩
            · have HI' := Aside0.mk (parse_plain HI.out hk (by rw [hc]; exact h92) (by rw [hc]; exact h46))
              have hb92 : (c == 92) = false := beq_eq_false_iff_ne.2 h92
              have hb46 : (c == 46) = false := beq_eq_false_iff_ne.2 h46
              clear hc h92 h46
              go_wp2
              go_roundw
              case rel => exact ⟨k + 1, frm, L, by go_num, HI', HS, HB⟩
              case measure => simp [intOf]; omega
        · have hh := HH.out
          rw [← HI.out.2.2.2.2, scan_end t k frm L hk, if_neg (by simp)] at hh
          simp only [] at hh
          by_cases hf : frm < t.size
          · have hfd : decide (frm < t.size) = true := decide_eq_true hf
            rw [if_pos (Or.inl hf)] at hh
            clear hf
            obtain ⟨⟨s, er⟩, hpc⟩ : ∃ p, pieceP t frm t.size = p := ⟨_, rfl⟩
            rw [hpc] at hh
            have hfk : frm ≤ t.size := HI.out.2.1
            have hks : t.size ≤ t.size := Nat.le_refl _
            by_cases hz : er = 0
            · subst hz
              have hh' : name_Of.f (L ++ [s] ++ B) = some (r1, r2) := by rw [name_Of.some_, ← hh]; simp
              have HH' := Aside0.mk hh'
              clear hh hh'
              go_wp2_with (first | (go_at_call 55; (with_reducible refine (piece_calls t frm t.size L w.heap.size (w1.heap.size + 1) w1.heap.size (w1.heap.size + 2) _ HS.out hfk hks hsz' hLl hne).mono ?_); rw [hpc]; rintro e w2 ⟨rfl, hs2, hb2⟩; have HS2 := Aside0.mk hs2; have HB2 := Aside0.mk (HB.out.trans (hb2 _ (Nat.le_refl _) hw1' hw1 hw2)); clear hs2 hb2))
              obtain ⟨vl, hlb2, hRl⟩ := HS2.out.lbox
              have HBd := Aside0.mk (below_drew HB2.out)
              have HSd := Aside0.mk (HS2.out.below (below_drew (Below.refl _ _)))
              have HLd := Aside0.mk (blk_drew hlb2)
              have HRd := Aside0.mk (Kd.R_drew hRl)
              have hcd : w2.drew.cell? ⟨w1.heap.size, 0, none⟩ = some vl := (blk_cell HLd.out 0).trans rfl
              clear hlb2 hRl
              refine start_ (n := 5) (S := (fun w' => w'.cell? ⟨w1.heap.size, 0, none⟩ = some vl)) (ds := [4]) #[false, false, false, false, false] (by kernel_rfl) rfl rfl hcd (fun hHeld => ?_)
              generalize w2.drew = wd at HBd HSd HLd HRd hcd hHeld ⊢
              refine take_ (i := 0) (N := some 54) (v := ?_) (a' := ?_) #[true, false, false, false, false] rfl rfl (by kernel_rfl) (fun _ _ _ h => h) (Or.inl ⟨by rfl, ?_⟩) hHeld ?_ ?_
              rotate_left
              · rintro w' hs0
                go_simp
                with_reducible rfl
              rotate_left
              · simp only [Act.put, List.setIfInBounds_toArray, List.set_cons_zero, List.set_cons_succ, i64_w, i32_w]
                rfl
              refine pure_ (i := 1) (N := some 55) (v := ?_) (a' := ?_) #[true, true, false, false, false] rfl rfl (by kernel_rfl) (fun _ _ _ h => h) (Or.inl ⟨by rfl, ?_⟩) ?_ ?_
              rotate_left
              · intro w'
                go_simp
                with_reducible rfl
              rotate_left
              · simp only [Act.put, List.setIfInBounds_toArray, List.set_cons_zero, List.set_cons_succ, i64_w, i32_w]
                rfl
              refine one_ (i := 2) (N := some 56) #[true, true, true, false, false] rfl rfl (by kernel_rfl) (by decide) (fun K hK => ?_)
              refine goes_ Try.func17 (by kernel_rfl) rfl #[.string o] (by rfl) rfl rfl (by (try simp only [List.map_toArray, List.map_cons, List.map_nil]); first | done | rfl) ?_
              (with_reducible refine (name_Labels.calls kl o B _ HKL.out).mono ?_)
              rintro e w4 ⟨v2, rfl, hR2, hb2⟩
              obtain ⟨A2, c2, rfl, hle2, hC2⟩ := Kd.R_reads hR2
              have HS4 := Aside0.mk (HSd.out.below hb2)
              have HL4 := Aside0.mk (blk_below HLd.out hb2)
              have HB4 := Aside0.mk (HBd.out.trans (below_to hb2 HBd.out.size))
              have HC4 := Aside0.mk hC2
              have hc4 : w4.cell? ⟨w1.heap.size, 0, none⟩ = some vl := pw_cell_below hb2 hHeld
              have HR4 := Aside0.mk (Kd.R_below HRd.out hb2)
              clear hR2 hb2 hle2 hC2
              refine ⟨_, rfl, ?_⟩
              refine hK.out _ _ hc4 (fun hHeld => ?_)
              clear hK K
              refine norm_ (a' := ?_) ?_ ?_
              rotate_left
              · show Act.put _ (some 56) _ = _
                simp only [Act.put, List.setIfInBounds_toArray, List.set_cons_zero, List.set_cons_succ, i64_w, i32_w]
                rfl
              refine one_ (i := 3) (N := some 57) #[true, true, true, true, false] rfl rfl (by kernel_rfl) (by decide) (fun K hK => ?_)
              refine Kd.R_append_rows_step Kd.string (w0 := w4) (w1.heap.size + 2) (by rfl) (.tmp 54) (.tmp 56) 23 9 (.string ⟨#[]⟩) 16 rfl Try.underlying23 infoStr rfl (by decide) (by omega) _ (L ++ [s]) B A2 B.length c2 (fun k_ => w1.heap.size + 2 ≤ k_) (fun _ => False) rfl rfl HR4.out HC4.out ?aK (fun _ hk => hk.elim) (fun k_ hk_ => Nat.le_trans HS4.out.size hk_) (Below.refl _ _) HS4.out.size (by rw [List.length_append, List.length_singleton]; omega) ?_
              (case aK => exact fun _ _ hk => hk)
              intro v1_ w5 ho hb hg hat
              generalize L ++ [s] ++ B = L6 at ho HH'
              obtain ⟨A3, c3, rfl, hle3, hC3⟩ := Kd.R_reads ho
              have hl5 := (hb.block w1.heap.size (by omega)).trans HL4.out
              have hc5 : w5.cell? ⟨w1.heap.size, 0, none⟩ = some vl := (blk_cell hl5 0).trans rfl
              have hf5 : w5.frozen? ⟨w1.heap.size, 0, none⟩ = false := blk_frozen hl5 0
              have HR5 := Aside0.mk (Kd.R_far ho (p := ⟨w1.heap.size, 0, none⟩) (fun k_ hk_ => by show k_ ≠ w1.heap.size; omega) (.slice A3 L6.length c3))
              have HB5 := Aside0.mk ((HB4.out.trans (below_to hb (by omega))).setCell (p := ⟨w1.heap.size, 0, none⟩) hw1 (.slice A3 L6.length c3))
              have HL5 := Aside0.mk (blk_set hl5 0 (.slice A3 L6.length c3))
              clear ho hb hg hat hle3 hC3 hl5
              refine hK.out _ _ hc5 (fun hHeld => ?_)
              clear hK K
              refine norm_ (a' := ?_) ?_ ?_
              rotate_left
              · show Act.put _ (some 57) _ = _
                simp only [Act.put, List.setIfInBounds_toArray, List.set_cons_zero, List.set_cons_succ, i64_w, i32_w]
                rfl
              refine last_ (i := 4) (N := none) #[true, true, true, true, true] rfl rfl (by kernel_rfl) (by decide) (fun K hK => ?_)
              refine skip_ (w1 := w5.setCell ⟨w1.heap.size, 0, none⟩ (.slice A3 L6.length c3)) (by rfl) rfl ?_ ?_
              · go_simp
                try with_reducible rfl
              refine hK.out _ _ ?_
              clear hK K
              refine done_ (by kernel_rfl) ?_
              have hc6 : (w5.setCell ⟨w1.heap.size, 0, none⟩ (.slice A3 L6.length c3)).cell? ⟨w1.heap.size, 0, none⟩ = some (.slice A3 L6.length c3) := (blk_cell HL5.out 0).trans rfl
              generalize w5.setCell ⟨w1.heap.size, 0, none⟩ (.slice A3 L6.length c3) = w6 at HR5 HB5 HL5 hc6 ⊢
              obtain ⟨_, hle6, hC6⟩ := Kd.R_reads' HR5.out
              have HC6 := Aside0.mk hC6
              clear hC6
              go_wp2_with (first | (go_at_call 21; (with_reducible refine (name_Of.calls A3 c3 L6 r1 r2 _ HC6.out hle6 HH'.out).mono ?_); rintro e w7 ⟨rfl, hb7⟩; have HB7 := Aside0.mk (HB5.out.trans (below_to hb7 HB5.out.size)); clear hb7))
              go_ret2
              exact ⟨rfl, HB7.out⟩
            · have hzb : (er != 0) = true := bne_iff_ne.2 hz
              rw [if_pos hz] at hh
              cases hh
              clear hz
              go_wp2_with (first | (go_at_call 55; (with_reducible refine (piece_calls t frm t.size L w.heap.size (w1.heap.size + 1) w1.heap.size (w1.heap.size + 2) _ HS.out hfk hks hsz' hLl hne).mono ?_); rw [hpc]; rintro e w2 ⟨rfl, hs2, hb2⟩; have HS2 := Aside0.mk hs2; have HB2 := Aside0.mk (HB.out.trans (hb2 _ (Nat.le_refl _) hw1' hw1 hw2)); clear hs2 hb2))
              go_ret2
              exact ⟨rfl, HB2.out⟩
          · have hfd : decide (frm < t.size) = false := decide_eq_false hf
            by_cases hf0 : frm = 0
            · rw [if_pos (Or.inr hf0)] at hh
              have hf0b : ((frm : Int) == 0) = true := beq_iff_eq.2 (by omega)
              clear hf hf0
              obtain ⟨⟨s, er⟩, hpc⟩ : ∃ p, pieceP t frm t.size = p := ⟨_, rfl⟩
              rw [hpc] at hh
              have hfk : frm ≤ t.size := HI.out.2.1
              have hks : t.size ≤ t.size := Nat.le_refl _
              by_cases hz : er = 0
              · subst hz
                have hh' : name_Of.f (L ++ [s] ++ B) = some (r1, r2) := by rw [name_Of.some_, ← hh]; simp
                have HH' := Aside0.mk hh'
                clear hh hh'
                go_wp2_with (first | (go_at_call 55; (with_reducible refine (piece_calls t frm t.size L w.heap.size (w1.heap.size + 1) w1.heap.size (w1.heap.size + 2) _ HS.out hfk hks hsz' hLl hne).mono ?_); rw [hpc]; rintro e w2 ⟨rfl, hs2, hb2⟩; have HS2 := Aside0.mk hs2; have HB2 := Aside0.mk (HB.out.trans (hb2 _ (Nat.le_refl _) hw1' hw1 hw2)); clear hs2 hb2))
                obtain ⟨vl, hlb2, hRl⟩ := HS2.out.lbox
                have HBd := Aside0.mk (below_drew HB2.out)
                have HSd := Aside0.mk (HS2.out.below (below_drew (Below.refl _ _)))
                have HLd := Aside0.mk (blk_drew hlb2)
                have HRd := Aside0.mk (Kd.R_drew hRl)
                have hcd : w2.drew.cell? ⟨w1.heap.size, 0, none⟩ = some vl := (blk_cell HLd.out 0).trans rfl
                clear hlb2 hRl
                refine start_ (n := 5) (S := (fun w' => w'.cell? ⟨w1.heap.size, 0, none⟩ = some vl)) (ds := [4]) #[false, false, false, false, false] (by kernel_rfl) rfl rfl hcd (fun hHeld => ?_)
                generalize w2.drew = wd at HBd HSd HLd HRd hcd hHeld ⊢
                refine take_ (i := 0) (N := some 54) (v := ?_) (a' := ?_) #[true, false, false, false, false] rfl rfl (by kernel_rfl) (fun _ _ _ h => h) (Or.inl ⟨by rfl, ?_⟩) hHeld ?_ ?_
                rotate_left
                · rintro w' hs0
                  go_simp
                  with_reducible rfl
                rotate_left
                · simp only [Act.put, List.setIfInBounds_toArray, List.set_cons_zero, List.set_cons_succ, i64_w, i32_w]
                  rfl
                refine pure_ (i := 1) (N := some 55) (v := ?_) (a' := ?_) #[true, true, false, false, false] rfl rfl (by kernel_rfl) (fun _ _ _ h => h) (Or.inl ⟨by rfl, ?_⟩) ?_ ?_
                rotate_left
                · intro w'
                  go_simp
                  with_reducible rfl
                rotate_left
                · simp only [Act.put, List.setIfInBounds_toArray, List.set_cons_zero, List.set_cons_succ, i64_w, i32_w]
                  rfl
                refine one_ (i := 2) (N := some 56) #[true, true, true, false, false] rfl rfl (by kernel_rfl) (by decide) (fun K hK => ?_)
                refine goes_ Try.func17 (by kernel_rfl) rfl #[.string o] (by rfl) rfl rfl (by (try simp only [List.map_toArray, List.map_cons, List.map_nil]); first | done | rfl) ?_
                (with_reducible refine (name_Labels.calls kl o B _ HKL.out).mono ?_)
                rintro e w4 ⟨v2, rfl, hR2, hb2⟩
                obtain ⟨A2, c2, rfl, hle2, hC2⟩ := Kd.R_reads hR2
                have HS4 := Aside0.mk (HSd.out.below hb2)
                have HL4 := Aside0.mk (blk_below HLd.out hb2)
                have HB4 := Aside0.mk (HBd.out.trans (below_to hb2 HBd.out.size))
                have HC4 := Aside0.mk hC2
                have hc4 : w4.cell? ⟨w1.heap.size, 0, none⟩ = some vl := pw_cell_below hb2 hHeld
                have HR4 := Aside0.mk (Kd.R_below HRd.out hb2)
                clear hR2 hb2 hle2 hC2
                refine ⟨_, rfl, ?_⟩
                refine hK.out _ _ hc4 (fun hHeld => ?_)
                clear hK K
                refine norm_ (a' := ?_) ?_ ?_
                rotate_left
                · show Act.put _ (some 56) _ = _
                  simp only [Act.put, List.setIfInBounds_toArray, List.set_cons_zero, List.set_cons_succ, i64_w, i32_w]
                  rfl
                refine one_ (i := 3) (N := some 57) #[true, true, true, true, false] rfl rfl (by kernel_rfl) (by decide) (fun K hK => ?_)
                refine Kd.R_append_rows_step Kd.string (w0 := w4) (w1.heap.size + 2) (by rfl) (.tmp 54) (.tmp 56) 23 9 (.string ⟨#[]⟩) 16 rfl Try.underlying23 infoStr rfl (by decide) (by omega) _ (L ++ [s]) B A2 B.length c2 (fun k_ => w1.heap.size + 2 ≤ k_) (fun _ => False) rfl rfl HR4.out HC4.out ?aK (fun _ hk => hk.elim) (fun k_ hk_ => Nat.le_trans HS4.out.size hk_) (Below.refl _ _) HS4.out.size (by rw [List.length_append, List.length_singleton]; omega) ?_
                (case aK => exact fun _ _ hk => hk)
                intro v1_ w5 ho hb hg hat
                generalize L ++ [s] ++ B = L6 at ho HH'
                obtain ⟨A3, c3, rfl, hle3, hC3⟩ := Kd.R_reads ho
                have hl5 := (hb.block w1.heap.size (by omega)).trans HL4.out
                have hc5 : w5.cell? ⟨w1.heap.size, 0, none⟩ = some vl := (blk_cell hl5 0).trans rfl
                have hf5 : w5.frozen? ⟨w1.heap.size, 0, none⟩ = false := blk_frozen hl5 0
                have HR5 := Aside0.mk (Kd.R_far ho (p := ⟨w1.heap.size, 0, none⟩) (fun k_ hk_ => by show k_ ≠ w1.heap.size; omega) (.slice A3 L6.length c3))
                have HB5 := Aside0.mk ((HB4.out.trans (below_to hb (by omega))).setCell (p := ⟨w1.heap.size, 0, none⟩) hw1 (.slice A3 L6.length c3))
                have HL5 := Aside0.mk (blk_set hl5 0 (.slice A3 L6.length c3))
                clear ho hb hg hat hle3 hC3 hl5
                refine hK.out _ _ hc5 (fun hHeld => ?_)
                clear hK K
                refine norm_ (a' := ?_) ?_ ?_
                rotate_left
                · show Act.put _ (some 57) _ = _
                  simp only [Act.put, List.setIfInBounds_toArray, List.set_cons_zero, List.set_cons_succ, i64_w, i32_w]
                  rfl
                refine last_ (i := 4) (N := none) #[true, true, true, true, true] rfl rfl (by kernel_rfl) (by decide) (fun K hK => ?_)
                refine skip_ (w1 := w5.setCell ⟨w1.heap.size, 0, none⟩ (.slice A3 L6.length c3)) (by rfl) rfl ?_ ?_
                · go_simp
                  try with_reducible rfl
                refine hK.out _ _ ?_
                clear hK K
                refine done_ (by kernel_rfl) ?_
                have hc6 : (w5.setCell ⟨w1.heap.size, 0, none⟩ (.slice A3 L6.length c3)).cell? ⟨w1.heap.size, 0, none⟩ = some (.slice A3 L6.length c3) := (blk_cell HL5.out 0).trans rfl
                generalize w5.setCell ⟨w1.heap.size, 0, none⟩ (.slice A3 L6.length c3) = w6 at HR5 HB5 HL5 hc6 ⊢
                obtain ⟨_, hle6, hC6⟩ := Kd.R_reads' HR5.out
                have HC6 := Aside0.mk hC6
                clear hC6
                go_wp2_with (first | (go_at_call 21; (with_reducible refine (name_Of.calls A3 c3 L6 r1 r2 _ HC6.out hle6 HH'.out).mono ?_); rintro e w7 ⟨rfl, hb7⟩; have HB7 := Aside0.mk (HB5.out.trans (below_to hb7 HB5.out.size)); clear hb7))
                go_ret2
                exact ⟨rfl, HB7.out⟩
              · have hzb : (er != 0) = true := bne_iff_ne.2 hz
                rw [if_pos hz] at hh
                cases hh
                clear hz
                go_wp2_with (first | (go_at_call 55; (with_reducible refine (piece_calls t frm t.size L w.heap.size (w1.heap.size + 1) w1.heap.size (w1.heap.size + 2) _ HS.out hfk hks hsz' hLl hne).mono ?_); rw [hpc]; rintro e w2 ⟨rfl, hs2, hb2⟩; have HS2 := Aside0.mk hs2; have HB2 := Aside0.mk (HB.out.trans (hb2 _ (Nat.le_refl _) hw1' hw1 hw2)); clear hs2 hb2))
                go_ret2
                exact ⟨rfl, HB2.out⟩
            · rw [if_neg (by omega)] at hh
              have hf0b : ((frm : Int) == 0) = false := beq_eq_false_iff_ne.2 (by omega)
              have hh' : name_Of.f L = some (r1, r2) := by rw [name_Of.some_, ← hh]
              have HH' := Aside0.mk hh'
              obtain ⟨vl, hlb2, hRl⟩ := HS.out.lbox
              obtain ⟨A3, c3, rfl, hle6, hC6⟩ := Kd.R_reads hRl
              have hc6 : wr.cell? ⟨w1.heap.size, 0, none⟩ = some (.slice A3 L.length c3) := (blk_cell hlb2 0).trans rfl
              have HC6 := Aside0.mk hC6
              clear hf hf0 hh hh' hlb2 hRl hC6
              go_wp2_with (first | (go_at_call 21; (with_reducible refine (name_Of.calls A3 c3 L r1 r2 _ HC6.out hle6 HH'.out).mono ?_); rintro e w7 ⟨rfl, hb7⟩; have HB7 := Aside0.mk (HB.out.trans (below_to hb7 HB.out.size)); clear hb7))
              go_ret2
              exact ⟨rfl, HB7.out⟩
end Go.Proofs.Ytplnknhlgdoliaa.Print
end
section
/- name.Escape, walked: a text of the bytes. -/
namespace Go.Proofs.Ytplnknhlgdoliaa.Print
set_option linter.unusedVariables false
set_option linter.unusedSimpArgs false
open Go.RowKit Go.Proofs.YtplnknhlgdoliaaW.PrintWords Go.Proofs.YtplnknhlgdoliaaW.PrintLast Go.Proofs.YtplnknhlgdoliaaW.PrintMore
/-- the bytes that tell a byte -/
def escB (q : Bool) (c : Int) : List Int :=
  if c = 46 ∨ c = 59 ∨ c = 40 ∨ c = 41 ∨ c = 64 ∨ c = 36 then (if q then [c] else [92, c])
  else if c = 34 ∨ c = 92 then [92, c]
  else if (32 < c ∧ c < 127) ∨ (c = 32 ∧ q = true) then [c]
  else [92, 48 + c / 100, 48 + c / 10 % 10, 48 + c % 10]
def esc (q : Bool) (l : List Int) : List Int := l.flatMap (escB q)
def name_Escape.f (s : ByteArray) (q : Bool) : Option ByteArray := if s.size * 4 ≤ 140737488355328 then some (strOfNums (esc q (bytesOf s))) else none
theorem escB_length (q : Bool) (c : Int) : (escB q c).length ≤ 4 := by unfold escB; split <;> (try split) <;> (try split) <;> simp
theorem escB_range (q : Bool) (c : Int) (h0 : 0 ≤ c) (h1 : c < 256) : ∀ x ∈ escB q c, 0 ≤ x ∧ x < 256 := by
  intro x hx
  unfold escB at hx
  split at hx
  · split at hx <;> simp at hx <;> omega
  · split at hx
    · simp at hx; omega
    · split at hx
      · simp at hx; omega
      · simp at hx; omega
theorem esc_range (q : Bool) (s : ByteArray) : ∀ x ∈ esc q (bytesOf s), 0 ≤ x ∧ x < 256 := by
  intro x hx
  obtain ⟨c, hc, hx⟩ := List.mem_flatMap.1 hx
  have := bo_range s c hc
  exact escB_range q c this.1 this.2 x hx
def EscInv (q : Bool) (s : ByteArray) (k : Nat) (bs : List Value) : Prop := k ≤ s.size ∧ bs = nums .u8 (esc q ((bytesOf s).take k)) ∧ bs.length ≤ 4 * k
theorem esc0 (q : Bool) (s : ByteArray) : EscInv q s 0 [] := ⟨Nat.zero_le _, by simp [esc, nums], by simp⟩
theorem esc_step {q : Bool} {s : ByteArray} {k : Nat} {bs : List Value} (h : EscInv q s k bs) (hk : k < s.size) {c : Int} (hc : bt s (k : Int) = c) {l : List Value} (hl : l = nums .u8 (escB q c)) : EscInv q s (k + 1) (bs ++ l) := by
  obtain ⟨h1, h2, h3⟩ := h
  have hkl : k < (bytesOf s).length := by rw [bytesOf_length]; exact hk
  have he : (bytesOf s)[k] = c := by
    rw [← hc, ← rd_bytesOf]; simp [rd, List.getD_eq_getElem?_getD, List.getElem?_eq_getElem hkl]
  refine ⟨hk, ?_, ?_⟩
  · rw [List.take_add_one, List.getElem?_eq_getElem hkl, he, hl, h2]
    simp [esc, nums_append]
  · have := escB_length q c
    rw [hl, List.length_append, nums_length]; omega
theorem esc_end {q : Bool} {s : ByteArray} {k : Nat} {bs : List Value} (h : EscInv q s k bs) (hk : ¬ k < s.size) : bs = nums .u8 (esc q (bytesOf s)) := by
  rw [h.2.1, List.take_of_length_le (by rw [bytesOf_length]; omega)]
set_option maxHeartbeats 8000000 in
set_option maxRecDepth 100000 in
theorem name_Escape.calls (a0 : ByteArray) (a1 : Bool) (r : ByteArray) (w : World) (h : name_Escape.f a0 a1 = some r) :
    Calls Try.prog 25 #[.string a0, .bool a1] w fun e w' => e = .returned (.string r) ∧ Below w.heap.size w w' := by
  unfold name_Escape.f at h
  by_cases hs : a0.size * 4 ≤ 140737488355328
  · rw [if_pos hs] at h
    simp only [Option.some.injEq] at h
    subst h
    have HI0 := Aside0.mk (Lib.fresh_isBuilder 63 5 w)
    have HB0 := Aside0.mk (below_alloc (Below.refl w.heap.size w) (.cells #[.pointer none, .slice none 0 0] 63))
    go_enter Try.func25, Try.ntmps25
    go_wp2
    go_loopw [11] (fun i wr => ∃ (k : Nat) (bs : List Value), i = .int .i64 k ∧ Aside0 (EscInv a1 a0 k bs) ∧ Aside0 (Lib.IsBuilder 63 5 w.heap.size w.heap.size bs wr) ∧ Aside0 (Below w.heap.size w wr)) (fun i _ => a0.size - (intOf i).toNat)
    case atStart => exact ⟨0, [], rfl, ⟨esc0 a1 a0⟩, HI0, HB0⟩
    case round =>
      clear HI0 HB0
      obtain ⟨k, bs, rfl, HV, HI, HB⟩ := hrel
      have hb1 := HV.out.1
      have hb2 := HV.out.2.2
      by_cases hk : k < a0.size
      · have hx0 := bt_nat a0 k hk
        obtain ⟨hc0, hc1⟩ := bt_range a0 (k : Int)
        obtain ⟨c, hc⟩ : ∃ c, bt a0 (k : Int) = c := ⟨_, rfl⟩
        rw [hc] at hx0 hc0 hc1
        have q1 : bs.length + 1 ≤ 140737488355328 := by omega
        have q2 : w.heap.size ≤ wr.heap.size := HB.out.size
        have q3 : (bs ++ [Value.int .u8 92]).length + 1 ≤ 140737488355328 := by simp; omega
        by_cases hS : c = 46 ∨ c = 59 ∨ c = 40 ∨ c = 41 ∨ c = 64 ∨ c = 36
        · cases a1 with
          | true =>
            have HV' : Aside0 (EscInv true a0 (k + 1) (bs ++ [.int .u8 c])) := ⟨esc_step HV.out hk hc (by unfold escB; rw [if_pos hS]; rfl)⟩
            clear hc
            rcases hS with rfl | rfl | rfl | rfl | rfl | rfl
            all_goals
              go_wp2_with (first | (go_at_call 47; (with_reducible refine (WriteByte_any w.heap.size w.heap.size bs _ _ HI.out q1 q2).mono ?_); rintro e w2 ⟨rfl, hat, hb2⟩; have HA := Aside0.mk (builder_used hat); have HB2 := Aside0.mk (HB.out.trans hb2); clear hat hb2))
              go_roundw
              case rel => exact ⟨k + 1, _, by go_num, HV', HA, HB2⟩
              case measure => simp [intOf]; omega
          | false =>
            have HV' : Aside0 (EscInv false a0 (k + 1) (bs ++ [.int .u8 92] ++ [.int .u8 c])) := ⟨by rw [List.append_assoc]; exact esc_step HV.out hk hc (by unfold escB; rw [if_pos hS]; rfl)⟩
            clear hc
            rcases hS with rfl | rfl | rfl | rfl | rfl | rfl
            all_goals
              go_wp2_with (first | (go_at_call 47; (with_reducible refine (WriteByte_any w.heap.size w.heap.size bs 92 _ HI.out q1 q2).mono ?_); rintro e w2 ⟨rfl, hat, hb2⟩; have HA := Aside0.mk (builder_used hat); have HB2 := Aside0.mk (HB.out.trans hb2); clear hat hb2; have q4 : w.heap.size ≤ w2.heap.size := HB2.out.size) | (go_at_call 47; (with_reducible refine (WriteByte_any w.heap.size w.heap.size (bs ++ [.int .u8 92]) _ _ HA.out q3 q4).mono ?_); rintro e w2 ⟨rfl, hat, hb2⟩; have HA2 := Aside0.mk (builder_used hat); have HB3 := Aside0.mk (HB2.out.trans hb2); clear hat hb2))
              go_roundw
              case rel => exact ⟨k + 1, _, by go_num, HV', HA2, HB3⟩
              case measure => simp [intOf]; omega
        · by_cases hQ : c = 34 ∨ c = 92
          · have HV' : Aside0 (EscInv a1 a0 (k + 1) (bs ++ [.int .u8 92] ++ [.int .u8 c])) := ⟨by rw [List.append_assoc]; exact esc_step HV.out hk hc (by unfold escB; rw [if_neg hS, if_pos hQ]; rfl)⟩
            clear hc hS
            rcases hQ with rfl | rfl
            all_goals
              go_wp2_with (first | (go_at_call 47; (with_reducible refine (WriteByte_any w.heap.size w.heap.size bs 92 _ HI.out q1 q2).mono ?_); rintro e w2 ⟨rfl, hat, hb2⟩; have HA := Aside0.mk (builder_used hat); have HB2 := Aside0.mk (HB.out.trans hb2); clear hat hb2; have q4 : w.heap.size ≤ w2.heap.size := HB2.out.size) | (go_at_call 47; (with_reducible refine (WriteByte_any w.heap.size w.heap.size (bs ++ [.int .u8 92]) _ _ HA.out q3 q4).mono ?_); rintro e w2 ⟨rfl, hat, hb2⟩; have HA2 := Aside0.mk (builder_used hat); have HB3 := Aside0.mk (HB2.out.trans hb2); clear hat hb2))
              go_roundw
              case rel => exact ⟨k + 1, _, by go_num, HV', HA2, HB3⟩
              case measure => simp [intOf]; omega
          · have e1 : (c == 46) = false := beq_eq_false_iff_ne.2 (by omega)
            have e2 : (c == 59) = false := beq_eq_false_iff_ne.2 (by omega)
            have e3 : (c == 40) = false := beq_eq_false_iff_ne.2 (by omega)
            have e4 : (c == 41) = false := beq_eq_false_iff_ne.2 (by omega)
            have e5 : (c == 64) = false := beq_eq_false_iff_ne.2 (by omega)
            have e6 : (c == 36) = false := beq_eq_false_iff_ne.2 (by omega)
            have e7 : (c == 34) = false := beq_eq_false_iff_ne.2 (by omega)
            have e8 : (c == 92) = false := beq_eq_false_iff_ne.2 (by omega)
            by_cases hP : (32 < c ∧ c < 127) ∨ (c = 32 ∧ a1 = true)
            · have HV' : Aside0 (EscInv a1 a0 (k + 1) (bs ++ [.int .u8 c])) := ⟨esc_step HV.out hk hc (by unfold escB; rw [if_neg hS, if_neg hQ, if_pos hP]; rfl)⟩
              clear hc hS hQ
              rcases hP with ⟨hp1, hp2⟩ | ⟨hp1, hp2⟩
              · go_wp2_with (first | (go_at_call 47; (with_reducible refine (WriteByte_any w.heap.size w.heap.size bs _ _ HI.out q1 q2).mono ?_); rintro e w2 ⟨rfl, hat, hb2⟩; have HA := Aside0.mk (builder_used hat); have HB2 := Aside0.mk (HB.out.trans hb2); clear hat hb2))
                go_roundw
                case rel => exact ⟨k + 1, _, by go_num, HV', HA, HB2⟩
                case measure => simp [intOf]; omega
              · subst hp1 hp2
                clear e1 e2 e3 e4 e5 e6 e7 e8
                go_wp2_with (first | (go_at_call 47; (with_reducible refine (WriteByte_any w.heap.size w.heap.size bs _ _ HI.out q1 q2).mono ?_); rintro e w2 ⟨rfl, hat, hb2⟩; have HA := Aside0.mk (builder_used hat); have HB2 := Aside0.mk (HB.out.trans hb2); clear hat hb2))
                go_roundw
                case rel => exact ⟨k + 1, _, by go_num, HV', HA, HB2⟩
                case measure => simp [intOf]; omega
            · have HV' : Aside0 (EscInv a1 a0 (k + 1) (bs ++ [.int .u8 92, .int .u8 (48 + c / 100), .int .u8 (48 + c / 10 % 10), .int .u8 (48 + c % 10)])) := ⟨esc_step HV.out hk hc (by unfold escB; rw [if_neg hS, if_neg hQ, if_neg hP]; rfl)⟩
              clear hc hS hQ
              have hne : wr.heap.size ≠ w.heap.size := by have := builder_lt HI.out; omega
              have q5 : bs.length + 4 ≤ 140737488355328 := by omega
              have q6 : w.heap.size ≤ (wr.alloc (.cells #[.int .u8 92, .int .u8 (48 + c / 100), .int .u8 (48 + c / 10 % 10), .int .u8 (48 + c % 10)] 5)).heap.size := by rw [World.size_alloc]; omega
              have HI1 := Aside0.mk (builder_alloc HI.out (.cells #[.int .u8 92, .int .u8 (48 + c / 100), .int .u8 (48 + c / 10 % 10), .int .u8 (48 + c % 10)] 5))
              have HB1 := Aside0.mk (below_alloc HB.out (.cells #[.int .u8 92, .int .u8 (48 + c / 100), .int .u8 (48 + c / 10 % 10), .int .u8 (48 + c % 10)] 5))
              have HN := Aside0.mk (cells_new wr [.int .u8 92, .int .u8 (48 + c / 100), .int .u8 (48 + c / 10 % 10), .int .u8 (48 + c % 10)] 5)
              rcases (show c < 32 ∨ (127 ≤ c) ∨ (c = 32 ∧ a1 = false) from by cases a1 <;> simp at hP ⊢ <;> omega) with hp | hp | ⟨hp, hp2⟩
              · have e9 : (c == 32) = false := beq_eq_false_iff_ne.2 (by omega)
                clear hP
                go_wp2_with (first | (go_at_call 53; (with_reducible refine (Write_any w.heap.size w.heap.size bs wr.heap.size 4 4 [.int .u8 92, .int .u8 (48 + c / 100), .int .u8 (48 + c / 10 % 10), .int .u8 (48 + c % 10)] _ HI1.out hne rfl HN.out (by simp [Value.oneCell']) q5 q6).mono ?_); rintro e w2 ⟨rfl, hat, hb2⟩; have HA := Aside0.mk (builder_used hat); have HB2 := Aside0.mk (HB1.out.trans hb2); clear hat hb2))
                go_roundw
                case rel => exact ⟨k + 1, _, by go_num, HV', HA, HB2⟩
                case measure => simp [intOf]; omega
              · have e9 : (c == 32) = false := beq_eq_false_iff_ne.2 (by omega)
                clear hP
                go_wp2_with (first | (go_at_call 53; (with_reducible refine (Write_any w.heap.size w.heap.size bs wr.heap.size 4 4 [.int .u8 92, .int .u8 (48 + c / 100), .int .u8 (48 + c / 10 % 10), .int .u8 (48 + c % 10)] _ HI1.out hne rfl HN.out (by simp [Value.oneCell']) q5 q6).mono ?_); rintro e w2 ⟨rfl, hat, hb2⟩; have HA := Aside0.mk (builder_used hat); have HB2 := Aside0.mk (HB1.out.trans hb2); clear hat hb2))
                go_roundw
                case rel => exact ⟨k + 1, _, by go_num, HV', HA, HB2⟩
                case measure => simp [intOf]; omega
              · subst hp2
                have e9 : (c == 32) = true := beq_iff_eq.2 hp
                have hp0 : ¬ 32 < c := by omega
                clear hP hp
                go_wp2_with (first | (go_at_call 53; (with_reducible refine (Write_any w.heap.size w.heap.size bs wr.heap.size 4 4 [.int .u8 92, .int .u8 (48 + c / 100), .int .u8 (48 + c / 10 % 10), .int .u8 (48 + c % 10)] _ HI1.out hne rfl HN.out (by simp [Value.oneCell']) q5 q6).mono ?_); rintro e w2 ⟨rfl, hat, hb2⟩; have HA := Aside0.mk (builder_used hat); have HB2 := Aside0.mk (HB1.out.trans hb2); clear hat hb2))
                go_roundw
                case rel => exact ⟨k + 1, _, by go_num, HV', HA, HB2⟩
                case measure => simp [intOf]; omega
      · have hfin : Lib.IsBuilder 63 5 w.heap.size w.heap.size (Lib.byteCells (strOfNums (esc a1 (bytesOf a0))).data.toList) wr := by
          rw [← nums_cells _ (esc_range a1 a0), ← esc_end HV.out hk]; exact HI.out
        have q2 : w.heap.size ≤ wr.heap.size := HB.out.size
        have HF := Aside0.mk hfin
        clear hfin
        go_wp2_with (first | (go_at_call 49; refine (Try.Builder_String_any w.heap.size w.heap.size _ _ HF.out q2).mono ?_; rintro e w3 ⟨rfl, hb3⟩; have HB3 := Aside0.mk (HB.out.trans hb3); clear hb3))
        go_ret
        exact ⟨by first | rfl | (rw [str_eta]; done) | (simp; done), HB3.out⟩
  · rw [if_neg hs] at h; exact absurd h (by simp)
end Go.Proofs.Ytplnknhlgdoliaa.Print
end
section
/- name.Text, walked: a name's text. -/
namespace Go.Proofs.Ytplnknhlgdoliaa.Print
set_option linter.unusedVariables false
set_option linter.unusedSimpArgs false
open Go.RowKit Go.Proofs.YtplnknhlgdoliaaW.PrintWords Go.Proofs.YtplnknhlgdoliaaW.PrintLast Go.Proofs.YtplnknhlgdoliaaW.PrintMore
def textL (L : List ByteArray) : List Int := L.flatMap fun s => esc false (bytesOf s) ++ [46]
def name_Text.f (n : ByteArray) : Option ByteArray := some (if n.toList = [0] then ⟨#[46]⟩ else strOfNums (textL ((dec n).getD [])))
theorem esc_length (q : Bool) : ∀ l : List Int, (esc q l).length ≤ 4 * l.length
  | [] => by simp [esc]
  | c :: l => by
    have := esc_length q l
    have h2 := escB_length q c
    simp only [esc, List.flatMap_cons, List.length_append, List.length_cons] at this ⊢
    omega
theorem row_kept {e base b : Nat} {w w' : World} {v : Value} {xs : List ByteArray} (h : Kd.R Kd.string e w base (fun _ => True) v xs) (hk : Lib.OthersKept 5 (some b) w w') (hb : b < base) (he : e ≠ 5) : Kd.R Kd.string e w' base (fun _ => True) v xs := by
  refine Kd.R_mono (Kd.R_move (Kd.R_bound h) (fun k hk2 => ?_)) (fun _ h => h.1)
  obtain ⟨_, h1, h2, q, hq, cells, hc⟩ := hk2
  rw [hc]
  refine hk k _ hc (fun h => by cases h; omega) (fun c fz hh => ?_)
  have hq' : q = e := by simpa [Kd.string, Kd.scalar] using hq
  cases hh
  exact he hq'.symm
def TextInv (L : List ByteArray) (k : Nat) (bs : List Value) : Prop := k ≤ L.length ∧ bs = nums .u8 (textL (L.take k)) ∧ bs.length ≤ 300 * k
theorem text0 (L : List ByteArray) : TextInv L 0 [] := ⟨Nat.zero_le _, by simp [textL, nums], by simp⟩
theorem text_step {L : List ByteArray} {k : Nat} {bs : List Value} {s : ByteArray} (h : TextInv L k bs) (hs : L[k]? = some s) (hz : s.size ≤ 63) : TextInv L (k + 1) (bs ++ Lib.strCells (strOfNums (esc false (bytesOf s))) ++ [.int .u8 46]) := by
  obtain ⟨h1, h2, h3⟩ := h
  have hk : k < L.length := (List.getElem?_eq_some_iff.1 hs).1
  have he := esc_length false (bytesOf s)
  rw [bytesOf_length] at he
  have hc : Lib.strCells (strOfNums (esc false (bytesOf s))) = nums .u8 (esc false (bytesOf s)) := by rw [Lib.strCells_eq, nums_cells _ (esc_range false s)]
  refine ⟨hk, ?_, ?_⟩
  · rw [take_succ' hs, h2, hc]
    simp [textL, nums_append, nums]
  · rw [List.length_append, List.length_append, hc, nums_length]; simp; omega
theorem text_end {L : List ByteArray} {k : Nat} {bs : List Value} (h : TextInv L k bs) (hk : ¬ k < L.length) : bs = nums .u8 (textL L) := by rw [h.2.1, List.take_of_length_le (by omega)]
theorem textL_range (L : List ByteArray) : ∀ x ∈ textL L, 0 ≤ x ∧ x < 256 := by
  intro x hx
  obtain ⟨s, _, hx⟩ := List.mem_flatMap.1 hx
  rcases List.mem_append.1 hx with hx | hx
  · exact esc_range false s x hx
  · simp at hx; omega
theorem dec_labels (n : ByteArray) : ((dec n).getD []).length ≤ 127 ∧ ∀ s ∈ (dec n).getD [], s.size ≤ 63 := by
  cases h : dec n with
  | none => simp
  | some L =>
    refine ⟨labels_length h, fun s hs => ?_⟩
    have h3 := (dec_some h).2.2
    rw [List.any_eq_false] at h3
    have := h3 s hs
    exact (bad_false (by simpa using this)).2
set_option maxHeartbeats 4000000 in
set_option maxRecDepth 100000 in
theorem name_Text.calls (a0 : ByteArray) (r : ByteArray) (w : World) (h : name_Text.f a0 = some r) :
    Calls Try.prog 29 #[.string a0] w fun e w' => e = .returned (.string r) ∧ Below w.heap.size w w' := by
  unfold name_Text.f at h
  by_cases h0 : a0.toList = [0]
  · rw [if_pos h0] at h
    simp only [Option.some.injEq] at h
    subst h
    have hb0 : (a0.toList == [0]) = true := by rw [h0]; rfl
    clear h0
    go_enter Try.func29, Try.ntmps29
    go_wp2
    go_ret
    exact ⟨rfl, Below.refl _ _⟩
  · rw [if_neg h0] at h
    simp only [Option.some.injEq] at h
    subst h
    have hb0 : (a0.toList == [0]) = false := by simpa using h0
    clear h0
    obtain ⟨kk, hkk⟩ := (labels_f a0).rounds
    have hdl := dec_labels a0
    obtain ⟨L, hL⟩ : ∃ L, (dec a0).getD [] = L := ⟨_, rfl⟩
    rw [hL] at hkk hdl ⊢
    have HKK := Aside0.mk hkk
    have HDL := Aside0.mk hdl
    clear hkk hdl hL
    have HI0 := Aside0.mk (Lib.fresh_isBuilder 63 5 w)
    have HB0 := Aside0.mk (below_alloc (Below.refl w.heap.size w) (.cells #[.pointer none, .slice none 0 0] 63))
    go_enter Try.func29, Try.ntmps29
    go_wp2_with (go_at_call 17; (with_reducible refine (name_Labels.calls kk a0 L _ HKK.out).mono ?_); rintro e w1 ⟨v0, rfl, hR, hb1⟩; rw [World.size_alloc] at hR; obtain ⟨A, c, rfl, hle, hC⟩ := Kd.R_reads hR; have HR := Aside0.mk hR; have HI1 := Aside0.mk (builder_below HI0.out hb1); have HB1 := Aside0.mk (below_then HB0.out (by simp) hb1); clear hR hb1 hC hle)
    go_loopw [11] (fun i wr => ∃ (k : Nat) (bs : List Value), i = .int .i64 k ∧ Aside0 (TextInv L k bs) ∧ Aside0 (Lib.IsBuilder 63 5 w.heap.size w.heap.size bs wr) ∧ Aside0 (Kd.R Kd.string 9 wr (w.heap.size + 1) (fun _ => True) (.slice A L.length c) L) ∧ Aside0 (Below w.heap.size w wr)) (fun i _ => L.length - (intOf i).toNat)
    case atStart => exact ⟨0, [], rfl, ⟨text0 L⟩, HI1, HR, HB1⟩
    case round =>
      clear HI0 HB0 HI1 HB1 HR
      obtain ⟨k, bs, rfl, HV, HI, HR, HB⟩ := hrel
      have hll := HDL.out.1
      have hbl := HV.out.2.2
      have q2 : w.heap.size ≤ wr.heap.size := HB.out.size
      by_cases hk : k < L.length
      · obtain ⟨_, _, hC⟩ := Kd.R_reads' HR.out
        obtain ⟨ad, hA, hcell⟩ := Kd.at_string hC (k : Int) (by omega) (by omega)
        obtain ⟨s, hs⟩ : ∃ s, L[k]? = some s := ⟨L[k], List.getElem?_eq_getElem hk⟩
        have hrd : rdOf ByteArray.empty L (k : Int) = s := by simp [rdOf, List.getD_eq_getElem?_getD, hs]
        rw [hrd] at hcell
        simp only [Int.toNat_natCast] at hcell
        subst hA
        have hsz := HDL.out.2 s (List.mem_of_getElem? hs)
        have HV' := Aside0.mk (text_step HV.out hs hsz)
        have hef : name_Escape.f s false = some (strOfNums (esc false (bytesOf s))) := by unfold name_Escape.f; rw [if_pos (by omega)]
        have hel : (strOfNums (esc false (bytesOf s))).size ≤ 252 := by have := esc_length false (bytesOf s); rw [bytesOf_length] at this; rw [strOfNums_size]; omega
        obtain ⟨t, ht⟩ : ∃ t, strOfNums (esc false (bytesOf s)) = t := ⟨_, rfl⟩
        rw [ht] at hef hel HV'
        have HEF := Aside0.mk hef
        have q1 : bs.length + t.size ≤ 140737488355328 := by omega
        have q3 : (bs ++ Lib.strCells t).length + 1 ≤ 140737488355328 := by rw [List.length_append, Lib.strCells_length]; omega
        clear hef hs hrd hC ht
        go_wp2_with (first | (go_at_call 25; (with_reducible refine (name_Escape.calls s false t _ HEF.out).mono ?_); rintro e w2 ⟨rfl, hb2⟩; have HI2 := Aside0.mk (builder_below HI.out hb2); have HR2 := Aside0.mk (Kd.R_below HR.out hb2); have HB2 := Aside0.mk (below_then HB.out q2 hb2); have q4 : w.heap.size ≤ w2.heap.size := HB2.out.size; clear hb2) | (go_at_call 48; (with_reducible refine (WriteString_k w.heap.size w.heap.size bs t _ HI2.out q1 q4).mono ?_); rintro e w3 ⟨rfl, hat, hb3, hk3⟩; have HI3 := Aside0.mk (builder_used hat); have HR3 := Aside0.mk (row_kept HR2.out hk3 (Nat.lt_succ_self _) (by decide)); have HB3 := Aside0.mk (HB2.out.trans hb3); have q5 : w.heap.size ≤ w3.heap.size := HB3.out.size; clear hat hb3 hk3) | (go_at_call 47; (with_reducible refine (WriteByte_k w.heap.size w.heap.size (bs ++ Lib.strCells t) _ _ HI3.out q3 q5).mono ?_); rintro e w4 ⟨rfl, hat, hb4, hk4⟩; have HI4 := Aside0.mk (builder_used hat); have HR4 := Aside0.mk (row_kept HR3.out hk4 (Nat.lt_succ_self _) (by decide)); have HB4 := Aside0.mk (HB3.out.trans hb4); clear hat hb4 hk4))
        go_roundw
        case rel => exact ⟨k + 1, _, by go_num, HV', HI4, HR4, HB4⟩
        case measure => simp [intOf]; omega
      · have hfin : Lib.IsBuilder 63 5 w.heap.size w.heap.size (Lib.byteCells (strOfNums (textL L)).data.toList) wr := by
          rw [← nums_cells _ (textL_range L), ← text_end HV.out hk]; exact HI.out
        have HF := Aside0.mk hfin
        clear hfin
        go_wp2_with (first | (go_at_call 49; refine (Try.Builder_String_any w.heap.size w.heap.size _ _ HF.out q2).mono ?_; rintro e w3 ⟨rfl, hb3⟩; have HB3 := Aside0.mk (HB.out.trans hb3); clear hb3))
        go_ret
        exact ⟨by first | rfl | (rw [str_eta]; done) | (simp; done), HB3.out⟩
end Go.Proofs.Ytplnknhlgdoliaa.Print
end
section
-- Written by a program of this session, built on the kit's print (it is not the print's own text).
namespace Go.Proofs.Ytplnknhlgdoliaa.Print
open Go.RowKit Go.Proofs.YtplnknhlgdoliaaW.PrintWords Go.Proofs.YtplnknhlgdoliaaW.PrintLast Go.Proofs.YtplnknhlgdoliaaW.PrintMore
attribute [local go_sem] max2_int min2_int max_two min_two max_three min_three max_four min_four   -- for this text's walks alone
set_option linter.unusedVariables false
set_option linter.unusedSimpArgs false

/-! ### hearsaylaw01_wakes: function 19 -/
def hearsaylaw01_wakes.f (k : Nat)  : Option (Bool) := (name_Parse.f (⟨#[65, 98, 46, 99]⟩ : ByteArray) (⟨#[0]⟩ : ByteArray)).bind fun bt124 => (if bt124.2 = 0 then (if bt124.1.toList = ([2, 65, 98, 1, 99, 0] : List UInt8) then ((name_Count.f k bt124.1).bind fun t126 => (if t126 = 2 then ((name_Fold.f bt124.1).bind fun t127 => ((name_Text.f t127).bind fun t128 => (if t128.toList = ([97, 98, 46, 99, 46] : List UInt8) then ((name_Check.f k bt124.1).bind fun t129 => (some (t129 == 0))) else (some false)))) else (some false))) else (some false)) else (some false))
theorem hearsaylaw01_wakes.mono : ∀ k, LeO (hearsaylaw01_wakes.f k ) (hearsaylaw01_wakes.f (k + 1) ) := by
  intro  k
  unfold hearsaylaw01_wakes.f
  repeat' first
      | (with_reducible exact name_Check.mono _ _)
      | (with_reducible exact name_Count.mono _ _)
      | (with_reducible exact LeO.refl _)
      | (with_reducible exact LeO.none _)
      | (with_reducible refine LeO.ite ?_ ?_)
      | (with_reducible refine LeO.bind ?_ (fun _ => ?_))
      | exact name_Check.mono _ _
      | exact name_Count.mono _ _
      | exact LeO.none _
      | refine LeO.ite ?_ ?_
      | refine LeO.bind ?_ (fun _ => ?_)
set_option maxHeartbeats 8000000 in
set_option maxRecDepth 100000 in
theorem hearsaylaw01_wakes.calls (k : Nat)  (r : Bool) (w : World) (h : hearsaylaw01_wakes.f k  = some r) :
    Calls Try.prog 19 #[] w fun e w' => e = .returned (.bool r) ∧ Below w.heap.size w w' := by
  have HB := Aside0.mk (Below.refl w.heap.size w)
  have H : ((name_Parse.f (⟨#[65, 98, 46, 99]⟩ : ByteArray) (⟨#[0]⟩ : ByteArray)).bind fun bt124 => (if bt124.2 = 0 then (if bt124.1.toList = ([2, 65, 98, 1, 99, 0] : List UInt8) then ((name_Count.f k bt124.1).bind fun t126 => (if t126 = 2 then ((name_Fold.f bt124.1).bind fun t127 => ((name_Text.f t127).bind fun t128 => (if t128.toList = ([97, 98, 46, 99, 46] : List UInt8) then ((name_Check.f k bt124.1).bind fun t129 => (some (t129 == 0))) else (some false)))) else (some false))) else (some false)) else (some false))) = some r := h
  clear h
  replace H := Option.bind_eq_some_iff.mp H
  obtain ⟨⟨t124, t125⟩, A10, H⟩ := H
  replace H : (if t125 = 0 then (if t124.toList = ([2, 65, 98, 1, 99, 0] : List UInt8) then ((name_Count.f k t124).bind fun t126 => (if t126 = 2 then ((name_Fold.f t124).bind fun t127 => ((name_Text.f t127).bind fun t128 => (if t128.toList = ([97, 98, 46, 99, 46] : List UInt8) then ((name_Check.f k t124).bind fun t129 => (some (t129 == 0))) else (some false)))) else (some false))) else (some false)) else (some false)) = some r := H
  have A1 := Aside0.mk A10
  clear A10
  by_cases c2 : t125 = 0
  · rw [if_pos c2] at H
    have c2b0 : (t125 == 0) = true := beq_iff_eq.mpr c2
    have c2b1 : (t125 != 0) = false := bne_eq_false_iff_eq.mpr c2
    clear c2
    by_cases c3 : t124.toList = ([2, 65, 98, 1, 99, 0] : List UInt8)
    · rw [if_pos c3] at H
      have c3b0 : (t124.toList == ([2, 65, 98, 1, 99, 0] : List UInt8)) = true := beq_iff_eq.mpr c3
      have c3b1 : (t124.toList != ([2, 65, 98, 1, 99, 0] : List UInt8)) = false := bne_eq_false_iff_eq.mpr c3
      clear c3
      replace H := Option.bind_eq_some_iff.mp H
      obtain ⟨t126, A40, H⟩ := H
      replace H : (if t126 = 2 then ((name_Fold.f t124).bind fun t127 => ((name_Text.f t127).bind fun t128 => (if t128.toList = ([97, 98, 46, 99, 46] : List UInt8) then ((name_Check.f k t124).bind fun t129 => (some (t129 == 0))) else (some false)))) else (some false)) = some r := H
      have A4 := Aside0.mk A40
      clear A40
      by_cases c5 : t126 = 2
      · rw [if_pos c5] at H
        have c5b0 : (t126 == 2) = true := beq_iff_eq.mpr c5
        have c5b1 : (t126 != 2) = false := bne_eq_false_iff_eq.mpr c5
        clear c5
        replace H := Option.bind_eq_some_iff.mp H
        obtain ⟨t127, A60, H⟩ := H
        replace H : ((name_Text.f t127).bind fun t128 => (if t128.toList = ([97, 98, 46, 99, 46] : List UInt8) then ((name_Check.f k t124).bind fun t129 => (some (t129 == 0))) else (some false))) = some r := H
        have A6 := Aside0.mk A60
        clear A60
        replace H := Option.bind_eq_some_iff.mp H
        obtain ⟨t128, A70, H⟩ := H
        replace H : (if t128.toList = ([97, 98, 46, 99, 46] : List UInt8) then ((name_Check.f k t124).bind fun t129 => (some (t129 == 0))) else (some false)) = some r := H
        have A7 := Aside0.mk A70
        clear A70
        by_cases c8 : t128.toList = ([97, 98, 46, 99, 46] : List UInt8)
        · rw [if_pos c8] at H
          have c8b0 : (t128.toList == ([97, 98, 46, 99, 46] : List UInt8)) = true := beq_iff_eq.mpr c8
          have c8b1 : (t128.toList != ([97, 98, 46, 99, 46] : List UInt8)) = false := bne_eq_false_iff_eq.mpr c8
          clear c8
          replace H := Option.bind_eq_some_iff.mp H
          obtain ⟨t129, A90, H⟩ := H
          replace H : (some (t129 == 0)) = some r := H
          have A9 := Aside0.mk A90
          clear A90
          obtain rfl := Option.some.inj H
          go_enter Try.func19, Try.ntmps19
          go_wp2_with (first | ((with_reducible refine gate_callee (f := 27) rfl ?_); refine goesL_ (some 4) rfl rfl Try.func27 (by kernel_rfl) rfl #[.string (⟨#[65, 98, 46, 99]⟩ : ByteArray), .string (⟨#[0]⟩ : ByteArray)] rfl (by (try simp only [List.map_toArray, List.map_cons, List.map_nil]); first | done | rfl | (simp only [List.length_drop, List.length_take]; rfl)) ?_; (with_reducible refine (name_Parse.calls (⟨#[65, 98, 46, 99]⟩ : ByteArray) (⟨#[0]⟩ : ByteArray) t124 t125 _ A1.out).mono ?_); rintro e w10 ⟨rfl, hb⟩; refine ⟨_, rfl, ?_⟩; have n0_ := Aside0.mk (below_step (by repeat (first | (with_reducible first | exact HB.out | apply below_alloc | apply pw_below_drewN | apply below_drew1) | exact HB.out)) hb); clear HB; have HB := n0_; clear n0_; (try clear hb); (try clear hb2); (try clear hk); (try clear hi)) | (go_at_call 18; (with_reducible refine (name_Count.calls k t124 t126 _ A4.out).mono ?_); rintro e w11 ⟨rfl, hb⟩; have n0_ := Aside0.mk (below_step (by repeat (first | (with_reducible first | exact HB.out | apply below_alloc | apply pw_below_drewN | apply below_drew1) | exact HB.out)) hb); clear HB; have HB := n0_; clear n0_; (try clear hb); (try clear hb2); (try clear hk); (try clear hi)) | (go_at_call 15; (with_reducible refine (name_Fold.calls t124 t127 _ A6.out).mono ?_); rintro e w12 ⟨rfl, hb⟩; have n0_ := Aside0.mk (below_step (by repeat (first | (with_reducible first | exact HB.out | apply below_alloc | apply pw_below_drewN | apply below_drew1) | exact HB.out)) hb); clear HB; have HB := n0_; clear n0_; (try clear hb); (try clear hb2); (try clear hk); (try clear hi)) | (go_at_call 29; (with_reducible refine (name_Text.calls t127 t128 _ A7.out).mono ?_); rintro e w13 ⟨rfl, hb⟩; have n0_ := Aside0.mk (below_step (by repeat (first | (with_reducible first | exact HB.out | apply below_alloc | apply pw_below_drewN | apply below_drew1) | exact HB.out)) hb); clear HB; have HB := n0_; clear n0_; (try clear hb); (try clear hb2); (try clear hk); (try clear hi)) | (go_at_call 14; (with_reducible refine (name_Check.calls k t124 t129 _ A9.out).mono ?_); rintro e w14 ⟨rfl, hb⟩; have n0_ := Aside0.mk (below_step (by repeat (first | (with_reducible first | exact HB.out | apply below_alloc | apply pw_below_drewN | apply below_drew1) | exact HB.out)) hb); clear HB; have HB := n0_; clear n0_; (try clear hb); (try clear hb2); (try clear hk); (try clear hi)))
          go_ret
          exact ⟨by first | rfl | (simp [errW_none, errW_some] <;> rfl) | (simp [*, errW_none, errW_some] <;> rfl), by repeat (first | (with_reducible first | exact HB.out | apply below_alloc | apply pw_below_drewN | apply below_drew1) | exact HB.out)⟩
        · rw [if_neg c8] at H
          have c8b0 : (t128.toList == ([97, 98, 46, 99, 46] : List UInt8)) = false := beq_eq_false_iff_ne.mpr c8
          have c8b1 : (t128.toList != ([97, 98, 46, 99, 46] : List UInt8)) = true := bne_iff_ne.mpr c8
          obtain rfl := Option.some.inj H
          go_enter Try.func19, Try.ntmps19
          go_wp2_with (first | ((with_reducible refine gate_callee (f := 27) rfl ?_); refine goesL_ (some 4) rfl rfl Try.func27 (by kernel_rfl) rfl #[.string (⟨#[65, 98, 46, 99]⟩ : ByteArray), .string (⟨#[0]⟩ : ByteArray)] rfl (by (try simp only [List.map_toArray, List.map_cons, List.map_nil]); first | done | rfl | (simp only [List.length_drop, List.length_take]; rfl)) ?_; (with_reducible refine (name_Parse.calls (⟨#[65, 98, 46, 99]⟩ : ByteArray) (⟨#[0]⟩ : ByteArray) t124 t125 _ A1.out).mono ?_); rintro e w15 ⟨rfl, hb⟩; refine ⟨_, rfl, ?_⟩; have n0_ := Aside0.mk (below_step (by repeat (first | (with_reducible first | exact HB.out | apply below_alloc | apply pw_below_drewN | apply below_drew1) | exact HB.out)) hb); clear HB; have HB := n0_; clear n0_; (try clear hb); (try clear hb2); (try clear hk); (try clear hi)) | (go_at_call 18; (with_reducible refine (name_Count.calls k t124 t126 _ A4.out).mono ?_); rintro e w16 ⟨rfl, hb⟩; have n0_ := Aside0.mk (below_step (by repeat (first | (with_reducible first | exact HB.out | apply below_alloc | apply pw_below_drewN | apply below_drew1) | exact HB.out)) hb); clear HB; have HB := n0_; clear n0_; (try clear hb); (try clear hb2); (try clear hk); (try clear hi)) | (go_at_call 15; (with_reducible refine (name_Fold.calls t124 t127 _ A6.out).mono ?_); rintro e w17 ⟨rfl, hb⟩; have n0_ := Aside0.mk (below_step (by repeat (first | (with_reducible first | exact HB.out | apply below_alloc | apply pw_below_drewN | apply below_drew1) | exact HB.out)) hb); clear HB; have HB := n0_; clear n0_; (try clear hb); (try clear hb2); (try clear hk); (try clear hi)) | (go_at_call 29; (with_reducible refine (name_Text.calls t127 t128 _ A7.out).mono ?_); rintro e w18 ⟨rfl, hb⟩; have n0_ := Aside0.mk (below_step (by repeat (first | (with_reducible first | exact HB.out | apply below_alloc | apply pw_below_drewN | apply below_drew1) | exact HB.out)) hb); clear HB; have HB := n0_; clear n0_; (try clear hb); (try clear hb2); (try clear hk); (try clear hi)))
          go_ret
          exact ⟨by first | rfl | (simp [errW_none, errW_some] <;> rfl) | (simp [*, errW_none, errW_some] <;> rfl), by repeat (first | (with_reducible first | exact HB.out | apply below_alloc | apply pw_below_drewN | apply below_drew1) | exact HB.out)⟩
      · rw [if_neg c5] at H
        have c5b0 : (t126 == 2) = false := beq_eq_false_iff_ne.mpr c5
        have c5b1 : (t126 != 2) = true := bne_iff_ne.mpr c5
        obtain rfl := Option.some.inj H
        go_enter Try.func19, Try.ntmps19
        go_wp2_with (first | ((with_reducible refine gate_callee (f := 27) rfl ?_); refine goesL_ (some 4) rfl rfl Try.func27 (by kernel_rfl) rfl #[.string (⟨#[65, 98, 46, 99]⟩ : ByteArray), .string (⟨#[0]⟩ : ByteArray)] rfl (by (try simp only [List.map_toArray, List.map_cons, List.map_nil]); first | done | rfl | (simp only [List.length_drop, List.length_take]; rfl)) ?_; (with_reducible refine (name_Parse.calls (⟨#[65, 98, 46, 99]⟩ : ByteArray) (⟨#[0]⟩ : ByteArray) t124 t125 _ A1.out).mono ?_); rintro e w19 ⟨rfl, hb⟩; refine ⟨_, rfl, ?_⟩; have n0_ := Aside0.mk (below_step (by repeat (first | (with_reducible first | exact HB.out | apply below_alloc | apply pw_below_drewN | apply below_drew1) | exact HB.out)) hb); clear HB; have HB := n0_; clear n0_; (try clear hb); (try clear hb2); (try clear hk); (try clear hi)) | (go_at_call 18; (with_reducible refine (name_Count.calls k t124 t126 _ A4.out).mono ?_); rintro e w20 ⟨rfl, hb⟩; have n0_ := Aside0.mk (below_step (by repeat (first | (with_reducible first | exact HB.out | apply below_alloc | apply pw_below_drewN | apply below_drew1) | exact HB.out)) hb); clear HB; have HB := n0_; clear n0_; (try clear hb); (try clear hb2); (try clear hk); (try clear hi)))
        go_ret
        exact ⟨by first | rfl | (simp [errW_none, errW_some] <;> rfl) | (simp [*, errW_none, errW_some] <;> rfl), by repeat (first | (with_reducible first | exact HB.out | apply below_alloc | apply pw_below_drewN | apply below_drew1) | exact HB.out)⟩
    · rw [if_neg c3] at H
      have c3b0 : (t124.toList == ([2, 65, 98, 1, 99, 0] : List UInt8)) = false := beq_eq_false_iff_ne.mpr c3
      have c3b1 : (t124.toList != ([2, 65, 98, 1, 99, 0] : List UInt8)) = true := bne_iff_ne.mpr c3
      obtain rfl := Option.some.inj H
      go_enter Try.func19, Try.ntmps19
      go_wp2_with (first | ((with_reducible refine gate_callee (f := 27) rfl ?_); refine goesL_ (some 4) rfl rfl Try.func27 (by kernel_rfl) rfl #[.string (⟨#[65, 98, 46, 99]⟩ : ByteArray), .string (⟨#[0]⟩ : ByteArray)] rfl (by (try simp only [List.map_toArray, List.map_cons, List.map_nil]); first | done | rfl | (simp only [List.length_drop, List.length_take]; rfl)) ?_; (with_reducible refine (name_Parse.calls (⟨#[65, 98, 46, 99]⟩ : ByteArray) (⟨#[0]⟩ : ByteArray) t124 t125 _ A1.out).mono ?_); rintro e w21 ⟨rfl, hb⟩; refine ⟨_, rfl, ?_⟩; have n0_ := Aside0.mk (below_step (by repeat (first | (with_reducible first | exact HB.out | apply below_alloc | apply pw_below_drewN | apply below_drew1) | exact HB.out)) hb); clear HB; have HB := n0_; clear n0_; (try clear hb); (try clear hb2); (try clear hk); (try clear hi)))
      go_ret
      exact ⟨by first | rfl | (simp [errW_none, errW_some] <;> rfl) | (simp [*, errW_none, errW_some] <;> rfl), by repeat (first | (with_reducible first | exact HB.out | apply below_alloc | apply pw_below_drewN | apply below_drew1) | exact HB.out)⟩
  · rw [if_neg c2] at H
    have c2b0 : (t125 == 0) = false := beq_eq_false_iff_ne.mpr c2
    have c2b1 : (t125 != 0) = true := bne_iff_ne.mpr c2
    obtain rfl := Option.some.inj H
    go_enter Try.func19, Try.ntmps19
    go_wp2_with (first | ((with_reducible refine gate_callee (f := 27) rfl ?_); refine goesL_ (some 4) rfl rfl Try.func27 (by kernel_rfl) rfl #[.string (⟨#[65, 98, 46, 99]⟩ : ByteArray), .string (⟨#[0]⟩ : ByteArray)] rfl (by (try simp only [List.map_toArray, List.map_cons, List.map_nil]); first | done | rfl | (simp only [List.length_drop, List.length_take]; rfl)) ?_; (with_reducible refine (name_Parse.calls (⟨#[65, 98, 46, 99]⟩ : ByteArray) (⟨#[0]⟩ : ByteArray) t124 t125 _ A1.out).mono ?_); rintro e w22 ⟨rfl, hb⟩; refine ⟨_, rfl, ?_⟩; have n0_ := Aside0.mk (below_step (by repeat (first | (with_reducible first | exact HB.out | apply below_alloc | apply pw_below_drewN | apply below_drew1) | exact HB.out)) hb); clear HB; have HB := n0_; clear n0_; (try clear hb); (try clear hb2); (try clear hk); (try clear hi)))
    go_ret
    exact ⟨by first | rfl | (simp [errW_none, errW_some] <;> rfl) | (simp [*, errW_none, errW_some] <;> rfl), by repeat (first | (with_reducible first | exact HB.out | apply below_alloc | apply pw_below_drewN | apply below_drew1) | exact HB.out)⟩

end Go.Proofs.Ytplnknhlgdoliaa.Print
end
