/- The document's answer for one member, and for which of two is stronger: the program's own. -/
import Derived.Test.YtognmibankcefaaXView
import Derived.Test.YtognmibankcefaaF10
import Derived.Test.YtognmibankcefaaF12
namespace Go.Proofs.Ytognmibankcefaa.Print
open Go.RowKit Go.Proofs.YtognmibankcefaaW.PrintWords Go.Proofs.YtognmibankcefaaW.PrintLast Go.Proofs.YtognmibankcefaaW.PrintMore
set_option linter.unusedVariables false
set_option linter.unusedSimpArgs false
theorem may_f (x : Mem) : hearsayref17_May.f x.f0 x.f1 x.f2 x.f3 = some (mayM x) := by
  unfold hearsayref17_May.f mayM
  by_cases h1 : x.f2 ≤ 3
  · by_cases h2 : x.f3.size ≤ 400
    · have h2' : (x.f3.size : Int) ≤ 400 := by omega
      simp [h1, h2, h2']
    · have h2' : ¬ (x.f3.size : Int) ≤ 400 := by omega
      simp [h1, h2, h2']
  · simp [h1]
theorem w64 {n : Int} (h0 : -9223372036854775808 ≤ n) (h1 : n ≤ 9223372036854775807) : wrap64 n = n := by
  unfold wrap64
  omega
def cS (a b : List UInt8) : Int := if Op.bytesLess a b = true then -1 else if Op.bytesLess b a = true then 1 else 0
theorem bt_nat (s : ByteArray) (i : Nat) (h : i < s.size) : bt s (i : Int) = ((s[i]'h).toNat : Int) := by
  unfold bt
  rw [dif_pos (by simpa using h)]
  rfl
theorem toL_len (s : ByteArray) : s.toList.length = s.size := by rw [ByteArray.toList_eq]; rfl
theorem toL_get (s : ByteArray) (i : Nat) (h : i < s.size) : s.toList[i]'(by rw [toL_len]; exact h) = s[i]'h := by
  have e := ByteArray.toList_eq s
  simp only [e]
  rfl
theorem toL_drop (s : ByteArray) (i : Nat) (h : i < s.size) : s.toList.drop i = s[i]'h :: s.toList.drop (i + 1) := by
  rw [List.drop_eq_getElem_cons (by rw [toL_len]; exact h), toL_get s i h]
theorem cS_eq (a : UInt8) (x y : List UInt8) : cS (a :: x) (a :: y) = cS x y := by
  have h0 : ¬ a < a := by rw [UInt8.lt_iff_toNat_lt]; omega
  unfold cS
  simp only [Op.bytesLess]
  simp [h0]
theorem cS_lt (a b : UInt8) (x y : List UInt8) (h : a.toNat < b.toNat) : cS (a :: x) (b :: y) = -1 := by
  unfold cS
  simp only [Op.bytesLess]
  have h1 : a < b := UInt8.lt_iff_toNat_lt.2 h
  simp [h1]
theorem cS_gt (a b : UInt8) (x y : List UInt8) (h : b.toNat < a.toNat) : cS (a :: x) (b :: y) = 1 := by
  unfold cS
  simp only [Op.bytesLess]
  have h1 : b < a := UInt8.lt_iff_toNat_lt.2 h
  have h2 : ¬ a < b := by rw [UInt8.lt_iff_toNat_lt]; omega
  have h3 : ¬ a = b := fun e => by rw [e] at h; omega
  simp [h1, h2, h3]
theorem rcmp_l0 (x y : Mem) (hx : x.f3.size ≤ 9223372036854775807) (d : Nat) : ∀ i : Nat, x.f3.size - i ≤ d → i ≤ x.f3.size → i ≤ y.f3.size →
    Ev (fun k => hearsayref17_Cmp.l0 k (i : Int) x.f0 x.f1 x.f2 x.f3 y.f0 y.f1 y.f2 y.f3) (cS (x.f3.toList.drop i) (y.f3.toList.drop i)) := by
  induction d with
  | zero =>
    intro i hd hi hj
    have hie : i = x.f3.size := by omega
    refine Ev.step (fun k => by simp only [hearsayref17_Cmp.l0]; rw [if_neg (by omega)]) ?_
    rw [List.drop_of_length_le (by rw [toL_len]; omega)]
    by_cases he : x.f3.size = y.f3.size
    · rw [List.drop_of_length_le (by rw [toL_len]; omega)]
      refine Ev.step (f := fun _ => some (cS [] [])) (fun k => ?_) (Ev.now _)
      simp only [hearsayref17_Cmp.j1]
      rw [if_neg (by simp), if_pos (by omega)]
      rfl
    · rw [toL_drop y.f3 i (by omega)]
      refine Ev.step (f := fun _ => some (cS [] (y.f3[i]'(by omega) :: y.f3.toList.drop (i + 1)))) (fun k => ?_) (Ev.now _)
      simp only [hearsayref17_Cmp.j1]
      rw [if_neg (by simp), if_neg (by omega), if_pos (by omega)]
      rfl
  | succ d ih =>
    intro i hd hi hj
    by_cases hlt : i < x.f3.size
    · rw [toL_drop x.f3 i hlt]
      by_cases hly : i < y.f3.size
      · have hdy : decide ((i : Int) < (y.f3.size : Int)) = true := decide_eq_true (by omega)
        refine Ev.step (fun k => by simp only [hearsayref17_Cmp.l0]; rw [if_pos (by omega), hdy]) ?_
        rw [toL_drop y.f3 i hly]
        by_cases he : x.f3[i] = y.f3[i]
        · have := ih (i + 1) (by omega) (by omega) (by omega)
          rw [he, cS_eq]
          refine Ev.step (fun k => ?_) this
          simp only [hearsayref17_Cmp.j1]
          rw [if_pos trivial, if_pos (by omega), if_pos (by omega), if_pos (by omega), bt_nat _ _ hlt, bt_nat _ _ hly, he, if_pos rfl]
          rw [show wrap64 ((i : Int) + 1) = ((i + 1 : Nat) : Int) by rw [w64 (by omega) (by omega)]; omega]
        · have hne : x.f3[i].toNat ≠ y.f3[i].toNat := fun e => he (UInt8.toNat_inj.1 e)
          by_cases hll : x.f3[i].toNat < y.f3[i].toNat
          · rw [cS_lt _ _ _ _ hll]
            refine Ev.step (f := fun _ => some (-1)) (fun k => ?_) (Ev.now _)
            simp only [hearsayref17_Cmp.j1]
            rw [if_pos trivial, if_pos (by omega), if_pos (by omega), if_pos (by omega), bt_nat _ _ hlt, bt_nat _ _ hly, if_neg (by omega), if_pos (by omega)]
          · rw [cS_gt _ _ _ _ (by omega)]
            refine Ev.step (f := fun _ => some 1) (fun k => ?_) (Ev.now _)
            simp only [hearsayref17_Cmp.j1]
            rw [if_pos trivial, if_pos (by omega), if_pos (by omega), if_pos (by omega), bt_nat _ _ hlt, bt_nat _ _ hly, if_neg (by omega), if_neg (by omega)]
      · have hdy : decide ((i : Int) < (y.f3.size : Int)) = false := decide_eq_false (by omega)
        refine Ev.step (fun k => by simp only [hearsayref17_Cmp.l0]; rw [if_pos (by omega), hdy]) ?_
        rw [List.drop_of_length_le (l := y.f3.toList) (by rw [toL_len]; omega)]
        refine Ev.step (f := fun _ => some (cS (x.f3[i] :: x.f3.toList.drop (i + 1)) [])) (fun k => ?_) (Ev.now _)
        simp only [hearsayref17_Cmp.j1]
        rw [if_neg (by simp), if_neg (by omega), if_neg (by omega)]
        rfl
    · exact ih i (by omega) hi hj
theorem rcmp_f (x y : Mem) (hx : x.f3.size ≤ 9223372036854775807) : Ev (fun k => hearsayref17_Cmp.f k x.f0 x.f1 x.f2 x.f3 y.f0 y.f1 y.f2 y.f3) (cmpM x y) := by
  unfold hearsayref17_Cmp.f cmpM
  by_cases h1 : x.f1 = y.f1
  · simp only [if_pos h1]
    by_cases h2 : x.f2 = y.f2
    · simp only [if_pos h2]
      have := rcmp_l0 x y hx x.f3.size 0 (by omega) (by omega) (by omega)
      simpa [cS] using this
    · simp only [if_neg h2]
      by_cases h3 : x.f2 < y.f2
      · simp only [if_pos h3]; exact Ev.now _
      · simp only [if_neg h3, if_pos (show x.f2 > y.f2 by omega)]; exact Ev.now _
  · simp only [if_neg h1]
    by_cases h3 : x.f1 < y.f1
    · simp only [if_pos h3]; exact Ev.now _
    · simp only [if_neg h3, if_pos (show x.f1 > y.f1 by omega)]; exact Ev.now _
end Go.Proofs.Ytognmibankcefaa.Print
