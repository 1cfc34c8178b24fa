/- What Check and Cmp of members tell. -/
import Derived.Test.YtihmblbnnhcdnaaXPm
import Derived.Test.YtihmblbnnhcdnaaF24
import Derived.Test.YtihmblbnnhcdnaaF25
namespace Go.Proofs.Ytihmblbnnhcdnaa.Print
open Go.RowKit Go.Maps Go.ChangeMaps Go.Proofs.YtihmblbnnhcdnaaW.PrintWords Go.Proofs.YtihmblbnnhcdnaaW.PrintLast Go.Proofs.YtihmblbnnhcdnaaW.PrintMore
set_option linter.unusedVariables false
set_option linter.unusedSimpArgs false
def mayM (x : Mem) : Bool := decide (x.f2 ≤ 3) && decide (x.f3.size ≤ 400)
def cmpM (x y : Mem) : Int := if x.f1 = y.f1 then (if x.f2 = y.f2 then (if Op.bytesLess x.f3.toList y.f3.toList = true then -1 else if Op.bytesLess y.f3.toList x.f3.toList = true then 1 else 0) else if x.f2 < y.f2 then -1 else if x.f2 > y.f2 then 1 else 0) else if x.f1 < y.f1 then -1 else if x.f1 > y.f1 then 1 else 0
theorem check_f (x : Mem) : member_Check.f x.f0 x.f1 x.f2 x.f3 = some (if mayM x = true then 0 else 170) := by
  unfold member_Check.f mayM
  by_cases h1 : x.f2 > 3
  · rw [if_pos h1, if_neg (by simp; omega)]
  · rw [if_neg h1]
    by_cases h2 : (x.f3.size : Int) > 400
    · rw [if_pos h2, if_neg (by simp; omega)]
    · rw [if_neg h2, if_pos (by simp; omega)]
theorem nan_s (a : ByteArray) : cmp_isNaN_string.f a = some false := by unfold cmp_isNaN_string.f; simp
theorem nan_32 (a : Int) : cmp_isNaN_uint32.f a = some false := by unfold cmp_isNaN_uint32.f; simp
theorem nan_8 (a : Int) : cmp_isNaN_uint8.f a = some false := by unfold cmp_isNaN_uint8.f; simp
theorem cmp_f (x y : Mem) : member_Cmp.f x.f0 x.f1 x.f2 x.f3 y.f0 y.f1 y.f2 y.f3 = some (cmpM x y) := by
  unfold member_Cmp.f cmpM cmp_Compare_string.f cmp_Compare_uint8.f cmp_Compare_uint32.f
  simp only [nan_s, nan_32, nan_8, Option.bind_some, Bool.false_eq_true, if_false]
  repeat' split
  all_goals rfl
end Go.Proofs.Ytihmblbnnhcdnaa.Print
