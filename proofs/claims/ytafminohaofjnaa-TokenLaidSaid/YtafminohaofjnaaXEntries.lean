/- token.Entries, walked. -/
import Derived.Test.YtafminohaofjnaaXRead7
namespace Go.Proofs.Ytafminohaofjnaa.Print
open Go.RowKit Go.Proofs.YtafminohaofjnaaW.PrintWords Go.Proofs.YtafminohaofjnaaW.PrintLast Go.Proofs.YtafminohaofjnaaW.PrintMore
theorem token_Entries.calls (a0 : ByteArray) (r1 : List S45) (r2 r3 r4 : Int) (w : World) (h : token_Entries.f a0 = some (r1, r2, r3, r4)) :
  Calls Try.prog 12 #[.string a0] w fun e w' => ∃ v0_ : Value, e = .returned (.tuple #[v0_, .agg #[.int .i64 r2, .int .i64 r3], .int .i64 r4]) ∧ Kd.S k45 45 w' w.heap.size (fun _ => True) v0_ r1 ∧ Below w.heap.size w w' := by
  by_cases hs : 262144 < a0.size
  · exact Entries_big a0 r1 r2 r3 r4 w h hs
  · by_cases he : r4 = 0
    · exact Entries_ok a0 r1 r2 r3 r4 w h (by omega) he
    · exact Entries_bad a0 r1 r2 r3 r4 w h (by omega) he
end Go.Proofs.Ytafminohaofjnaa.Print
