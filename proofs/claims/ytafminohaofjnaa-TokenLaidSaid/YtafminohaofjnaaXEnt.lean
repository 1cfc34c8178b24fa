/- What token.Entries, and the reference's kinds of bytes, answer: in plain words. -/
import Derived.Test.YtafminohaofjnaaXTok
import Derived.Test.YtafminohaofjnaaKinds
namespace Go.Proofs.Ytafminohaofjnaa.Print
open Go.RowKit Go.Proofs.YtafminohaofjnaaW.PrintWords Go.Proofs.YtafminohaofjnaaW.PrintLast Go.Proofs.YtafminohaofjnaaW.PrintMore
set_option linter.unusedVariables false
set_option linter.unusedSimpArgs false
/-- an entry that begins at byte p -/
def entOf (T : List Int) (p : Nat) (ws : List S23) : S45 := ⟨blankB (T.getD p 0), (pl T p).1, ws⟩
def closeE (T : List Int) (p : Nat) (ws : List S23) (out : List S45) : List S45 := if ws.isEmpty = true then out else out ++ [entOf T p ws]
def wordOf (s : ByteArray) (T : List Int) (b e : Nat) (q : Bool) : S23 := ⟨if q = true then s.extract (b + 1) (e - 1) else s.extract b e, q, (pl T b).1, (pl T b).2⟩
def finish (s : ByteArray) (T : List Int) (x : Option (Nat × Int)) : List Tok → Nat → List S23 → List S45 → List S45 × Int × Int × Int
  | [], p, ws, out => match x with
    | none => (closeE T p ws out, 0, 0, 0)
    | some y => ([], (pl T y.1).1, (pl T y.1).2, y.2)
  | .stop q :: r, p, ws, out => finish s T x r (q + 1) [] (closeE T p ws out)
  | .word b e q :: r, p, ws, out => finish s T x r p (ws ++ [wordOf s T b e q]) out
def fin (s : ByteArray) (t : Toks) (p : Nat) (ws : List S23) (out : List S45) : List S45 × Int × Int × Int := finish s (bytesOf s) t.2 t.1 p ws out
def token_Entries.f (s : ByteArray) : Option (List S45 × Int × Int × Int) :=
  if 262144 < s.size then some ([], 0, 0, 2) else some (fin s (lex (bytesOf s) 0 []) 0 [] [])
/-- what each byte is -/
def kindF : Nat → List Int → List Nat → List Int
  | 0, _, _ => []
  | _ + 1, [], _ => []
  | k + 1, c :: r, op =>
    if blankB c = true then 1 :: kindF k r op
    else if c = 10 then (if op = [] then 2 :: kindF k r [] else 1 :: kindF k r op)
    else if c = 59 then 1 :: (List.replicate (rLen r) 1 ++ kindF k (r.drop (rLen r)) op)
    else if c = 40 then 1 :: kindF k r (op ++ [0])
    else if c = 41 then 1 :: kindF k r op.dropLast
    else if c = 34 then (match qEnd r with
      | none => []
      | some m => 5 :: (List.replicate m 4 ++ kindF k (r.drop m) op))
    else 3 :: (List.replicate (bLen (c :: r) - 1) 4 ++ kindF k (r.drop (bLen (c :: r) - 1)) op)
def kindL (l : List Int) (op : List Nat) : List Int := kindF (l.length + 1) l op
def hearsayref08_kinds.f (s : ByteArray) : Option (List Int × Int × Int) :=
  if 262144 < s.size then none else match (lex (bytesOf s) 0 []).2 with
  | none => some (kindL (bytesOf s) [], 0, 0)
  | some y => some ([], (y.1 : Int), y.2)
end Go.Proofs.Ytafminohaofjnaa.Print
