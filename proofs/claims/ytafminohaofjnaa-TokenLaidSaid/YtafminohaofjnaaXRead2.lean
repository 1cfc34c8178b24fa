/- What holds at the labels of the reader's walk through a text. -/
import Derived.Test.YtafminohaofjnaaXRead1
import Derived.Test.YtafminohaofjnaaXSteps
import Derived.Test.YtafminohaofjnaaXJumps
namespace Go.Proofs.Ytafminohaofjnaa.Print
set_option linter.unusedVariables false
set_option linter.unusedSimpArgs false
open Go.RowKit Go.Proofs.YtafminohaofjnaaW.PrintWords Go.Proofs.YtafminohaofjnaaW.PrintLast Go.Proofs.YtafminohaofjnaaW.PrintMore Go.Proofs.Ytafminohaofjnaa.Jumps
/-- the whole frame of 'read': what is known of it at a label -/
def Fr (g bx : Nat) (v4 : Value) (u : Nat → Value) : Array Value := #[.pointer (some ⟨g, 0, none⟩), u 1, .pointer (some ⟨bx, 0, none⟩), .int .i64 0, v4, u 5, u 6, u 7, u 8, u 9, u 10, u 11, u 12, u 13, u 14, u 15, u 16, u 17, u 18, u 19, u 20, u 21, u 22, u 23, u 24, u 25, u 26, u 27, u 28, u 29, u 30, u 31, u 32, u 33, u 34, u 35, u 36, u 37, u 38, u 39, u 40, u 41, u 42, u 43, u 44, u 45, u 46, u 47, u 48, u 49, u 50, u 51, u 52, u 53, u 54, u 55, u 56, u 57, u 58, u 59, u 60, u 61, u 62, u 63, u 64, u 65, u 66, u 67, u 68, u 69, u 70, u 71, u 72, u 73, u 74, u 75, u 76, u 77, u 78, u 79, u 80, u 81, u 82, u 83, u 84, u 85, u 86, u 87, u 88, u 89, u 90, u 91, u 92, u 93, u 94, u 95, u 96, u 97, u 98, u 99, u 100, u 101, u 102, u 103, u 104, u 105, u 106, u 107, u 108, u 109, u 110, u 111, u 112, u 113, u 114, u 115, u 116, u 117, u 118, u 119, u 120, u 121, u 122, u 123, u 124, u 125, u 126, u 127, u 128, u 129, u 130, u 131, u 132, u 133, u 134, u 135, u 136, u 137, u 138, u 139, u 140, u 141, u 142, u 143, u 144, u 145, u 146, u 147, u 148, u 149, u 150, u 151, u 152, u 153, u 154, u 155, u 156, u 157, u 158, u 159, u 160, u 161, u 162, u 163, u 164, u 165, u 166, u 167, u 168, u 169, u 170, u 171, u 172, u 173, u 174, u 175, u 176, u 177, u 178, u 179, u 180, u 181, u 182, u 183, u 184, u 185, u 186, u 187, u 188, u 189, u 190, u 191, u 192, u 193, u 194, u 195, u 196, u 197, u 198, u 199, u 200, u 201, u 202, u 203, u 204, u 205, u 206, u 207, u 208, u 209, u 210, u 211, u 212, u 213, u 214, u 215, u 216, u 217, u 218, u 219, u 220, u 221, u 222, u 223, u 224, u 225, u 226, u 227, u 228, u 229, u 230, u 231, u 232, u 233, u 234, u 235, u 236, u 237, u 238, u 239, u 240, u 241, u 242, u 243, u 244, u 245, u 246, u 247, u 248, u 249, u 250, u 251, u 252, u 253, u 254, u 255, u 256, u 257, u 258, u 259, u 260, u 261, u 262, u 263, u 264, u 265, u 266, u 267, u 268, u 269, u 270, u 271, u 272, u 273, u 274, u 275, u 276, u 277, u 278, u 279, u 280, u 281, u 282, u 283, u 284, u 285, u 286, u 287, u 288, u 289, u 290, u 291, u 292, u 293, u 294, u 295, u 296, u 297, u 298, u 299, u 300, u 301, u 302, u 303, u 304, u 305, u 306, u 307, u 308, u 309, u 310, u 311, u 312, u 313, u 314, u 315, u 316, u 317, u 318, u 319, u 320, u 321, u 322, u 323, u 324, u 325, u 326, u 327, u 328, u 329, u 330, u 331, u 332, u 333, u 334, u 335, u 336, u 337, u 338, u 339, u 340, u 341, u 342, u 343, u 344]
set_option maxRecDepth 100000 in
theorem range_list (f : Nat → Value) : (List.range 345).map f = [f 0, f 1, f 2, f 3, f 4, f 5, f 6, f 7, f 8, f 9, f 10, f 11, f 12, f 13, f 14, f 15, f 16, f 17, f 18, f 19, f 20, f 21, f 22, f 23, f 24, f 25, f 26, f 27, f 28, f 29, f 30, f 31, f 32, f 33, f 34, f 35, f 36, f 37, f 38, f 39, f 40, f 41, f 42, f 43, f 44, f 45, f 46, f 47, f 48, f 49, f 50, f 51, f 52, f 53, f 54, f 55, f 56, f 57, f 58, f 59, f 60, f 61, f 62, f 63, f 64, f 65, f 66, f 67, f 68, f 69, f 70, f 71, f 72, f 73, f 74, f 75, f 76, f 77, f 78, f 79, f 80, f 81, f 82, f 83, f 84, f 85, f 86, f 87, f 88, f 89, f 90, f 91, f 92, f 93, f 94, f 95, f 96, f 97, f 98, f 99, f 100, f 101, f 102, f 103, f 104, f 105, f 106, f 107, f 108, f 109, f 110, f 111, f 112, f 113, f 114, f 115, f 116, f 117, f 118, f 119, f 120, f 121, f 122, f 123, f 124, f 125, f 126, f 127, f 128, f 129, f 130, f 131, f 132, f 133, f 134, f 135, f 136, f 137, f 138, f 139, f 140, f 141, f 142, f 143, f 144, f 145, f 146, f 147, f 148, f 149, f 150, f 151, f 152, f 153, f 154, f 155, f 156, f 157, f 158, f 159, f 160, f 161, f 162, f 163, f 164, f 165, f 166, f 167, f 168, f 169, f 170, f 171, f 172, f 173, f 174, f 175, f 176, f 177, f 178, f 179, f 180, f 181, f 182, f 183, f 184, f 185, f 186, f 187, f 188, f 189, f 190, f 191, f 192, f 193, f 194, f 195, f 196, f 197, f 198, f 199, f 200, f 201, f 202, f 203, f 204, f 205, f 206, f 207, f 208, f 209, f 210, f 211, f 212, f 213, f 214, f 215, f 216, f 217, f 218, f 219, f 220, f 221, f 222, f 223, f 224, f 225, f 226, f 227, f 228, f 229, f 230, f 231, f 232, f 233, f 234, f 235, f 236, f 237, f 238, f 239, f 240, f 241, f 242, f 243, f 244, f 245, f 246, f 247, f 248, f 249, f 250, f 251, f 252, f 253, f 254, f 255, f 256, f 257, f 258, f 259, f 260, f 261, f 262, f 263, f 264, f 265, f 266, f 267, f 268, f 269, f 270, f 271, f 272, f 273, f 274, f 275, f 276, f 277, f 278, f 279, f 280, f 281, f 282, f 283, f 284, f 285, f 286, f 287, f 288, f 289, f 290, f 291, f 292, f 293, f 294, f 295, f 296, f 297, f 298, f 299, f 300, f 301, f 302, f 303, f 304, f 305, f 306, f 307, f 308, f 309, f 310, f 311, f 312, f 313, f 314, f 315, f 316, f 317, f 318, f 319, f 320, f 321, f 322, f 323, f 324, f 325, f 326, f 327, f 328, f 329, f 330, f 331, f 332, f 333, f 334, f 335, f 336, f 337, f 338, f 339, f 340, f 341, f 342, f 343, f 344] := rfl
theorem list_range (l : List Value) (n : Nat) (h : l.length = n) : l = (List.range n).map (fun i => l.getD i undef) := by
  apply List.ext_getElem
  · simp [h]
  · intro i h1 h2
    simp [List.getD_eq_getElem?_getD, List.getElem?_eq_getElem h1]
set_option maxRecDepth 100000 in
theorem fr_of (g bx : Nat) (v4 : Value) (l : List Value) (hs : l.length = 345) (h0 : l.getD 0 undef = .pointer (some ⟨g, 0, none⟩)) (h2 : l.getD 2 undef = .pointer (some ⟨bx, 0, none⟩)) (h3 : l.getD 3 undef = .int .i64 0) (h4 : l.getD 4 undef = v4) :
    ∃ u, ({ tmps := ⟨l⟩, defers := [] } : Act) = { tmps := Fr g bx v4 u, defers := [] } := by
  refine ⟨fun i => l.getD i undef, ?_⟩
  have e := list_range l 345 hs
  rw [range_list] at e
  unfold Fr
  conv => lhs; rw [e]
  rw [h0, h2, h3, h4]
/-- the places of bytes -/
def spots (s : ByteArray) (ops : List Nat) : List S30 := ops.map fun q => ⟨(pl (bytesOf s) q).1, (pl (bytesOf s) q).2⟩
/-- the reader at byte p: its line, its open parentheses, its entry (begun at byte p0), its entries -/
structure RW (w0 : World) (s : ByteArray) (g bx base : Nat) (w : World) (p : Nat) (ops : List Nat) (p0 : Nat) (ws : List S23) (out : List S45) (ins : Bool) : Prop where
  rs : ∃ bl el, RS w g base s (p : Int) (pl (bytesOf s) p).1 ((p : Int) - (pl (bytesOf s) p).2 + 1) (spots s ops) bl el ws out ins ∧ (ins = true → bl = blankB ((bytesOf s).getD p0 0) ∧ el = (pl (bytesOf s) p0).1) ∧ (ins = false → p0 = p ∧ ws = [] ∧ bl = false ∧ el = 0)
  box : w.heap[bx]? = some (.cells #[.int .i64 0, .int .i64 0] 30 (0, 0))
  bg : Bg base g w0 w
  le : p ≤ s.size
  wl : ws.length ≤ p
  tl : out.length ≤ p
  ol : ops.length ≤ p
  opl : ∀ q ∈ ops, q < s.size
def posOf (g : Nat) (w : World) : Nat := match w.cell? ⟨g, 1, none⟩ with | some (.int _ n) => n.toNat | _ => 0
theorem RW.pos {w0 : World} {s : ByteArray} {g bx base : Nat} {w : World} {p : Nat} {ops : List Nat} {p0 : Nat} {ws : List S23} {out : List S45} {ins : Bool} (h : RW w0 s g bx base w p ops p0 ws out ins) : posOf g w = p := by
  obtain ⟨bl, el, hr, _⟩ := h.rs
  obtain ⟨vo, vw, vt, hb, _⟩ := hr.st
  unfold posOf
  rw [(blk_cell hb 1).trans rfl]
  show (p : Int).toNat = p
  omega
/-- what is to be told still, at label l -/
def Sp (s : ByteArray) (R : Res) (l : Nat) (v4 : Value) (p : Nat) (ops : List Nat) (p0 : Nat) (ws : List S23) (out : List S45) (ins : Bool) : Prop :=
  match l with
  | 0 => R = sp0 s p ops p0 ws out
  | 1 => s.size ≤ p ∧ R = sp0 s p ops p0 ws out
  | 2 => ins = true ∧ R = sp2 s p ops p0 ws out
  | 3 => ins = true ∧ ∃ f : Nat, v4 = .int .i64 (f : Int) ∧ f < p ∧ pl (bytesOf s) p = ((pl (bytesOf s) f).1, (pl (bytesOf s) f).2 + ((p - f : Nat) : Int)) ∧ ws.length ≤ f ∧ R = sp3 s f p ops p0 ws out
  | 4 => ins = true ∧ ∃ f : Nat, v4 = .int .i64 (f : Int) ∧ f < p ∧ pl (bytesOf s) p = ((pl (bytesOf s) f).1, (pl (bytesOf s) f).2 + ((p - f : Nat) : Int)) ∧ ws.length ≤ f ∧ R = sp4 s f p ops p0 ws out
  | 5 => ins = true ∧ ∃ f : Nat, v4 = .int .i64 (f : Int) ∧ f < p ∧ pl (bytesOf s) p = ((pl (bytesOf s) f).1, (pl (bytesOf s) f).2 + ((p - f : Nat) : Int)) ∧ ws.length ≤ f ∧ R = sp5 s f p ops p0 ws out
  | _ => False
def J (w0 : World) (s : ByteArray) (R : Res) (g bx base : Nat) (l : Nat) (a : Act) (w : World) : Prop :=
  ∃ u v4 p ops p0 ws out ins, a = { tmps := Fr g bx v4 u, defers := [] } ∧ RW w0 s g bx base w p ops p0 ws out ins ∧ Sp s R l v4 p ops p0 ws out ins
def muN (d : Nat) : Nat → Nat | 0 => 3 * d + 1 | 1 => 0 | 2 => 3 * d + 2 | 3 => 3 * d + 3 | 4 => 3 * d + 2 | _ => 3 * d + 3
def mu (s : ByteArray) (g : Nat) (l : Nat) (a : Act) (w : World) : Nat := muN (s.size - posOf g w) l
/-- what is told at the end -/
def Done (w0 : World) (R : Res) (g base : Nat) (e : Ending) (w : World) : Prop :=
  e = .returned (.tuple #[.agg #[.int .i64 R.2.1, .int .i64 R.2.2.1], .int .i64 R.2.2.2]) ∧ Below g w0 w ∧ (R.2.2.2 = 0 → ∃ vt, w.cell? ⟨g, 8, none⟩ = some vt ∧ Kd.S k45 45 w base (fun k => base ≤ k) vt R.1)
abbrev Out (w0 : World) (s : ByteArray) (R : Res) (g bx base m : Nat) : Exit → Act → World → Prop :=
  jumps (fun l a w => J w0 s R g bx base l a w ∧ mu s g l a w < m) (bodyPost Try.prog Try.f25 (Done w0 R g base))
/-- a jump, with its frame and its place -/
theorem jump_mk {w0 w : World} {s : ByteArray} {R : Res} {g bx base m l : Nat} {v4 : Value} {ls : List Value} {p p0 : Nat} {ops : List Nat} {ws : List S23} {out : List S45} {ins : Bool}
    (hs : ls.length = 345) (h0 : ls.getD 0 undef = .pointer (some ⟨g, 0, none⟩)) (h2 : ls.getD 2 undef = .pointer (some ⟨bx, 0, none⟩)) (h3 : ls.getD 3 undef = .int .i64 0) (h4 : ls.getD 4 undef = v4)
    (hw : RW w0 s g bx base w p ops p0 ws out ins) (hsp : Sp s R l v4 p ops p0 ws out ins) (hm : muN (s.size - p) l < m) :
    J w0 s R g bx base l { tmps := ⟨ls⟩, defers := [] } w ∧ mu s g l { tmps := ⟨ls⟩, defers := [] } w < m := by
  obtain ⟨u, hu⟩ := fr_of g bx v4 ls hs h0 h2 h3 h4
  refine ⟨⟨u, v4, p, ops, p0, ws, out, ins, hu, hw, hsp⟩, ?_⟩
  unfold mu
  rw [hw.pos]
  exact hm
end Go.Proofs.Ytafminohaofjnaa.Print
