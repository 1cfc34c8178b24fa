/- What is still to be told at each of the reader's places, in plain words: one step further. -/
import Derived.Test.YtafminohaofjnaaXEnt
import Derived.Test.YtafminohaofjnaaXBytes
namespace Go.Proofs.Ytafminohaofjnaa.Print
open Go.RowKit Go.Proofs.YtafminohaofjnaaW.PrintWords Go.Proofs.YtafminohaofjnaaW.PrintLast Go.Proofs.YtafminohaofjnaaW.PrintMore
set_option linter.unusedVariables false
set_option linter.unusedSimpArgs false
abbrev Res := List S45 × Int × Int × Int
/-- what is told from place 'between' at byte p on -/
def sp0 (s : ByteArray) (p : Nat) (ops : List Nat) (p0 : Nat) (ws : List S23) (out : List S45) : Res := fin s (lex ((bytesOf s).drop p) p ops) p0 ws out
def sp2 (s : ByteArray) (p : Nat) (ops : List Nat) (p0 : Nat) (ws : List S23) (out : List S45) : Res := sp0 s (p + rLen ((bytesOf s).drop p)) ops p0 ws out
def sp3 (s : ByteArray) (f p : Nat) (ops : List Nat) (p0 : Nat) (ws : List S23) (out : List S45) : Res :=
  match qEnd ((bytesOf s).drop p) with
  | none => ([], (pl (bytesOf s) f).1, (pl (bytesOf s) f).2, 80)
  | some m => sp0 s (p + m) ops p0 (ws ++ [wordOf s (bytesOf s) f (p + m) true]) out
def sp4 (s : ByteArray) (f p : Nat) (ops : List Nat) (p0 : Nat) (ws : List S23) (out : List S45) : Res := sp0 s p ops p0 (ws ++ [wordOf s (bytesOf s) f p false]) out
def sp5 (s : ByteArray) (f p : Nat) (ops : List Nat) (p0 : Nat) (ws : List S23) (out : List S45) : Res := sp4 s f (p + bLen ((bytesOf s).drop p)) ops p0 ws out
section
variable {s : ByteArray} {p f p0 : Nat} {ops : List Nat} {ws : List S23} {out : List S45}
theorem fin_word (s : ByteArray) (r : Toks) (b e : Nat) (q : Bool) (p0 : Nat) (ws : List S23) (out : List S45) : fin s (r.add (.word b e q)) p0 ws out = fin s r p0 (ws ++ [wordOf s (bytesOf s) b e q]) out := rfl
theorem fin_stop (s : ByteArray) (r : Toks) (b : Nat) (p0 : Nat) (ws : List S23) (out : List S45) : fin s (r.add (.stop b)) p0 ws out = fin s r (b + 1) [] (closeE (bytesOf s) p0 ws out) := rfl
theorem sp0_open (h : p < s.size) : sp0 s p ops p0 ws out = fin s (lex (bt s (p : Int) :: (bytesOf s).drop (p + 1)) p ops) p0 ws out := by unfold sp0; rw [bo_drop s p h]
theorem sp0_blank (h : p < s.size) (hc : blankB (bt s (p : Int)) = true) : sp0 s p ops p0 ws out = sp0 s (p + 1) ops p0 ws out := by
  rw [sp0_open h, lex_cons, if_pos hc]; rfl
theorem sp0_stop (h : p < s.size) (hc : bt s (p : Int) = 10) : sp0 s p [] p0 ws out = sp0 s (p + 1) [] (p + 1) [] (closeE (bytesOf s) p0 ws out) := by
  rw [sp0_open h, lex_cons, if_neg (by rw [hc]; decide), if_pos hc, if_pos rfl, fin_stop]; rfl
theorem sp0_line (h : p < s.size) (hc : bt s (p : Int) = 10) (ho : ops ≠ []) : sp0 s p ops p0 ws out = sp0 s (p + 1) ops p0 ws out := by
  rw [sp0_open h, lex_cons, if_neg (by rw [hc]; decide), if_pos hc, if_neg ho]; rfl
theorem sp0_remark (h : p < s.size) (hc : bt s (p : Int) = 59) : sp0 s p ops p0 ws out = sp2 s (p + 1) ops p0 ws out := by
  rw [sp0_open h, lex_cons, if_neg (by rw [hc]; decide), if_neg (by omega), if_pos hc, List.drop_drop]; rfl
theorem sp0_open_ (h : p < s.size) (hc : bt s (p : Int) = 40) : sp0 s p ops p0 ws out = sp0 s (p + 1) (ops ++ [p]) p0 ws out := by
  rw [sp0_open h, lex_cons, if_neg (by rw [hc]; decide), if_neg (by omega), if_neg (by omega), if_pos hc]; rfl
theorem sp0_bad (h : p < s.size) (hc : bt s (p : Int) = 41) : sp0 s p [] p0 ws out = ([], (pl (bytesOf s) p).1, (pl (bytesOf s) p).2, 81) := by
  rw [sp0_open h, lex_cons, if_neg (by rw [hc]; decide), if_neg (by omega), if_neg (by omega), if_neg (by omega), if_pos hc, if_pos rfl]; rfl
theorem sp0_close (h : p < s.size) (hc : bt s (p : Int) = 41) (ho : ops ≠ []) : sp0 s p ops p0 ws out = sp0 s (p + 1) ops.dropLast p0 ws out := by
  rw [sp0_open h, lex_cons, if_neg (by rw [hc]; decide), if_neg (by omega), if_neg (by omega), if_neg (by omega), if_pos hc, if_neg ho]; rfl
theorem fin_err (s : ByteArray) (y : Nat × Int) (p0 : Nat) (ws : List S23) (out : List S45) : fin s ([], some y) p0 ws out = ([], (pl (bytesOf s) y.1).1, (pl (bytesOf s) y.1).2, y.2) := rfl
theorem sp0_quote (h : p < s.size) (hc : bt s (p : Int) = 34) : sp0 s p ops p0 ws out = sp3 s p (p + 1) ops p0 ws out := by
  rw [sp0_open h, lex_cons, if_neg (by rw [hc]; decide), if_neg (by omega), if_neg (by omega), if_neg (by omega), if_neg (by omega), if_pos hc]
  unfold sp3
  cases qEnd ((bytesOf s).drop (p + 1)) with
  | none => rfl
  | some m =>
    simp only
    rw [fin_word, List.drop_drop]; rfl
theorem spec_false {c : Int} (h1 : blankB c = false) (h2 : c ≠ 10) (h3 : c ≠ 59) (h4 : c ≠ 40) (h5 : c ≠ 41) (h6 : c ≠ 34) : specB c = false := by
  unfold specB; simp [h1, h2, h3, h4, h5, h6]
theorem sp0_bare (h : p < s.size) (hc : specB (bt s (p : Int)) = false) : sp0 s p ops p0 ws out = sp5 s p p ops p0 ws out := by
  have hc' := hc
  unfold specB at hc'
  simp only [Bool.or_eq_false_iff, beq_eq_false_iff_ne] at hc'
  obtain ⟨⟨⟨⟨⟨h1, h2⟩, h3⟩, h4⟩, h5⟩, h6⟩ := hc'
  rw [sp0_open h, lex_cons, if_neg (by simp [h1]), if_neg h2, if_neg h3, if_neg h4, if_neg h5, if_neg h6, fin_word]
  unfold sp5 sp4 sp0
  rw [bo_drop s p h]
  have hp := bLen_pos (r := (bytesOf s).drop (p + 1)) hc
  rw [List.drop_drop, show p + 1 + (bLen (bt s (p : Int) :: (bytesOf s).drop (p + 1)) - 1) = p + bLen (bt s (p : Int) :: (bytesOf s).drop (p + 1)) by omega]
theorem sp5_stop (h : p < s.size → specB (bt s (p : Int)) = true) : sp5 s f p ops p0 ws out = sp4 s f p ops p0 ws out := by
  unfold sp5
  by_cases hp : p < s.size
  · rw [bo_drop s p hp, bLen_cons, if_pos (h hp)]; rfl
  · rw [bo_end s p (by omega)]; rfl
theorem head_next (h : p + 1 < s.size) : ((bytesOf s).drop (p + 1)) ≠ [] ∧ ((bytesOf s).drop (p + 1)).head? = some (bt s ((p + 1 : Nat) : Int)) ∧ ((bytesOf s).drop (p + 1)).tail = (bytesOf s).drop (p + 2) := by
  rw [bo_drop s (p + 1) h]; simp
theorem sp5_two (h : p < s.size) (hc : bt s (p : Int) = 92) (h1 : p + 1 < s.size) (hd : bt s ((p + 1 : Nat) : Int) ≠ 10) : sp5 s f p ops p0 ws out = sp5 s f (p + 2) ops p0 ws out := by
  obtain ⟨e1, e2, e3⟩ := head_next h1
  unfold sp5
  rw [bo_drop s p h, bLen_cons, if_neg (by rw [hc]; decide), if_pos ⟨hc, e1, by rw [e2]; simpa using hd⟩, e3]
  congr 1; omega
theorem sp5_one (h : p < s.size) (hs : specB (bt s (p : Int)) = false) (hd : bt s (p : Int) = 92 → p + 1 < s.size → bt s ((p + 1 : Nat) : Int) = 10) : sp5 s f p ops p0 ws out = sp5 s f (p + 1) ops p0 ws out := by
  unfold sp5
  rw [bo_drop s p h, bLen_cons, if_neg (by simp [hs]), if_neg]
  · congr 1; omega
  · rintro ⟨h1, h2, h3⟩
    by_cases hp : p + 1 < s.size
    · obtain ⟨e1, e2, e3⟩ := head_next hp
      rw [e2] at h3
      exact h3 (by rw [hd h1 hp])
    · exact h2 (bo_end s (p + 1) (by omega))
theorem sp3_bad (h : p < s.size → bt s (p : Int) = 10) : sp3 s f p ops p0 ws out = ([], (pl (bytesOf s) f).1, (pl (bytesOf s) f).2, 80) := by
  unfold sp3
  by_cases hp : p < s.size
  · rw [bo_drop s p hp, qEnd_cons, if_pos (h hp)]
  · rw [bo_end s p (by omega)]; rfl
theorem sp3_end (h : p < s.size) (hc : bt s (p : Int) = 34) : sp3 s f p ops p0 ws out = sp0 s (p + 1) ops p0 (ws ++ [wordOf s (bytesOf s) f (p + 1) true]) out := by
  unfold sp3
  rw [bo_drop s p h, qEnd_cons, if_neg (by omega), if_pos hc]
theorem sp3_two (h : p < s.size) (hc : bt s (p : Int) = 92) (h1 : p + 1 < s.size) (hd : bt s ((p + 1 : Nat) : Int) ≠ 10) : sp3 s f p ops p0 ws out = sp3 s f (p + 2) ops p0 ws out := by
  obtain ⟨e1, e2, e3⟩ := head_next h1
  unfold sp3
  rw [bo_drop s p h, qEnd_cons, if_neg (by omega), if_neg (by omega), if_pos ⟨hc, e1, by rw [e2]; simpa using hd⟩, e3]
  cases qEnd ((bytesOf s).drop (p + 2)) with
  | none => rfl
  | some m =>
    simp only [Option.map_some]
    rw [show p + (m + 2) = p + 2 + m by omega]
theorem sp3_one (h : p < s.size) (h10 : bt s (p : Int) ≠ 10) (h34 : bt s (p : Int) ≠ 34) (hd : bt s (p : Int) = 92 → p + 1 < s.size → bt s ((p + 1 : Nat) : Int) = 10) : sp3 s f p ops p0 ws out = sp3 s f (p + 1) ops p0 ws out := by
  unfold sp3
  rw [bo_drop s p h, qEnd_cons, if_neg h10, if_neg h34, if_neg]
  · cases qEnd ((bytesOf s).drop (p + 1)) with
    | none => rfl
    | some m =>
      simp only [Option.map_some]
      rw [show p + (m + 1) = p + 1 + m by omega]
  · rintro ⟨h1, h2, h3⟩
    by_cases hp : p + 1 < s.size
    · obtain ⟨e1, e2, e3⟩ := head_next hp
      rw [e2] at h3
      exact h3 (by rw [hd h1 hp])
    · exact h2 (bo_end s (p + 1) (by omega))
theorem sp2_one (h : p < s.size) (hc : bt s (p : Int) ≠ 10) : sp2 s p ops p0 ws out = sp2 s (p + 1) ops p0 ws out := by
  unfold sp2
  rw [bo_drop s p h, rLen, if_neg hc]
  congr 1; omega
theorem sp2_end (h : p < s.size → bt s (p : Int) = 10) : sp2 s p ops p0 ws out = sp0 s p ops p0 ws out := by
  unfold sp2
  by_cases hp : p < s.size
  · rw [bo_drop s p hp, rLen, if_pos (h hp)]; rfl
  · rw [bo_end s p (by omega)]; rfl
theorem sp0_end (h : s.size ≤ p) : sp0 s p ops p0 ws out = match ops.head? with | none => (closeE (bytesOf s) p0 ws out, 0, 0, 0) | some q => ([], (pl (bytesOf s) q).1, (pl (bytesOf s) q).2, 81) := by
  unfold sp0
  rw [bo_end s p h, lex_nil]
  cases ops.head? <;> rfl
end
/-- places along a line -/
theorem bt_get' {s : ByteArray} {i : Nat} (h : i < s.size) : (bytesOf s)[i]? = some (bt s (i : Int)) := by
  have := bo_drop s i h
  have h2 : ((bytesOf s).drop i)[0]? = some (bt s (i : Int)) := by rw [this]; rfl
  simpa using h2
theorem pl_go {s : ByteArray} {p : Nat} (h : p < s.size) (hc : bt s (p : Int) ≠ 10) : pl (bytesOf s) (p + 1) = ((pl (bytesOf s) p).1, (pl (bytesOf s) p).2 + 1) := by
  rw [pl_succ (bt_get' h)]; unfold stepP; rw [if_neg hc]
theorem pl_nl {s : ByteArray} {p : Nat} (h : p < s.size) (hc : bt s (p : Int) = 10) : pl (bytesOf s) (p + 1) = ((pl (bytesOf s) p).1 + 1, 1) := by
  rw [pl_succ (bt_get' h)]; unfold stepP; rw [if_pos hc]
end Go.Proofs.Ytafminohaofjnaa.Print
