/- Entries are the same as themselves; how many there are; the example that is read. -/
import Derived.Test.YtafminohaofjnaaXREnt
import Derived.Test.YtafminohaofjnaaF14
namespace Go.Proofs.Ytafminohaofjnaa.Print
open Go.RowKit Go.Proofs.YtafminohaofjnaaW.PrintWords Go.Proofs.YtafminohaofjnaaW.PrintLast Go.Proofs.YtafminohaofjnaaW.PrintMore
set_option linter.unusedVariables false
set_option linter.unusedSimpArgs false
theorem lex_len : ∀ (n : Nat) (l : List Int) (p : Nat) (op : List Nat), l.length ≤ n → (lex l p op).1.length ≤ l.length
  | _, [], p, op, _ => by rw [lex_nil]; simp
  | 0, c :: r, p, op, hn => by simp at hn
  | n + 1, c :: r, p, op, hn => by
    simp only [List.length_cons] at hn ⊢
    have key : ∀ (m q : Nat) (o : List Nat), (lex (r.drop m) q o).1.length ≤ r.length := fun m q o => by
      have := lex_len n (r.drop m) q o (by simp; omega)
      rw [List.length_drop] at this; omega
    have k0 : ∀ (q : Nat) (o : List Nat), (lex r q o).1.length ≤ r.length := fun q o => by simpa using key 0 q o
    rw [lex_cons]
    split
    · have := k0 (p + 1) op; omega
    split
    · split
      · have := k0 (p + 1) []; simp only [Toks.add, List.length_cons]; omega
      · have := k0 (p + 1) op; omega
    split
    · have := key (rLen r) (p + 1 + rLen r) op; omega
    split
    · have := k0 (p + 1) (op ++ [p]); omega
    split
    · split
      · simp
      · have := k0 (p + 1) op.dropLast; omega
    split
    · split
      · simp
      · rename_i m hm
        have := key m (p + 1 + m) op; simp only [Toks.add, List.length_cons]; omega
    · have := key (bLen (c :: r) - 1) (p + bLen (c :: r)) op; simp only [Toks.add, List.length_cons]; omega
theorem finish_len (s : ByteArray) (T : List Int) (x : Option (Nat × Int)) (B : Nat) : ∀ (l : List Tok) (p : Nat) (ws : List S23) (out : List S45), ws.length + l.length ≤ B → out.length + l.length < B → (∀ e ∈ out, e.f2.length ≤ B) →
    (finish s T x l p ws out).1.length ≤ B ∧ ∀ e ∈ (finish s T x l p ws out).1, e.f2.length ≤ B
  | [], p, ws, out, h1, h2, h3 => by
    unfold finish
    cases x with
    | some y => simp
    | none =>
      simp only [closeE]
      simp at h1 h2
      split
      · exact ⟨by omega, h3⟩
      · refine ⟨by simp; omega, fun e he => ?_⟩
        rcases List.mem_append.1 he with he | he
        · exact h3 e he
        · simp at he; subst he; exact h1
  | .stop q :: r, p, ws, out, h1, h2, h3 => by
    simp only [List.length_cons] at h1 h2
    unfold finish
    refine finish_len s T x B r _ _ _ (by simp; omega) ?_ ?_
    · simp only [closeE]; split
      · omega
      · simp; omega
    · intro e he
      simp only [closeE] at he
      split at he
      · exact h3 e he
      · rcases List.mem_append.1 he with he | he
        · exact h3 e he
        · simp at he; subst he; simp only [entOf]; omega
  | .word b e q :: r, p, ws, out, h1, h2, h3 => by
    simp only [List.length_cons] at h1 h2
    unfold finish
    exact finish_len s T x B r _ _ _ (by simp; omega) (by omega) h3
/-- what Entries answers -/
def entr (s : ByteArray) : List S45 × Int × Int × Int := (token_Entries.f s).getD ([], 0, 0, 0)
theorem entr_f (s : ByteArray) : token_Entries.f s = some (entr s) := by
  unfold entr token_Entries.f
  split <;> rfl
theorem entr_len (s : ByteArray) : (entr s).1.length ≤ 262145 ∧ ∀ e ∈ (entr s).1, e.f2.length ≤ 262145 := by
  unfold entr token_Entries.f
  split
  · simp
  · rename_i h
    have := lex_len _ (bytesOf s) 0 [] (Nat.le_refl _)
    rw [bytesOf_length] at this
    simp only [Option.getD_some]
    unfold fin
    exact finish_len s _ _ 262145 _ _ _ _ (by simp; omega) (by simp; omega) (by simp)
theorem finish_nil (s : ByteArray) (T : List Int) (x : Option (Nat × Int)) : ∀ (l : List Tok) (p : Nat) (ws : List S23) (out : List S45), (finish s T x l p ws out).2.2.2 ≠ 0 → (finish s T x l p ws out).1 = []
  | [], p, ws, out => by
    unfold finish
    cases x with
    | none => exact fun h => absurd rfl h
    | some y => exact fun _ => rfl
  | .stop q :: r, p, ws, out => finish_nil s T x r _ _ _
  | .word b e q :: r, p, ws, out => finish_nil s T x r _ _ _
theorem entr_nil (s : ByteArray) (h : (entr s).2.2.2 ≠ 0) : (entr s).1 = [] := by
  unfold entr token_Entries.f at h ⊢
  split
  · rfl
  · rename_i hs
    rw [if_neg hs] at h
    exact finish_nil s _ _ _ _ _ _ h
theorem same_l (L : List S45) (hL : L.length ≤ 1000000) (hw : ∀ e ∈ L, e.f2.length ≤ 1000000) (d : Nat) : ∀ i : Nat, L.length - i ≤ d → i ≤ L.length → Ev (fun k => hearsayref08_Same.l0 k L L (i : Int)) true := by
  induction d with
  | zero =>
    intro i hd hi
    refine Ev.step (f := fun _ => some true) (fun k => ?_) (Ev.now _)
    simp only [hearsayref08_Same.l0]
    rw [if_neg (by omega)]
  | succ d ih =>
    intro i hd hi
    by_cases hlt : i < L.length
    · have ih := ih (i + 1) (by omega) (by omega)
      have hm : rd_T45 L (i : Int) ∈ L := by
        unfold rd_T45
        rw [List.getD_eq_getElem?_getD, Int.toNat_natCast, List.getElem?_eq_getElem hlt, Option.getD_some]
        exact List.getElem_mem hlt
      have hB := hw _ hm
      have inner : ∀ (e j : Nat), (rd_T45 L (i : Int)).f2.length - j ≤ e → j ≤ (rd_T45 L (i : Int)).f2.length → Ev (fun k => hearsayref08_Same.l1 k L L (i : Int) (j : Int)) true := by
        intro e
        induction e with
        | zero =>
          intro j he hj
          refine Ev.step (fun k => ?_) ih
          simp only [hearsayref08_Same.l1]
          rw [if_pos (by omega), if_pos (by omega), if_neg (by omega), w64 (by omega) (by omega)]
          rfl
        | succ e ihe =>
          intro j he hj
          by_cases hl : j < (rd_T45 L (i : Int)).f2.length
          · refine Ev.step (fun k => ?_) (ihe (j + 1) (by omega) (by omega))
            simp only [hearsayref08_Same.l1]
            rw [if_pos (by omega), if_pos (by omega), if_pos (by omega), if_pos (by omega), if_pos (by omega), if_pos (by omega), if_neg (by simp), w64 (by omega) (by omega)]
            rfl
          · refine Ev.step (fun k => ?_) ih
            simp only [hearsayref08_Same.l1]
            rw [if_pos (by omega), if_pos (by omega), if_neg (by omega), w64 (by omega) (by omega)]
            rfl
      refine Ev.step (f := fun k => hearsayref08_Same.j1 k L L (i : Int) false) (fun k => ?_) (Ev.step (fun k => ?_) (inner _ 0 (by omega) (by omega)))
      · simp only [hearsayref08_Same.l0]
        rw [if_pos (by omega), if_pos (by omega), if_pos (by omega), if_neg (by simp), if_pos trivial]
        simp
      · simp only [hearsayref08_Same.j1]
        rw [if_neg (by simp)]
        rfl
    · refine Ev.step (f := fun _ => some true) (fun k => ?_) (Ev.now _)
      simp only [hearsayref08_Same.l0]
      rw [if_neg (by omega)]
theorem same_ev (L : List S45) (hL : L.length ≤ 1000000) (hw : ∀ e ∈ L, e.f2.length ≤ 1000000) : Ev (fun k => hearsayref08_Same.f k L L) true := by
  refine Ev.congr (fun k => ?_) (same_l L hL hw L.length 0 (by omega) (by omega))
  unfold hearsayref08_Same.f
  rw [if_pos rfl]
  rfl
theorem entr_same (s : ByteArray) : Ev (fun k => hearsayref08_Same.f k (entr s).1 (entr s).1) true := by
  have := entr_len s
  exact same_ev _ (by omega) (fun e he => by have := this.2 e he; omega)
end Go.Proofs.Ytafminohaofjnaa.Print
