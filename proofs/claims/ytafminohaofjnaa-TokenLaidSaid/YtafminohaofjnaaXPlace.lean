/- Where words and entries stand, in plain words. -/
import Derived.Test.YtafminohaofjnaaXSame
namespace Go.Proofs.Ytafminohaofjnaa.Print
open Go.RowKit Go.Proofs.YtafminohaofjnaaW.PrintWords Go.Proofs.YtafminohaofjnaaW.PrintLast Go.Proofs.YtafminohaofjnaaW.PrintMore
set_option linter.unusedVariables false
set_option linter.unusedSimpArgs false
/-- words that stand one behind the other, from byte lo on -/
def ToksOK (T : List Int) : Nat → List Tok → Prop
  | _, [] => True
  | lo, .stop p :: r => lo ≤ p ∧ T[p]? = some 10 ∧ ToksOK T (p + 1) r
  | lo, .word b e q :: r => lo ≤ b ∧ b < e ∧ e ≤ T.length ∧ (q = true → T[b]? = some 34 ∧ T[e - 1]? = some 34 ∧ b + 2 ≤ e) ∧ ToksOK T e r
theorem ToksOK.lower {T : List Int} {lo lo' : Nat} {l : List Tok} (h : ToksOK T lo l) (hl : lo' ≤ lo) : ToksOK T lo' l := by
  cases l with
  | nil => trivial
  | cons t r =>
    cases t with
    | stop p => exact ⟨by have := h.1; omega, h.2⟩
    | word b e q => exact ⟨by have := h.1; omega, h.2⟩
theorem qEnd_last : ∀ (l : List Int) (m : Nat), qEnd l = some m → l[m - 1]? = some 34
  | [], m, h => by cases h
  | [c], m, h => by
    simp only [qEnd] at h
    split at h
    · cases h; rename_i hc; simp [hc]
    · cases h
  | c :: d :: r, m, h => by
    simp only [qEnd] at h
    split at h
    · cases h
    · split at h
      · cases h; rename_i hc; simp [hc]
      · split at h
        · obtain ⟨k, hk, rfl⟩ := Option.map_eq_some_iff.1 h
          have h1 := qEnd_last r k hk
          have h2 := qEnd_le r k hk
          rw [show k + 2 - 1 = (k - 1) + 1 + 1 by omega]
          simpa using h1
        · obtain ⟨k, hk, rfl⟩ := Option.map_eq_some_iff.1 h
          have h1 := qEnd_last (d :: r) k hk
          have h2 := qEnd_le (d :: r) k hk
          rw [show k + 1 - 1 = (k - 1) + 1 by omega]
          simpa using h1
theorem lex_ok (T : List Int) : ∀ (n : Nat) (l : List Int) (p : Nat) (op : List Nat), l.length ≤ n → T.drop p = l → ToksOK T p (lex l p op).1
  | _, [], p, op, _, _ => by rw [lex_nil]; trivial
  | 0, c :: r, p, op, hn, _ => by simp at hn
  | n + 1, c :: r, p, op, hn, hT => by
    simp only [List.length_cons] at hn
    have hlen : T.length = p + 1 + r.length := by
      have := congrArg List.length hT
      simp at this; omega
    have hc : T[p]? = some c := by
      have : (T.drop p)[0]? = some c := by rw [hT]; rfl
      simpa using this
    have hd : T.drop (p + 1) = r := by rw [← List.drop_drop, hT]; rfl
    have hr := rLen_le r
    have hb := bLen_le (c :: r)
    simp only [List.length_cons] at hb
    have key : ∀ (m : Nat) (o : List Nat), ToksOK T (p + 1 + m) (lex (r.drop m) (p + 1 + m) o).1 := fun m o => lex_ok T n (r.drop m) (p + 1 + m) o (by simp; omega) (by rw [← List.drop_drop, hd])
    have k0 : ∀ (o : List Nat), ToksOK T (p + 1) (lex r (p + 1) o).1 := fun o => by simpa using key 0 o
    rw [lex_cons]
    by_cases h1 : blankB c = true
    · rw [if_pos h1]; exact (k0 op).lower (by omega)
    rw [if_neg h1]
    by_cases h2 : c = 10
    · rw [if_pos h2]
      by_cases ho : op = []
      · rw [if_pos ho]; exact ⟨Nat.le_refl _, by rw [hc, h2], k0 []⟩
      · rw [if_neg ho]; exact (k0 op).lower (by omega)
    rw [if_neg h2]
    by_cases h3 : c = 59
    · rw [if_pos h3]; exact (key (rLen r) op).lower (by omega)
    rw [if_neg h3]
    by_cases h4 : c = 40
    · rw [if_pos h4]; exact (k0 _).lower (by omega)
    rw [if_neg h4]
    by_cases h5 : c = 41
    · rw [if_pos h5]
      by_cases ho : op = []
      · rw [if_pos ho]; trivial
      · rw [if_neg ho]; exact (k0 _).lower (by omega)
    rw [if_neg h5]
    by_cases h6 : c = 34
    · rw [if_pos h6]
      cases hm : qEnd r with
      | none => trivial
      | some m =>
        have hq := qEnd_le r m hm
        have hl := qEnd_last r m hm
        refine ⟨Nat.le_refl _, by omega, by omega, fun _ => ⟨by rw [hc, h6], ?_, by omega⟩, key m op⟩
        rw [show p + 1 + m - 1 = (p + 1) + (m - 1) by omega, ← List.getElem?_drop, hd]
        exact hl
    · rw [if_neg h6]
      have hp : 1 ≤ bLen (c :: r) := bLen_pos (by unfold specB; simp [h1, h2, h3, h4, h5, h6])
      have hk := key (bLen (c :: r) - 1) op
      rw [show p + 1 + (bLen (c :: r) - 1) = p + bLen (c :: r) by omega] at hk
      exact ⟨Nat.le_refl _, by omega, by omega, fun h => (by cases h), hk⟩
/-- the words of an entry -/
def WordsOK (s : ByteArray) : Nat → List S23 → Nat → Prop
  | lo, [], hi => lo ≤ hi
  | lo, w :: ws, hi => ∃ b e q, w = wordOf s (bytesOf s) b e q ∧ lo ≤ b ∧ b < e ∧ e ≤ s.size ∧ (q = true → (bytesOf s)[b]? = some 34 ∧ (bytesOf s)[e - 1]? = some 34 ∧ b + 2 ≤ e) ∧ WordsOK s e ws hi
theorem WordsOK.up {s : ByteArray} {lo hi hi' : Nat} {ws : List S23} (h : WordsOK s lo ws hi) (hh : hi ≤ hi') : WordsOK s lo ws hi' := by
  induction ws generalizing lo with
  | nil => exact Nat.le_trans h hh
  | cons w ws ih =>
    obtain ⟨b, e, q, h1, h2, h3, h4, h5, h6⟩ := h
    exact ⟨b, e, q, h1, h2, h3, h4, h5, ih h6⟩
theorem WordsOK.snoc {s : ByteArray} {lo hi b e : Nat} {q : Bool} {ws : List S23} (h : WordsOK s lo ws hi) (h2 : hi ≤ b) (h3 : b < e) (h4 : e ≤ s.size) (h5 : q = true → (bytesOf s)[b]? = some 34 ∧ (bytesOf s)[e - 1]? = some 34 ∧ b + 2 ≤ e) : WordsOK s lo (ws ++ [wordOf s (bytesOf s) b e q]) e := by
  induction ws generalizing lo with
  | nil => exact ⟨b, e, q, rfl, by have : lo ≤ hi := h; omega, h3, h4, h5, Nat.le_refl _⟩
  | cons w ws ih =>
    obtain ⟨b', e', q', k1, k2, k3, k4, k5, k6⟩ := h
    exact ⟨b', e', q', k1, k2, k3, k4, k5, ih k6⟩
/-- entries -/
def EntsOK (s : ByteArray) : Nat → List S45 → Nat → Prop
  | lo, [], hi => lo ≤ hi
  | lo, x :: xs, hi => ∃ p mid, x = entOf (bytesOf s) p x.f2 ∧ lo ≤ p ∧ p < s.size ∧ (pl (bytesOf s) p).2 = 1 ∧ x.f2 ≠ [] ∧ WordsOK s p x.f2 mid ∧ EntsOK s mid xs hi
theorem EntsOK.up {s : ByteArray} {lo hi hi' : Nat} {xs : List S45} (h : EntsOK s lo xs hi) (hh : hi ≤ hi') : EntsOK s lo xs hi' := by
  induction xs generalizing lo with
  | nil => exact Nat.le_trans h hh
  | cons x xs ih =>
    obtain ⟨p, mid, h1, h2, h3, h4, h5, h6, h7⟩ := h
    exact ⟨p, mid, h1, h2, h3, h4, h5, h6, ih h7⟩
theorem EntsOK.snoc {s : ByteArray} {lo hi p mid : Nat} {ws : List S23} {xs : List S45} (h : EntsOK s lo xs hi) (h2 : hi ≤ p) (h3 : p < s.size) (h4 : (pl (bytesOf s) p).2 = 1) (h5 : ws ≠ []) (h6 : WordsOK s p ws mid) : EntsOK s lo (xs ++ [entOf (bytesOf s) p ws]) mid := by
  induction xs generalizing lo with
  | nil => exact ⟨p, mid, rfl, by have : lo ≤ hi := h; omega, h3, h4, h5, h6, Nat.le_refl _⟩
  | cons x xs ih =>
    obtain ⟨p', mid', k1, k2, k3, k4, k5, k6, k7⟩ := h
    exact ⟨p', mid', k1, k2, k3, k4, k5, k6, ih k7⟩
theorem WordsOK.first {s : ByteArray} {lo hi : Nat} {ws : List S23} (h : WordsOK s lo ws hi) (hne : ws ≠ []) : lo < s.size := by
  cases ws with
  | nil => exact absurd rfl hne
  | cons w ws =>
    obtain ⟨b, e, q, h1, h2, h3, h4, h5, h6⟩ := h
    omega
theorem closeE_ok {s : ByteArray} {lo hi p mid : Nat} {ws : List S23} {out : List S45} (h : EntsOK s lo out hi) (h2 : hi ≤ p) (h4 : (pl (bytesOf s) p).2 = 1) (h6 : WordsOK s p ws mid) : EntsOK s lo (closeE (bytesOf s) p ws out) mid := by
  unfold closeE
  cases ws with
  | nil => exact h.up (by have : p ≤ mid := h6; omega)
  | cons w ws => exact h.snoc h2 (h6.first (by simp)) h4 (by simp) h6
theorem finish_ok (s : ByteArray) (x : Option (Nat × Int)) : ∀ (l : List Tok) (lo p : Nat) (ws : List S23) (out : List S45) (hi : Nat), ToksOK (bytesOf s) lo l → WordsOK s p ws lo → (pl (bytesOf s) p).2 = 1 → EntsOK s 0 out hi → hi ≤ p → ∃ k, EntsOK s 0 (finish s (bytesOf s) x l p ws out).1 k
  | [], lo, p, ws, out, hi, ht, hw, hp, ho, hh => by
    unfold finish
    cases x with
    | some y => exact ⟨0, Nat.le_refl _⟩
    | none => exact ⟨lo, closeE_ok ho hh hp hw⟩
  | .stop q :: r, lo, p, ws, out, hi, ht, hw, hp, ho, hh => by
    obtain ⟨h1, h2, h3⟩ := ht
    unfold finish
    refine finish_ok s x r (q + 1) (q + 1) [] _ lo h3 (Nat.le_refl _) ?_ (closeE_ok ho hh hp hw) (by omega)
    rw [pl_succ h2]; rfl
  | .word b e q :: r, lo, p, ws, out, hi, ht, hw, hp, ho, hh => by
    obtain ⟨h1, h2, h3, h4, h5⟩ := ht
    rw [bytesOf_length] at h3
    unfold finish
    exact finish_ok s x r e p _ out hi h5 (hw.snoc h1 h2 h3 h4) hp ho hh
theorem entr_ok (s : ByteArray) : ∃ k, EntsOK s 0 (entr s).1 k := by
  unfold entr token_Entries.f
  split
  · exact ⟨0, Nat.le_refl _⟩
  · simp only [Option.getD_some]
    unfold fin
    exact finish_ok s _ _ 0 0 [] [] 0 (lex_ok (bytesOf s) _ (bytesOf s) 0 [] (Nat.le_refl _) (by simp)) (Nat.le_refl _) rfl (Nat.le_refl _) (Nat.le_refl _)
/-! ### where lines begin -/
def lineAt (s : ByteArray) : Nat → List Int
  | 0 => [0]
  | k + 1 => if bt s (k : Int) = 10 ∧ k < s.size then lineAt s k ++ [((k + 1 : Nat) : Int)] else lineAt s k
theorem lineAt_len (s : ByteArray) : ∀ k, k ≤ s.size → ((lineAt s k).length : Int) = (pl (bytesOf s) k).1 ∧ (lineAt s k)[(lineAt s k).length - 1]? = some ((k : Int) - (pl (bytesOf s) k).2 + 1)
  | 0, _ => by simp [lineAt, pl_zero]
  | k + 1, hk => by
    obtain ⟨h1, h2⟩ := lineAt_len s k (by omega)
    rw [pl_succ (bt_get (s := s) (i := k) (by omega))]
    unfold stepP
    unfold lineAt
    by_cases hc : bt s (k : Int) = 10
    · rw [if_pos ⟨hc, by omega⟩, if_pos hc]
      refine ⟨by simp; omega, ?_⟩
      simp
    · rw [if_neg (fun h => hc h.1), if_neg hc]
      refine ⟨h1, ?_⟩
      rw [h2]
      simp only
      congr 1; omega
theorem lineAt_pre (s : ByteArray) (p : Nat) (d : Nat) : ∃ t, lineAt s (p + d) = lineAt s p ++ t := by
  induction d with
  | zero => exact ⟨[], by simp⟩
  | succ d ih =>
    obtain ⟨t, ht⟩ := ih
    rw [← Nat.add_assoc]
    by_cases h : bt s ((p + d : Nat) : Int) = 10 ∧ p + d < s.size
    · exact ⟨t ++ [((p + d + 1 : Nat) : Int)], by rw [lineAt, if_pos h, ht, List.append_assoc]⟩
    · exact ⟨t, by rw [lineAt, if_neg h, ht]⟩
/-- the begin of a byte's line -/
theorem line_begin (s : ByteArray) (p : Nat) (hp : p ≤ s.size) : rd (lineAt s s.size) ((pl (bytesOf s) p).1 - 1) = (p : Int) - (pl (bytesOf s) p).2 + 1 ∧ (pl (bytesOf s) p).1 ≤ (lineAt s s.size).length := by
  obtain ⟨h1, h2⟩ := lineAt_len s p hp
  obtain ⟨t, ht⟩ := lineAt_pre s p (s.size - p)
  rw [show p + (s.size - p) = s.size by omega] at ht
  have hb := pl_bound (bytesOf s) p
  refine ⟨?_, by rw [ht, List.length_append]; omega⟩
  unfold rd
  rw [List.getD_eq_getElem?_getD, ht, show ((pl (bytesOf s) p).1 - 1).toNat = (lineAt s p).length - 1 by omega, List.getElem?_append_left (by omega), h2]
  rfl
theorem lineAt_le (s : ByteArray) : ∀ k, (lineAt s k).length ≤ k + 1
  | 0 => by simp [lineAt]
  | k + 1 => by
    have := lineAt_le s k
    unfold lineAt
    split
    · simp; omega
    · omega
theorem pl_mono (T : List Int) {a b : Nat} (h : a ≤ b) : (pl T a).1 ≤ (pl T b).1 := by
  induction b with
  | zero =>
    have : a = 0 := by omega
    rw [this]; exact Int.le_refl _
  | succ b ih =>
    by_cases he : a = b + 1
    · subst he; exact Int.le_refl _
    · have ih := ih (by omega)
      cases hg : T[b]? with
      | none =>
        have : pl T (b + 1) = pl T b := by
          unfold pl
          rw [List.getElem?_eq_none_iff] at hg
          rw [List.take_of_length_le hg, List.take_of_length_le (by omega)]
        rw [this]; exact ih
      | some c =>
        rw [pl_succ hg]
        unfold stepP
        split
        · simp only; omega
        · exact ih
end Go.Proofs.Ytafminohaofjnaa.Print
