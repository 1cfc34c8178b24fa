/- name.Cmp is an order; of names it is 0 just if they are alike. -/
import Derived.Test.YtfcmphigmfdceaaXUnder
namespace Go.Proofs.Ytfcmphigmfdceaa.Print
set_option linter.unusedVariables false
set_option linter.unusedSimpArgs false
open Go.RowKit Go.Proofs.YtfcmphigmfdceaaW.PrintWords Go.Proofs.YtfcmphigmfdceaaW.PrintLast Go.Proofs.YtfcmphigmfdceaaW.PrintMore
structure IsOrd {α : Type} (c : α → α → Int) : Prop where
  range : ∀ x y, -1 ≤ c x y ∧ c x y ≤ 1
  anti : ∀ x y, c x y = - c y x
  trans : ∀ x y z, c x y ≤ 0 → c y z ≤ 0 → c x z ≤ 0
theorem IsOrd.self {α : Type} {c : α → α → Int} (h : IsOrd c) (x : α) : c x x = 0 := by have := h.anti x x; omega
theorem IsOrd.lt1 {α : Type} {c : α → α → Int} (h : IsOrd c) {x y z : α} (h1 : c x y < 0) (h2 : c y z ≤ 0) : c x z < 0 := by
  have h3 := h.trans x y z (by omega) h2
  by_cases h4 : c x z = 0
  · have h5 := h.anti x z
    have h6 := h.trans y z x h2 (by omega)
    have h7 := h.anti x y
    omega
  · omega
theorem IsOrd.lt2 {α : Type} {c : α → α → Int} (h : IsOrd c) {x y z : α} (h1 : c x y ≤ 0) (h2 : c y z < 0) : c x z < 0 := by
  have h3 := h.trans x y z h1 (by omega)
  by_cases h4 : c x z = 0
  · have h5 := h.anti x z
    have h6 := h.trans z x y (by omega) h1
    have h7 := h.anti y z
    omega
  · omega
def lex {α : Type} (c : α → α → Int) : List α → List α → Int
  | [], [] => 0
  | [], _ :: _ => -1
  | _ :: _, [] => 1
  | x :: xs, y :: ys => if c x y = 0 then lex c xs ys else c x y
theorem lex_range {α : Type} {c : α → α → Int} (h : IsOrd c) : ∀ xs ys, -1 ≤ lex c xs ys ∧ lex c xs ys ≤ 1
  | [], [] => by simp [lex]
  | [], _ :: _ => by simp [lex]
  | _ :: _, [] => by simp [lex]
  | x :: xs, y :: ys => by
    simp only [lex]
    split
    · exact lex_range h xs ys
    · exact h.range x y
theorem lex_anti {α : Type} {c : α → α → Int} (h : IsOrd c) : ∀ xs ys, lex c xs ys = - lex c ys xs
  | [], [] => by simp [lex]
  | [], _ :: _ => by simp [lex]
  | _ :: _, [] => by simp [lex]
  | x :: xs, y :: ys => by
    simp only [lex]
    have ha := h.anti x y
    by_cases h0 : c x y = 0
    · rw [if_pos h0, if_pos (by omega)]; exact lex_anti h xs ys
    · rw [if_neg h0, if_neg (by omega)]; exact ha
theorem lex_trans {α : Type} {c : α → α → Int} (h : IsOrd c) : ∀ xs ys zs, lex c xs ys ≤ 0 → lex c ys zs ≤ 0 → lex c xs zs ≤ 0
  | [], _, [], _, _ => by simp [lex]
  | [], _, _ :: _, _, _ => by simp [lex]
  | x :: xs, [], _, h1, _ => by simp [lex] at h1
  | x :: xs, y :: ys, [], _, h2 => by simp [lex] at h2
  | x :: xs, y :: ys, z :: zs, h1, h2 => by
    simp only [lex] at h1 h2 ⊢
    by_cases e1 : c x y = 0
    · rw [if_pos e1] at h1
      by_cases e2 : c y z = 0
      · rw [if_pos e2] at h2
        have h3 := h.trans x y z (by omega) (by omega)
        have h4 := h.trans z y x (by have := h.anti y z; omega) (by have := h.anti x y; omega)
        have h5 := h.anti x z
        rw [if_pos (by omega)]
        exact lex_trans h xs ys zs h1 h2
      · rw [if_neg e2] at h2
        have h3 := h.lt2 (x := x) (y := y) (z := z) (by omega) (by omega)
        rw [if_neg (by omega)]; omega
    · rw [if_neg e1] at h1
      have h2' : c y z ≤ 0 := by
        by_cases e2 : c y z = 0
        · omega
        · rw [if_neg e2] at h2; exact h2
      have h3 := h.lt1 (x := x) (y := y) (z := z) (by omega) h2'
      rw [if_neg (by omega)]; omega
theorem lex_ord {α : Type} {c : α → α → Int} (h : IsOrd c) : IsOrd (lex c) := ⟨lex_range h, lex_anti h, lex_trans h⟩
theorem lex_zero {α : Type} {c : α → α → Int} (h0 : ∀ x y, c x y = 0 ↔ x = y) : ∀ xs ys, lex c xs ys = 0 ↔ xs = ys
  | [], [] => by simp [lex]
  | [], _ :: _ => by simp [lex]
  | _ :: _, [] => by simp [lex]
  | x :: xs, y :: ys => by
    simp only [lex, List.cons.injEq]
    by_cases e : c x y = 0
    · rw [if_pos e, lex_zero h0 xs ys]
      exact ⟨fun h => ⟨(h0 x y).1 e, h⟩, fun h => h.2⟩
    · rw [if_neg e]
      exact ⟨fun h => absurd h e, fun h => absurd ((h0 x y).2 h.1) e⟩
theorem lex_prefix {α : Type} {c : α → α → Int} (h : ∀ x, c x x = 0) : ∀ xs ys : List α, 0 ≤ lex c (xs ++ ys) xs
  | [], [] => by simp [lex]
  | [], _ :: _ => by simp [lex]
  | x :: xs, ys => by
    simp only [List.cons_append, lex]
    rw [if_pos (h x)]
    exact lex_prefix h xs ys
def cI (x y : Int) : Int := clamp (x - y)
theorem cI_ord : IsOrd cI := ⟨fun x y => by unfold cI clamp; omega, fun x y => by unfold cI clamp; omega, fun x y z h1 h2 => by unfold cI clamp at *; omega⟩
theorem cI_zero (x y : Int) : cI x y = 0 ↔ x = y := by unfold cI; rw [clamp_eq_zero]; omega
theorem clamp_cons {n m : Nat} : (n = 0 ∧ m = 0 → clamp ((n : Int) - (m : Int)) = 0) ∧ (n = 0 ∧ 0 < m → clamp ((n : Int) - (m : Int)) = -1) ∧ (0 < n ∧ m = 0 → clamp ((n : Int) - (m : Int)) = 1) := by
  refine ⟨fun h => ?_, fun h => ?_, fun h => ?_⟩ <;> · unfold clamp; omega
theorem diffP_lex : ∀ xs ys : List Int, clamp (diffP xs ys) = lex cI xs ys
  | [], [] => rfl
  | [], y :: ys => by simp only [diffP, lex]; exact clamp_cons.2.1 ⟨rfl, by simp⟩
  | x :: xs, [] => by simp only [diffP, lex]; exact clamp_cons.2.2 ⟨by simp, rfl⟩
  | x :: xs, y :: ys => by
    simp only [diffP, lex]
    by_cases h : x = y
    · rw [if_pos h, if_pos ((cI_zero x y).2 h)]; exact diffP_lex xs ys
    · rw [if_neg h, if_neg (fun e => h ((cI_zero x y).1 e))]; rfl
def keyB (s : ByteArray) : List Int := (bytesOf s).map low1
theorem diffL_lex : ∀ xs ys : List ByteArray, clamp (diffL xs ys) = lex (lex cI) (xs.map keyB) (ys.map keyB)
  | [], [] => rfl
  | [], y :: ys => by simp only [diffL, lex, List.map_nil, List.map_cons]; exact clamp_cons.2.1 ⟨rfl, by simp⟩
  | x :: xs, [] => by simp only [diffL, lex, List.map_nil, List.map_cons]; exact clamp_cons.2.2 ⟨by simp, rfl⟩
  | x :: xs, y :: ys => by
    simp only [diffL, lex, List.map_cons]
    have e : lex cI (keyB x) (keyB y) = clamp (diffB (bytesOf x) (bytesOf y)) := by rw [diffB_map, diffP_lex]; rfl
    rw [e]
    by_cases h : diffB (bytesOf x) (bytesOf y) = 0
    · rw [if_pos h, if_pos (clamp_eq_zero.2 h)]; exact diffL_lex xs ys
    · rw [if_neg h, if_neg (fun h2 => h (clamp_eq_zero.1 h2))]
/-- what Cmp sees of a name: its labels from the last on, in small letters; of what is none: its bytes -/
inductive Key
  | isName (l : List (List Int))
  | none (b : List Int)
def cK : Key → Key → Int
  | .isName l, .isName m => lex (lex cI) l m
  | .isName _, .none _ => -1
  | .none _, .isName _ => 1
  | .none b, .none c => lex cI b c
theorem cK_ord : IsOrd cK := by
  have o1 := lex_ord cI_ord
  have o2 := lex_ord o1
  refine ⟨fun x y => ?_, fun x y => ?_, fun x y z h1 h2 => ?_⟩
  · cases x <;> cases y <;> simp only [cK]
    · exact o2.range _ _
    · omega
    · omega
    · exact o1.range _ _
  · cases x <;> cases y <;> simp only [cK]
    · exact o2.anti _ _
    · omega
    · exact o1.anti _ _
  · cases x <;> cases y <;> cases z <;> simp only [cK] at h1 h2 ⊢
    · exact o2.trans _ _ _ h1 h2
    · omega
    · omega
    · omega
    · omega
    · omega
    · omega
    · exact o1.trans _ _ _ h1 h2
def keyN (n : ByteArray) : Key := match dec n with | some L => .isName (L.reverse.map keyB) | none => .none (bytesOf n)
theorem cmp_key (a b : ByteArray) : cmpP a b = cK (keyN a) (keyN b) := by
  unfold cmpP keyN
  cases dec a <;> cases dec b <;> simp only [cK]
  · rw [compare_diff, diffP_lex]; rfl
  · exact diffL_lex _ _
theorem low_small {c : Int} (h : c < 65) : low1 c = c := by unfold low1; rw [if_neg (by omega)]
theorem glue_low : ∀ (L : List ByteArray), L.any badLab = false → (glue L).map low1 = glue (L.map lowS)
  | [], _ => rfl
  | s :: L, h => by
    rw [List.any_cons, Bool.or_eq_false_iff] at h
    have hs := bad_false h.1
    have ih := glue_low L h.2
    simp only [glue, List.flatMap_cons, List.map_append, List.map_cons] at ih ⊢
    rw [ih]
    unfold lab
    rw [List.map_cons, low_small (by omega), bytes_lowS, lowS_size]
theorem bad_low (L : List ByteArray) (h : L.any badLab = false) : (L.map lowS).any badLab = false := by
  rw [List.any_eq_false] at h ⊢
  intro x hx
  obtain ⟨s, hs, rfl⟩ := List.mem_map.1 hx
  have := h s hs
  unfold badLab at this ⊢
  rw [lowS_size]; exact this
theorem dec_low {n : ByteArray} {L : List ByteArray} (h : dec n = some L) : dec (lowS n) = some (L.map lowS) := by
  obtain ⟨h1, h2, h3⟩ := dec_some h
  unfold dec
  rw [lowS_size, if_neg (by omega), bytes_lowS, h2, List.map_append, glue_low L h3]
  exact cut_glue _ (bad_low L h3)
theorem keyB_low {s u : ByteArray} : keyB s = keyB u ↔ lowS s = lowS u := by
  unfold keyB
  rw [← bytes_lowS, ← bytes_lowS]
  exact ⟨fun h => bytes_inj h, fun h => by rw [h]⟩
theorem keys_low {L M : List ByteArray} : L.map keyB = M.map keyB ↔ L.map lowS = M.map lowS := by
  have e : ∀ K : List ByteArray, K.map keyB = (K.map lowS).map bytesOf := fun K => by
    rw [List.map_map]; exact List.map_congr_left fun s _ => (bytes_lowS s).symm
  rw [e, e]
  refine ⟨fun h => ?_, fun h => by rw [h]⟩
  exact (List.map_inj_right (fun a b h => bytes_inj h)).1 h
theorem alike_iff {a b : ByteArray} {L M : List ByteArray} (ha : dec a = some L) (hb : dec b = some M) : lowS a = lowS b ↔ L.map keyB = M.map keyB := by
  rw [keys_low]
  refine ⟨fun h => ?_, fun h => dec_inj (dec_low ha) (by rw [h]; exact dec_low hb)⟩
  have h1 := dec_low ha
  rw [h, dec_low hb] at h1
  exact (Option.some.inj h1).symm
theorem toList_eq {a b : ByteArray} : a.toList = b.toList ↔ a = b := by
  constructor
  · intro h
    rw [Lib.toList_data, Lib.toList_data] at h
    exact ByteArray.ext (Array.ext' h)
  · intro h; rw [h]
theorem cmp_alike {a b : ByteArray} (ha : (dec a).isSome) (hb : (dec b).isSome) : cmpP a b = 0 ↔ lowS a = lowS b := by
  obtain ⟨L, hL⟩ := Option.isSome_iff_exists.1 ha
  obtain ⟨M, hM⟩ := Option.isSome_iff_exists.1 hb
  rw [cmp_key, alike_iff hL hM]
  unfold keyN
  rw [hL, hM]
  simp only [cK]
  rw [lex_zero (lex_zero cI_zero), List.map_reverse, List.map_reverse]
  exact List.reverse_inj
theorem cmp_under {a b : ByteArray} (h : underP a b = true) : 0 ≤ cmpP a b := by
  unfold underP at h
  cases ha : dec a with
  | none => rw [ha] at h; cases h
  | some L =>
    cases hb : dec b with
    | none => rw [ha, hb] at h; cases h
    | some M =>
      rw [ha, hb] at h
      simp only [] at h
      by_cases hl : L.length < M.length
      · rw [if_pos hl] at h; cases h
      · rw [if_neg hl] at h
        have hd : dec (nameOf (L.drop (L.length - M.length))) = some (L.drop (L.length - M.length)) := dec_nameOf (drop_fine (dec_some ha).2.2 _) (glue_drop ha _)
        have he := (alike_iff hd hb).1 (toList_eq.1 (by simpa using h))
        rw [cmp_key]
        unfold keyN
        rw [ha, hb]
        simp only [cK]
        have e : L.reverse.map keyB = M.reverse.map keyB ++ (L.take (L.length - M.length)).reverse.map keyB := by
          rw [List.map_reverse (l := M), ← he, ← List.map_reverse, ← List.map_append, ← List.reverse_append, List.take_append_drop]
        rw [e]
        exact lex_prefix (fun x => (lex_ord cI_ord).self x) _ _
end Go.Proofs.Ytfcmphigmfdceaa.Print
