/- Some texts of the proof in one: XOrder, XRefP, XRef25, XAskLaws, XLent, XLawChecks. -/
import Derived.Test.YtfcmphigmfdceaaXUnder
import Derived.Test.YtfcmphigmfdceaaXAskP
import Derived.Test.YtfcmphigmfdceaaF27
import Derived.Test.YtfcmphigmfdceaaF19
import Derived.Test.YtfcmphigmfdceaaF17
import Derived.Test.YtfcmphigmfdceaaF15
import Derived.Test.YtfcmphigmfdceaaF10
import Derived.Test.YtfcmphigmfdceaaF18
import Derived.Test.YtfcmphigmfdceaaXStr
import Derived.Test.YtfcmphigmfdceaaEq38
import Derived.Test.YtfcmphigmfdceaaEq32
import Derived.Test.YtfcmphigmfdceaaXAsk
import Derived.Test.YtfcmphigmfdceaaF13
section
/- name.Cmp is an order; of names it is 0 just if they are alike. -/
namespace Go.Proofs.Ytfcmphigmfdceaa.Print
set_option linter.unusedVariables false
set_option linter.unusedSimpArgs false
open Go.RowKit Go.Proofs.YtfcmphigmfdceaaW.PrintWords Go.Proofs.YtfcmphigmfdceaaW.PrintLast Go.Proofs.YtfcmphigmfdceaaW.PrintMore
structure IsOrd {α : Type} (c : α → α → Int) : Prop where
  range : ∀ x y, -1 ≤ c x y ∧ c x y ≤ 1
  anti : ∀ x y, c x y = - c y x
  trans : ∀ x y z, c x y ≤ 0 → c y z ≤ 0 → c x z ≤ 0
theorem IsOrd.self {α : Type} {c : α → α → Int} (h : IsOrd c) (x : α) : c x x = 0 := by have := h.anti x x; omega
theorem IsOrd.lt1 {α : Type} {c : α → α → Int} (h : IsOrd c) {x y z : α} (h1 : c x y < 0) (h2 : c y z ≤ 0) : c x z < 0 := by
  have h3 := h.trans x y z (by omega) h2
  by_cases h4 : c x z = 0
  · have h5 := h.anti x z
    have h6 := h.trans y z x h2 (by omega)
    have h7 := h.anti x y
    omega
  · omega
theorem IsOrd.lt2 {α : Type} {c : α → α → Int} (h : IsOrd c) {x y z : α} (h1 : c x y ≤ 0) (h2 : c y z < 0) : c x z < 0 := by
  have h3 := h.trans x y z h1 (by omega)
  by_cases h4 : c x z = 0
  · have h5 := h.anti x z
    have h6 := h.trans z x y (by omega) h1
    have h7 := h.anti y z
    omega
  · omega
def lex {α : Type} (c : α → α → Int) : List α → List α → Int
  | [], [] => 0
  | [], _ :: _ => -1
  | _ :: _, [] => 1
  | x :: xs, y :: ys => if c x y = 0 then lex c xs ys else c x y
theorem lex_range {α : Type} {c : α → α → Int} (h : IsOrd c) : ∀ xs ys, -1 ≤ lex c xs ys ∧ lex c xs ys ≤ 1
  | [], [] => by simp [lex]
  | [], _ :: _ => by simp [lex]
  | _ :: _, [] => by simp [lex]
  | x :: xs, y :: ys => by
    simp only [lex]
    split
    · exact lex_range h xs ys
    · exact h.range x y
theorem lex_anti {α : Type} {c : α → α → Int} (h : IsOrd c) : ∀ xs ys, lex c xs ys = - lex c ys xs
  | [], [] => by simp [lex]
  | [], _ :: _ => by simp [lex]
  | _ :: _, [] => by simp [lex]
  | x :: xs, y :: ys => by
    simp only [lex]
    have ha := h.anti x y
    by_cases h0 : c x y = 0
    · rw [if_pos h0, if_pos (by omega)]; exact lex_anti h xs ys
    · rw [if_neg h0, if_neg (by omega)]; exact ha
theorem lex_trans {α : Type} {c : α → α → Int} (h : IsOrd c) : ∀ xs ys zs, lex c xs ys ≤ 0 → lex c ys zs ≤ 0 → lex c xs zs ≤ 0
  | [], _, [], _, _ => by simp [lex]
  | [], _, _ :: _, _, _ => by simp [lex]
  | x :: xs, [], _, h1, _ => by simp [lex] at h1
  | x :: xs, y :: ys, [], _, h2 => by simp [lex] at h2
  | x :: xs, y :: ys, z :: zs, h1, h2 => by
    simp only [lex] at h1 h2 ⊢
    by_cases e1 : c x y = 0
    · rw [if_pos e1] at h1
      by_cases e2 : c y z = 0
      · rw [if_pos e2] at h2
        have h3 := h.trans x y z (by omega) (by omega)
        have h4 := h.trans z y x (by have := h.anti y z; omega) (by have := h.anti x y; omega)
        have h5 := h.anti x z
        rw [if_pos (by omega)]
        exact lex_trans h xs ys zs h1 h2
      · rw [if_neg e2] at h2
        have h3 := h.lt2 (x := x) (y := y) (z := z) (by omega) (by omega)
        rw [if_neg (by omega)]; omega
    · rw [if_neg e1] at h1
      have h2' : c y z ≤ 0 := by
        by_cases e2 : c y z = 0
        · omega
        · rw [if_neg e2] at h2; exact h2
      have h3 := h.lt1 (x := x) (y := y) (z := z) (by omega) h2'
      rw [if_neg (by omega)]; omega
theorem lex_ord {α : Type} {c : α → α → Int} (h : IsOrd c) : IsOrd (lex c) := ⟨lex_range h, lex_anti h, lex_trans h⟩
theorem lex_zero {α : Type} {c : α → α → Int} (h0 : ∀ x y, c x y = 0 ↔ x = y) : ∀ xs ys, lex c xs ys = 0 ↔ xs = ys
  | [], [] => by simp [lex]
  | [], _ :: _ => by simp [lex]
  | _ :: _, [] => by simp [lex]
  | x :: xs, y :: ys => by
    simp only [lex, List.cons.injEq]
    by_cases e : c x y = 0
    · rw [if_pos e, lex_zero h0 xs ys]
      exact ⟨fun h => ⟨(h0 x y).1 e, h⟩, fun h => h.2⟩
    · rw [if_neg e]
      exact ⟨fun h => absurd h e, fun h => absurd ((h0 x y).2 h.1) e⟩
theorem lex_prefix {α : Type} {c : α → α → Int} (h : ∀ x, c x x = 0) : ∀ xs ys : List α, 0 ≤ lex c (xs ++ ys) xs
  | [], [] => by simp [lex]
  | [], _ :: _ => by simp [lex]
  | x :: xs, ys => by
    simp only [List.cons_append, lex]
    rw [if_pos (h x)]
    exact lex_prefix h xs ys
def cI (x y : Int) : Int := clamp (x - y)
theorem cI_ord : IsOrd cI := ⟨fun x y => by unfold cI clamp; omega, fun x y => by unfold cI clamp; omega, fun x y z h1 h2 => by unfold cI clamp at *; omega⟩
theorem cI_zero (x y : Int) : cI x y = 0 ↔ x = y := by unfold cI; rw [clamp_eq_zero]; omega
theorem clamp_cons {n m : Nat} : (n = 0 ∧ m = 0 → clamp ((n : Int) - (m : Int)) = 0) ∧ (n = 0 ∧ 0 < m → clamp ((n : Int) - (m : Int)) = -1) ∧ (0 < n ∧ m = 0 → clamp ((n : Int) - (m : Int)) = 1) := by
  refine ⟨fun h => ?_, fun h => ?_, fun h => ?_⟩ <;> · unfold clamp; omega
theorem diffP_lex : ∀ xs ys : List Int, clamp (diffP xs ys) = lex cI xs ys
  | [], [] => rfl
  | [], y :: ys => by simp only [diffP, lex]; exact clamp_cons.2.1 ⟨rfl, by simp⟩
  | x :: xs, [] => by simp only [diffP, lex]; exact clamp_cons.2.2 ⟨by simp, rfl⟩
  | x :: xs, y :: ys => by
    simp only [diffP, lex]
    by_cases h : x = y
    · rw [if_pos h, if_pos ((cI_zero x y).2 h)]; exact diffP_lex xs ys
    · rw [if_neg h, if_neg (fun e => h ((cI_zero x y).1 e))]; rfl
def keyB (s : ByteArray) : List Int := (bytesOf s).map low1
theorem diffL_lex : ∀ xs ys : List ByteArray, clamp (diffL xs ys) = lex (lex cI) (xs.map keyB) (ys.map keyB)
  | [], [] => rfl
  | [], y :: ys => by simp only [diffL, lex, List.map_nil, List.map_cons]; exact clamp_cons.2.1 ⟨rfl, by simp⟩
  | x :: xs, [] => by simp only [diffL, lex, List.map_nil, List.map_cons]; exact clamp_cons.2.2 ⟨by simp, rfl⟩
  | x :: xs, y :: ys => by
    simp only [diffL, lex, List.map_cons]
    have e : lex cI (keyB x) (keyB y) = clamp (diffB (bytesOf x) (bytesOf y)) := by rw [diffB_map, diffP_lex]; rfl
    rw [e]
    by_cases h : diffB (bytesOf x) (bytesOf y) = 0
    · rw [if_pos h, if_pos (clamp_eq_zero.2 h)]; exact diffL_lex xs ys
    · rw [if_neg h, if_neg (fun h2 => h (clamp_eq_zero.1 h2))]
/-- what Cmp sees of a name: its labels from the last on, in small letters; of what is none: its bytes -/
inductive Key
  | isName (l : List (List Int))
  | none (b : List Int)
def cK : Key → Key → Int
  | .isName l, .isName m => lex (lex cI) l m
  | .isName _, .none _ => -1
  | .none _, .isName _ => 1
  | .none b, .none c => lex cI b c
theorem cK_ord : IsOrd cK := by
  have o1 := lex_ord cI_ord
  have o2 := lex_ord o1
  refine ⟨fun x y => ?_, fun x y => ?_, fun x y z h1 h2 => ?_⟩
  · cases x <;> cases y <;> simp only [cK]
    · exact o2.range _ _
    · omega
    · omega
    · exact o1.range _ _
  · cases x <;> cases y <;> simp only [cK]
    · exact o2.anti _ _
    · omega
    · exact o1.anti _ _
  · cases x <;> cases y <;> cases z <;> simp only [cK] at h1 h2 ⊢
    · exact o2.trans _ _ _ h1 h2
    · omega
    · omega
    · omega
    · omega
    · omega
    · omega
    · exact o1.trans _ _ _ h1 h2
def keyN (n : ByteArray) : Key := match dec n with | some L => .isName (L.reverse.map keyB) | none => .none (bytesOf n)
theorem cmp_key (a b : ByteArray) : cmpP a b = cK (keyN a) (keyN b) := by
  unfold cmpP keyN
  cases dec a <;> cases dec b <;> simp only [cK]
  · rw [compare_diff, diffP_lex]; rfl
  · exact diffL_lex _ _
theorem low_small {c : Int} (h : c < 65) : low1 c = c := by unfold low1; rw [if_neg (by omega)]
theorem glue_low : ∀ (L : List ByteArray), L.any badLab = false → (glue L).map low1 = glue (L.map lowS)
  | [], _ => rfl
  | s :: L, h => by
    rw [List.any_cons, Bool.or_eq_false_iff] at h
    have hs := bad_false h.1
    have ih := glue_low L h.2
    simp only [glue, List.flatMap_cons, List.map_append, List.map_cons] at ih ⊢
    rw [ih]
    unfold lab
    rw [List.map_cons, low_small (by omega), bytes_lowS, lowS_size]
theorem bad_low (L : List ByteArray) (h : L.any badLab = false) : (L.map lowS).any badLab = false := by
  rw [List.any_eq_false] at h ⊢
  intro x hx
  obtain ⟨s, hs, rfl⟩ := List.mem_map.1 hx
  have := h s hs
  unfold badLab at this ⊢
  rw [lowS_size]; exact this
theorem dec_low {n : ByteArray} {L : List ByteArray} (h : dec n = some L) : dec (lowS n) = some (L.map lowS) := by
  obtain ⟨h1, h2, h3⟩ := dec_some h
  unfold dec
  rw [lowS_size, if_neg (by omega), bytes_lowS, h2, List.map_append, glue_low L h3]
  exact cut_glue _ (bad_low L h3)
theorem keyB_low {s u : ByteArray} : keyB s = keyB u ↔ lowS s = lowS u := by
  unfold keyB
  rw [← bytes_lowS, ← bytes_lowS]
  exact ⟨fun h => bytes_inj h, fun h => by rw [h]⟩
theorem keys_low {L M : List ByteArray} : L.map keyB = M.map keyB ↔ L.map lowS = M.map lowS := by
  have e : ∀ K : List ByteArray, K.map keyB = (K.map lowS).map bytesOf := fun K => by
    rw [List.map_map]; exact List.map_congr_left fun s _ => (bytes_lowS s).symm
  rw [e, e]
  refine ⟨fun h => ?_, fun h => by rw [h]⟩
  exact (List.map_inj_right (fun a b h => bytes_inj h)).1 h
theorem alike_iff {a b : ByteArray} {L M : List ByteArray} (ha : dec a = some L) (hb : dec b = some M) : lowS a = lowS b ↔ L.map keyB = M.map keyB := by
  rw [keys_low]
  refine ⟨fun h => ?_, fun h => dec_inj (dec_low ha) (by rw [h]; exact dec_low hb)⟩
  have h1 := dec_low ha
  rw [h, dec_low hb] at h1
  exact (Option.some.inj h1).symm
theorem toList_eq {a b : ByteArray} : a.toList = b.toList ↔ a = b := by
  constructor
  · intro h
    rw [Lib.toList_data, Lib.toList_data] at h
    exact ByteArray.ext (Array.ext' h)
  · intro h; rw [h]
theorem cmp_alike {a b : ByteArray} (ha : (dec a).isSome) (hb : (dec b).isSome) : cmpP a b = 0 ↔ lowS a = lowS b := by
  obtain ⟨L, hL⟩ := Option.isSome_iff_exists.1 ha
  obtain ⟨M, hM⟩ := Option.isSome_iff_exists.1 hb
  rw [cmp_key, alike_iff hL hM]
  unfold keyN
  rw [hL, hM]
  simp only [cK]
  rw [lex_zero (lex_zero cI_zero), List.map_reverse, List.map_reverse]
  exact List.reverse_inj
theorem cmp_under {a b : ByteArray} (h : underP a b = true) : 0 ≤ cmpP a b := by
  unfold underP at h
  cases ha : dec a with
  | none => rw [ha] at h; cases h
  | some L =>
    cases hb : dec b with
    | none => rw [ha, hb] at h; cases h
    | some M =>
      rw [ha, hb] at h
      simp only [] at h
      by_cases hl : L.length < M.length
      · rw [if_pos hl] at h; cases h
      · rw [if_neg hl] at h
        have hd : dec (nameOf (L.drop (L.length - M.length))) = some (L.drop (L.length - M.length)) := dec_nameOf (drop_fine (dec_some ha).2.2 _) (glue_drop ha _)
        have he := (alike_iff hd hb).1 (toList_eq.1 (by simpa using h))
        rw [cmp_key]
        unfold keyN
        rw [ha, hb]
        simp only [cK]
        have e : L.reverse.map keyB = M.reverse.map keyB ++ (L.take (L.length - M.length)).reverse.map keyB := by
          rw [List.map_reverse (l := M), ← he, ← List.map_reverse, ← List.map_append, ← List.reverse_append, List.take_append_drop]
        rw [e]
        exact lex_prefix (fun x => (lex_ord cI_ord).self x) _ _
end Go.Proofs.Ytfcmphigmfdceaa.Print
end
section
/- What a rule makes of a question, as the document puts it: plain laws without its functions. -/
namespace Go.Proofs.Ytfcmphigmfdceaa.Print
open Go.RowKit Go.Proofs.YtfcmphigmfdceaaW.PrintWords Go.Proofs.YtfcmphigmfdceaaW.PrintLast Go.Proofs.YtfcmphigmfdceaaW.PrintMore
set_option linter.unusedVariables false
set_option linter.unusedSimpArgs false
theorem is_f (n : ByteArray) : Ev (fun k => hearsayref01_Is.f k n) (dec n).isSome := by
  obtain ⟨l', hE, hL⟩ := split_f n
  exact Ev.bind (f := fun _ (x : List ByteArray × Bool) => some x.2) hE (Ev.now _)
theorem rlabels_f (n : ByteArray) : Ev (fun k => hearsayref01_Labels.f k n) ((dec n).getD []) := by
  obtain ⟨l', hE, hL⟩ := split_f n
  refine Ev.bind (f := fun _ (x : List ByteArray × Bool) => if x.2 = true then some x.1 else some []) hE ?_
  cases h : dec n with
  | none => exact Ev.now _
  | some L => rw [hL L h]; exact Ev.now _
def rAlike (A B : List ByteArray) : Bool := decide (A.map lowS = B.map lowS)
theorem dec_mem {n : ByteArray} {s : ByteArray} (hs : s ∈ (dec n).getD []) : s.size ≤ 9223372036854775807 := by
  cases h : dec n with
  | none => rw [h] at hs; simp at hs
  | some L => rw [h] at hs; have := label_small h (s := s) (by simpa using hs); omega
/-- what the document makes of a question -/
def makesP (q : S32) (x : S38) : S32 × Bool :=
  if x.f0 = 4 then (if q.f1 = x.f3 then (⟨q.f0, x.f4, q.f2⟩, true) else (z32, false))
  else
    let L := (dec q.f0).getD []
    let F := (dec x.f1).getD []
    let T := (dec x.f2).getD []
    if L.length < F.length ∨ (x.f0 = 1 ∧ F.length < L.length) then (z32, false)
    else if x.f0 = 3 then (if rAlike (L.take F.length) F then ofP (T ++ L.drop F.length) q else (z32, false))
    else (if rAlike (L.drop (L.length - F.length)) F then ofP (L.take (L.length - F.length) ++ T) q else (z32, false))
theorem rAlike_keys {L M : List ByteArray} : rAlike L M = true ↔ L.map keyB = M.map keyB := by
  unfold rAlike; rw [decide_eq_true_iff]; exact keys_low.symm
theorem cmp_alikeL {a b : ByteArray} {L M : List ByteArray} (ha : dec a = some L) (hb : dec b = some M) : cmpP a b = 0 ↔ rAlike L M = true := by
  rw [cmp_key, rAlike_keys]
  unfold keyN
  rw [ha, hb]
  simp only [cK]
  rw [lex_zero (lex_zero cI_zero), List.map_reverse, List.map_reverse, List.reverse_inj]
theorem of_fine {L : List ByteArray} (h : L.any badLab = false) (hl : (glue L).length + 1 ≤ 255) : (name_Of.f L).getD (⟨#[]⟩, 1) = (nameOf L, 0) := by
  rw [of_def, if_neg (by rw [h]; simp), if_neg (by omega)]
theorem ofP_dec {n : ByteArray} {L : List ByteArray} (h : dec n = some L) (q : S32) : ofP L q = (⟨n, q.f1, q.f2⟩, true) := by
  unfold ofP
  have h1 := dec_size h
  have h2 := dec_some h
  rw [of_fine h2.2.2 (by omega)]
  simp only [if_true]
  rw [nameOf_dec h]
theorem take_fine {L : List ByteArray} (h : L.any badLab = false) (j : Nat) : (L.take j).any badLab = false := by
  rw [List.any_eq_false] at h ⊢
  exact fun x hx => h x (List.mem_of_mem_take hx)
theorem makes_do {q : S32} {x : S38} (hx : ruleOk x = true) (hq : (dec q.f0).isSome = true) : makesP q x = doP q x := by
  obtain ⟨L, hL⟩ := Option.isSome_iff_exists.1 hq
  unfold ruleOk at hx
  by_cases kk : x.f0 = 1 ∨ x.f0 = 2 ∨ x.f0 = 3
  · rw [if_pos kk] at hx
    simp only [Bool.and_eq_true, decide_eq_true_eq] at hx
    obtain ⟨F, hF⟩ := Option.isSome_iff_exists.1 hx.1.1.1
    obtain ⟨T, hT⟩ := Option.isSome_iff_exists.1 hx.1.1.2
    unfold makesP doP
    rw [if_neg (show ¬ x.f0 = 4 by omega)]
    simp only [hL, hF, hT, Option.getD_some]
    have sL := dec_some hL
    have zL := dec_size hL
    rcases kk with k1 | k2 | k3
    · rw [if_pos k1, if_neg (show ¬ x.f0 = 3 by omega)]
      by_cases hl : L.length = F.length
      · rw [if_neg (by omega), hl, Nat.sub_self, List.drop_zero, List.take_zero, List.nil_append, ofP_dec hT]
        by_cases ha : rAlike L F = true
        · rw [if_pos ha, if_pos ((cmp_alikeL hL hF).2 ha)]
        · rw [if_neg ha, if_neg (fun h => ha ((cmp_alikeL hL hF).1 h))]
      · have hne : ¬ cmpP q.f0 x.f1 = 0 := fun h => hl (by
          have h1 := (cmp_alikeL hL hF).1 h
          have h2 := congrArg List.length (rAlike_keys.1 h1)
          simpa using h2)
        rw [if_pos (by omega), if_neg hne]
    · rw [if_neg (show ¬ x.f0 = 1 by omega), if_pos k2, if_neg (show ¬ x.f0 = 3 by omega)]
      by_cases hl : L.length < F.length
      · have hu : underP q.f0 x.f1 = false := by unfold underP; rw [hL, hF]; simp only; rw [if_pos hl]
        rw [if_pos (Or.inl hl), hu]
        rfl
      · rw [if_neg (by omega)]
        have hg := glue_drop hL (L.length - F.length)
        have hd : dec (nameOf (L.drop (L.length - F.length))) = some (L.drop (L.length - F.length)) := dec_nameOf (drop_fine sL.2.2 _) hg
        have hu : underP q.f0 x.f1 = rAlike (L.drop (L.length - F.length)) F := by
          unfold underP; rw [hL, hF]; simp only; rw [if_neg hl, Bool.eq_iff_iff, rAlike_keys, ← alike_iff hd hF, beq_iff_eq, toList_eq]
        rw [hu]
    · rw [if_neg (show ¬ x.f0 = 1 by omega), if_neg (show ¬ x.f0 = 2 by omega), if_pos k3, if_pos k3]
      by_cases hl : L.length < F.length
      · rw [if_pos (Or.inl hl), if_pos hl]
      · rw [if_neg (by omega), if_neg hl]
        have hg : (glue (L.take F.length)).length ≤ (glue L).length := glue_mono L F.length
        have hd : dec (nameOf (L.take F.length)) = some (L.take F.length) := dec_nameOf (take_fine sL.2.2 _) (by omega)
        rw [of_fine (take_fine sL.2.2 _) (by omega)]
        simp only [true_and]
        by_cases ha : rAlike (L.take F.length) F = true
        · rw [if_pos ha, if_pos ((cmp_alikeL hd hF).2 ha)]
        · rw [if_neg ha, if_neg (fun h => ha ((cmp_alikeL hd hF).1 h))]
  · rw [if_neg kk] at hx
    by_cases k4 : x.f0 = 4
    · unfold makesP doP
      rw [if_pos k4, if_neg (show ¬ x.f0 = 1 by omega), if_neg (show ¬ x.f0 = 2 by omega), if_neg (show ¬ x.f0 = 3 by omega)]
    · rw [if_neg k4] at hx; exact absurd hx (by simp)
def firstP (D : S38 → S32 × Bool) (l : List S38) : S32 × Bool := match mades D l with | y :: _ => (y, true) | [] => (z32, false)
theorem firstP_yes {D : S38 → S32 × Bool} {x : S38} {l : List S38} (h : (D x).2 = true) : firstP D (x :: l) = ((D x).1, true) := by unfold firstP mades; rw [List.filterMap_cons]; simp [h]
theorem firstP_no {D : S38 → S32 × Bool} {x : S38} {l : List S38} (h : (D x).2 = false) : firstP D (x :: l) = firstP D l := by unfold firstP mades; rw [List.filterMap_cons]; simp [h]
theorem askP_first (l : List S38) (q : S32) : askP l q = if checkP l = 0 then if (dec q.f0).isSome then firstP (doP q) l else (z32, false) else (z32, false) := rfl
theorem check_all {l : List S38} (h : checkP l = 0) : l.length ≤ 32 ∧ ∀ x ∈ l, ruleOk x = true := by
  unfold checkP at h
  split at h
  · omega
  · rename_i h1
    split at h
    · rename_i h2; exact ⟨by omega, List.all_eq_true.1 h2⟩
    · omega
end Go.Proofs.Ytfcmphigmfdceaa.Print
end
section
/- hearsayref25's May, Check, Makes, Ask tell the same as rewrite's: plain laws. -/
namespace Go.Proofs.Ytfcmphigmfdceaa.Print
open Go.RowKit Go.Proofs.YtfcmphigmfdceaaW.PrintWords Go.Proofs.YtfcmphigmfdceaaW.PrintLast Go.Proofs.YtfcmphigmfdceaaW.PrintMore
set_option linter.unusedVariables false
set_option linter.unusedSimpArgs false
theorem may_f (x : S38) : Ev (fun k => hearsayref25_May.f k x.f0 x.f1 x.f2 x.f3 x.f4) (ruleOk x) := by
  obtain ⟨K1, h1⟩ := is_f x.f1
  obtain ⟨K2, h2⟩ := is_f x.f2
  refine ⟨K1 + K2, fun k hk => ?_⟩
  dsimp only at h1 h2 ⊢
  have e1 := size_nil x.f1
  have e2 := size_nil x.f2
  unfold hearsayref25_May.f ruleOk
  by_cases k4 : x.f0 = 4
  · rw [if_pos k4, if_neg (show ¬ (x.f0 = 1 ∨ x.f0 = 2 ∨ x.f0 = 3) by omega), if_pos k4]
    by_cases g1 : x.f1.size = 0
    · by_cases g2 : x.f2.size = 0
      · rw [if_pos (e1.2 g1), if_pos (e2.2 g2)]
        by_cases g3 : x.f3 = 0
        · rw [if_pos g3]; simp [g3]
        · rw [if_neg g3]
          simp only [g1, g2, g3, decide_true, Bool.true_and, ne_eq, not_false_eq_true]
          by_cases g4 : x.f4 = 0 <;> simp [g4]
      · rw [if_pos (e1.2 g1), if_neg (fun h => g2 (e2.1 h))]; simp [g2]
    · rw [if_neg (fun h => g1 (e1.1 h))]; simp [g1]
  · rw [if_neg k4]
    by_cases k1 : x.f0 ≥ 1
    · by_cases k3 : x.f0 ≤ 3
      · rw [if_pos k1, if_pos k3, if_pos (show (x.f0 = 1 ∨ x.f0 = 2 ∨ x.f0 = 3) by omega), h1 k (by omega), Option.bind_some]
        by_cases g1 : (dec x.f1).isSome = true
        · rw [if_pos g1, h2 k (by omega), Option.bind_some, g1]
          by_cases g2 : (dec x.f2).isSome = true
          · rw [if_pos g2, g2]
            by_cases g3 : x.f3 = 0
            · rw [if_pos g3]
              by_cases g4 : x.f4 = 0 <;> simp [g3, g4]
            · rw [if_neg g3]; simp [g3]
          · rw [if_neg g2]; simp [g2]
        · rw [if_neg g1]; simp [g1]
      · rw [if_pos k1, if_neg k3, if_neg (show ¬ (x.f0 = 1 ∨ x.f0 = 2 ∨ x.f0 = 3) by omega), if_neg k4]
    · rw [if_neg k1, if_neg (show ¬ (x.f0 = 1 ∨ x.f0 = 2 ∨ x.f0 = 3) by omega), if_neg k4]
theorem check25_l0 (l : List S38) (hl : l.length ≤ 32) (d : Nat) : ∀ t : Nat, l.length - t ≤ d → t ≤ l.length →
    Ev (fun k => hearsayref25_Check.l0 k l (t : Int)) (if (l.drop t).all ruleOk then 0 else 250) := by
  have fin : ∀ t : Nat, t ≤ l.length → ¬ t < l.length → Ev (fun k => hearsayref25_Check.l0 k l (t : Int)) (if (l.drop t).all ruleOk then 0 else 250) := by
    intro t h1 h2
    rw [List.drop_of_length_le (by omega)]
    refine Ev.step (f := fun _ => some 0) (fun k => ?_) (Ev.now _)
    simp only [hearsayref25_Check.l0]
    rw [if_neg (by omega)]
  induction d with
  | zero => intro t hd h1; exact fin t h1 (by omega)
  | succ d ih =>
    intro t hd h1
    by_cases ht : t < l.length
    · have hx : l[t]? = some l[t] := List.getElem?_eq_getElem ht
      have hr := rd_T38_at hx
      have hdrop : l.drop t = l[t] :: l.drop (t + 1) := List.drop_eq_getElem_cons ht
      generalize hxe : l[t] = x at hr hdrop
      have hw : wrap64 ((t : Int) + 1) = ((t + 1 : Nat) : Int) := by rw [w64 (by omega) (by omega)]; rfl
      refine Ev.step (f := fun k => (hearsayref25_May.f k x.f0 x.f1 x.f2 x.f3 x.f4).bind fun t134 => (if t134 = true then (hearsayref25_Check.l0 k l (wrap64 ((t : Int) + 1))) else (some 250))) (fun k => ?_) ?_
      · simp only [hearsayref25_Check.l0]; rw [if_pos (by omega), if_pos (by omega), hr]
      · refine Ev.bind (f := fun k (t134 : Bool) => (if t134 = true then (hearsayref25_Check.l0 k l (wrap64 ((t : Int) + 1))) else (some 250))) (may_f x) ?_
        rw [hdrop, List.all_cons]
        cases ruleOk x with
        | true => exact Ev.congr (fun k => by rw [if_pos rfl, hw]) (by simpa using ih (t + 1) (by omega) (by omega))
        | false => exact Ev.congr (fun k => by rw [if_neg (by simp)]) (by simpa using Ev.now _)
    · exact fin t h1 ht
theorem check25_f (l : List S38) : Ev (fun k => hearsayref25_Check.f k l) (checkP l) := by
  unfold checkP
  by_cases h : 32 < l.length
  · rw [if_pos h]
    exact Ev.congr (fun k => by unfold hearsayref25_Check.f; rw [if_pos (by omega)]) (Ev.now _)
  · rw [if_neg h]
    exact Ev.congr (fun k => by unfold hearsayref25_Check.f; rw [if_neg (by omega)]; rfl) (check25_l0 l (by omega) l.length 0 (by omega) (by omega))
/-! ### Makes -/
theorem alike_l0 (A B : List ByteArray) (hl : A.length = B.length) (hn : A.length ≤ 1000) (hA : ∀ s ∈ A, s.size ≤ 9223372036854775807) (hB : ∀ s ∈ B, s.size ≤ 9223372036854775807) (d : Nat) : ∀ t : Nat, A.length - t ≤ d → t ≤ A.length →
    Ev (fun k => hearsayref25_alike.l0 k A B (t : Int)) (decide ((A.drop t).map lowS = (B.drop t).map lowS)) := by
  have fin : ∀ t : Nat, t ≤ A.length → ¬ t < A.length → Ev (fun k => hearsayref25_alike.l0 k A B (t : Int)) (decide ((A.drop t).map lowS = (B.drop t).map lowS)) := by
    intro t h1 h2
    rw [List.drop_of_length_le (by omega), List.drop_of_length_le (by omega)]
    refine Ev.step (f := fun _ => some true) (fun k => ?_) (by simpa using Ev.now _)
    simp only [hearsayref25_alike.l0]
    rw [if_neg (by omega)]
  induction d with
  | zero => intro t hd h1; exact fin t h1 (by omega)
  | succ d ih =>
    intro t hd h1
    by_cases ht : t < A.length
    · obtain ⟨a, ha, ra⟩ := rd_at ht
      obtain ⟨b, hb, rb⟩ := rd_at (L := B) (t := t) (by omega)
      have dA : A.drop t = a :: A.drop (t + 1) := by rw [List.drop_eq_getElem_cons ht]; congr 1; exact (List.getElem?_eq_some_iff.1 ha).2
      have dB : B.drop t = b :: B.drop (t + 1) := by rw [List.drop_eq_getElem_cons (by omega)]; congr 1; exact (List.getElem?_eq_some_iff.1 hb).2
      have sa := hA a (List.mem_of_getElem? ha)
      have sb := hB b (List.mem_of_getElem? hb)
      have hw : wrap64 ((t : Int) + 1) = ((t + 1 : Nat) : Int) := by rw [w64 (by omega) (by omega)]; rfl
      refine Ev.step (f := fun k => if (lowS a).toList = (lowS b).toList then hearsayref25_alike.l0 k A B ((t + 1 : Nat) : Int) else some false) (fun k => ?_) ?_
      · simp only [hearsayref25_alike.l0]
        rw [if_pos (by omega), if_pos (by omega), ra, rb, low_f sa, Option.bind_some, if_pos (by omega), low_f sb, Option.bind_some, hw]
      · rw [dA, dB, List.map_cons, List.map_cons]
        by_cases e : lowS a = lowS b
        · have := ih (t + 1) (by omega) (by omega)
          refine Ev.congr (fun k => by rw [if_pos (toList_eq.2 e)]) ?_
          simpa [e] using this
        · refine Ev.congr (fun k => by rw [if_neg (fun h => e (toList_eq.1 h))]) ?_
          simpa [e] using Ev.now _
    · exact fin t h1 ht
theorem ralike_f (A B : List ByteArray) (hn : A.length ≤ 1000) (hA : ∀ s ∈ A, s.size ≤ 9223372036854775807) (hB : ∀ s ∈ B, s.size ≤ 9223372036854775807) : Ev (fun k => hearsayref25_alike.f k A B) (rAlike A B) := by
  unfold rAlike
  by_cases hl : A.length = B.length
  · exact Ev.congr (fun k => by unfold hearsayref25_alike.f; rw [if_pos (by omega)]; rfl) (alike_l0 A B hl hn hA hB A.length 0 (by omega) (by omega))
  · have e : ¬ A.map lowS = B.map lowS := fun h => hl (by have := congrArg List.length h; simpa using this)
    refine Ev.congr (fun k => by unfold hearsayref25_alike.f; rw [if_neg (by omega)]) ?_
    simpa [e] using Ev.now _
theorem both_f (A B : List ByteArray) (h : A.length + B.length < 8796093022208) : hearsayref25_both.f A B = some (A ++ B) := by
  unfold hearsayref25_both.f
  rw [if_pos (by simp only [List.length_nil]; omega)]
  simp only [List.nil_append, Option.bind_some]
  rw [if_pos h]
theorem rof25 (L : List ByteArray) (hn : L.length ≤ 1000) (q : S32) : Ev (fun k => (hearsayref01_Of.f k L).bind fun bt => if bt.2 = 0 then some (bt.1, q.f1, q.f2, true) else some ((⟨#[]⟩ : ByteArray), 0, 0, false)) (flat (ofP L q)) := by
  have h := rof_f L (by omega)
  have e : (name_Of.f L).getD (⟨#[]⟩, 0) = (name_Of.f L).getD (⟨#[]⟩, 1) := by rw [of_some L]; rfl
  rw [e] at h
  refine Ev.bind (f := fun _ (bt : ByteArray × Int) => if bt.2 = 0 then some (bt.1, q.f1, q.f2, true) else some ((⟨#[]⟩ : ByteArray), 0, 0, false)) h ?_
  unfold ofP
  refine Ev.congr (f := fun _ => some (flat (if ((name_Of.f L).getD (⟨#[]⟩, 1)).2 = 0 then (⟨((name_Of.f L).getD (⟨#[]⟩, 1)).1, q.f1, q.f2⟩, true) else (z32, false)))) (fun k => ?_) (Ev.now _)
  split <;> rfl
theorem makes_f (q : S32) (x : S38) : Ev (fun k => hearsayref25_Makes.f k x.f0 x.f1 x.f2 x.f3 x.f4 q.f0 q.f1 q.f2) (flat (makesP q x)) := by
  unfold makesP
  by_cases k4 : x.f0 = 4
  · rw [if_pos k4]
    refine Ev.congr (f := fun _ => some (flat (if q.f1 = x.f3 then (⟨q.f0, x.f4, q.f2⟩, true) else (z32, false)))) (fun k => ?_) (Ev.now _)
    unfold hearsayref25_Makes.f
    rw [if_pos k4]
    split <;> rfl
  · rw [if_neg k4]
    obtain ⟨K1, h1⟩ := rlabels_f q.f0
    obtain ⟨K2, h2⟩ := rlabels_f x.f1
    obtain ⟨K3, h3⟩ := rlabels_f x.f2
    have l1 := dec_length q.f0
    have l2 := dec_length x.f1
    have l3 := dec_length x.f2
    have m1 := fun s => dec_mem (n := q.f0) (s := s)
    have m2 := fun s => dec_mem (n := x.f1) (s := s)
    dsimp only at h1 h2 h3
    generalize (dec q.f0).getD [] = L at h1 l1 m1 ⊢
    generalize (dec x.f1).getD [] = F at h2 l2 m2 ⊢
    generalize (dec x.f2).getD [] = T at h3 l3 ⊢
    obtain ⟨K4, h4⟩ := ralike_f (L.take F.length) F (by rw [List.length_take]; omega) (fun s hs => m1 s (List.mem_of_mem_take hs)) m2
    obtain ⟨K5, h5⟩ := ralike_f (L.drop (L.length - F.length)) F (by rw [List.length_drop]; omega) (fun s hs => m1 s (List.mem_of_mem_drop hs)) m2
    obtain ⟨K6, h6⟩ := rof25 (T ++ L.drop F.length) (by rw [List.length_append, List.length_drop]; omega) q
    obtain ⟨K7, h7⟩ := rof25 (L.take (L.length - F.length) ++ T) (by rw [List.length_append, List.length_take]; omega) q
    dsimp only at h4 h5 h6 h7
    refine ⟨K1 + K2 + K3 + K4 + K5 + K6 + K7 + 1, fun k hk => ?_⟩
    dsimp only
    obtain ⟨k, rfl⟩ : ∃ m, k = m + 1 := ⟨k - 1, by omega⟩
    unfold hearsayref25_Makes.f
    rw [if_neg k4, h1 (k + 1) (by omega), Option.bind_some, h2 (k + 1) (by omega), Option.bind_some, h3 (k + 1) (by omega), Option.bind_some]
    have no : ∀ n, hearsayref25_Makes.j0 (k + 1) L F T n true x.f0 x.f1 x.f2 x.f3 x.f4 q.f0 q.f1 q.f2 = some (flat (z32, false)) := fun n => by
      simp only [hearsayref25_Makes.j0]; rw [if_pos trivial]; rfl
    have hw0 : wrap64 ((L.length : Int) - (F.length : Int)) = (L.length : Int) - (F.length : Int) := w64 (by omega) (by omega)
    rw [hw0]
    by_cases hn : L.length < F.length
    · rw [if_pos (by omega), if_pos (Or.inl hn)]
      exact no _
    · have hw : (L.length : Int) - (F.length : Int) = ((L.length - F.length : Nat) : Int) := by omega
      rw [if_neg (by omega), hw]
      have yes : (if x.f0 = 3 then (if rAlike (L.take F.length) F then ofP (T ++ L.drop F.length) q else (z32, false)) else (if rAlike (L.drop (L.length - F.length)) F then ofP (L.take (L.length - F.length) ++ T) q else (z32, false))) = (if x.f0 = 3 then (if rAlike (L.take F.length) F then ofP (T ++ L.drop F.length) q else (z32, false)) else (if rAlike (L.drop (L.length - F.length)) F then ofP (L.take (L.length - F.length) ++ T) q else (z32, false))) → hearsayref25_Makes.j0 (k + 1) L F T ((L.length - F.length : Nat) : Int) false x.f0 x.f1 x.f2 x.f3 x.f4 q.f0 q.f1 q.f2 = some (flat (if x.f0 = 3 then (if rAlike (L.take F.length) F then ofP (T ++ L.drop F.length) q else (z32, false)) else (if rAlike (L.drop (L.length - F.length)) F then ofP (L.take (L.length - F.length) ++ T) q else (z32, false)))) := by
        intro _
        simp only [hearsayref25_Makes.j0]
        rw [if_neg (by simp)]
        by_cases k3 : x.f0 = 3
        · rw [if_pos k3, if_pos k3, if_pos (by omega), if_pos (by omega), Int.toNat_natCast, h4 k (by omega), Option.bind_some]
          cases rAlike (L.take F.length) F with
          | true => rw [if_pos rfl, if_pos rfl, both_f _ _ (by rw [List.length_drop]; omega), Option.bind_some, h6 k (by omega)]
          | false => rw [if_neg (by simp), if_neg (by simp)]; rfl
        · rw [if_neg k3, if_neg k3, if_pos (by omega), if_pos (by omega), Int.toNat_natCast, h5 k (by omega), Option.bind_some]
          cases rAlike (L.drop (L.length - F.length)) F with
          | true => rw [if_pos rfl, if_pos rfl, both_f _ _ (by rw [List.length_take]; omega), Option.bind_some, h7 k (by omega)]
          | false => rw [if_neg (by simp), if_neg (by simp)]; rfl
      by_cases k1 : x.f0 = 1
      · rw [if_pos k1]
        by_cases hg : F.length < L.length
        · rw [decide_eq_true (by omega), if_pos (Or.inr ⟨k1, hg⟩)]
          exact no _
        · rw [decide_eq_false (by omega), if_neg (by omega)]
          exact yes rfl
      · rw [if_neg k1, if_neg (by omega)]
        exact yes rfl
/-! ### both make the same -/
/-! ### Ask -/
theorem ask25_l0 (l : List S38) (q : S32) (hq : (dec q.f0).isSome = true) (hl : l.length ≤ 32) (hok : ∀ x ∈ l, ruleOk x = true) (d : Nat) : ∀ t : Nat, l.length - t ≤ d → t ≤ l.length →
    Ev (fun k => hearsayref25_Ask.l0 k l (t : Int) q.f0 q.f1 q.f2) (flat (firstP (doP q) (l.drop t))) := by
  have fin : ∀ t : Nat, t ≤ l.length → ¬ t < l.length → Ev (fun k => hearsayref25_Ask.l0 k l (t : Int) q.f0 q.f1 q.f2) (flat (firstP (doP q) (l.drop t))) := by
    intro t h1 h2
    rw [List.drop_of_length_le (by omega)]
    refine Ev.step (f := fun _ => some (flat (z32, false))) (fun k => ?_) (Ev.now _)
    simp only [hearsayref25_Ask.l0]
    rw [if_neg (by omega)]
    rfl
  induction d with
  | zero => intro t hd h1; exact fin t h1 (by omega)
  | succ d ih =>
    intro t hd h1
    by_cases ht : t < l.length
    · have hx : l[t]? = some l[t] := List.getElem?_eq_getElem ht
      have hr := rd_T38_at hx
      have hox := hok _ (List.mem_of_getElem? hx)
      have hdrop : l.drop t = l[t] :: l.drop (t + 1) := List.drop_eq_getElem_cons ht
      generalize hxe : l[t] = x at hr hdrop hox
      have hw : wrap64 ((t : Int) + 1) = ((t + 1 : Nat) : Int) := by rw [w64 (by omega) (by omega)]; rfl
      have hm := makes_f q x
      rw [makes_do hox hq] at hm
      refine Ev.step (f := fun k => (hearsayref25_Makes.f k x.f0 x.f1 x.f2 x.f3 x.f4 q.f0 q.f1 q.f2).bind fun bt221 => (if bt221.2.2.2 = true then (some (bt221.1, bt221.2.1, bt221.2.2.1, true)) else (hearsayref25_Ask.l0 k l (wrap64 ((t : Int) + 1)) q.f0 q.f1 q.f2))) (fun k => ?_) ?_
      · simp only [hearsayref25_Ask.l0]; rw [if_pos (by omega), if_pos (by omega), hr]
      · refine Ev.bind (f := fun k (bt221 : ByteArray × Int × Int × Bool) => (if bt221.2.2.2 = true then (some (bt221.1, bt221.2.1, bt221.2.2.1, true)) else (hearsayref25_Ask.l0 k l (wrap64 ((t : Int) + 1)) q.f0 q.f1 q.f2))) hm ?_
        rw [hdrop]
        cases hb : (doP q x).2 with
        | true =>
          rw [firstP_yes hb]
          refine Ev.congr (f := fun _ => some (flat ((doP q x).1, true))) (fun k => ?_) (Ev.now _)
          rw [if_pos (show (flat (doP q x)).2.2.2 = true from hb)]
          rfl
        | false =>
          rw [firstP_no hb]
          refine Ev.congr (fun k => ?_) (ih (t + 1) (by omega) (by omega))
          rw [if_neg (by rw [show (flat (doP q x)).2.2.2 = (doP q x).2 from rfl, hb]; simp), hw]
    · exact fin t h1 ht
theorem ask25_f (l : List S38) (q : S32) : Ev (fun k => hearsayref25_Ask.f k l q.f0 q.f1 q.f2) (flat (askP l q)) := by
  rw [askP_first]
  have no : Ev (fun k => hearsayref25_Ask.j0 k l true q.f0 q.f1 q.f2) (flat (z32, false)) := by
    refine Ev.step (f := fun _ => some (flat (z32, false))) (fun k => ?_) (Ev.now _)
    simp only [hearsayref25_Ask.j0]; rw [if_pos trivial]; rfl
  refine Ev.bind (f := fun k (t218 : Int) => (if t218 = 0 then ((hearsayref01_Is.f k q.f0).bind fun t219 => (hearsayref25_Ask.j0 k l (!t219) q.f0 q.f1 q.f2)) else (hearsayref25_Ask.j0 k l true q.f0 q.f1 q.f2))) (check25_f l) ?_
  by_cases hc : checkP l = 0
  · rw [hc, if_pos rfl]
    obtain ⟨hl, hok⟩ := check_all hc
    refine Ev.congr (f := fun k => (hearsayref01_Is.f k q.f0).bind fun t219 => (hearsayref25_Ask.j0 k l (!t219) q.f0 q.f1 q.f2)) (fun k => by rw [if_pos rfl]) ?_
    refine Ev.bind (f := fun k (t219 : Bool) => (hearsayref25_Ask.j0 k l (!t219) q.f0 q.f1 q.f2)) (is_f q.f0) ?_
    by_cases hq : (dec q.f0).isSome = true
    · rw [if_pos hq, hq]
      refine Ev.step (f := fun k => hearsayref25_Ask.l0 k l ((0 : Nat) : Int) q.f0 q.f1 q.f2) (fun k => ?_) (ask25_l0 l q hq hl hok l.length 0 (by omega) (by omega))
      simp only [hearsayref25_Ask.j0]; rw [if_neg (by simp)]; rfl
    · rw [if_neg hq, show (dec q.f0).isSome = false by simpa using hq]
      exact no
  · rw [if_neg hc]
    exact Ev.congr (fun k => by rw [if_neg hc]) no
end Go.Proofs.Ytfcmphigmfdceaa.Print
end
section
/- Laws of what Ask tells, and of the statements' small functions. -/
namespace Go.Proofs.Ytfcmphigmfdceaa.Print
open Go.RowKit Go.Proofs.YtfcmphigmfdceaaW.PrintWords Go.Proofs.YtfcmphigmfdceaaW.PrintLast Go.Proofs.YtfcmphigmfdceaaW.PrintMore
set_option linter.unusedVariables false
set_option linter.unusedSimpArgs false
theorem asks_f : hearsaylaw25_asks.f = some true := by decide +kernel
theorem long_l0 (l : List S38) (hl : l.length ≤ 200) (d : Nat) : ∀ t : Nat, l.length - t ≤ d → t ≤ l.length →
    Ev (fun k => hearsaylaw25_long.l0 k l (t : Int)) ((l.drop t).any fun x => decide (2000 < x.f1.size) || decide (2000 < x.f2.size)) := by
  have fin : ∀ t : Nat, t ≤ l.length → ¬ t < l.length → Ev (fun k => hearsaylaw25_long.l0 k l (t : Int)) ((l.drop t).any fun x => decide (2000 < x.f1.size) || decide (2000 < x.f2.size)) := by
    intro t h1 h2
    rw [List.drop_of_length_le (by omega)]
    refine Ev.step (f := fun _ => some false) (fun k => ?_) (Ev.now _)
    simp only [hearsaylaw25_long.l0]
    rw [if_neg (by omega)]
  induction d with
  | zero => intro t hd h1; exact fin t h1 (by omega)
  | succ d ih =>
    intro t hd h1
    by_cases ht : t < l.length
    · have hx : l[t]? = some l[t] := List.getElem?_eq_getElem ht
      have hr := rd_T38_at hx
      have hdrop : l.drop t = l[t] :: l.drop (t + 1) := List.drop_eq_getElem_cons ht
      generalize hxe : l[t] = x at hr hdrop
      have hw : wrap64 ((t : Int) + 1) = ((t + 1 : Nat) : Int) := by rw [w64 (by omega) (by omega)]; rfl
      refine Ev.step (f := fun k => if (x.f1.size : Int) > 2000 then some true else if (x.f2.size : Int) > 2000 then some true else hearsaylaw25_long.l0 k l ((t + 1 : Nat) : Int)) (fun k => ?_) ?_
      · simp only [hearsaylaw25_long.l0]; rw [if_pos (by omega), if_pos (by omega), hr, hw]
      · rw [hdrop, List.any_cons]
        by_cases g1 : 2000 < x.f1.size
        · refine Ev.congr (fun k => by rw [if_pos (by omega)]) ?_
          simpa [g1] using Ev.now true
        · by_cases g2 : 2000 < x.f2.size
          · refine Ev.congr (fun k => by rw [if_neg (by omega), if_pos (by omega)]) ?_
            simpa [g2] using Ev.now true
          · refine Ev.congr (fun k => by rw [if_neg (by omega), if_neg (by omega)]) ?_
            simpa [g1, g2] using ih (t + 1) (by omega) (by omega)
    · exact fin t h1 ht
def longP (l : List S38) : Bool := decide (200 < l.length) || l.any fun x => decide (2000 < x.f1.size) || decide (2000 < x.f2.size)
theorem long_f (l : List S38) : Ev (fun k => hearsaylaw25_long.f k l) (longP l) := by
  unfold longP
  by_cases h : 200 < l.length
  · rw [decide_eq_true h, Bool.true_or]
    exact Ev.congr (fun k => by unfold hearsaylaw25_long.f; rw [if_pos (by omega)]) (Ev.now _)
  · rw [decide_eq_false h, Bool.false_or]
    exact Ev.congr (fun k => by unfold hearsaylaw25_long.f; rw [if_neg (by omega)]; rfl) (long_l0 l (by omega) l.length 0 (by omega) (by omega))
theorem firstP_append (D : S38 → S32 × Bool) (l m : List S38) : firstP D (l ++ m) = if (firstP D l).2 then firstP D l else firstP D m := by
  unfold firstP
  have e : mades D (l ++ m) = mades D l ++ mades D m := by unfold mades; exact List.filterMap_append
  rw [e]
  cases mades D l with
  | nil => rfl
  | cons y r => rfl
theorem firstP_fail {D : S38 → S32 × Bool} {l : List S38} (h : (firstP D l).2 = false) : firstP D l = (z32, false) := by
  unfold firstP at h ⊢
  cases hm : mades D l with
  | nil => rfl
  | cons y r => rw [hm] at h; simp at h
theorem askP_fail {l : List S38} {q : S32} (h : (askP l q).2 = false) : askP l q = (z32, false) := by
  rw [askP_first] at h ⊢
  split at h
  · rename_i h1
    split at h
    · rename_i h2; rw [if_pos h1, if_pos h2]; exact firstP_fail h
    · rename_i h2; rw [if_pos h1, if_neg h2]
  · rename_i h1; rw [if_neg h1]
theorem askP_yes {l : List S38} {q : S32} (h : (askP l q).2 = true) : checkP l = 0 ∧ (dec q.f0).isSome = true ∧ askP l q = firstP (doP q) l := by
  rw [askP_first] at h ⊢
  split at h
  · rename_i h1
    split at h
    · rename_i h2; exact ⟨h1, h2, by rw [if_pos h1, if_pos h2]⟩
    · simp at h
  · simp at h
theorem checkP_zero {l : List S38} (hl : l.length ≤ 32) (h : ∀ x ∈ l, ruleOk x = true) : checkP l = 0 := by
  unfold checkP
  rw [if_neg (by omega), if_pos (List.all_eq_true.2 h)]
theorem toList_beq (a : ByteArray) : (a.toList == a.toList) = true := by simp
theorem z32_eq : z32 = (⟨⟨#[]⟩, 0, 0⟩ : S32) := rfl
end Go.Proofs.Ytfcmphigmfdceaa.Print
end
section
/- hearsaylaw25's lent and kept, walked: rules with a mark behind their end, within the capacity. -/
namespace Go.Proofs.Ytfcmphigmfdceaa.Print
open Go.RowKit Go.Proofs.YtfcmphigmfdceaaW.PrintWords Go.Proofs.YtfcmphigmfdceaaW.PrintLast Go.Proofs.YtfcmphigmfdceaaW.PrintMore
set_option linter.unusedVariables false
set_option linter.unusedSimpArgs false
/-- x[:j], j within the capacity -/
theorem cut_cap {P : Program} (t e : TypeId) (kh : IntKind) {i : TypeInfo} (ht : P.underlying t = some (.slice e)) (hi : P.info? e = some i) (A : Option Addr) (n c : Nat) (j : Nat) (hm : j ≤ c) :
    ∀ W : World, (Instr.slice t (.slice A n c) none (some (.int kh (j : Int))) none).run P W = .ok (.slice A j c) W := by
  intro W
  have hel : P.elem t = e := by simp [Program.elem, ht]
  have hu : P.underlying t = some (.slice (P.elem t)) := by rw [hel]; exact ht
  have ha : (A.map fun x => x.add 0) = A := by cases A <;> simp [Addr.add]
  rw [run_slice_h W t A n c hu kh (j : Int) (by omega) (by omega), hel]
  simp [sizeOf, typeInfo, hi, sliced, Result.andThen, ha]
def mark38 : S38 := ⟨99, ⟨#[]⟩, ⟨#[]⟩, 0, 0⟩
set_option maxHeartbeats 8000000 in
set_option maxRecDepth 100000 in
theorem lent_calls (A0 : Option Addr) (c0 : Nat) (l0 : List S38) (w : World) (hr0 : Kd.C k38 w A0 l0.length l0) (hc0 : l0.length ≤ c0) (hn : l0.length ≤ 1000) :
    Calls Try.prog 11 #[.slice A0 l0.length c0] w fun e w' => ∃ A c, e = .returned (.slice A l0.length c) ∧ l0.length + 1 ≤ c ∧ Kd.C k38 w' A (l0.length + 1) (l0 ++ [mark38]) ∧ Below w.heap.size w w' := by
  have hu38 := Try.underlying38
  have HR0 := Aside0.mk hr0
  have HC0 := Aside0.mk hc0
  have hml : l0.length ≤ 9223372036854775807 := Kd.C_max hr0
  clear hr0 hc0
  have HB := Aside0.mk (Below.refl w.heap.size w)
  obtain ⟨y106, hy106⟩ : ∃ y_ : List S38, y_ = l0 ++ [mark38] := ⟨_, rfl⟩
  have hl6 : y106.length = l0.length + 1 := by rw [hy106]; simp
  have Ny106 := Aside0.mk hy106
  have HL6 := Aside0.mk hl6
  clear hy106 hl6
  go_enter Try.func11, Try.ntmps11
  go_wp2_with (first | ((with_reducible refine gate_builtin (b := .append) (xs := #[.tmp 4, .tmp 5]) rfl ?_); at_builtin; refine Kd.R_append_rows k38 (w0 := w) w.heap.size rfl (.tmp 4) (.tmp 5) 22 38 (.agg #[(.int .u8 0), (.string ⟨#[]⟩), (.string ⟨#[]⟩), (.int .u16 0), (.int .u16 0)]) 48 rfl Try.underlying22 info38 rfl (by decide) (by omega) (.slice none 0 0) ([] : List S38) l0 _ _ _ (fun _ => True) (fun _ => False) rfl rfl ?aO ?aR (fun _ _ h => h) (fun _ h => h.elim) ?aF ?aB ?aS ?aL ?_; (case aR => exact HR0.out); (case aB => exact HB.out); (case aF => exact (fun _ _ => trivial)); (case aO => exact ((Kd.R_nil _ _ _ _ (fun _ => True)))); (case aS => exact Nat.le_refl _); (case aL => simp only [List.length_nil]; omega); intro v104 w6 ho hb hg hat; rw [List.nil_append] at ho; have n0_ := Aside0.mk (hb); have n1_ := Aside0.mk (ho); clear HB; have HB := n0_; have HO105 := n1_; clear n0_ n1_; clear ho hb hg hat) | ((with_reducible refine gate_builtin (b := .append) (xs := #[.tmp 7, .tmp 9]) rfl ?_); at_builtin; refine Kd.R_append k38 (w0 := w) w.heap.size rfl (.tmp 7) (.tmp 9) 22 38 (.agg #[(.int .u8 0), (.string ⟨#[]⟩), (.string ⟨#[]⟩), (.int .u16 0), (.int .u16 0)]) 48 rfl Try.underlying22 info38 rfl (by decide) (by omega) v104 l0 mark38 [.int .u8 99, .string (⟨#[]⟩ : ByteArray), .string (⟨#[]⟩ : ByteArray), .int .u16 0, .int .u16 0] (fun _ => True) (fun _ => False) rfl rfl ?aP (fun _ hk => hk.elim) ?aF ?aO ?aB ?aS ?aL ?_; (case aP => exact k38_mkM _ _ _ mark38); (case aB => exact (by repeat (first | (with_reducible first | exact HB.out | apply below_alloc | apply pw_below_drewN | apply below_drew1) | exact HB.out))); (case aF => exact (fun _ _ => trivial)); (case aO => exact (by (with_reducible repeat (first | apply Kd.R_alloc | apply Kd.R_drewN | apply Kd.R_drew)); exact HO105.out)); (case aS => exact (below_size (by repeat (first | (with_reducible first | exact HB.out | apply below_alloc | apply pw_below_drewN | apply below_drew1) | exact HB.out)))); (case aL => omega); intro v107 w7 ho hb hg hat; rw [← Ny106.out] at ho; have n0_ := Aside0.mk (hb); have n1_ := Aside0.mk (ho); clear HB; clear HO105; have HB := n0_; have HO108 := n1_; clear n0_ n1_; clear ho hb hg hat; obtain ⟨Ao8, co8, eo8⟩ := Kd.R_slice HO108.out; subst eo8; obtain ⟨i09, hi09, _, hsz9, _⟩ := info_parts info38; have hroom := (Kd.R_reads' HO108.out).2.1; have hcut9 := cut_cap (P := Try.prog) 22 38 .i64 Try.underlying22 hi09 Ao8 y106.length co8 l0.length (by have := HL6.out; omega); have HRM := Aside0.mk hroom; clear hroom hi09 hsz9))
  go_ret
  refine ⟨Ao8, co8, rfl, by have := HL6.out; have := HRM.out; omega, ?_, HB.out⟩
  have h := (Kd.R_reads' HO108.out).2.2
  rw [HL6.out, Ny106.out] at h
  exact h
theorem get_snoc {l : List S38} {m : S38} {i : Nat} (h : i < l.length) : (l ++ [m])[i]? = l[i]? := List.getElem?_append_left h
attribute [local go_sem high] eqA38
set_option maxHeartbeats 8000000 in
set_option maxRecDepth 100000 in
theorem kept_calls (A0 : Option Addr) (c0 : Nat) (A1 : Option Addr) (c1 : Nat) (l : List S38) (w : World) (hr0 : Kd.C k38 w A0 (l.length + 1) (l ++ [mark38])) (hc0 : l.length + 1 ≤ c0) (hr1 : Kd.C k38 w A1 l.length l) (hc1 : l.length ≤ c1) :
    Calls Try.prog 14 #[.slice A0 l.length c0, .slice A1 l.length c1] w fun e w' => e = .returned (.bool true) ∧ Drawn0 w w' := by
  have hu38 := Try.underlying38
  have HR0 := Aside0.mk hr0
  have HC0 := Aside0.mk hc0
  have hml : l.length + 1 ≤ 9223372036854775807 := Kd.C_max hr0
  clear hr0 hc0
  have HR1 := Aside0.mk hr1
  have HC1 := Aside0.mk hc1
  clear hr1 hc1
  go_enter Try.func14, Try.ntmps14
  go_wp2
  repeat (go_quiet (fail); try go_wp2)
  go_loopg [5] (l.length + 1) (fun kq v5 w' => ∃ j : Nat, v5 = .int .i64 j ∧ j ≤ l.length ∧ Aside0 (kq + j = l.length + 1) ∧ Drawn0 w w')
  case atStart => exact ⟨0, rfl, Nat.zero_le _, ⟨rfl⟩, by repeat (first | exact Drawn0.refl _ | apply Drawn0.step)⟩
  case round =>
    obtain ⟨j, rfl, hj, HK, ⟨m1, rfl⟩⟩ := hrel
    by_cases hlt : j < l.length
    · obtain ⟨kg, rfl⟩ : ∃ m, gk = m + 1 := ⟨gk - 1, by have := HK.out; omega⟩
      obtain ⟨x, hx⟩ : ∃ x, l[j]? = some x := ⟨l[j], List.getElem?_eq_getElem hlt⟩
      have hx2 : (l ++ [mark38])[j]? = some x := by rw [get_snoc hlt]; exact hx
      have r1 : rd_T38 l (j : Int) = x := by simp [rd_T38, List.getD_eq_getElem?_getD, hx]
      have r2 : rd_T38 (l ++ [mark38]) (j : Int) = x := by simp [rd_T38, List.getD_eq_getElem?_getD, hx2]
      obtain ⟨ad0, e0, h00, h01, h02, h03, h04⟩ := at_T38 HR0.out (j : Int) (by omega) (by omega)
      obtain ⟨ad1, e1, h10, h11, h12, h13, h14⟩ := at_T38 HR1.out (j : Int) (by omega) (by omega)
      rw [r2] at h00 h01 h02 h03 h04
      rw [r1] at h10 h11 h12 h13 h14
      cases e0
      cases e1
      clear hx hx2 r1 r2
      have hz1 : IntKind.i64.wrap ((j : Int) + 1) = (j : Int) + 1 := IntWalk.i64_in _ (by omega)
      have c0 : decide ((j : Int) < (l.length : Int)) = true := decide_eq_true (by omega)
      have c1 : (0 : Int) ≤ (j : Int) := by omega
      have c2 : (j : Int) < (l.length : Int) := by omega
      simp only [Int.toNat_natCast] at h00 h01 h02 h03 h04 h10 h11 h12 h13 h14
      go_wp2
      repeat (go_quiet (fail); try go_wp2)
      go_roundg kg
      case measure => omega
      case rel => exact ⟨j + 1, by go_num, by omega, ⟨by have := HK.out; omega⟩, by repeat (first | exact Drawn0.refl _ | apply Drawn0.step)⟩
    · obtain rfl : j = l.length := by omega
      have hx2 : (l ++ [mark38])[l.length]? = some mark38 := by simp
      have r2 : rd_T38 (l ++ [mark38]) (l.length : Int) = mark38 := by simp [rd_T38, List.getD_eq_getElem?_getD]
      obtain ⟨ad0, e0, h00, h01, h02, h03, h04⟩ := at_T38 HR0.out (l.length : Int) (by omega) (by omega)
      rw [r2] at h00 h01 h02 h03 h04
      cases e0
      clear hx2 r2
      obtain ⟨i0, hi0, _, hsz, _⟩ := info_parts info38
      have hz1 : IntKind.i64.wrap ((l.length : Int) + 1) = (l.length : Int) + 1 := IntWalk.i64_in _ (by omega)
      have hcut0 := cut_cap (P := Try.prog) 22 38 .i64 Try.underlying22 hi0 (some ad0) l.length c0 (l.length + 1) HC0.out
      have hcut : ∀ W : World, (Instr.slice 22 (.slice (some ad0) l.length c0) none (some (.int .i64 ((l.length : Int) + 1))) none).run Try.prog W = .ok (.slice (some ad0) (l.length + 1) c0) W := hcut0
      clear hcut0 hi0 hsz
      have c0' : decide ((l.length : Int) < (l.length : Int)) = false := decide_eq_false (by omega)
      have c1' : (0 : Int) ≤ (l.length : Int) + 1 := by omega
      have c3' : (l.length : Int) < ((l.length + 1 : Nat) : Int) := by omega
      simp only [Int.toNat_natCast, mark38] at h00 h01 h02 h03 h04
      go_wp2
      repeat (go_quiet (fail); try go_wp2)
      go_ret
      exact ⟨by first | rfl | (simp; done), by repeat (first | exact Drawn0.refl _ | apply Drawn0.step)⟩
end Go.Proofs.Ytfcmphigmfdceaa.Print
end
section
/- The statements RewriteChecks and RewriteAsks, walked. -/
namespace Go.Proofs.Ytfcmphigmfdceaa.Print
open Go.RowKit Go.Proofs.YtfcmphigmfdceaaW.PrintWords Go.Proofs.YtfcmphigmfdceaaW.PrintLast Go.Proofs.YtfcmphigmfdceaaW.PrintMore
set_option linter.unusedVariables false
set_option linter.unusedSimpArgs false
attribute [local go_sem high] eqA32
theorem longP_short {l : List S38} (h : longP l = false) : l.length ≤ 200 := by
  unfold longP at h
  simp only [Bool.or_eq_false_iff, decide_eq_false_iff_not] at h
  omega
theorem take_C {w : World} {A : Option Addr} {l : List S38} (h : Kd.C k38 w A (l.length + 1) (l ++ [mark38])) : Kd.C k38 w A l.length l := by
  have hlen : (l ++ [mark38]).length = l.length + 1 := by simp
  rw [← hlen] at h
  have h2 := Kd.C_take (m := l.length) h (by omega)
  rwa [List.take_left] at h2
set_option maxHeartbeats 8000000 in
set_option maxRecDepth 100000 in
theorem rewriteChecks_calls (A0 : Option Addr) (c0 : Nat) (l : List S38) (w : World) (hr0 : Kd.C k38 w A0 l.length l) (hc0 : l.length ≤ c0) :
    Calls Try.prog 3 #[.slice A0 l.length c0] w fun e w' => e = .returned (.bool true) ∧ Below w.heap.size w w' := by
  obtain ⟨k1, hk1⟩ := (long_f l).rounds
  obtain ⟨k2, hk2⟩ := (rcheck_f l).rounds
  obtain ⟨k3, hk3⟩ := (check25_f l).rounds
  have HK1 := Aside0.mk hk1
  have HK2 := Aside0.mk hk2
  have HK3 := Aside0.mk hk3
  have HR := Aside0.mk hr0
  have HC := Aside0.mk hc0
  clear hk1 hk2 hk3 hr0 hc0
  cases hlong : longP l with
  | true =>
    rw [hlong] at HK1
    clear hlong
    go_enter Try.func3, Try.ntmps3
    go_wp2_with (first | (go_at_call 10; refine (hearsaylaw25_long.calls k1 A0 c0 l true _ HR.out HC.out HK1.out).mono ?_; rintro e w0 ⟨rfl, hd⟩; have HB0 := Aside0.mk hd.below; clear hd))
    go_ret
    exact ⟨rfl, HB0.out⟩
  | false =>
    have hl := longP_short hlong
    have HL := Aside0.mk hl
    rw [hlong] at HK1
    clear hlong hl
    generalize hv : checkP l = v at HK2 HK3
    clear hv
    go_enter Try.func3, Try.ntmps3
    go_wp2_with (first | (go_at_call 10; refine (hearsaylaw25_long.calls k1 A0 c0 l false _ HR.out HC.out HK1.out).mono ?_; rintro e w0 ⟨rfl, hd⟩; have HB0 := Aside0.mk hd.below; clear hd) | (go_at_call 11; refine (lent_calls A0 c0 l _ (Kd.C_below HR.out HB0.out) HC.out (by have := HL.out; omega)).mono ?_; rintro e w1 ⟨A1, c1, rfl, hc1, hC1, hb1⟩; have HC1 := Aside0.mk hC1; have HD1 := Aside0.mk hc1; have HB1 := Aside0.mk (HB0.out.trans (below_to hb1 HB0.out.size)); clear hC1 hb1 hc1) | (go_at_call 12; refine (rewrite_Check.calls k2 A1 c1 l v _ (take_C HC1.out) (by have := HD1.out; omega) HK2.out).mono ?_; rintro e w2 ⟨rfl, hb2⟩; have HB2 := Aside0.mk (HB1.out.trans (below_to hb2 HB1.out.size)); have HI2 := Aside0.mk (hb2); clear hb2) | (go_at_call 13; refine (hearsayref25_Check.calls k3 A0 c0 l v _ (Kd.C_below HR.out HB2.out) HC.out HK3.out).mono ?_; rintro e w3 ⟨rfl, hb3⟩; have HB3 := Aside0.mk (HB2.out.trans (below_to hb3 HB2.out.size)); have HI3 := Aside0.mk (HI2.out.trans (below_to hb3 HI2.out.size)); clear hb3) | (go_at_call 14; refine (kept_calls A1 c1 A0 c0 l _ (Kd.C_below HC1.out HI3.out) HD1.out (Kd.C_below HR.out HB3.out) HC.out).mono ?_; rintro e w4 ⟨rfl, hd4⟩; have hb4 := hd4.below; have HB4 := Aside0.mk (HB3.out.trans (below_to hb4 HB3.out.size)); clear hb4 hd4) | (go_at_call 15; refine (hearsaylaw25_asks.calls true _ asks_f).mono ?_; rintro e w5 ⟨rfl, hb5⟩; have HB5 := Aside0.mk (HB4.out.trans (below_to hb5 HB4.out.size)); clear hb5))
    go_ret
    exact ⟨rfl, HB5.out⟩
set_option maxHeartbeats 8000000 in
set_option maxRecDepth 100000 in
theorem rewriteAsks_calls (A0 : Option Addr) (c0 : Nat) (l : List S38) (q : S32) (w : World) (hr0 : Kd.C k38 w A0 l.length l) (hc0 : l.length ≤ c0) :
    Calls Try.prog 4 #[.slice A0 l.length c0, .agg #[.string q.f0, .int .u16 q.f1, .int .u16 q.f2]] w fun e w' => e = .returned (.bool true) ∧ Below w.heap.size w w' := by
  obtain ⟨k1, hk1⟩ := (long_f l).rounds
  obtain ⟨k3, hk3⟩ := (ask25_f l q).rounds
  have HK1 := Aside0.mk hk1
  have HK3 := Aside0.mk hk3
  have HR := Aside0.mk hr0
  have HC := Aside0.mk hc0
  clear hk1 hk3 hr0 hc0
  cases hlong : longP l with
  | true =>
    rw [hlong] at HK1
    clear hlong
    go_enter Try.func4, Try.ntmps4
    go_wp2_with (first | (go_at_call 10; refine (hearsaylaw25_long.calls k1 A0 c0 l true _ (Kd.C_alloc HR.out _) HC.out HK1.out).mono ?_; rintro e w0 ⟨rfl, hd⟩; have HB0 := Aside0.mk ((below_alloc (Below.refl w.heap.size w) (.cells #[.string q.f0, .int .u16 q.f1, .int .u16 q.f2] 32)).trans (below_to hd.below (by simp))); have HQ0 := Aside0.mk ((Bx.new w #[.string q.f0, .int .u16 q.f1, .int .u16 q.f2] 32).below hd.below); have hq0 := HQ0.out.cell 0 _ rfl; clear hd))
    go_ret
    exact ⟨rfl, HB0.out⟩
  | false =>
    have hl := longP_short hlong
    have HL := Aside0.mk hl
    rw [hlong] at HK1
    clear hlong hl
    by_cases hs : q.f0.size > 2000
    · have hs' : decide ((q.f0.size : Int) > 2000) = true := decide_eq_true (by omega)
      have hs2 : (2000 : Int) < (q.f0.size : Int) := by omega
      go_enter Try.func4, Try.ntmps4
      go_wp2_with (first | (go_at_call 10; refine (hearsaylaw25_long.calls k1 A0 c0 l false _ (Kd.C_alloc HR.out _) HC.out HK1.out).mono ?_; rintro e w0 ⟨rfl, hd⟩; have HB0 := Aside0.mk ((below_alloc (Below.refl w.heap.size w) (.cells #[.string q.f0, .int .u16 q.f1, .int .u16 q.f2] 32)).trans (below_to hd.below (by simp))); have HQ0 := Aside0.mk ((Bx.new w #[.string q.f0, .int .u16 q.f1, .int .u16 q.f2] 32).below hd.below); have hq0 := HQ0.out.cell 0 _ rfl; clear hd))
      go_ret
      exact ⟨rfl, HB0.out⟩
    · have hs' : decide ((q.f0.size : Int) > 2000) = false := decide_eq_false (by omega)
      have hs2 : ¬ (2000 : Int) < (q.f0.size : Int) := by omega
      have hs3 : (q.f0.size : Int) ≤ 2000 := by omega
      obtain ⟨⟨⟨y0, y1, y2⟩, yb⟩, hv⟩ : ∃ v, askP l q = v := ⟨_, rfl⟩
      have hk2 : rewrite_Ask.f l q.f0 q.f1 q.f2 = some (y0, y1, y2, yb) := by
        show some (flat (askP l q)) = _
        rw [hv]; rfl
      have HK2 := Aside0.mk hk2
      rw [hv] at HK3
      clear hk2 hv
      go_enter Try.func4, Try.ntmps4
      go_wp2_with (first | (go_at_call 10; refine (hearsaylaw25_long.calls k1 A0 c0 l false _ (Kd.C_alloc HR.out _) HC.out HK1.out).mono ?_; rintro e w0 ⟨rfl, hd⟩; have HB0 := Aside0.mk ((below_alloc (Below.refl w.heap.size w) (.cells #[.string q.f0, .int .u16 q.f1, .int .u16 q.f2] 32)).trans (below_to hd.below (by simp))); have HQ0 := Aside0.mk ((Bx.new w #[.string q.f0, .int .u16 q.f1, .int .u16 q.f2] 32).below hd.below); have hq0 := HQ0.out.cell 0 _ rfl; clear hd) | (go_at_call 11; refine (lent_calls A0 c0 l _ (Kd.C_below HR.out HB0.out) HC.out (by have := HL.out; omega)).mono ?_; rintro e w1 ⟨A1, c1, rfl, hc1, hC1, hb1⟩; have HC1 := Aside0.mk hC1; have HD1 := Aside0.mk hc1; have HB1 := Aside0.mk (HB0.out.trans (below_to hb1 HB0.out.size)); have HQ1 := Aside0.mk (HQ0.out.below hb1); clear hC1 hb1 hc1 hq0; have hq0 := HQ1.out.cell 0 _ rfl; have hq1 := HQ1.out.cell 1 _ rfl; have hq2 := HQ1.out.cell 2 _ rfl) | (go_at_call 16; refine (rewrite_Ask.calls A1 c1 l q.f0 q.f1 q.f2 y0 y1 y2 yb _ (take_C HC1.out) (by have := HD1.out; omega) HK2.out).mono ?_; rintro e w2 ⟨rfl, hb2⟩; have HB2 := Aside0.mk (HB1.out.trans (below_to hb2 HB1.out.size)); have HI2 := Aside0.mk hb2; have HQ2 := Aside0.mk (HQ1.out.below hb2); clear hb2 hq0 hq1 hq2; have hq0 := HQ2.out.cell 0 _ rfl; have hq1 := HQ2.out.cell 1 _ rfl; have hq2 := HQ2.out.cell 2 _ rfl; have hltq := HQ2.out.lt) | (go_at_call 17; refine (hearsayref25_Ask.calls k3 A0 c0 l q.f0 q.f1 q.f2 y0 y1 y2 yb _ (Kd.C_alloc (Kd.C_below HR.out HB2.out) _) HC.out HK3.out).mono ?_; rintro e w3 ⟨rfl, hb3⟩; have HB3 := Aside0.mk ((below_alloc HB2.out (.cells #[.string y0, .int .u16 y1, .int .u16 y2] 32)).trans (below_to hb3 (by have := HB2.out.size; simp; omega))); have HI3 := Aside0.mk ((below_alloc HI2.out (.cells #[.string y0, .int .u16 y1, .int .u16 y2] 32)).trans (below_to hb3 (by have := HI2.out.size; simp; omega))); have HY := Aside0.mk ((Bx.new w2 #[.string y0, .int .u16 y1, .int .u16 y2] 32).below hb3); clear hb3 hq0 hq1 hq2; have hy0 := HY.out.cell 0 _ rfl; have hy1 := HY.out.cell 1 _ rfl; have hy2 := HY.out.cell 2 _ rfl; have hlt := HY.out.lt) | (go_at_call 14; refine (kept_calls A1 c1 A0 c0 l _ (Kd.C_alloc (Kd.C_below HC1.out HI3.out) _) HD1.out (Kd.C_alloc (Kd.C_below HR.out HB3.out) _) HC.out).mono ?_; rintro e w4 ⟨rfl, hd4⟩; have hb4 := hd4.below; have HB4 := Aside0.mk ((below_alloc HB3.out (.cells #[.string y0, .int .u16 y1, .int .u16 y2] 32)).trans (below_to hb4 (by have := HB3.out.size; simp; omega))); clear hb4 hd4) | (go_at_call 15; refine (hearsaylaw25_asks.calls true _ asks_f).mono ?_; rintro e w5 ⟨rfl, hb5⟩; have HB5 := Aside0.mk (HB4.out.trans (below_to hb5 HB4.out.size)); clear hb5))
      go_ret
      exact ⟨rfl, HB5.out⟩
end Go.Proofs.Ytfcmphigmfdceaa.Print
end
