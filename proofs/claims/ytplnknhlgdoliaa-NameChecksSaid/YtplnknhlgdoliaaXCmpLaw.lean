/- name.Cmp and hearsayref01.Cmp tell the same. -/
import Derived.Test.YtplnknhlgdoliaaXCmp
import Derived.Test.YtplnknhlgdoliaaF42
namespace Go.Proofs.Ytplnknhlgdoliaa.Print
set_option linter.unusedVariables false
set_option linter.unusedSimpArgs false
open Go.RowKit Go.Proofs.YtplnknhlgdoliaaW.PrintWords Go.Proofs.YtplnknhlgdoliaaW.PrintLast Go.Proofs.YtplnknhlgdoliaaW.PrintMore
/-- two rows of bytes -/
def diffP : List Int → List Int → Int
  | x :: xs, y :: ys => if x = y then diffP xs ys else x - y
  | xs, ys => (xs.length : Int) - (ys.length : Int)
theorem diffB_map : ∀ xs ys : List Int, diffB xs ys = diffP (xs.map low1) (ys.map low1)
  | [], [] => rfl
  | [], y :: ys => by simp [diffB, diffP]
  | x :: xs, [] => by simp [diffB, diffP]
  | x :: xs, y :: ys => by simp only [diffB, diffP, List.map_cons]; rw [diffB_map xs ys]
theorem clamp_zero : clamp 0 = 0 := rfl
theorem clamp_pos {c : Int} (h : 0 < c) : clamp c = 1 := by unfold clamp; omega
theorem clamp_neg {c : Int} (h : c < 0) : clamp c = -1 := by unfold clamp; omega
theorem clamp_eq_zero {c : Int} : clamp c = 0 ↔ c = 0 := by unfold clamp; omega
theorem clamp_diff (a b : Int) : clamp (a - b) = if a = b then 0 else if a < b then -1 else 1 := by
  by_cases h : a = b
  · rw [if_pos h]; subst h; rw [Int.sub_self]; rfl
  · rw [if_neg h]
    by_cases h2 : a < b
    · rw [if_pos h2, clamp_neg (by omega)]
    · rw [if_neg h2, clamp_pos (by omega)]
theorem compare_diff : ∀ a b : List UInt8, Lib.compareBytes a b = clamp (diffP (a.map fun c => (c.toNat : Int)) (b.map fun c => (c.toNat : Int)))
  | [], [] => rfl
  | [], b :: ys => by simp only [Lib.compareBytes, List.map_nil, List.map_cons, diffP]; rw [clamp_neg (by simp only [List.length_nil, List.length_cons]; omega)]
  | a :: xs, [] => by simp only [Lib.compareBytes, List.map_nil, List.map_cons, diffP]; rw [clamp_pos (by simp only [List.length_nil, List.length_cons]; omega)]
  | a :: xs, b :: ys => by
    simp only [Lib.compareBytes, List.map_cons, diffP]
    rw [compare_diff xs ys]
    by_cases h : a = b
    · subst h; simp
    · have hn : a.toNat ≠ b.toNat := fun e => h (UInt8.toNat_inj.1 e)
      rw [if_neg (by omega : ¬ ((a.toNat : Int) = (b.toNat : Int)))]
      by_cases h2 : a < b
      · rw [if_pos h2, clamp_neg (by have := UInt8.lt_iff_toNat_lt.1 h2; omega)]
      · have h3 : b < a := UInt8.lt_iff_toNat_lt.2 (by have : ¬ a.toNat < b.toNat := fun e => h2 (UInt8.lt_iff_toNat_lt.2 e); omega)
        rw [if_neg h2, if_pos h3, clamp_pos (by have := UInt8.lt_iff_toNat_lt.1 h3; omega)]
theorem diffP_end {xs ys : List Int} (h : xs = [] ∨ ys = []) : diffP xs ys = (xs.length : Int) - (ys.length : Int) := by
  rcases h with rfl | rfl
  · rfl
  · cases xs <;> rfl
theorem text_ev (a b : ByteArray) (ha : a.size ≤ 140737488351232) (hb : b.size ≤ 140737488351232) (d : Nat) : ∀ i : Nat, a.size - i ≤ d → i ≤ a.size → i ≤ b.size →
    Ev (fun k => hearsayref01_text.l0 k a b (i : Int)) (clamp (diffP ((bytesOf a).drop i) ((bytesOf b).drop i))) := by
  have fin : ∀ i : Nat, i ≤ a.size → i ≤ b.size → ¬ (i < a.size ∧ i < b.size) → Ev (fun k => hearsayref01_text.j1 k a b (i : Int) false) (clamp (diffP ((bytesOf a).drop i) ((bytesOf b).drop i))) := by
    intro i h1 h2 h3
    have e : diffP ((bytesOf a).drop i) ((bytesOf b).drop i) = (a.size : Int) - (b.size : Int) := by
      rw [diffP_end (by by_cases h : i < a.size
                        · exact Or.inr (bo_end b i (by omega))
                        · exact Or.inl (bo_end a i (by omega)))]
      simp only [List.length_drop, bytesOf_length]; omega
    rw [e, clamp_diff]
    refine Ev.step (f := fun _ => some (if (a.size : Int) = (b.size : Int) then 0 else if (a.size : Int) < (b.size : Int) then -1 else 1)) (fun k => ?_) (Ev.now _)
    simp only [hearsayref01_text.j1]
    rw [if_neg (by simp)]
    split
    · rfl
    · split <;> rfl
  induction d with
  | zero =>
    intro i hd h1 h2
    refine Ev.step (f := fun k => hearsayref01_text.j1 k a b i false) (fun k => by simp only [hearsayref01_text.l0]; rw [if_neg (by omega)]) (fin i h1 h2 (by omega))
  | succ d ih =>
    intro i hd h1 h2
    by_cases ha' : i < a.size
    · by_cases hb' : i < b.size
      · refine Ev.step (f := fun k => hearsayref01_text.j1 k a b i true) (fun k => by simp only [hearsayref01_text.l0]; rw [if_pos (by omega)]; congr 1; simp; omega) ?_
        rw [bo_drop a i ha', bo_drop b i hb', diffP]
        by_cases he : bt a (i : Int) = bt b (i : Int)
        · rw [if_pos he]
          refine Ev.step (fun k => ?_) (ih (i + 1) (by omega) (by omega) (by omega))
          simp only [hearsayref01_text.j1]
          rw [if_pos trivial, if_pos (by omega), if_pos (by omega), if_pos (by omega), if_pos he, w64 (by omega) (by omega)]
          rfl
        · rw [if_neg he]
          refine Ev.step (f := fun _ => some (clamp (bt a (i : Int) - bt b (i : Int)))) (fun k => ?_) (Ev.now _)
          simp only [hearsayref01_text.j1]
          rw [if_pos trivial, if_pos (by omega), if_pos (by omega), if_pos (by omega), if_neg he, clamp_diff, if_neg he]
          split <;> rfl
      · refine Ev.step (f := fun k => hearsayref01_text.j1 k a b i false) (fun k => by simp only [hearsayref01_text.l0]; rw [if_pos (by omega)]; congr 1; simp; omega) (fin i h1 h2 (by omega))
    · refine Ev.step (f := fun k => hearsayref01_text.j1 k a b i false) (fun k => by simp only [hearsayref01_text.l0]; rw [if_neg (by omega)]) (fin i h1 h2 (by omega))
theorem text_f (a b : ByteArray) (ha : a.size ≤ 140737488351232) (hb : b.size ≤ 140737488351232) : Ev (fun k => hearsayref01_text.f k a b) (clamp (diffP (bytesOf a) (bytesOf b))) := by
  have h := text_ev a b ha hb a.size 0 (by omega) (by omega) (by omega)
  rw [List.drop_zero, List.drop_zero] at h
  exact h
theorem low_byte {c : Int} (h : 0 ≤ c ∧ c < 256) : 0 ≤ low1 c ∧ low1 c < 256 := low1_range h.1 h.2
theorem bytes_lowS (s : ByteArray) : bytesOf (lowS s) = (bytesOf s).map low1 := by
  unfold lowS
  refine bytes_strOfNums _ (fun x hx => ?_)
  obtain ⟨c, hc, rfl⟩ := List.mem_map.1 hx
  exact low_byte (bo_range s c hc)
theorem lowS_size (s : ByteArray) : (lowS s).size = s.size := by
  have := congrArg List.length (bytes_lowS s)
  rw [bytesOf_length, List.length_map, bytesOf_length] at this
  exact this
theorem low_f {s : ByteArray} (h : s.size ≤ 9223372036854775807) : hearsayref01_Low.f s = some (lowS s) := by
  unfold hearsayref01_Low.f name_Fold.f; rw [if_pos h]
theorem fold_f {s : ByteArray} (h : s.size ≤ 9223372036854775807) : name_Fold.f s = some (lowS s) := by
  unfold name_Fold.f; rw [if_pos h]
theorem label_small {n : ByteArray} {L : List ByteArray} (h : dec n = some L) {s : ByteArray} (hs : s ∈ L) : 0 < s.size ∧ s.size ≤ 63 := by
  have h3 := (dec_some h).2.2
  rw [List.any_eq_false] at h3
  exact bad_false (by simpa using h3 s hs)
theorem rd_rev {L : List ByteArray} {t : Nat} {s : ByteArray} {r : List ByteArray} (h : L.reverse.drop t = s :: r) : t < L.length ∧ rdOf ByteArray.empty L ((L.length : Int) - ((t : Int) + 1)) = s ∧ s ∈ L ∧ L.reverse.drop (t + 1) = r := by
  have ht : t < L.reverse.length := by
    have := congrArg List.length h
    rw [List.length_drop] at this
    simp only [List.length_cons] at this; omega
  have h2 := List.drop_eq_getElem_cons ht
  rw [h] at h2
  injection h2 with h3 h4
  rw [List.length_reverse] at ht
  refine ⟨ht, ?_, by rw [h3]; exact List.mem_reverse.1 (List.getElem_mem _), h4.symm⟩
  rw [h3, List.getElem_reverse]
  have e : ((L.length : Int) - ((t : Int) + 1)).toNat = L.length - 1 - t := by omega
  simp only [rdOf, e]
  rw [List.getD_eq_getElem?_getD, List.getElem?_eq_getElem (by omega)]
  rfl
theorem diffL_end {xs ys : List ByteArray} (h : xs = [] ∨ ys = []) : diffL xs ys = (xs.length : Int) - (ys.length : Int) := by
  rcases h with rfl | rfl
  · rfl
  · cases xs <;> rfl
theorem cmp_l0 {a b : ByteArray} {L M : List ByteArray} (hL : dec a = some L) (hM : dec b = some M) (d : Nat) : ∀ t : Nat, L.length - t ≤ d → t ≤ L.length → t ≤ M.length →
    Ev (fun k => hearsayref01_Cmp.l0 k L M ((t : Int) + 1)) (clamp (diffL (L.reverse.drop t) (M.reverse.drop t))) := by
  have hl := labels_length hL
  have hm := labels_length hM
  have fin : ∀ t : Nat, t ≤ L.length → t ≤ M.length → ¬ (t < L.length ∧ t < M.length) → Ev (fun k => hearsayref01_Cmp.j2 k L M ((t : Int) + 1) false) (clamp (diffL (L.reverse.drop t) (M.reverse.drop t))) := by
    intro t h1 h2 h3
    have e : diffL (L.reverse.drop t) (M.reverse.drop t) = (L.length : Int) - (M.length : Int) := by
      rw [diffL_end (by by_cases h : t < L.length
                        · exact Or.inr (List.drop_of_length_le (by rw [List.length_reverse]; omega))
                        · exact Or.inl (List.drop_of_length_le (by rw [List.length_reverse]; omega)))]
      simp only [List.length_drop, List.length_reverse]; omega
    rw [e, clamp_diff]
    refine Ev.step (f := fun _ => some (if (L.length : Int) = (M.length : Int) then 0 else if (L.length : Int) < (M.length : Int) then -1 else 1)) (fun k => ?_) (Ev.now _)
    simp only [hearsayref01_Cmp.j2]
    rw [if_neg (by simp)]
    split
    · rfl
    · split <;> rfl
  induction d with
  | zero =>
    intro t hd h1 h2
    refine Ev.step (f := fun k => hearsayref01_Cmp.j2 k L M ((t : Int) + 1) false) (fun k => by simp only [hearsayref01_Cmp.l0]; rw [if_neg (by omega)]) (fin t h1 h2 (by omega))
  | succ d ih =>
    intro t hd h1 h2
    by_cases ha' : t < L.length
    · by_cases hb' : t < M.length
      · refine Ev.step (f := fun k => hearsayref01_Cmp.j2 k L M ((t : Int) + 1) true) (fun k => by simp only [hearsayref01_Cmp.l0]; rw [if_pos (by omega)]; congr 1; simp; omega) ?_
        obtain ⟨s, r, hs⟩ : ∃ s r, L.reverse.drop t = s :: r := ⟨_, _, List.drop_eq_getElem_cons (by rw [List.length_reverse]; exact ha')⟩
        obtain ⟨u, q, hu⟩ : ∃ u q, M.reverse.drop t = u :: q := ⟨_, _, List.drop_eq_getElem_cons (by rw [List.length_reverse]; exact hb')⟩
        obtain ⟨_, hs2, hs3, hs4⟩ := rd_rev hs
        obtain ⟨_, hu2, hu3, hu4⟩ := rd_rev hu
        have hs5 := label_small hL hs3
        have hu5 := label_small hM hu3
        have hT := text_f (lowS s) (lowS u) (by rw [lowS_size]; omega) (by rw [lowS_size]; omega)
        rw [bytes_lowS, bytes_lowS, ← diffB_map] at hT
        have ih' := ih (t + 1) (by omega) (by omega) (by omega)
        rw [hs4, hu4] at ih'
        rw [hs, hu, diffL]
        refine Ev.step (f := fun k => (hearsayref01_text.f k (lowS s) (lowS u)).bind fun c => if c = 0 then hearsayref01_Cmp.l0 k L M (((t + 1 : Nat) : Int) + 1) else some c) (fun k => ?_) ?_
        · simp only [hearsayref01_Cmp.j2]
          rw [if_pos trivial, w64 (n := (L.length : Int) - ((t : Int) + 1)) (by omega) (by omega), w64 (n := (M.length : Int) - ((t : Int) + 1)) (by omega) (by omega), w64 (n := (t : Int) + 1 + 1) (by omega) (by omega)]
          rw [if_pos (by omega), if_pos (by omega), hs2, hu2, low_f (by omega), low_f (by omega)]
          simp only [Option.bind_some]
          rw [if_pos (by omega), if_pos (by omega)]
          rfl
        · refine Ev.bind (f := fun k c => if c = 0 then hearsayref01_Cmp.l0 k L M (((t + 1 : Nat) : Int) + 1) else some c) hT ?_
          by_cases hz : diffB (bytesOf s) (bytesOf u) = 0
          · rw [if_pos hz]
            refine Ev.congr (fun k => ?_) ih'
            rw [if_pos (clamp_eq_zero.2 hz)]
          · rw [if_neg hz]
            refine Ev.congr (fun k => ?_) (Ev.now _)
            rw [if_neg (fun h => hz (clamp_eq_zero.1 h))]
      · refine Ev.step (f := fun k => hearsayref01_Cmp.j2 k L M ((t : Int) + 1) false) (fun k => by simp only [hearsayref01_Cmp.l0]; rw [if_pos (by omega)]; congr 1; simp; omega) (fin t h1 h2 (by omega))
    · refine Ev.step (f := fun k => hearsayref01_Cmp.j2 k L M ((t : Int) + 1) false) (fun k => by simp only [hearsayref01_Cmp.l0]; rw [if_neg (by omega)]) (fin t h1 h2 (by omega))
theorem rcmp_f (a b : ByteArray) (ha : a.size ≤ 140737488351232) (hb : b.size ≤ 140737488351232) : Ev (fun k => hearsayref01_Cmp.f k a b) (cmpP a b) := by
  obtain ⟨l1, hE1, hL1⟩ := split_f a
  obtain ⟨l2, hE2, hL2⟩ := split_f b
  refine Ev.bind (f := fun k (x : List ByteArray × Bool) => (hearsayref01_Split.f k b).bind fun y => if x.2 = true then hearsayref01_Cmp.j0 k a b x.1 x.2 y.1 y.2 false else hearsayref01_Cmp.j0 k a b x.1 x.2 y.1 y.2 (!y.2)) hE1 ?_
  refine Ev.bind (f := fun k (y : List ByteArray × Bool) => if (dec a).isSome = true then hearsayref01_Cmp.j0 k a b l1 (dec a).isSome y.1 y.2 false else hearsayref01_Cmp.j0 k a b l1 (dec a).isSome y.1 y.2 (!y.2)) hE2 ?_
  unfold cmpP
  cases hd1 : dec a with
  | none =>
    cases hd2 : dec b with
    | none =>
      simp only [Option.isSome_none, Bool.not_false]
      refine Ev.step (f := fun k => (hearsayref01_text.f k a b).bind fun c => some c) (fun k => ?_) ?_
      · rw [if_neg (by simp)]; simp only [hearsayref01_Cmp.j0]; rw [if_pos trivial]
      · have h := text_f a b ha hb
        rw [compare_diff]
        exact Ev.bind (f := fun _ c => some c) h (Ev.now _)
    | some M =>
      simp only [Option.isSome_none, Option.isSome_some, Bool.not_true]
      refine Ev.step (f := fun _ => some 1) (fun k => ?_) (Ev.now _)
      rw [if_neg (by simp)]; simp only [hearsayref01_Cmp.j0]; rw [if_neg (by simp), if_neg (by simp)]
  | some L =>
    cases hd2 : dec b with
    | none =>
      simp only [Option.isSome_none, Option.isSome_some]
      refine Ev.step (f := fun _ => some (-1)) (fun k => ?_) (Ev.now _)
      rw [if_pos trivial]; simp only [hearsayref01_Cmp.j0]; rw [if_neg (by simp), if_pos trivial, if_neg (by simp)]
    | some M =>
      simp only [Option.isSome_some]
      have e1 := hL1 L hd1
      have e2 := hL2 M hd2
      subst e1; subst e2
      have h := cmp_l0 hd1 hd2 l1.length 0 (by omega) (by omega) (by omega)
      rw [List.drop_zero, List.drop_zero] at h
      refine Ev.step (fun k => ?_) h
      rw [if_pos trivial]; simp only [hearsayref01_Cmp.j0]; rw [if_neg (by simp), if_pos trivial, if_pos trivial]; rfl
end Go.Proofs.Ytplnknhlgdoliaa.Print
