/- name.Bytes, walked: it answers what 'unesc' says of the text. -/
import Derived.Test.YtafminohaofjnaaKinds
import Derived.Lib.Hide
import Derived.Outline
namespace Go.Proofs.Ytafminohaofjnaa.Print
open Go.RowKit Go.Proofs.YtafminohaofjnaaW.PrintWords Go.Proofs.YtafminohaofjnaaW.PrintLast Go.Proofs.YtafminohaofjnaaW.PrintMore
set_option linter.unusedVariables false
set_option linter.unusedSimpArgs false

theorem cell_fresh (W : World) (v : Value) (t : TypeId) : (W.alloc (.cells #[v] t)).cell? ⟨W.heap.size, 0, none⟩ = some v := by simp
theorem bt_nat (s : ByteArray) (k : Nat) (h : k < s.size) : ((s[k]'h).toNat : Int) = bt s (k : Int) := by simp [bt, h]
def isDig (c : Int) : Bool := decide (48 ≤ c) && decide (c ≤ 57)
/-- the closure 'digit' -/
def digAt (s : ByteArray) (i : Int) : Bool := decide (i < (s.size : Int)) && isDig (bt s i)

theorem digit_calls (s : ByteArray) (i : Int) (B : Nat) (w : World) (hi : 0 ≤ i) (hc : w.cell? ⟨B, 0, none⟩ = some (.string s)) :
    Calls Try.prog 28 #[.int .i64 i, .pointer (some ⟨B, 0, none⟩)] w fun e w' => e = .returned (.bool (digAt s i)) ∧ w = w' := by
  unfold digAt isDig
  by_cases h1 : i < (s.size : Int)
  · have hx := bt_at s i
    by_cases h2 : 48 ≤ bt s i
    · by_cases h3 : bt s i ≤ 57
      · go_enter Try.func28, Try.ntmps28
        go_wp2
        go_ret
        exact ⟨by simp [h1, h2, h3] <;> omega, rfl⟩
      · go_enter Try.func28, Try.ntmps28
        go_wp2
        go_ret
        exact ⟨by simp [h1, h2, h3] <;> omega, rfl⟩
    · go_enter Try.func28, Try.ntmps28
      go_wp2
      go_ret
      exact ⟨by simp [h1, h2] <;> omega, rfl⟩
  · go_enter Try.func28, Try.ntmps28
    go_wp2
    go_ret
    exact ⟨by simp [h1] <;> omega, rfl⟩


def unesc : List Int → Option (List Int)
  | [] => some []
  | c :: r => if c ≠ 92 then (unesc r).map (c :: ·) else
    match r with
    | [] => none
    | d :: r1 => if isDig d = false then (unesc r1).map (d :: ·) else
      match r1 with
      | e :: f :: r2 => if isDig e && isDig f then (if (d - 48) * 100 + (e - 48) * 10 + (f - 48) > 255 then none else (unesc r2).map (((d - 48) * 100 + (e - 48) * 10 + (f - 48)) :: ·)) else none
      | _ => none
theorem unesc_plain (c : Int) (r : List Int) (h : c ≠ 92) : unesc (c :: r) = (unesc r).map (c :: ·) := by rw [unesc.eq_def]; simp [h]
theorem unesc_last : unesc [92] = none := by rw [unesc.eq_def]; simp
theorem unesc_one (d : Int) (r : List Int) (h : isDig d = false) : unesc (92 :: d :: r) = (unesc r).map (d :: ·) := by rw [unesc.eq_def]; simp [h]
theorem unesc_three (d e f : Int) (r : List Int) (h : isDig d = true) : unesc (92 :: d :: e :: f :: r) = if isDig e && isDig f then (if (d - 48) * 100 + (e - 48) * 10 + (f - 48) > 255 then none else (unesc r).map (((d - 48) * 100 + (e - 48) * 10 + (f - 48)) :: ·)) else none := by rw [unesc.eq_def]; simp [h]
theorem unesc_two (d : Int) (r : List Int) (h : isDig d = true) (hr : r.length < 2) : unesc (92 :: d :: r) = none := by
  rw [unesc.eq_def]
  match r, hr with
  | [], _ => simp [h]
  | [e], _ => simp [h]
def name_Bytes.f (s : ByteArray) : Option (ByteArray × Int) :=
  if s.size < 140737488355328 then (match unesc (bytesOf s) with | some l => some (strOfNums l, 0) | none => some (⟨#[]⟩, 12)) else none

theorem bo_drop (s : ByteArray) (k : Nat) (h : k < s.size) : (bytesOf s).drop k = bt s (k : Int) :: (bytesOf s).drop (k + 1) := by
  have h' : k < (bytesOf s).length := by rw [bytesOf_length]; exact h
  rw [List.drop_eq_getElem_cons h', ← rd_bytesOf]
  simp [rd, List.getD_eq_getElem?_getD, List.getElem?_eq_getElem h']
theorem bo_end (s : ByteArray) (k : Nat) (h : s.size ≤ k) : (bytesOf s).drop k = [] := List.drop_eq_nil_of_le (by rw [bytesOf_length]; exact h)

/-- what stands at the loop's head: 'acc' was told of the first k bytes -/
def Inv (s : ByteArray) (k : Nat) (acc : List Int) : Prop := k ≤ s.size ∧ acc.length ≤ k ∧ (unesc ((bytesOf s).drop k)).map (acc ++ ·) = unesc (bytesOf s)
theorem inv0 (s : ByteArray) : Inv s 0 [] := ⟨Nat.zero_le _, Nat.le_refl _, by simp⟩
theorem inv_end {s : ByteArray} {k : Nat} {acc : List Int} (h : Inv s k acc) (hk : ¬ k < s.size) : unesc (bytesOf s) = some acc := by
  rw [← h.2.2, bo_end s k (by omega)]; simp [unesc]
theorem inv_plain {s : ByteArray} {k : Nat} {acc : List Int} (h : Inv s k acc) (hk : k < s.size) (hc : bt s (k : Int) ≠ 92) : Inv s (k + 1) (acc ++ [bt s (k : Int)]) := by
  refine ⟨hk, by simp; exact h.2.1, ?_⟩
  rw [← h.2.2, bo_drop s k hk, unesc_plain _ _ hc]
  simp [Option.map_map, Function.comp_def]
theorem inv_last {s : ByteArray} {k : Nat} {acc : List Int} (h : Inv s k acc) (hk : k < s.size) (hc : bt s (k : Int) = 92) (he : k + 1 = s.size) : unesc (bytesOf s) = none := by
  rw [← h.2.2, bo_drop s k hk, hc, bo_end s (k + 1) (by omega), unesc_last]; rfl
theorem digAt_eq {s : ByteArray} {k : Nat} (hk : k < s.size) : digAt s (k : Int) = isDig (bt s (k : Int)) := by simp [digAt, hk]
theorem dig_bounds {s : ByteArray} {k : Nat} (hk : k < s.size) (h : digAt s (k : Int) = true) : 48 ≤ bt s (k : Int) ∧ bt s (k : Int) ≤ 57 := by rw [digAt_eq hk] at h; unfold isDig at h; simpa using h
theorem inv_one {s : ByteArray} {k : Nat} {acc : List Int} (h : Inv s k acc) (hk : k < s.size) (hc : bt s (k : Int) = 92) (he : k + 1 < s.size) (hd : digAt s ((k + 1 : Nat) : Int) = false) : Inv s (k + 2) (acc ++ [bt s ((k + 1 : Nat) : Int)]) := by
  refine ⟨by omega, by have := h.2.1; simp; omega, ?_⟩
  rw [digAt_eq he] at hd
  rw [← h.2.2, bo_drop s k hk, hc, bo_drop s (k + 1) he, unesc_one _ _ hd]
  simp [Option.map_map, Function.comp_def]
theorem inv_bad {s : ByteArray} {k : Nat} {acc : List Int} (h : Inv s k acc) (hk : k < s.size) (hc : bt s (k : Int) = 92) (he : k + 1 < s.size) (hd : digAt s ((k + 1 : Nat) : Int) = true)
    (hb : digAt s ((k + 2 : Nat) : Int) = false ∨ digAt s ((k + 3 : Nat) : Int) = false) : unesc (bytesOf s) = none := by
  rw [digAt_eq he] at hd
  rw [← h.2.2, bo_drop s k hk, hc, bo_drop s (k + 1) he]
  by_cases h3 : k + 3 < s.size
  · have h2 : k + 2 < s.size := by omega
    rw [digAt_eq h2, digAt_eq h3] at hb
    rw [bo_drop s (k + 1 + 1) h2, bo_drop s (k + 1 + 1 + 1) h3, unesc_three _ _ _ _ hd]
    simp only [show k + 1 + 1 = k + 2 from rfl, show k + 2 + 1 = k + 3 from rfl]
    rw [if_neg (by rcases hb with hb | hb <;> rw [hb] <;> simp)]; rfl
  · rw [unesc_two _ _ hd (by simp [bytesOf_length]; omega)]; rfl
def three (s : ByteArray) (k : Nat) : Int := (bt s ((k + 1 : Nat) : Int) - 48) * 100 + (bt s ((k + 2 : Nat) : Int) - 48) * 10 + (bt s ((k + 3 : Nat) : Int) - 48)
theorem inv_three {s : ByteArray} {k : Nat} {acc : List Int} (h : Inv s k acc) (hk : k < s.size) (hc : bt s (k : Int) = 92) (hd : digAt s ((k + 1 : Nat) : Int) = true)
    (h2 : digAt s ((k + 2 : Nat) : Int) = true) (h3 : digAt s ((k + 3 : Nat) : Int) = true) : (255 < three s k → unesc (bytesOf s) = none) ∧ (¬ 255 < three s k → Inv s (k + 4) (acc ++ [three s k])) := by
  have b3 : k + 3 < s.size := by unfold digAt at h3; simp at h3; omega
  rw [digAt_eq (by omega)] at hd h2 h3
  have e : unesc ((bytesOf s).drop k) = if three s k > 255 then none else (unesc ((bytesOf s).drop (k + 4))).map (three s k :: ·) := by
    rw [bo_drop s k hk, hc, bo_drop s (k + 1) (by omega), bo_drop s (k + 1 + 1) (by omega), bo_drop s (k + 1 + 1 + 1) (by omega), unesc_three _ _ _ _ hd]
    simp only [show k + 1 + 1 = k + 2 from rfl, show k + 2 + 1 = k + 3 from rfl, h2, h3]
    rfl
  constructor
  · intro hb; rw [← h.2.2, e, if_pos hb]; rfl
  · intro hb
    refine ⟨by omega, by have := h.2.1; simp; omega, ?_⟩
    rw [← h.2.2, e, if_neg hb]; simp [Option.map_map, Function.comp_def]

set_option maxHeartbeats 4000000 in
set_option maxRecDepth 100000 in
theorem name_Bytes.calls (a0 : ByteArray) (r1 : ByteArray) (r2 : Int) (w : World) (h : name_Bytes.f a0 = some (r1, r2)) :
    Calls Try.prog 23 #[.string a0] w fun e w' => e = .returned (.tuple #[.string r1, .int .i64 r2]) ∧ Below w.heap.size w w' := by
  unfold name_Bytes.f at h
  by_cases hlen : a0.size < 140737488355328
  · rw [if_pos hlen] at h
    have H := Aside0.mk h
    clear h
    have HL := Aside0.mk hlen
    clear hlen
    obtain ⟨W0, hW0⟩ : ∃ W0 : World, W0 = w.alloc (.cells #[.string a0] 9) := ⟨_, rfl⟩
    have hc0 : W0.cell? ⟨w.heap.size, 0, none⟩ = some (.string a0) := by rw [hW0]; exact cell_fresh w (.string a0) 9
    have hz0 : W0.heap.size = w.heap.size + 1 := by rw [hW0]; simp
    have hb0 : Below w.heap.size w W0 := by rw [hW0]; exact below_alloc (Below.refl _ _) _
    have HW0 := Aside0.mk hW0.symm
    have HZ0 := Aside0.mk hz0
    have HB0 := Aside0.mk hb0
    have HC0 := Aside0.mk hc0
    clear hW0 hz0 hb0 hc0
    obtain ⟨i5, hi, hz1, hz2, hz3⟩ := info_parts info5
    go_enter Try.func23, Try.ntmps23
    go_wp2_with (at_make; rw [HW0.out]; refine wpList_make_own W0 rfl _ _ 37 rfl W0.heap.size 5 i5 (.int .u8 0) 1 Try.underlying37 hi hz1 hz2 .i64 .i64 _ a0.size rfl rfl rfl (by have := HL.out; rw [hz3]; omega) (by have := HL.out; unfold maxLen; omega) (Nat.le_refl _) ?_; intro w1 hown1 hg1; have HO1 := Aside0.mk (Kd.R_of_own (ok := fun _ => True) (xs := ([] : List Int)) (enc := Value.int .u8) (h1 := fun _ => rfl) hown1 (fun _ _ => trivial)); have HB1 := Aside0.mk (pw_below_grown (Below.refl W0.heap.size W0) none (Nat.le_refl _) hg1 (by simp)); clear hown1 hg1)
    go_loopw [4, 6] (fun v i wr => ∃ (k : Nat) (acc : List Int), i = .int .i64 k ∧ Aside0 (Inv a0 k acc) ∧ Aside0 (Kd.R (Kd.int .u8) 5 wr W0.heap.size (fun _ => True) v acc) ∧ Aside0 (Below W0.heap.size W0 wr)) (fun _ i _ => a0.size - (intOf i).toNat)
    case atStart => exact ⟨0, [], rfl, ⟨inv0 a0⟩, HO1, HB1⟩
    case round =>
      clear HO1 HB1 hi hz1 hz2 hz3
      obtain ⟨k, acc, rfl, HI, HO, HB⟩ := hrel
      have hcell : wr.cell? ⟨w.heap.size, 0, none⟩ = some (.string a0) := pw_cell_below HB.out HC0.out
      have hkb : k ≤ 140737488355328 := by have := HI.out.1; have := HL.out; omega
      have hsb : a0.size ≤ 140737488355328 := by have := HL.out; omega
      by_cases hk : k < a0.size
      · have hx0 := bt_nat a0 k hk
        by_cases hc : bt a0 (k : Int) = 92
        · have hcb : ((bt a0 (k : Int)) != 92) = false := bne_eq_false_iff_eq.mpr hc
          by_cases he : k + 1 = a0.size
          · have heb : (((k : Int) + 1) == (a0.size : Int)) = true := beq_iff_eq.mpr (by omega)
            have h2 := H.out
            rw [inv_last HI.out hk hc he] at h2
            simp only [Option.some.injEq, Prod.mk.injEq] at h2
            obtain ⟨rfl, rfl⟩ := h2
            clear hc he
            go_wp2
            go_ret2
            exact ⟨by first | rfl | (simp; done) | (simp [*]; done), below_then HB0.out (by have := HZ0.out; omega) (by repeat (first | (with_reducible first | exact HB.out | apply below_alloc | apply pw_below_drewN | apply below_drew1) | exact HB.out))⟩
          · have heb : (((k : Int) + 1) == (a0.size : Int)) = false := beq_eq_false_iff_ne.mpr (by omega)
            have he1 : k + 1 < a0.size := by omega
            have hx1 := bt_nat a0 (k + 1) he1
            by_cases hd : digAt a0 ((k + 1 : Nat) : Int) = false
            · have HI' := Aside0.mk (inv_one HI.out hk hc he1 hd)
              have hd' : digAt a0 ((k : Int) + 1) = false := hd
              clear hc he hd
              go_wp2_with (first | (go_at_call 28; refine (digit_calls a0 _ w.heap.size _ (by omega) hcell).mono ?_; rintro e w2 ⟨rfl, rfl⟩) | ((with_reducible refine gate_builtin (b := .append) (xs := #[.tmp 74, .tmp 78]) rfl ?_); at_builtin; refine Kd.R_append (Kd.int .u8) (w0 := W0) W0.heap.size rfl (.tmp 74) (.tmp 78) 37 5 (.int .u8 0) 1 rfl Try.underlying37 info5 rfl (by decide) (by omega) _ acc (bt a0 ((k + 1 : Nat) : Int)) [.int .u8 (bt a0 ((k + 1 : Nat) : Int))] (fun _ => True) (fun _ => False) rfl rfl ?aP (fun _ hk => hk.elim) ?aF ?aO ?aB ?aS ?aL ?_; (case aP => exact rfl); (case aB => exact (by repeat (first | (with_reducible first | exact HB.out | apply below_alloc | apply pw_below_drewN | apply below_drew1) | exact HB.out))); (case aF => exact (fun _ _ => trivial)); (case aO => exact (by (with_reducible repeat (first | apply Kd.R_alloc | apply Kd.R_drewN | apply Kd.R_drew)); exact HO.out)); (case aS => exact (below_size (by repeat (first | (with_reducible first | exact HB.out | apply below_alloc | apply pw_below_drewN | apply below_drew1) | exact HB.out)))); (case aL => exact (by have := HI.out.2.1; omega)); intro v1_ w1_ ho hb hg hat; have n0_ := Aside0.mk hb; have n1_ := Aside0.mk ho; clear HB HO; have HB := n0_; have HO := n1_; clear n0_ n1_; clear ho hb hg hat))
              go_roundw
              case rel => exact ⟨k + 2, acc ++ [bt a0 ((k + 1 : Nat) : Int)], by go_num, HI', ⟨by (with_reducible repeat (first | apply Kd.R_alloc | apply Kd.R_drewN | apply Kd.R_drew)); exact HO.out⟩, ⟨(by repeat (first | (with_reducible first | exact HB.out | apply below_alloc | apply pw_below_drewN | apply below_drew1) | exact HB.out))⟩⟩
              case measure => simp [intOf]; omega
            · simp only [Bool.not_eq_false] at hd
              have hd' : digAt a0 ((k : Int) + 1) = true := hd
              by_cases h2 : digAt a0 ((k + 2 : Nat) : Int) = false
              · have hh := H.out
                rw [inv_bad HI.out hk hc he1 hd (Or.inl h2)] at hh
                simp only [Option.some.injEq, Prod.mk.injEq] at hh
                obtain ⟨rfl, rfl⟩ := hh
                have h2' : digAt a0 ((k : Int) + 2) = false := h2
                clear hc he hd h2
                go_wp2_with (first | (go_at_call 28; refine (digit_calls a0 _ w.heap.size _ (by omega) hcell).mono ?_; rintro e w2 ⟨rfl, rfl⟩))
                go_ret2
                exact ⟨by first | rfl | (simp; done) | (simp [*]; done), below_then HB0.out (by have := HZ0.out; omega) (by repeat (first | (with_reducible first | exact HB.out | apply below_alloc | apply pw_below_drewN | apply below_drew1) | exact HB.out))⟩
              · simp only [Bool.not_eq_false] at h2
                have h2' : digAt a0 ((k : Int) + 2) = true := h2
                by_cases h3 : digAt a0 ((k + 3 : Nat) : Int) = false
                · have hh := H.out
                  rw [inv_bad HI.out hk hc he1 hd (Or.inr h3)] at hh
                  simp only [Option.some.injEq, Prod.mk.injEq] at hh
                  obtain ⟨rfl, rfl⟩ := hh
                  have h3' : digAt a0 ((k : Int) + 3) = false := h3
                  clear hc he hd h2 h3
                  go_wp2_with (first | (go_at_call 28; refine (digit_calls a0 _ w.heap.size _ (by omega) hcell).mono ?_; rintro e w2 ⟨rfl, rfl⟩))
                  go_ret2
                  exact ⟨by first | rfl | (simp; done) | (simp [*]; done), below_then HB0.out (by have := HZ0.out; omega) (by repeat (first | (with_reducible first | exact HB.out | apply below_alloc | apply pw_below_drewN | apply below_drew1) | exact HB.out))⟩
                · simp only [Bool.not_eq_false] at h3
                  have h3' : digAt a0 ((k : Int) + 3) = true := h3
                  have he3 : k + 3 < a0.size := by unfold digAt at h3; simp at h3; omega
                  have he2 : k + 2 < a0.size := by omega
                  have hx2 := bt_nat a0 (k + 2) he2
                  have hx3 := bt_nat a0 (k + 3) he3
                  have HT := Aside0.mk (inv_three HI.out hk hc hd h2 h3)
                  have g1 := dig_bounds he1 hd
                  have g2 := dig_bounds he2 h2
                  have g3 := dig_bounds he3 h3
                  clear hc he hd h2 h3
                  obtain ⟨g1a, g1b⟩ := g1
                  obtain ⟨g2a, g2b⟩ := g2
                  obtain ⟨g3a, g3b⟩ := g3
                  go_wp2_with (first | (go_at_call 28; refine (digit_calls a0 _ w.heap.size _ (by omega) hcell).mono ?_; rintro e w2 ⟨rfl, rfl⟩))
                  have w1q : IntKind.i64.wrap ((k : Int) + 1) = (k : Int) + 1 := (i64_w _).trans (by unfold wrap64; omega)
                  have w2q : IntKind.i64.wrap ((k : Int) + 2) = (k : Int) + 2 := (i64_w _).trans (by unfold wrap64; omega)
                  have w3q : IntKind.i64.wrap ((k : Int) + 3) = (k : Int) + 3 := (i64_w _).trans (by unfold wrap64; omega)
                  have p1 := eq_true (show 0 ≤ (k : Int) + 1 by omega)
                  have p2 := eq_true (show 0 ≤ (k : Int) + 2 by omega)
                  have p3 := eq_true (show 0 ≤ (k : Int) + 3 by omega)
                  have q1 := eq_true (show (k : Int) + 1 < (a0.size : Int) by omega)
                  have q2 := eq_true (show (k : Int) + 2 < (a0.size : Int) by omega)
                  have q3 := eq_true (show (k : Int) + 3 < (a0.size : Int) by omega)
                  have n1 : ((k : Int) + 1).toNat = k + 1 := by omega
                  have n2 : ((k : Int) + 2).toNat = k + 2 := by omega
                  have n3 : ((k : Int) + 3).toNat = k + 3 := by omega
                  go_quiet (fail)
                  clear w1q w2q w3q p1 p2 p3 q1 q2 q3 n1 n2 n3
                  have hv : (bt a0 ((k : Int) + 1) - 48) % 256 * 100 + (bt a0 ((k : Int) + 2) - 48) % 256 * 10 + (bt a0 ((k : Int) + 3) - 48) % 256 = three a0 k := by
                    have e1 : ((k + 1 : Nat) : Int) = (k : Int) + 1 := by omega
                    have e2 : ((k + 2 : Nat) : Int) = (k : Int) + 2 := by omega
                    have e3 : ((k + 3 : Nat) : Int) = (k : Int) + 3 := by omega
                    unfold three
                    rw [e1] at g1a g1b ⊢; rw [e2] at g2a g2b ⊢; rw [e3] at g3a g3b ⊢
                    omega
                  have hv0 : 0 ≤ three a0 k := by unfold three; omega
                  rw [hv]
                  clear hv hx1 hx2 hx3 g1a g1b g2a g2b g3a g3b
                  by_cases hb : 255 < three a0 k
                  · have hh := H.out
                    rw [HT.out.1 hb] at hh
                    simp only [Option.some.injEq, Prod.mk.injEq] at hh
                    obtain ⟨rfl, rfl⟩ := hh
                    go_wp2
                    go_ret2
                    exact ⟨by first | rfl | (simp; done) | (simp [*]; done), below_then HB0.out (by have := HZ0.out; omega) (by repeat (first | (with_reducible first | exact HB.out | apply below_alloc | apply pw_below_drewN | apply below_drew1) | exact HB.out))⟩
                  · have HI' := Aside0.mk (HT.out.2 (by omega))
                    have hb' : three a0 k ≤ 255 := by omega
                    go_wp2_with (first | ((with_reducible refine gate_builtin (b := .append) (xs := #[.tmp 42, .tmp 45]) rfl ?_); at_builtin; refine Kd.R_append (Kd.int .u8) (w0 := W0) W0.heap.size rfl (.tmp 42) (.tmp 45) 37 5 (.int .u8 0) 1 rfl Try.underlying37 info5 rfl (by decide) (by omega) _ acc (three a0 k) [.int .u8 (three a0 k)] (fun _ => True) (fun _ => False) rfl rfl ?aP (fun _ hk => hk.elim) ?aF ?aO ?aB ?aS ?aL ?_; (case aP => exact rfl); (case aB => exact (by repeat (first | (with_reducible first | exact HB.out | apply below_alloc | apply pw_below_drewN | apply below_drew1) | exact HB.out))); (case aF => exact (fun _ _ => trivial)); (case aO => exact (by (with_reducible repeat (first | apply Kd.R_alloc | apply Kd.R_drewN | apply Kd.R_drew)); exact HO.out)); (case aS => exact (below_size (by repeat (first | (with_reducible first | exact HB.out | apply below_alloc | apply pw_below_drewN | apply below_drew1) | exact HB.out)))); (case aL => exact (by have := HI.out.2.1; omega)); intro v1_ w1_ ho hb hg hat; have n0_ := Aside0.mk hb; have n1_ := Aside0.mk ho; clear HB HO; have HB := n0_; have HO := n1_; clear n0_ n1_; clear ho hb hg hat))
                    go_roundw
                    case rel => exact ⟨k + 4, acc ++ [three a0 k], by go_num, HI', ⟨by (with_reducible repeat (first | apply Kd.R_alloc | apply Kd.R_drewN | apply Kd.R_drew)); exact HO.out⟩, ⟨(by repeat (first | (with_reducible first | exact HB.out | apply below_alloc | apply pw_below_drewN | apply below_drew1) | exact HB.out))⟩⟩
                    case measure => simp [intOf]; omega
        · have hcb : ((bt a0 (k : Int)) != 92) = true := bne_iff_ne.mpr hc
          have HI' := Aside0.mk (inv_plain HI.out hk hc)
          clear hc
          go_wp2_with (first | ((with_reducible refine gate_builtin (b := .append) (xs := #[.tmp 54, .tmp 58]) rfl ?_); at_builtin; refine Kd.R_append (Kd.int .u8) (w0 := W0) W0.heap.size rfl (.tmp 54) (.tmp 58) 37 5 (.int .u8 0) 1 rfl Try.underlying37 info5 rfl (by decide) (by omega) _ acc (bt a0 (k : Int)) [.int .u8 (bt a0 (k : Int))] (fun _ => True) (fun _ => False) rfl rfl ?aP (fun _ hk => hk.elim) ?aF ?aO ?aB ?aS ?aL ?_; (case aP => exact rfl); (case aB => exact (by repeat (first | (with_reducible first | exact HB.out | apply below_alloc | apply pw_below_drewN | apply below_drew1) | exact HB.out))); (case aF => exact (fun _ _ => trivial)); (case aO => exact (by (with_reducible repeat (first | apply Kd.R_alloc | apply Kd.R_drewN | apply Kd.R_drew)); exact HO.out)); (case aS => exact (below_size (by repeat (first | (with_reducible first | exact HB.out | apply below_alloc | apply pw_below_drewN | apply below_drew1) | exact HB.out)))); (case aL => exact (by have := HI.out.2.1; omega)); intro v1_ w1_ ho hb hg hat; have n0_ := Aside0.mk hb; have n1_ := Aside0.mk ho; clear HB HO; have HB := n0_; have HO := n1_; clear n0_ n1_; clear ho hb hg hat))
          go_roundw
          case rel => exact ⟨k + 1, acc ++ [bt a0 (k : Int)], by go_num, HI', ⟨by (with_reducible repeat (first | apply Kd.R_alloc | apply Kd.R_drewN | apply Kd.R_drew)); exact HO.out⟩, ⟨(by repeat (first | (with_reducible first | exact HB.out | apply below_alloc | apply pw_below_drewN | apply below_drew1) | exact HB.out))⟩⟩
          case measure => simp [intOf]; omega
      · have hu := inv_end HI.out hk
        have h2 := H.out
        rw [hu] at h2
        simp only [Option.some.injEq, Prod.mk.injEq] at h2
        obtain ⟨rfl, rfl⟩ := h2
        have hcv := own_string (P := Try.prog) Try.underlying37 Try.underlying5 Try.underlying9 (Kd.own_of_R HO.out)
        clear hu
        go_wp2
        go_ret2
        exact ⟨by first | rfl | (simp; done) | (simp [*]; done), below_then HB0.out (by have := HZ0.out; omega) (by repeat (first | (with_reducible first | exact HB.out | apply below_alloc | apply pw_below_drewN | apply below_drew1) | exact HB.out))⟩
  · rw [if_neg hlen] at h; exact absurd h (by simp)

end Go.Proofs.Ytafminohaofjnaa.Print
