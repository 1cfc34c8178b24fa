/- name.Of, walked: it answers what 'name_Of.f' says of the labels. -/
import Derived.Test.YtfcmphigmfdceaaXBuild
import Derived.Test.YtfcmphigmfdceaaXStr
import Derived.Test.YtfcmphigmfdceaaXShelf
namespace Go.Proofs.Ytfcmphigmfdceaa.Print
open Go.RowKit Go.Proofs.YtfcmphigmfdceaaW.PrintWords Go.Proofs.YtfcmphigmfdceaaW.PrintLast Go.Proofs.YtfcmphigmfdceaaW.PrintMore
set_option linter.unusedVariables false
set_option linter.unusedSimpArgs false
/-- a label with its length ahead -/
def lab (s : ByteArray) : List Int := (s.size : Int) :: bytesOf s
def glue (l : List ByteArray) : List Int := l.flatMap lab
def badLab (s : ByteArray) : Bool := decide (s.size = 0) || decide (63 < s.size)
def name_Of.f (l : List ByteArray) : Option (ByteArray × Int) :=
  if l.any badLab then some (⟨#[]⟩, 10) else if 255 < (glue l).length + 1 then some (⟨#[]⟩, 2) else some (strOfNums (glue l ++ [0]), 0)
theorem glue_snoc (l : List ByteArray) (s : ByteArray) : glue (l ++ [s]) = glue l ++ lab s := by simp [glue]
theorem lab_length (s : ByteArray) : (lab s).length = s.size + 1 := by simp [lab, bytesOf_length]
/-- what stands at the loop's head -/
def OfInv (l : List ByteArray) (k : Nat) (long : Bool) (bs : List Value) : Prop :=
  k ≤ l.length ∧ (l.take k).any badLab = false ∧ long = decide (255 < (glue (l.take k)).length + 1) ∧ bs.length + 1 ≤ 255 ∧ (long = false → bs = nums .u8 (glue (l.take k)))
theorem of0 (l : List ByteArray) : OfInv l 0 false [] := by simp [OfInv, glue, nums]
theorem take_succ' {α : Type} {l : List α} {k : Nat} {s : α} (h : l[k]? = some s) : l.take (k + 1) = l.take k ++ [s] := by rw [List.take_add_one, h]; rfl
theorem of_bad {l : List ByteArray} {k : Nat} {s : ByteArray} (hs : l[k]? = some s) (hb : badLab s = true) : l.any badLab = true := by
  rw [List.any_eq_true]; exact ⟨s, List.mem_of_getElem? hs, hb⟩
theorem of_step_long {l : List ByteArray} {k : Nat} {long : Bool} {bs : List Value} {s : ByteArray} (h : OfInv l k long bs) (hs : l[k]? = some s) (hb : badLab s = false) (hl : long = true ∨ 255 < bs.length + s.size + 2) : OfInv l (k + 1) true bs := by
  obtain ⟨h1, h2, h3, h4, h5⟩ := h
  have hk : k < l.length := (List.getElem?_eq_some_iff.1 hs).1
  refine ⟨hk, by rw [take_succ' hs]; simp [h2, hb], ?_, h4, by simp⟩
  rw [take_succ' hs, glue_snoc, List.length_append, lab_length]
  cases long with
  | true => symm at h3; simp at h3 ⊢; omega
  | false =>
    have := h5 rfl
    subst this
    simp [nums_length] at hl
    simp; omega
theorem of_step {l : List ByteArray} {k : Nat} {bs : List Value} {s : ByteArray} (h : OfInv l k false bs) (hs : l[k]? = some s) (hb : badLab s = false) (hl : ¬ 255 < bs.length + s.size + 2) : OfInv l (k + 1) false (bs ++ [.int .u8 s.size] ++ Lib.strCells s) := by
  obtain ⟨h1, h2, h3, h4, h5⟩ := h
  have hk : k < l.length := (List.getElem?_eq_some_iff.1 hs).1
  have := h5 rfl
  subst this
  rw [nums_length] at hl
  refine ⟨hk, by rw [take_succ' hs]; simp [h2, hb], ?_, by simp [nums_length, Lib.strCells_length]; omega, fun _ => ?_⟩
  · rw [take_succ' hs, glue_snoc, List.length_append, lab_length]; simp; omega
  · rw [take_succ' hs, glue_snoc, nums_append, List.append_assoc]
    simp [lab, nums, bytesOf, Lib.strCells]
theorem of_end {l : List ByteArray} {k : Nat} {long : Bool} {bs : List Value} (h : OfInv l k long bs) (hk : ¬ k < l.length) : l.any badLab = false ∧ long = decide (255 < (glue l).length + 1) ∧ (long = false → bs = nums .u8 (glue l)) := by
  obtain ⟨h1, h2, h3, h4, h5⟩ := h
  rw [List.take_of_length_le (by omega)] at h2 h3 h5
  exact ⟨h2, h3, h5⟩
theorem bad_false {s : ByteArray} (h : badLab s = false) : 0 < s.size ∧ s.size ≤ 63 := by
  unfold badLab at h
  simp only [Bool.or_eq_false_iff, decide_eq_false_iff_not] at h
  omega
theorem glue_range (l : List ByteArray) (hb : l.any badLab = false) : ∀ x ∈ glue l ++ [0], 0 ≤ x ∧ x < 256 := by
  intro x hx
  rcases List.mem_append.1 hx with hx | hx
  · obtain ⟨s, hs, hx⟩ := List.mem_flatMap.1 hx
    have hbs : badLab s = false := by
      rw [List.any_eq_false] at hb; simpa using hb s hs
    have := bad_false hbs
    rcases List.mem_cons.1 hx with rfl | hx
    · omega
    · exact bo_range s x hx
  · simp at hx; omega
set_option maxHeartbeats 4000000 in
set_option maxRecDepth 100000 in
theorem name_Of.calls (A0 : Option Addr) (c0 : Nat) (l0 : List ByteArray) (r1 : ByteArray) (r2 : Int) (w : World) (hr0 : Kd.C Kd.string w A0 l0.length l0) (hc0 : l0.length ≤ c0) (h : name_Of.f l0 = some (r1, r2)) :
    Calls Try.prog 55 #[.slice A0 l0.length c0] w fun e w' => e = .returned (.tuple #[.string r1, .int .i64 r2]) ∧ Below w.heap.size w w' := by
  have H := Aside0.mk h
  clear h
  have HR := Aside0.mk hr0
  have hml : l0.length ≤ 9223372036854775807 := Kd.C_max hr0
  clear hr0 hc0
  have HI0 := Aside0.mk (Lib.fresh_isBuilder 102 5 w)
  have HB0 := Aside0.mk (below_alloc (Below.refl w.heap.size w) (.cells #[.pointer none, .slice none 0 0] 102))
  go_enter Try.func55, Try.ntmps55
  go_wp2
  go_loopw [5, 10] (fun lg i wr => ∃ (k : Nat) (long : Bool) (bs : List Value), lg = .bool long ∧ i = .int .i64 k ∧ Aside0 (OfInv l0 k long bs) ∧ Aside0 (Lib.IsBuilder 102 5 w.heap.size w.heap.size bs wr) ∧ Aside0 (Below w.heap.size w wr)) (fun _ i _ => l0.length - (intOf i).toNat)
  case atStart => exact ⟨0, false, [], rfl, rfl, ⟨of0 l0⟩, HI0, HB0⟩
  case round =>
    clear HI0 HB0
    obtain ⟨k, long, bs, rfl, rfl, HV, HI, HB⟩ := hrel
    by_cases hk : k < l0.length
    · obtain ⟨ad, hA, hcell⟩ := Kd.at_string (Kd.C_below HR.out HB.out) (k : Int) (by omega) (by omega)
      obtain ⟨s, hs⟩ : ∃ s, l0[k]? = some s := ⟨l0[k], List.getElem?_eq_getElem hk⟩
      have hrd : rdOf ByteArray.empty l0 (k : Int) = s := by simp [rdOf, List.getD_eq_getElem?_getD, hs]
      rw [hrd] at hcell
      simp only [Int.toNat_natCast] at hcell
      subst hA
      have HS := Aside0.mk hs
      clear hs hrd
      by_cases hz : s.size = 0
      · have hb : badLab s = true := by simp [badLab, hz]
        have he := empty_true hz
        have hh := H.out
        unfold name_Of.f at hh
        rw [if_pos (of_bad HS.out hb)] at hh
        simp only [Option.some.injEq, Prod.mk.injEq] at hh
        obtain ⟨rfl, rfl⟩ := hh
        clear hz
        go_wp2
        go_ret2
        exact ⟨by first | rfl | (simp; done), HB.out⟩
      · have he := empty_false hz
        by_cases h63 : 63 < s.size
        · have hb : badLab s = true := by simp [badLab, h63]
          have hh := H.out
          unfold name_Of.f at hh
          rw [if_pos (of_bad HS.out hb)] at hh
          simp only [Option.some.injEq, Prod.mk.injEq] at hh
          obtain ⟨rfl, rfl⟩ := hh
          clear hz
          go_wp2
          go_ret2
          exact ⟨by first | rfl | (simp; done), HB.out⟩
        · have hb : badLab s = false := by simp [badLab, h63, hz]
          have hlen := HV.out.2.2.2.1
          cases long with
          | true =>
            have HV' := Aside0.mk (of_step_long HV.out HS.out hb (Or.inl rfl))
            clear hz
            go_wp2
            go_roundw
            case rel => exact ⟨k + 1, true, bs, rfl, by go_num, HV', HI, HB⟩
            case measure => simp [intOf]; omega
          | false =>
            by_cases hl : 255 < bs.length + s.size + 2
            · have HV' := Aside0.mk (of_step_long HV.out HS.out hb (Or.inr hl))
              have hl' : decide ((255 : Int) < (bs.length : Int) + (s.size : Int) + 2) = true := decide_eq_true (by omega)
              clear hz
              go_wp2_with (first | (go_at_call 59; refine (Len_any w.heap.size w.heap.size bs _ HI.out).mono ?_; rintro e w2 ⟨rfl, rfl⟩))
              go_roundw
              case rel => exact ⟨k + 1, true, bs, by first | rfl | exact congrArg Value.bool (decide_eq_true (by omega)), by go_num, HV', HI, HB⟩
              case measure => simp [intOf]; omega
            · have HV' := Aside0.mk (of_step HV.out HS.out hb hl)
              have hl' : decide ((255 : Int) < (bs.length : Int) + (s.size : Int) + 2) = false := decide_eq_false (by omega)
              have hwz : w.heap.size ≤ wr.heap.size := HB.out.size
              clear hz
              go_wp2_with (first | (go_at_call 59; refine (Len_any w.heap.size w.heap.size bs _ HI.out).mono ?_; rintro e w2 ⟨rfl, rfl⟩) | (go_at_call 60; refine (WriteByte_any w.heap.size w.heap.size bs _ _ HI.out (by omega) hwz).mono ?_; rintro e w2 ⟨rfl, hat, hb2⟩; have HA := Aside0.mk hat; have HB2 := Aside0.mk (HB.out.trans hb2); have hwz2 : w.heap.size ≤ w2.heap.size := HB2.out.size; clear hat hb2) | (go_at_call 61; refine (WriteString_any w.heap.size w.heap.size _ s _ (Or.inr HA.out) (by simp; omega) hwz2).mono ?_; rintro e w3 ⟨rfl, hat, hb3⟩; have HA3 := Aside0.mk hat; have HB3 := Aside0.mk (HB2.out.trans hb3); clear hat hb3))
              go_roundw
              case rel => exact ⟨k + 1, false, _, by first | rfl | exact congrArg Value.bool (decide_eq_false (by omega)), by go_num, HV', ⟨Or.inr HA3.out⟩, HB3⟩
              case measure => simp [intOf]; omega
    · obtain ⟨he1, he2, he3⟩ := of_end HV.out hk
      have hh := H.out
      unfold name_Of.f at hh
      rw [if_neg (by rw [he1]; simp)] at hh
      cases long with
      | true =>
        rw [if_pos (by simpa using he2.symm)] at hh
        simp only [Option.some.injEq, Prod.mk.injEq] at hh
        obtain ⟨rfl, rfl⟩ := hh
        clear he1 he2 he3
        go_wp2
        go_ret2
        exact ⟨by first | rfl | (simp; done), HB.out⟩
      | false =>
        have hlen := HV.out.2.2.2.1
        have hwz : w.heap.size ≤ wr.heap.size := HB.out.size
        rw [if_neg (by simpa using he2.symm)] at hh
        simp only [Option.some.injEq, Prod.mk.injEq] at hh
        obtain ⟨rfl, rfl⟩ := hh
        have HE := Aside0.mk (he3 rfl)
        have HG := Aside0.mk (glue_range l0 he1)
        clear he1 he2 he3
        have hfin : ∀ W : World, Lib.BuilderAt 102 5 w.heap.size w.heap.size (.pointer (some ⟨w.heap.size, 0, none⟩)) (bs ++ [.int .u8 0]) W → Lib.IsBuilder 102 5 w.heap.size w.heap.size (Lib.byteCells (strOfNums (glue l0 ++ [0])).data.toList) W := fun W h => by
          rw [← nums_cells _ HG.out, nums_append, ← HE.out]; exact Or.inr h
        have HF := Aside0.mk hfin
        clear hfin
        go_wp2_with (first | (go_at_call 60; refine (WriteByte_any w.heap.size w.heap.size bs _ _ HI.out (by omega) hwz).mono ?_; rintro e w2 ⟨rfl, hat, hb2⟩; have HA := Aside0.mk (HF.out _ hat); have HB2 := Aside0.mk (HB.out.trans hb2); have hwz2 : w.heap.size ≤ w2.heap.size := HB2.out.size; clear hat hb2) | (go_at_call 62; refine (Try.Builder_String_any w.heap.size w.heap.size _ _ HA.out hwz2).mono ?_; rintro e w3 ⟨rfl, hb3⟩; have HB3 := Aside0.mk (HB2.out.trans hb3); clear hb3))
        go_ret2
        exact ⟨by first | rfl | (rw [str_eta]; done) | (simp; done), HB3.out⟩
end Go.Proofs.Ytfcmphigmfdceaa.Print
