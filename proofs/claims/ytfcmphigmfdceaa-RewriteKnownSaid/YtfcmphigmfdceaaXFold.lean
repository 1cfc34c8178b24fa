/- name.Fold and hearsayref01.Low, walked: a text in small letters. -/
import Derived.Test.YtfcmphigmfdceaaXRow
namespace Go.Proofs.Ytfcmphigmfdceaa.Print
set_option linter.unusedVariables false
set_option linter.unusedSimpArgs false
open Go.RowKit Go.Proofs.YtfcmphigmfdceaaW.PrintWords Go.Proofs.YtfcmphigmfdceaaW.PrintLast Go.Proofs.YtfcmphigmfdceaaW.PrintMore
def name_Fold.f (s : ByteArray) : Option ByteArray := if s.size ≤ 9223372036854775807 then some (lowS s) else none
theorem low_calls (c : Int) (w : World) : Calls Try.prog 47 #[.int .u8 c] w fun e w' => e = .returned (.int .u8 (low1 c)) ∧ w = w' := by
  unfold low1
  by_cases h1 : 65 ≤ c
  · by_cases h2 : c ≤ 90
    · have hor := low_or c h1 h2
      rw [if_pos ⟨h1, h2⟩]
      go_enter Try.func47, Try.ntmps47
      go_wp2
      go_ret
      exact ⟨by first | rfl | (simp; done) | (rw [hor]; done) | (simp [hor]; done), rfl⟩
    · rw [if_neg (by omega)]
      go_enter Try.func47, Try.ntmps47
      go_wp2
      go_ret
      exact ⟨rfl, rfl⟩
  · rw [if_neg (by omega)]
    go_enter Try.func47, Try.ntmps47
    go_wp2
    go_ret
    exact ⟨rfl, rfl⟩
theorem name_Fold.calls (a0 : ByteArray) (r : ByteArray) (w : World) (h : name_Fold.f a0 = some r) :
    Calls Try.prog 34 #[.string a0] w fun e w' => e = .returned (.string r) ∧ Below w.heap.size w w' := by
  unfold name_Fold.f at h
  by_cases hs : a0.size ≤ 9223372036854775807
  · rw [if_pos hs] at h
    simp only [Option.some.injEq] at h
    subst h
    have hcv := print_bytes (P := Try.prog) 29 88 5 Try.underlying29 Try.underlying88 Try.underlying5 a0 w
    have hr0 := brow_new w 5 a0
    have hb0 := bytes_below (Below.refl w.heap.size w) (Nat.le_refl _) 5 a0
    generalize Lib.bytesWorld w 5 a0 = W1 at hcv hr0 hb0
    generalize grownCap w a0.size 0 5 = cap at hcv
    have HR0 := Aside0.mk hr0
    have HB0 := Aside0.mk hb0
    have hlen : (bytesOf a0).length = a0.size := bytesOf_length a0
    have HLEN := Aside0.mk hlen
    clear hr0 hb0 hlen
    go_enter Try.func34, Try.ntmps34
    go_wp2
    go_loopw [10] (fun i wr => ∃ k : Nat, k ≤ a0.size ∧ i = .int .i64 k ∧ Aside0 (BRow wr 5 w.heap.size (lowTo (bytesOf a0) k)) ∧ Aside0 (Below w.heap.size w wr)) (fun i _ => a0.size - (intOf i).toNat)
    case atStart => exact ⟨0, Nat.zero_le _, rfl, ⟨by rw [lowTo_zero]; exact HR0.out⟩, HB0⟩
    case round =>
      clear HR0 HB0 hcv
      obtain ⟨k, hk, rfl, HR, HB⟩ := hrel
      by_cases hlt : k < a0.size
      · have hkl : k < (bytesOf a0).length := by have := HLEN.out; omega
        obtain ⟨hc, hf⟩ := brow_cell HR.out (lowTo_at hkl)
        obtain ⟨x, hx⟩ : ∃ x, x = (bytesOf a0)[k] := ⟨_, rfl⟩
        rw [← hx] at hc
        have HR' : ∀ W : World, Aside0 (BRow (wr.setCell ⟨w.heap.size, k, none⟩ (.int .u8 (low1 x))) 5 w.heap.size (lowTo (bytesOf a0) (k + 1))) := fun _ => ⟨by rw [hx, ← lowTo_succ hkl]; exact brow_set HR.out k _⟩
        have HR1 := HR' wr
        have HB1 := Aside0.mk (HB.out.setCell (p := ⟨w.heap.size, k, none⟩) (Nat.le_refl _) (.int .u8 (low1 x)))
        clear HR' hx hkl
        go_wp2_with (go_at_call 47; refine (low_calls _ _).mono ?_; rintro e w2 ⟨rfl, rfl⟩)
        go_roundw
        case rel => exact ⟨k + 1, by omega, by go_num, HR1, HB1⟩
        case measure => simp [intOf]; omega
      · have hkl : (bytesOf a0).length ≤ k := by have := HLEN.out; omega
        have hrow := HR.out
        rw [lowTo_end hkl] at hrow
        have hml : ((bytesOf a0).map low1).length = a0.size := by rw [List.length_map]; exact HLEN.out
        have hrd := brow_reads hrow (by omega)
        rw [hml] at hrd
        have hst := fun (c : Nat) => string_of_reads (P := Try.prog) (c := c) Try.underlying88 Try.underlying5 Try.underlying29 hrd
        clear hrow hrd hml hkl
        go_wp2
        go_ret
        exact ⟨by first | rfl | (simp; done), HB.out⟩
  · rw [if_neg hs] at h; exact absurd h (by simp)
def hearsayref01_Low.f (s : ByteArray) : Option ByteArray := name_Fold.f s
theorem hearsayref01_Low.calls (a0 : ByteArray) (r : ByteArray) (w : World) (h : hearsayref01_Low.f a0 = some r) :
    Calls Try.prog 36 #[.string a0] w fun e w' => e = .returned (.string r) ∧ Below w.heap.size w w' := by
  unfold hearsayref01_Low.f name_Fold.f at h
  by_cases hs : a0.size ≤ 9223372036854775807
  · rw [if_pos hs] at h
    simp only [Option.some.injEq] at h
    subst h
    have hcv := print_bytes (P := Try.prog) 9 88 5 Try.underlying9 Try.underlying88 Try.underlying5 a0 w
    have hr0 := brow_new w 5 a0
    have hb0 := bytes_below (Below.refl w.heap.size w) (Nat.le_refl _) 5 a0
    generalize Lib.bytesWorld w 5 a0 = W1 at hcv hr0 hb0
    generalize grownCap w a0.size 0 5 = cap at hcv
    have HR0 := Aside0.mk hr0
    have HB0 := Aside0.mk hb0
    have hlen : (bytesOf a0).length = a0.size := bytesOf_length a0
    have HLEN := Aside0.mk hlen
    clear hr0 hb0 hlen
    go_enter Try.func36, Try.ntmps36
    go_wp2
    go_loopw [4] (fun i wr => ∃ k : Nat, k ≤ a0.size ∧ i = .int .i64 k ∧ Aside0 (BRow wr 5 w.heap.size (lowTo (bytesOf a0) k)) ∧ Aside0 (Below w.heap.size w wr)) (fun i _ => a0.size - (intOf i).toNat)
    case atStart => exact ⟨0, Nat.zero_le _, rfl, ⟨by rw [lowTo_zero]; exact HR0.out⟩, HB0⟩
    case round =>
      clear HR0 HB0 hcv
      obtain ⟨k, hk, rfl, HR, HB⟩ := hrel
      by_cases hlt : k < a0.size
      · have hkl : k < (bytesOf a0).length := by have := HLEN.out; omega
        obtain ⟨hc, hf⟩ := brow_cell HR.out (lowTo_at hkl)
        have hrg := bo_range a0 _ (List.getElem_mem hkl)
        obtain ⟨x, hx⟩ : ∃ x, x = (bytesOf a0)[k] := ⟨_, rfl⟩
        rw [← hx] at hc hrg
        obtain ⟨hx0, hx1⟩ := hrg
        by_cases h65 : 65 ≤ x ∧ x ≤ 90
        · have hlow : low1 x = x + 32 := by unfold low1; rw [if_pos h65]
          have HR1 : Aside0 (BRow (wr.setCell ⟨w.heap.size, k, none⟩ (.int .u8 (x + 32))) 5 w.heap.size (lowTo (bytesOf a0) (k + 1))) := ⟨by rw [← hlow, hx, ← lowTo_succ hkl]; exact brow_set HR.out k _⟩
          have HB1 := Aside0.mk (HB.out.setCell (p := ⟨w.heap.size, k, none⟩) (Nat.le_refl _) (.int .u8 (x + 32)))
          obtain ⟨ha, hb⟩ := h65
          clear hx hkl hlow
          go_wp2
          go_roundw
          case rel => exact ⟨k + 1, by omega, by go_num, HR1, HB1⟩
          case measure => simp [intOf]; omega
        · have hlow : low1 x = x := by unfold low1; rw [if_neg h65]
          have HR1 : Aside0 (BRow wr 5 w.heap.size (lowTo (bytesOf a0) (k + 1))) := ⟨by
            rw [← lowTo_succ hkl, ← hx, hlow, hx]
            have h2 := lowTo_at hkl
            obtain ⟨h3, h4⟩ := List.getElem?_eq_some_iff.1 h2
            rw [← h4, List.set_getElem_self h3]
            exact HR.out⟩
          have hdec : (decide (65 ≤ x) && decide (x ≤ 90)) = false := by simp; omega
          clear hx hkl hlow
          by_cases h65a : 65 ≤ x
          · have h90 : ¬ x ≤ 90 := by omega
            clear h65 hdec
            go_wp2
            go_roundw
            case rel => exact ⟨k + 1, by omega, by go_num, HR1, HB⟩
            case measure => simp [intOf]; omega
          · clear h65 hdec
            go_wp2
            go_roundw
            case rel => exact ⟨k + 1, by omega, by go_num, HR1, HB⟩
            case measure => simp [intOf]; omega
      · have hkl : (bytesOf a0).length ≤ k := by have := HLEN.out; omega
        have hrow := HR.out
        rw [lowTo_end hkl] at hrow
        have hml : ((bytesOf a0).map low1).length = a0.size := by rw [List.length_map]; exact HLEN.out
        have hrd := brow_reads hrow (by omega)
        rw [hml] at hrd
        have hst := fun (c : Nat) => string_of_reads (P := Try.prog) (c := c) Try.underlying88 Try.underlying5 Try.underlying9 hrd
        clear hrow hrd hml hkl
        go_wp2
        go_ret
        exact ⟨by first | rfl | (simp; done), HB.out⟩
  · rw [if_neg hs] at h; exact absurd h (by simp)
end Go.Proofs.Ytfcmphigmfdceaa.Print
