/- name.Escape, walked: a text of the bytes. -/
import Derived.Test.YtplnknhlgdoliaaXBuild
import Derived.Test.YtplnknhlgdoliaaXStr
import Derived.Test.YtplnknhlgdoliaaXShelf
namespace Go.Proofs.Ytplnknhlgdoliaa.Print
set_option linter.unusedVariables false
set_option linter.unusedSimpArgs false
open Go.RowKit Go.Proofs.YtplnknhlgdoliaaW.PrintWords Go.Proofs.YtplnknhlgdoliaaW.PrintLast Go.Proofs.YtplnknhlgdoliaaW.PrintMore
/-- the bytes that tell a byte -/
def escB (q : Bool) (c : Int) : List Int :=
  if c = 46 ∨ c = 59 ∨ c = 40 ∨ c = 41 ∨ c = 64 ∨ c = 36 then (if q then [c] else [92, c])
  else if c = 34 ∨ c = 92 then [92, c]
  else if (32 < c ∧ c < 127) ∨ (c = 32 ∧ q = true) then [c]
  else [92, 48 + c / 100, 48 + c / 10 % 10, 48 + c % 10]
def esc (q : Bool) (l : List Int) : List Int := l.flatMap (escB q)
def name_Escape.f (s : ByteArray) (q : Bool) : Option ByteArray := if s.size * 4 ≤ 140737488355328 then some (strOfNums (esc q (bytesOf s))) else none
theorem escB_length (q : Bool) (c : Int) : (escB q c).length ≤ 4 := by unfold escB; split <;> (try split) <;> (try split) <;> simp
theorem escB_range (q : Bool) (c : Int) (h0 : 0 ≤ c) (h1 : c < 256) : ∀ x ∈ escB q c, 0 ≤ x ∧ x < 256 := by
  intro x hx
  unfold escB at hx
  split at hx
  · split at hx <;> simp at hx <;> omega
  · split at hx
    · simp at hx; omega
    · split at hx
      · simp at hx; omega
      · simp at hx; omega
theorem esc_range (q : Bool) (s : ByteArray) : ∀ x ∈ esc q (bytesOf s), 0 ≤ x ∧ x < 256 := by
  intro x hx
  obtain ⟨c, hc, hx⟩ := List.mem_flatMap.1 hx
  have := bo_range s c hc
  exact escB_range q c this.1 this.2 x hx
def EscInv (q : Bool) (s : ByteArray) (k : Nat) (bs : List Value) : Prop := k ≤ s.size ∧ bs = nums .u8 (esc q ((bytesOf s).take k)) ∧ bs.length ≤ 4 * k
theorem esc0 (q : Bool) (s : ByteArray) : EscInv q s 0 [] := ⟨Nat.zero_le _, by simp [esc, nums], by simp⟩
theorem esc_step {q : Bool} {s : ByteArray} {k : Nat} {bs : List Value} (h : EscInv q s k bs) (hk : k < s.size) {c : Int} (hc : bt s (k : Int) = c) {l : List Value} (hl : l = nums .u8 (escB q c)) : EscInv q s (k + 1) (bs ++ l) := by
  obtain ⟨h1, h2, h3⟩ := h
  have hkl : k < (bytesOf s).length := by rw [bytesOf_length]; exact hk
  have he : (bytesOf s)[k] = c := by
    rw [← hc, ← rd_bytesOf]; simp [rd, List.getD_eq_getElem?_getD, List.getElem?_eq_getElem hkl]
  refine ⟨hk, ?_, ?_⟩
  · rw [List.take_add_one, List.getElem?_eq_getElem hkl, he, hl, h2]
    simp [esc, nums_append]
  · have := escB_length q c
    rw [hl, List.length_append, nums_length]; omega
theorem esc_end {q : Bool} {s : ByteArray} {k : Nat} {bs : List Value} (h : EscInv q s k bs) (hk : ¬ k < s.size) : bs = nums .u8 (esc q (bytesOf s)) := by
  rw [h.2.1, List.take_of_length_le (by rw [bytesOf_length]; omega)]
set_option maxHeartbeats 8000000 in
set_option maxRecDepth 100000 in
theorem name_Escape.calls (a0 : ByteArray) (a1 : Bool) (r : ByteArray) (w : World) (h : name_Escape.f a0 a1 = some r) :
    Calls Try.prog 25 #[.string a0, .bool a1] w fun e w' => e = .returned (.string r) ∧ Below w.heap.size w w' := by
  unfold name_Escape.f at h
  by_cases hs : a0.size * 4 ≤ 140737488355328
  · rw [if_pos hs] at h
    simp only [Option.some.injEq] at h
    subst h
    have HI0 := Aside0.mk (Lib.fresh_isBuilder 63 5 w)
    have HB0 := Aside0.mk (below_alloc (Below.refl w.heap.size w) (.cells #[.pointer none, .slice none 0 0] 63))
    go_enter Try.func25, Try.ntmps25
    go_wp2
    go_loopw [11] (fun i wr => ∃ (k : Nat) (bs : List Value), i = .int .i64 k ∧ Aside0 (EscInv a1 a0 k bs) ∧ Aside0 (Lib.IsBuilder 63 5 w.heap.size w.heap.size bs wr) ∧ Aside0 (Below w.heap.size w wr)) (fun i _ => a0.size - (intOf i).toNat)
    case atStart => exact ⟨0, [], rfl, ⟨esc0 a1 a0⟩, HI0, HB0⟩
    case round =>
      clear HI0 HB0
      obtain ⟨k, bs, rfl, HV, HI, HB⟩ := hrel
      have hb1 := HV.out.1
      have hb2 := HV.out.2.2
      by_cases hk : k < a0.size
      · have hx0 := bt_nat a0 k hk
        obtain ⟨hc0, hc1⟩ := bt_range a0 (k : Int)
        obtain ⟨c, hc⟩ : ∃ c, bt a0 (k : Int) = c := ⟨_, rfl⟩
        rw [hc] at hx0 hc0 hc1
        have q1 : bs.length + 1 ≤ 140737488355328 := by omega
        have q2 : w.heap.size ≤ wr.heap.size := HB.out.size
        have q3 : (bs ++ [Value.int .u8 92]).length + 1 ≤ 140737488355328 := by simp; omega
        by_cases hS : c = 46 ∨ c = 59 ∨ c = 40 ∨ c = 41 ∨ c = 64 ∨ c = 36
        · cases a1 with
          | true =>
            have HV' : Aside0 (EscInv true a0 (k + 1) (bs ++ [.int .u8 c])) := ⟨esc_step HV.out hk hc (by unfold escB; rw [if_pos hS]; rfl)⟩
            clear hc
            rcases hS with rfl | rfl | rfl | rfl | rfl | rfl
            all_goals
              go_wp2_with (first | (go_at_call 47; (with_reducible refine (WriteByte_any w.heap.size w.heap.size bs _ _ HI.out q1 q2).mono ?_); rintro e w2 ⟨rfl, hat, hb2⟩; have HA := Aside0.mk (builder_used hat); have HB2 := Aside0.mk (HB.out.trans hb2); clear hat hb2))
              go_roundw
              case rel => exact ⟨k + 1, _, by go_num, HV', HA, HB2⟩
              case measure => simp [intOf]; omega
          | false =>
            have HV' : Aside0 (EscInv false a0 (k + 1) (bs ++ [.int .u8 92] ++ [.int .u8 c])) := ⟨by rw [List.append_assoc]; exact esc_step HV.out hk hc (by unfold escB; rw [if_pos hS]; rfl)⟩
            clear hc
            rcases hS with rfl | rfl | rfl | rfl | rfl | rfl
            all_goals
              go_wp2_with (first | (go_at_call 47; (with_reducible refine (WriteByte_any w.heap.size w.heap.size bs 92 _ HI.out q1 q2).mono ?_); rintro e w2 ⟨rfl, hat, hb2⟩; have HA := Aside0.mk (builder_used hat); have HB2 := Aside0.mk (HB.out.trans hb2); clear hat hb2; have q4 : w.heap.size ≤ w2.heap.size := HB2.out.size) | (go_at_call 47; (with_reducible refine (WriteByte_any w.heap.size w.heap.size (bs ++ [.int .u8 92]) _ _ HA.out q3 q4).mono ?_); rintro e w2 ⟨rfl, hat, hb2⟩; have HA2 := Aside0.mk (builder_used hat); have HB3 := Aside0.mk (HB2.out.trans hb2); clear hat hb2))
              go_roundw
              case rel => exact ⟨k + 1, _, by go_num, HV', HA2, HB3⟩
              case measure => simp [intOf]; omega
        · by_cases hQ : c = 34 ∨ c = 92
          · have HV' : Aside0 (EscInv a1 a0 (k + 1) (bs ++ [.int .u8 92] ++ [.int .u8 c])) := ⟨by rw [List.append_assoc]; exact esc_step HV.out hk hc (by unfold escB; rw [if_neg hS, if_pos hQ]; rfl)⟩
            clear hc hS
            rcases hQ with rfl | rfl
            all_goals
              go_wp2_with (first | (go_at_call 47; (with_reducible refine (WriteByte_any w.heap.size w.heap.size bs 92 _ HI.out q1 q2).mono ?_); rintro e w2 ⟨rfl, hat, hb2⟩; have HA := Aside0.mk (builder_used hat); have HB2 := Aside0.mk (HB.out.trans hb2); clear hat hb2; have q4 : w.heap.size ≤ w2.heap.size := HB2.out.size) | (go_at_call 47; (with_reducible refine (WriteByte_any w.heap.size w.heap.size (bs ++ [.int .u8 92]) _ _ HA.out q3 q4).mono ?_); rintro e w2 ⟨rfl, hat, hb2⟩; have HA2 := Aside0.mk (builder_used hat); have HB3 := Aside0.mk (HB2.out.trans hb2); clear hat hb2))
              go_roundw
              case rel => exact ⟨k + 1, _, by go_num, HV', HA2, HB3⟩
              case measure => simp [intOf]; omega
          · have e1 : (c == 46) = false := beq_eq_false_iff_ne.2 (by omega)
            have e2 : (c == 59) = false := beq_eq_false_iff_ne.2 (by omega)
            have e3 : (c == 40) = false := beq_eq_false_iff_ne.2 (by omega)
            have e4 : (c == 41) = false := beq_eq_false_iff_ne.2 (by omega)
            have e5 : (c == 64) = false := beq_eq_false_iff_ne.2 (by omega)
            have e6 : (c == 36) = false := beq_eq_false_iff_ne.2 (by omega)
            have e7 : (c == 34) = false := beq_eq_false_iff_ne.2 (by omega)
            have e8 : (c == 92) = false := beq_eq_false_iff_ne.2 (by omega)
            by_cases hP : (32 < c ∧ c < 127) ∨ (c = 32 ∧ a1 = true)
            · have HV' : Aside0 (EscInv a1 a0 (k + 1) (bs ++ [.int .u8 c])) := ⟨esc_step HV.out hk hc (by unfold escB; rw [if_neg hS, if_neg hQ, if_pos hP]; rfl)⟩
              clear hc hS hQ
              rcases hP with ⟨hp1, hp2⟩ | ⟨hp1, hp2⟩
              · go_wp2_with (first | (go_at_call 47; (with_reducible refine (WriteByte_any w.heap.size w.heap.size bs _ _ HI.out q1 q2).mono ?_); rintro e w2 ⟨rfl, hat, hb2⟩; have HA := Aside0.mk (builder_used hat); have HB2 := Aside0.mk (HB.out.trans hb2); clear hat hb2))
                go_roundw
                case rel => exact ⟨k + 1, _, by go_num, HV', HA, HB2⟩
                case measure => simp [intOf]; omega
              · subst hp1 hp2
                clear e1 e2 e3 e4 e5 e6 e7 e8
                go_wp2_with (first | (go_at_call 47; (with_reducible refine (WriteByte_any w.heap.size w.heap.size bs _ _ HI.out q1 q2).mono ?_); rintro e w2 ⟨rfl, hat, hb2⟩; have HA := Aside0.mk (builder_used hat); have HB2 := Aside0.mk (HB.out.trans hb2); clear hat hb2))
                go_roundw
                case rel => exact ⟨k + 1, _, by go_num, HV', HA, HB2⟩
                case measure => simp [intOf]; omega
            · have HV' : Aside0 (EscInv a1 a0 (k + 1) (bs ++ [.int .u8 92, .int .u8 (48 + c / 100), .int .u8 (48 + c / 10 % 10), .int .u8 (48 + c % 10)])) := ⟨esc_step HV.out hk hc (by unfold escB; rw [if_neg hS, if_neg hQ, if_neg hP]; rfl)⟩
              clear hc hS hQ
              have hne : wr.heap.size ≠ w.heap.size := by have := builder_lt HI.out; omega
              have q5 : bs.length + 4 ≤ 140737488355328 := by omega
              have q6 : w.heap.size ≤ (wr.alloc (.cells #[.int .u8 92, .int .u8 (48 + c / 100), .int .u8 (48 + c / 10 % 10), .int .u8 (48 + c % 10)] 5)).heap.size := by rw [World.size_alloc]; omega
              have HI1 := Aside0.mk (builder_alloc HI.out (.cells #[.int .u8 92, .int .u8 (48 + c / 100), .int .u8 (48 + c / 10 % 10), .int .u8 (48 + c % 10)] 5))
              have HB1 := Aside0.mk (below_alloc HB.out (.cells #[.int .u8 92, .int .u8 (48 + c / 100), .int .u8 (48 + c / 10 % 10), .int .u8 (48 + c % 10)] 5))
              have HN := Aside0.mk (cells_new wr [.int .u8 92, .int .u8 (48 + c / 100), .int .u8 (48 + c / 10 % 10), .int .u8 (48 + c % 10)] 5)
              rcases (show c < 32 ∨ (127 ≤ c) ∨ (c = 32 ∧ a1 = false) from by cases a1 <;> simp at hP ⊢ <;> omega) with hp | hp | ⟨hp, hp2⟩
              · have e9 : (c == 32) = false := beq_eq_false_iff_ne.2 (by omega)
                clear hP
                go_wp2_with (first | (go_at_call 53; (with_reducible refine (Write_any w.heap.size w.heap.size bs wr.heap.size 4 4 [.int .u8 92, .int .u8 (48 + c / 100), .int .u8 (48 + c / 10 % 10), .int .u8 (48 + c % 10)] _ HI1.out hne rfl HN.out (by simp [Value.oneCell']) q5 q6).mono ?_); rintro e w2 ⟨rfl, hat, hb2⟩; have HA := Aside0.mk (builder_used hat); have HB2 := Aside0.mk (HB1.out.trans hb2); clear hat hb2))
                go_roundw
                case rel => exact ⟨k + 1, _, by go_num, HV', HA, HB2⟩
                case measure => simp [intOf]; omega
              · have e9 : (c == 32) = false := beq_eq_false_iff_ne.2 (by omega)
                clear hP
                go_wp2_with (first | (go_at_call 53; (with_reducible refine (Write_any w.heap.size w.heap.size bs wr.heap.size 4 4 [.int .u8 92, .int .u8 (48 + c / 100), .int .u8 (48 + c / 10 % 10), .int .u8 (48 + c % 10)] _ HI1.out hne rfl HN.out (by simp [Value.oneCell']) q5 q6).mono ?_); rintro e w2 ⟨rfl, hat, hb2⟩; have HA := Aside0.mk (builder_used hat); have HB2 := Aside0.mk (HB1.out.trans hb2); clear hat hb2))
                go_roundw
                case rel => exact ⟨k + 1, _, by go_num, HV', HA, HB2⟩
                case measure => simp [intOf]; omega
              · subst hp2
                have e9 : (c == 32) = true := beq_iff_eq.2 hp
                have hp0 : ¬ 32 < c := by omega
                clear hP hp
                go_wp2_with (first | (go_at_call 53; (with_reducible refine (Write_any w.heap.size w.heap.size bs wr.heap.size 4 4 [.int .u8 92, .int .u8 (48 + c / 100), .int .u8 (48 + c / 10 % 10), .int .u8 (48 + c % 10)] _ HI1.out hne rfl HN.out (by simp [Value.oneCell']) q5 q6).mono ?_); rintro e w2 ⟨rfl, hat, hb2⟩; have HA := Aside0.mk (builder_used hat); have HB2 := Aside0.mk (HB1.out.trans hb2); clear hat hb2))
                go_roundw
                case rel => exact ⟨k + 1, _, by go_num, HV', HA, HB2⟩
                case measure => simp [intOf]; omega
      · have hfin : Lib.IsBuilder 63 5 w.heap.size w.heap.size (Lib.byteCells (strOfNums (esc a1 (bytesOf a0))).data.toList) wr := by
          rw [← nums_cells _ (esc_range a1 a0), ← esc_end HV.out hk]; exact HI.out
        have q2 : w.heap.size ≤ wr.heap.size := HB.out.size
        have HF := Aside0.mk hfin
        clear hfin
        go_wp2_with (first | (go_at_call 49; refine (Try.Builder_String_any w.heap.size w.heap.size _ _ HF.out q2).mono ?_; rintro e w3 ⟨rfl, hb3⟩; have HB3 := Aside0.mk (HB.out.trans hb3); clear hb3))
        go_ret
        exact ⟨by first | rfl | (rw [str_eta]; done) | (simp; done), HB3.out⟩
  · rw [if_neg hs] at h; exact absurd h (by simp)
end Go.Proofs.Ytplnknhlgdoliaa.Print
