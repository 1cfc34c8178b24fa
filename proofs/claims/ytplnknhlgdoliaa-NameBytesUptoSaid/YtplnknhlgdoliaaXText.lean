/- name.Text, walked: a name's text. -/
import Derived.Test.YtplnknhlgdoliaaXNames
import Derived.Test.YtplnknhlgdoliaaXEscape
namespace Go.Proofs.Ytplnknhlgdoliaa.Print
set_option linter.unusedVariables false
set_option linter.unusedSimpArgs false
open Go.RowKit Go.Proofs.YtplnknhlgdoliaaW.PrintWords Go.Proofs.YtplnknhlgdoliaaW.PrintLast Go.Proofs.YtplnknhlgdoliaaW.PrintMore
def textL (L : List ByteArray) : List Int := L.flatMap fun s => esc false (bytesOf s) ++ [46]
def name_Text.f (n : ByteArray) : Option ByteArray := some (if n.toList = [0] then ⟨#[46]⟩ else strOfNums (textL ((dec n).getD [])))
theorem esc_length (q : Bool) : ∀ l : List Int, (esc q l).length ≤ 4 * l.length
  | [] => by simp [esc]
  | c :: l => by
    have := esc_length q l
    have h2 := escB_length q c
    simp only [esc, List.flatMap_cons, List.length_append, List.length_cons] at this ⊢
    omega
theorem row_kept {e base b : Nat} {w w' : World} {v : Value} {xs : List ByteArray} (h : Kd.R Kd.string e w base (fun _ => True) v xs) (hk : Lib.OthersKept 5 (some b) w w') (hb : b < base) (he : e ≠ 5) : Kd.R Kd.string e w' base (fun _ => True) v xs := by
  refine Kd.R_mono (Kd.R_move (Kd.R_bound h) (fun k hk2 => ?_)) (fun _ h => h.1)
  obtain ⟨_, h1, h2, q, hq, cells, hc⟩ := hk2
  rw [hc]
  refine hk k _ hc (fun h => by cases h; omega) (fun c fz hh => ?_)
  have hq' : q = e := by simpa [Kd.string, Kd.scalar] using hq
  cases hh
  exact he hq'.symm
def TextInv (L : List ByteArray) (k : Nat) (bs : List Value) : Prop := k ≤ L.length ∧ bs = nums .u8 (textL (L.take k)) ∧ bs.length ≤ 300 * k
theorem text0 (L : List ByteArray) : TextInv L 0 [] := ⟨Nat.zero_le _, by simp [textL, nums], by simp⟩
theorem text_step {L : List ByteArray} {k : Nat} {bs : List Value} {s : ByteArray} (h : TextInv L k bs) (hs : L[k]? = some s) (hz : s.size ≤ 63) : TextInv L (k + 1) (bs ++ Lib.strCells (strOfNums (esc false (bytesOf s))) ++ [.int .u8 46]) := by
  obtain ⟨h1, h2, h3⟩ := h
  have hk : k < L.length := (List.getElem?_eq_some_iff.1 hs).1
  have he := esc_length false (bytesOf s)
  rw [bytesOf_length] at he
  have hc : Lib.strCells (strOfNums (esc false (bytesOf s))) = nums .u8 (esc false (bytesOf s)) := by rw [Lib.strCells_eq, nums_cells _ (esc_range false s)]
  refine ⟨hk, ?_, ?_⟩
  · rw [take_succ' hs, h2, hc]
    simp [textL, nums_append, nums]
  · rw [List.length_append, List.length_append, hc, nums_length]; simp; omega
theorem text_end {L : List ByteArray} {k : Nat} {bs : List Value} (h : TextInv L k bs) (hk : ¬ k < L.length) : bs = nums .u8 (textL L) := by rw [h.2.1, List.take_of_length_le (by omega)]
theorem textL_range (L : List ByteArray) : ∀ x ∈ textL L, 0 ≤ x ∧ x < 256 := by
  intro x hx
  obtain ⟨s, _, hx⟩ := List.mem_flatMap.1 hx
  rcases List.mem_append.1 hx with hx | hx
  · exact esc_range false s x hx
  · simp at hx; omega
theorem dec_labels (n : ByteArray) : ((dec n).getD []).length ≤ 127 ∧ ∀ s ∈ (dec n).getD [], s.size ≤ 63 := by
  cases h : dec n with
  | none => simp
  | some L =>
    refine ⟨labels_length h, fun s hs => ?_⟩
    have h3 := (dec_some h).2.2
    rw [List.any_eq_false] at h3
    have := h3 s hs
    exact (bad_false (by simpa using this)).2
set_option maxHeartbeats 4000000 in
set_option maxRecDepth 100000 in
theorem name_Text.calls (a0 : ByteArray) (r : ByteArray) (w : World) (h : name_Text.f a0 = some r) :
    Calls Try.prog 29 #[.string a0] w fun e w' => e = .returned (.string r) ∧ Below w.heap.size w w' := by
  unfold name_Text.f at h
  by_cases h0 : a0.toList = [0]
  · rw [if_pos h0] at h
    simp only [Option.some.injEq] at h
    subst h
    have hb0 : (a0.toList == [0]) = true := by rw [h0]; rfl
    clear h0
    go_enter Try.func29, Try.ntmps29
    go_wp2
    go_ret
    exact ⟨rfl, Below.refl _ _⟩
  · rw [if_neg h0] at h
    simp only [Option.some.injEq] at h
    subst h
    have hb0 : (a0.toList == [0]) = false := by simpa using h0
    clear h0
    obtain ⟨kk, hkk⟩ := (labels_f a0).rounds
    have hdl := dec_labels a0
    obtain ⟨L, hL⟩ : ∃ L, (dec a0).getD [] = L := ⟨_, rfl⟩
    rw [hL] at hkk hdl ⊢
    have HKK := Aside0.mk hkk
    have HDL := Aside0.mk hdl
    clear hkk hdl hL
    have HI0 := Aside0.mk (Lib.fresh_isBuilder 63 5 w)
    have HB0 := Aside0.mk (below_alloc (Below.refl w.heap.size w) (.cells #[.pointer none, .slice none 0 0] 63))
    go_enter Try.func29, Try.ntmps29
    go_wp2_with (go_at_call 17; (with_reducible refine (name_Labels.calls kk a0 L _ HKK.out).mono ?_); rintro e w1 ⟨v0, rfl, hR, hb1⟩; rw [World.size_alloc] at hR; obtain ⟨A, c, rfl, hle, hC⟩ := Kd.R_reads hR; have HR := Aside0.mk hR; have HI1 := Aside0.mk (builder_below HI0.out hb1); have HB1 := Aside0.mk (below_then HB0.out (by simp) hb1); clear hR hb1 hC hle)
    go_loopw [11] (fun i wr => ∃ (k : Nat) (bs : List Value), i = .int .i64 k ∧ Aside0 (TextInv L k bs) ∧ Aside0 (Lib.IsBuilder 63 5 w.heap.size w.heap.size bs wr) ∧ Aside0 (Kd.R Kd.string 9 wr (w.heap.size + 1) (fun _ => True) (.slice A L.length c) L) ∧ Aside0 (Below w.heap.size w wr)) (fun i _ => L.length - (intOf i).toNat)
    case atStart => exact ⟨0, [], rfl, ⟨text0 L⟩, HI1, HR, HB1⟩
    case round =>
      clear HI0 HB0 HI1 HB1 HR
      obtain ⟨k, bs, rfl, HV, HI, HR, HB⟩ := hrel
      have hll := HDL.out.1
      have hbl := HV.out.2.2
      have q2 : w.heap.size ≤ wr.heap.size := HB.out.size
      by_cases hk : k < L.length
      · obtain ⟨_, _, hC⟩ := Kd.R_reads' HR.out
        obtain ⟨ad, hA, hcell⟩ := Kd.at_string hC (k : Int) (by omega) (by omega)
        obtain ⟨s, hs⟩ : ∃ s, L[k]? = some s := ⟨L[k], List.getElem?_eq_getElem hk⟩
        have hrd : rdOf ByteArray.empty L (k : Int) = s := by simp [rdOf, List.getD_eq_getElem?_getD, hs]
        rw [hrd] at hcell
        simp only [Int.toNat_natCast] at hcell
        subst hA
        have hsz := HDL.out.2 s (List.mem_of_getElem? hs)
        have HV' := Aside0.mk (text_step HV.out hs hsz)
        have hef : name_Escape.f s false = some (strOfNums (esc false (bytesOf s))) := by unfold name_Escape.f; rw [if_pos (by omega)]
        have hel : (strOfNums (esc false (bytesOf s))).size ≤ 252 := by have := esc_length false (bytesOf s); rw [bytesOf_length] at this; rw [strOfNums_size]; omega
        obtain ⟨t, ht⟩ : ∃ t, strOfNums (esc false (bytesOf s)) = t := ⟨_, rfl⟩
        rw [ht] at hef hel HV'
        have HEF := Aside0.mk hef
        have q1 : bs.length + t.size ≤ 140737488355328 := by omega
        have q3 : (bs ++ Lib.strCells t).length + 1 ≤ 140737488355328 := by rw [List.length_append, Lib.strCells_length]; omega
        clear hef hs hrd hC ht
        go_wp2_with (first | (go_at_call 25; (with_reducible refine (name_Escape.calls s false t _ HEF.out).mono ?_); rintro e w2 ⟨rfl, hb2⟩; have HI2 := Aside0.mk (builder_below HI.out hb2); have HR2 := Aside0.mk (Kd.R_below HR.out hb2); have HB2 := Aside0.mk (below_then HB.out q2 hb2); have q4 : w.heap.size ≤ w2.heap.size := HB2.out.size; clear hb2) | (go_at_call 48; (with_reducible refine (WriteString_k w.heap.size w.heap.size bs t _ HI2.out q1 q4).mono ?_); rintro e w3 ⟨rfl, hat, hb3, hk3⟩; have HI3 := Aside0.mk (builder_used hat); have HR3 := Aside0.mk (row_kept HR2.out hk3 (Nat.lt_succ_self _) (by decide)); have HB3 := Aside0.mk (HB2.out.trans hb3); have q5 : w.heap.size ≤ w3.heap.size := HB3.out.size; clear hat hb3 hk3) | (go_at_call 47; (with_reducible refine (WriteByte_k w.heap.size w.heap.size (bs ++ Lib.strCells t) _ _ HI3.out q3 q5).mono ?_); rintro e w4 ⟨rfl, hat, hb4, hk4⟩; have HI4 := Aside0.mk (builder_used hat); have HR4 := Aside0.mk (row_kept HR3.out hk4 (Nat.lt_succ_self _) (by decide)); have HB4 := Aside0.mk (HB3.out.trans hb4); clear hat hb4 hk4))
        go_roundw
        case rel => exact ⟨k + 1, _, by go_num, HV', HI4, HR4, HB4⟩
        case measure => simp [intOf]; omega
      · have hfin : Lib.IsBuilder 63 5 w.heap.size w.heap.size (Lib.byteCells (strOfNums (textL L)).data.toList) wr := by
          rw [← nums_cells _ (textL_range L), ← text_end HV.out hk]; exact HI.out
        have HF := Aside0.mk hfin
        clear hfin
        go_wp2_with (first | (go_at_call 49; refine (Try.Builder_String_any w.heap.size w.heap.size _ _ HF.out q2).mono ?_; rintro e w3 ⟨rfl, hb3⟩; have HB3 := Aside0.mk (HB.out.trans hb3); clear hb3))
        go_ret
        exact ⟨by first | rfl | (rw [str_eta]; done) | (simp; done), HB3.out⟩
end Go.Proofs.Ytplnknhlgdoliaa.Print
