/- name.Parse, walked: a text's name. -/
import Derived.Test.YtplnknhlgdoliaaXPiece
import Derived.Test.YtplnknhlgdoliaaXOf
namespace Go.Proofs.Ytplnknhlgdoliaa.Print
set_option linter.unusedVariables false
set_option linter.unusedSimpArgs false
open Go.RowKit Go.Proofs.YtplnknhlgdoliaaW.PrintWords Go.Proofs.YtplnknhlgdoliaaW.PrintLast Go.Proofs.YtplnknhlgdoliaaW.PrintMore
/-- the pieces of a text that end with a dot, from byte i on: an error, where the last piece begins, the labels -/
def scanL (t : ByteArray) : List Int → Nat → Nat → List ByteArray → Int × Nat × List ByteArray
  | [], _, frm, L => (0, frm, L)
  | c :: r, i, frm, L => if c = 92 then (match r with | [] => (0, frm, L) | _ :: r2 => scanL t r2 (i + 2) frm L)
    else if c = 46 then (if (pieceP t frm i).2 = 0 then scanL t r (i + 1) (i + 1) (L ++ [(pieceP t frm i).1]) else ((pieceP t frm i).2, frm, L))
    else scanL t r (i + 1) frm L
def scan (t : ByteArray) (i frm : Nat) (L : List ByteArray) : Int × Nat × List ByteArray := scanL t ((bytesOf t).drop i) i frm L
theorem scan_end (t : ByteArray) (i frm : Nat) (L : List ByteArray) (h : ¬ i < t.size) : scan t i frm L = (0, frm, L) := by
  unfold scan; rw [bo_end t i (by omega)]; rfl
theorem scan_esc (t : ByteArray) (i frm : Nat) (L : List ByteArray) (h : i < t.size) (hc : bt t (i : Int) = 92) : scan t i frm L = scan t (i + 2) frm L := by
  unfold scan
  rw [bo_drop t i h, hc]
  by_cases h2 : i + 1 < t.size
  · rw [bo_drop t (i + 1) h2]; simp [scanL]
  · rw [bo_end t (i + 1) (by omega), bo_end t (i + 2) (by omega)]; simp [scanL]
theorem scan_dot (t : ByteArray) (i frm : Nat) (L : List ByteArray) (h : i < t.size) (hc : bt t (i : Int) = 46) : scan t i frm L = if (pieceP t frm i).2 = 0 then scan t (i + 1) (i + 1) (L ++ [(pieceP t frm i).1]) else ((pieceP t frm i).2, frm, L) := by
  unfold scan
  rw [bo_drop t i h, hc, scanL.eq_def]
  simp
theorem scan_plain (t : ByteArray) (i frm : Nat) (L : List ByteArray) (h : i < t.size) (hc : bt t (i : Int) ≠ 92) (hd : bt t (i : Int) ≠ 46) : scan t i frm L = scan t (i + 1) frm L := by
  unfold scan
  rw [bo_drop t i h, scanL.eq_def]; simp only []; rw [if_neg hc, if_neg hd]
def parseP (t o : ByteArray) : ByteArray × Int :=
  match dec o with
  | none => (⟨#[]⟩, 11)
  | some B => if t.toList = [46] then (⟨#[0]⟩, 0) else
    let s := scan t 0 0 []
    if s.1 ≠ 0 then (⟨#[]⟩, s.1) else
    if s.2.1 < t.size ∨ s.2.1 = 0 then
      let p := pieceP t s.2.1 t.size
      if p.2 ≠ 0 then (⟨#[]⟩, p.2) else (name_Of.f (s.2.2 ++ [p.1] ++ B)).getD (⟨#[]⟩, 0)
    else (name_Of.f s.2.2).getD (⟨#[]⟩, 0)
theorem name_Of.some_ (l : List ByteArray) : name_Of.f l = some ((name_Of.f l).getD (⟨#[]⟩, 0)) := by
  unfold name_Of.f
  split
  · rfl
  · split <;> rfl
def name_Parse.f (t o : ByteArray) : Option (ByteArray × Int) := if t.size ≤ 1099511627775 then some (parseP t o) else none
def ParseInv (t : ByteArray) (k frm : Nat) (L : List ByteArray) : Prop := frm ≤ k ∧ frm ≤ t.size ∧ k ≤ t.size + 1 ∧ L.length ≤ frm ∧ scan t k frm L = scan t 0 0 []
theorem parse0 (t : ByteArray) : ParseInv t 0 0 [] := ⟨Nat.le_refl _, Nat.zero_le _, by omega, Nat.le_refl _, rfl⟩
theorem parse_esc {t : ByteArray} {k frm : Nat} {L : List ByteArray} (h : ParseInv t k frm L) (hk : k < t.size) (hc : bt t (k : Int) = 92) : ParseInv t (k + 2) frm L := by
  obtain ⟨h1, h2, h3, h4, h5⟩ := h
  exact ⟨by omega, h2, by omega, h4, by rw [← h5, scan_esc t k frm L hk hc]⟩
theorem parse_dot {t : ByteArray} {k frm : Nat} {L : List ByteArray} {s : ByteArray} (h : ParseInv t k frm L) (hk : k < t.size) (hc : bt t (k : Int) = 46) (hp : pieceP t frm k = (s, 0)) : ParseInv t (k + 1) (k + 1) (L ++ [s]) := by
  obtain ⟨h1, h2, h3, h4, h5⟩ := h
  exact ⟨by omega, by omega, by omega, by rw [List.length_append, List.length_singleton]; omega, by rw [← h5, scan_dot t k frm L hk hc, hp, if_pos rfl]⟩
theorem parse_plain {t : ByteArray} {k frm : Nat} {L : List ByteArray} (h : ParseInv t k frm L) (hk : k < t.size) (hc : bt t (k : Int) ≠ 92) (hd : bt t (k : Int) ≠ 46) : ParseInv t (k + 1) frm L := by
  obtain ⟨h1, h2, h3, h4, h5⟩ := h
  exact ⟨by omega, h2, by omega, h4, by rw [← h5, scan_plain t k frm L hk hc hd]⟩
theorem parse_of {o t : ByteArray} {B : List ByteArray} (ho : dec o = some B) (ht : (t.toList == [46]) = false) : parseP t o = if (scan t 0 0 []).1 ≠ 0 then (⟨#[]⟩, (scan t 0 0 []).1) else
    if (scan t 0 0 []).2.1 < t.size ∨ (scan t 0 0 []).2.1 = 0 then
      if (pieceP t (scan t 0 0 []).2.1 t.size).2 ≠ 0 then (⟨#[]⟩, (pieceP t (scan t 0 0 []).2.1 t.size).2) else (name_Of.f ((scan t 0 0 []).2.2 ++ [(pieceP t (scan t 0 0 []).2.1 t.size).1] ++ B)).getD (⟨#[]⟩, 0)
    else (name_Of.f (scan t 0 0 []).2.2).getD (⟨#[]⟩, 0) := by
  unfold parseP
  rw [ho]
  simp only []
  rw [if_neg (by simpa using ht)]
set_option maxHeartbeats 4000000 in
set_option maxRecDepth 100000 in
theorem name_Parse.calls (t o : ByteArray) (r1 : ByteArray) (r2 : Int) (w : World) (h : name_Parse.f t o = some (r1, r2)) :
    Calls Try.prog 27 #[.string t, .string o] w fun e w' => e = .returned (.tuple #[.string r1, .int .i64 r2]) ∧ Below w.heap.size w w' := by
  unfold name_Parse.f at h
  by_cases hsz : t.size ≤ 1099511627775
  case neg => rw [if_neg hsz] at h; cases h
  rw [if_pos hsz] at h
  simp only [Option.some.injEq] at h
  obtain ⟨kc, hkc⟩ := (check_f o).rounds
  have HB0 := Aside0.mk (below_alloc (Below.refl w.heap.size w) (.cells #[.string t] 9 (0, 0)))
  have HT0 := Aside0.mk (blk_new w (.cells #[.string t] 9 (0, 0)))
  cases hd : dec o with
  | none =>
    rw [hd] at hkc
    have h2 : parseP t o = (⟨#[]⟩, 11) := by unfold parseP; rw [hd]
    rw [h2] at h
    cases h
    have hkc' : name_Check.f kc o = some 11 := hkc
    have HKC := Aside0.mk hkc'
    clear hkc hkc' hd h2
    go_enter Try.func27, Try.ntmps27
    go_wp2_with (first | (go_at_call 14; (with_reducible refine (name_Check.calls kc o 11 _ HKC.out).mono ?_); rintro e w1 ⟨rfl, hb1⟩; have HB1 := Aside0.mk (below_then HB0.out (by simp) hb1); clear hb1))
    go_ret2
    exact ⟨rfl, HB1.out⟩
  | some B =>
    rw [hd] at hkc
    have hkc' : name_Check.f kc o = some 0 := hkc
    have HKC := Aside0.mk hkc'
    clear hkc hkc'
    by_cases ht : (t.toList == [46]) = true
    · have h2 : parseP t o = (⟨#[0]⟩, 0) := by unfold parseP; rw [hd]; simp only []; rw [if_pos (by simpa using ht)]
      rw [h2] at h
      cases h
      clear h2 hd
      go_enter Try.func27, Try.ntmps27
      go_wp2_with (first | (go_at_call 14; (with_reducible refine (name_Check.calls kc o 0 _ HKC.out).mono ?_); rintro e w1 ⟨rfl, hb1⟩; have HB1 := Aside0.mk (below_then HB0.out (by simp) hb1); have ct1 : w1.cell? ⟨w.heap.size, 0, none⟩ = some (.string t) := (blk_cell (blk_below HT0.out hb1) 0).trans rfl; clear hb1))
      go_ret2
      exact ⟨rfl, HB1.out⟩
    · replace ht : (t.toList == [46]) = false := by simpa using ht
      rw [parse_of hd ht] at h
      obtain ⟨kl, hkl⟩ := (labels_f o).rounds
      rw [hd, Option.getD_some] at hkl
      have hlB : B.length ≤ 127 := labels_length hd
      have HKL := Aside0.mk hkl
      have HH := Aside0.mk h
      clear h hd hkl
      have hmf : ∀ (fn : Fn) (first cap : Array Value) (w : World), (Instr.makeFunc fn first cap).run Try.prog w = .ok (.func fn first cap) w := fun _ _ _ _ => rfl
      go_enter Try.func27, Try.ntmps27
      go_wp2_with (first | (go_at_call 14; (with_reducible refine (name_Check.calls kc o 0 _ HKC.out).mono ?_); rintro e w1 ⟨rfl, hb1⟩; have HB1 := Aside0.mk (below_then HB0.out (by simp) hb1); have HT1 := Aside0.mk (blk_below HT0.out hb1); have ct1 : w1.cell? ⟨w.heap.size, 0, none⟩ = some (.string t) := (blk_cell HT1.out 0).trans rfl; clear hb1))
      obtain ⟨tx, htx⟩ : ∃ x, x = w1.heap.size := ⟨_, rfl⟩
      have hw0 : w.heap.size + 1 ≤ w1.heap.size := by have := HB1.out.size; have := blk_lt HT1.out; omega
      have hw1 : w.heap.size ≤ w1.heap.size := by omega
      have hw1' : w.heap.size ≤ w1.heap.size + 1 := by omega
      have hw2 : w.heap.size ≤ w1.heap.size + 2 := by omega
      have hne : w.heap.size ≠ w1.heap.size + 1 ∧ w.heap.size ≠ w1.heap.size ∧ w1.heap.size + 1 ≠ w1.heap.size := by omega
      have hsz' : t.size ≤ 1099511627776 := by omega
      go_loopw [9] (fun i wr => ∃ (k frm : Nat) (L : List ByteArray), i = .int .i64 k ∧ Aside0 (ParseInv t k frm L) ∧ Aside0 (PState wr w.heap.size (w1.heap.size + 1) w1.heap.size (w1.heap.size + 2) t frm L) ∧ Aside0 (Below w.heap.size w wr)) (fun i _ => t.size - (intOf i).toNat)
      case atStart =>
        refine ⟨0, 0, [], rfl, ⟨parse0 t⟩, ⟨⟨?_, ?_, ⟨_, ?_, Kd.R_nil _ _ _ _ _⟩, by omega, by omega, by omega, by simp only [World.size_alloc]; omega⟩⟩, ⟨below_alloc (below_alloc HB1.out _) _⟩⟩
        · exact blk_alloc (blk_alloc HT1.out _) _
        · have := blk_new (w1.alloc (.cells #[.slice none 0 0] 23 (0, 0))) (.cells #[.int .i64 0] 3 (0, 0)); rw [World.size_alloc] at this; exact this
        · exact blk_alloc (blk_new w1 _) _
      case round =>
        clear HB0 HT0 HB1 HT1 ct1
        obtain ⟨k, frm, L, rfl, HI, HS, HB⟩ := hrel
        have ct : wr.cell? ⟨w.heap.size, 0, none⟩ = some (.string t) := (blk_cell HS.out.tbox 0).trans rfl
        have cf : wr.cell? ⟨w1.heap.size + 1, 0, none⟩ = some (.int .i64 (frm : Int)) := (blk_cell HS.out.fbox 0).trans rfl
        have hLl : L.length ≤ 1099511627776 := by have := HI.out; unfold ParseInv at this; omega
        have hk1 : k ≤ t.size + 1 := HI.out.2.2.1
        by_cases hk : k < t.size
        · have hx0 := bt_nat t k hk
          obtain ⟨c, hc⟩ : ∃ c, bt t (k : Int) = c := ⟨_, rfl⟩
          rw [hc] at hx0
          by_cases h92 : c = 92
          · subst h92
            have HI' := Aside0.mk (parse_esc HI.out hk hc)
            clear hc
            go_wp2
            go_roundw
            case rel => exact ⟨k + 2, frm, L, by go_num, HI', HS, HB⟩
            case measure => simp [intOf]; omega
          · by_cases h46 : c = 46
            · subst h46
              have hfk : frm ≤ k := HI.out.1
              have hks : k ≤ t.size := by omega
              obtain ⟨⟨s, er⟩, hpc⟩ : ∃ p, pieceP t frm k = p := ⟨_, rfl⟩
              by_cases hz : er = 0
              · subst hz
                have HI' := Aside0.mk (parse_dot HI.out hk hc hpc)
                clear hc
                go_wp2_with (first | (go_at_call 55; (with_reducible refine (piece_calls t frm k L w.heap.size (w1.heap.size + 1) w1.heap.size (w1.heap.size + 2) _ HS.out hfk hks hsz' hLl hne).mono ?_); rw [hpc]; rintro e w2 ⟨rfl, hs2, hb2⟩; have HS2 := Aside0.mk hs2; have HB2 := Aside0.mk (HB.out.trans (hb2 _ (Nat.le_refl _) hw1' hw1 hw2)); clear hs2 hb2))
                go_roundw
                case rel => exact ⟨k + 1, k + 1, _, by go_num, HI', HS2, HB2⟩
                case measure => simp [intOf]; omega
              · have hh := HH.out
                rw [← HI.out.2.2.2.2, scan_dot t k frm L hk hc, hpc, if_neg hz] at hh
                rw [if_pos hz] at hh
                cases hh
                have hzb : (er != 0) = true := bne_iff_ne.2 hz
                clear hc hz
                go_wp2_with (first | (go_at_call 55; (with_reducible refine (piece_calls t frm k L w.heap.size (w1.heap.size + 1) w1.heap.size (w1.heap.size + 2) _ HS.out hfk hks hsz' hLl hne).mono ?_); rw [hpc]; rintro e w2 ⟨rfl, hs2, hb2⟩; have HS2 := Aside0.mk hs2; have HB2 := Aside0.mk (HB.out.trans (hb2 _ (Nat.le_refl _) hw1' hw1 hw2)); clear hs2 hb2))
                go_ret2
                exact ⟨rfl, HB2.out⟩
            · have HI' := Aside0.mk (parse_plain HI.out hk (by rw [hc]; exact h92) (by rw [hc]; exact h46))
              have hb92 : (c == 92) = false := beq_eq_false_iff_ne.2 h92
              have hb46 : (c == 46) = false := beq_eq_false_iff_ne.2 h46
              clear hc h92 h46
              go_wp2
              go_roundw
              case rel => exact ⟨k + 1, frm, L, by go_num, HI', HS, HB⟩
              case measure => simp [intOf]; omega
        · have hh := HH.out
          rw [← HI.out.2.2.2.2, scan_end t k frm L hk, if_neg (by simp)] at hh
          simp only [] at hh
          by_cases hf : frm < t.size
          · have hfd : decide (frm < t.size) = true := decide_eq_true hf
            rw [if_pos (Or.inl hf)] at hh
            clear hf
            obtain ⟨⟨s, er⟩, hpc⟩ : ∃ p, pieceP t frm t.size = p := ⟨_, rfl⟩
            rw [hpc] at hh
            have hfk : frm ≤ t.size := HI.out.2.1
            have hks : t.size ≤ t.size := Nat.le_refl _
            by_cases hz : er = 0
            · subst hz
              have hh' : name_Of.f (L ++ [s] ++ B) = some (r1, r2) := by rw [name_Of.some_, ← hh]; simp
              have HH' := Aside0.mk hh'
              clear hh hh'
              go_wp2_with (first | (go_at_call 55; (with_reducible refine (piece_calls t frm t.size L w.heap.size (w1.heap.size + 1) w1.heap.size (w1.heap.size + 2) _ HS.out hfk hks hsz' hLl hne).mono ?_); rw [hpc]; rintro e w2 ⟨rfl, hs2, hb2⟩; have HS2 := Aside0.mk hs2; have HB2 := Aside0.mk (HB.out.trans (hb2 _ (Nat.le_refl _) hw1' hw1 hw2)); clear hs2 hb2))
              obtain ⟨vl, hlb2, hRl⟩ := HS2.out.lbox
              have HBd := Aside0.mk (below_drew HB2.out)
              have HSd := Aside0.mk (HS2.out.below (below_drew (Below.refl _ _)))
              have HLd := Aside0.mk (blk_drew hlb2)
              have HRd := Aside0.mk (Kd.R_drew hRl)
              have hcd : w2.drew.cell? ⟨w1.heap.size, 0, none⟩ = some vl := (blk_cell HLd.out 0).trans rfl
              clear hlb2 hRl
              refine start_ (n := 5) (S := (fun w' => w'.cell? ⟨w1.heap.size, 0, none⟩ = some vl)) (ds := [4]) #[false, false, false, false, false] (by kernel_rfl) rfl rfl hcd (fun hHeld => ?_)
              generalize w2.drew = wd at HBd HSd HLd HRd hcd hHeld ⊢
              refine take_ (i := 0) (N := some 54) (v := ?_) (a' := ?_) #[true, false, false, false, false] rfl rfl (by kernel_rfl) (fun _ _ _ h => h) (Or.inl ⟨by rfl, ?_⟩) hHeld ?_ ?_
              rotate_left
              · rintro w' hs0
                go_simp
                with_reducible rfl
              rotate_left
              · simp only [Act.put, List.setIfInBounds_toArray, List.set_cons_zero, List.set_cons_succ, i64_w, i32_w]
                rfl
              refine pure_ (i := 1) (N := some 55) (v := ?_) (a' := ?_) #[true, true, false, false, false] rfl rfl (by kernel_rfl) (fun _ _ _ h => h) (Or.inl ⟨by rfl, ?_⟩) ?_ ?_
              rotate_left
              · intro w'
                go_simp
                with_reducible rfl
              rotate_left
              · simp only [Act.put, List.setIfInBounds_toArray, List.set_cons_zero, List.set_cons_succ, i64_w, i32_w]
                rfl
              refine one_ (i := 2) (N := some 56) #[true, true, true, false, false] rfl rfl (by kernel_rfl) (by decide) (fun K hK => ?_)
              refine goes_ Try.func17 (by kernel_rfl) rfl #[.string o] (by rfl) rfl rfl (by (try simp only [List.map_toArray, List.map_cons, List.map_nil]); first | done | rfl) ?_
              (with_reducible refine (name_Labels.calls kl o B _ HKL.out).mono ?_)
              rintro e w4 ⟨v2, rfl, hR2, hb2⟩
              obtain ⟨A2, c2, rfl, hle2, hC2⟩ := Kd.R_reads hR2
              have HS4 := Aside0.mk (HSd.out.below hb2)
              have HL4 := Aside0.mk (blk_below HLd.out hb2)
              have HB4 := Aside0.mk (HBd.out.trans (below_to hb2 HBd.out.size))
              have HC4 := Aside0.mk hC2
              have hc4 : w4.cell? ⟨w1.heap.size, 0, none⟩ = some vl := pw_cell_below hb2 hHeld
              have HR4 := Aside0.mk (Kd.R_below HRd.out hb2)
              clear hR2 hb2 hle2 hC2
              refine ⟨_, rfl, ?_⟩
              refine hK.out _ _ hc4 (fun hHeld => ?_)
              clear hK K
              refine norm_ (a' := ?_) ?_ ?_
              rotate_left
              · show Act.put _ (some 56) _ = _
                simp only [Act.put, List.setIfInBounds_toArray, List.set_cons_zero, List.set_cons_succ, i64_w, i32_w]
                rfl
              refine one_ (i := 3) (N := some 57) #[true, true, true, true, false] rfl rfl (by kernel_rfl) (by decide) (fun K hK => ?_)
              refine Kd.R_append_rows_step Kd.string (w0 := w4) (w1.heap.size + 2) (by rfl) (.tmp 54) (.tmp 56) 23 9 (.string ⟨#[]⟩) 16 rfl Try.underlying23 infoStr rfl (by decide) (by omega) _ (L ++ [s]) B A2 B.length c2 (fun k_ => w1.heap.size + 2 ≤ k_) (fun _ => False) rfl rfl HR4.out HC4.out ?aK (fun _ hk => hk.elim) (fun k_ hk_ => Nat.le_trans HS4.out.size hk_) (Below.refl _ _) HS4.out.size (by rw [List.length_append, List.length_singleton]; omega) ?_
              (case aK => exact fun _ _ hk => hk)
              intro v1_ w5 ho hb hg hat
              generalize L ++ [s] ++ B = L6 at ho HH'
              obtain ⟨A3, c3, rfl, hle3, hC3⟩ := Kd.R_reads ho
              have hl5 := (hb.block w1.heap.size (by omega)).trans HL4.out
              have hc5 : w5.cell? ⟨w1.heap.size, 0, none⟩ = some vl := (blk_cell hl5 0).trans rfl
              have hf5 : w5.frozen? ⟨w1.heap.size, 0, none⟩ = false := blk_frozen hl5 0
              have HR5 := Aside0.mk (Kd.R_far ho (p := ⟨w1.heap.size, 0, none⟩) (fun k_ hk_ => by show k_ ≠ w1.heap.size; omega) (.slice A3 L6.length c3))
              have HB5 := Aside0.mk ((HB4.out.trans (below_to hb (by omega))).setCell (p := ⟨w1.heap.size, 0, none⟩) hw1 (.slice A3 L6.length c3))
              have HL5 := Aside0.mk (blk_set hl5 0 (.slice A3 L6.length c3))
              clear ho hb hg hat hle3 hC3 hl5
              refine hK.out _ _ hc5 (fun hHeld => ?_)
              clear hK K
              refine norm_ (a' := ?_) ?_ ?_
              rotate_left
              · show Act.put _ (some 57) _ = _
                simp only [Act.put, List.setIfInBounds_toArray, List.set_cons_zero, List.set_cons_succ, i64_w, i32_w]
                rfl
              refine last_ (i := 4) (N := none) #[true, true, true, true, true] rfl rfl (by kernel_rfl) (by decide) (fun K hK => ?_)
              refine skip_ (w1 := w5.setCell ⟨w1.heap.size, 0, none⟩ (.slice A3 L6.length c3)) (by rfl) rfl ?_ ?_
              · go_simp
                try with_reducible rfl
              refine hK.out _ _ ?_
              clear hK K
              refine done_ (by kernel_rfl) ?_
              have hc6 : (w5.setCell ⟨w1.heap.size, 0, none⟩ (.slice A3 L6.length c3)).cell? ⟨w1.heap.size, 0, none⟩ = some (.slice A3 L6.length c3) := (blk_cell HL5.out 0).trans rfl
              generalize w5.setCell ⟨w1.heap.size, 0, none⟩ (.slice A3 L6.length c3) = w6 at HR5 HB5 HL5 hc6 ⊢
              obtain ⟨_, hle6, hC6⟩ := Kd.R_reads' HR5.out
              have HC6 := Aside0.mk hC6
              clear hC6
              go_wp2_with (first | (go_at_call 21; (with_reducible refine (name_Of.calls A3 c3 L6 r1 r2 _ HC6.out hle6 HH'.out).mono ?_); rintro e w7 ⟨rfl, hb7⟩; have HB7 := Aside0.mk (HB5.out.trans (below_to hb7 HB5.out.size)); clear hb7))
              go_ret2
              exact ⟨rfl, HB7.out⟩
            · have hzb : (er != 0) = true := bne_iff_ne.2 hz
              rw [if_pos hz] at hh
              cases hh
              clear hz
              go_wp2_with (first | (go_at_call 55; (with_reducible refine (piece_calls t frm t.size L w.heap.size (w1.heap.size + 1) w1.heap.size (w1.heap.size + 2) _ HS.out hfk hks hsz' hLl hne).mono ?_); rw [hpc]; rintro e w2 ⟨rfl, hs2, hb2⟩; have HS2 := Aside0.mk hs2; have HB2 := Aside0.mk (HB.out.trans (hb2 _ (Nat.le_refl _) hw1' hw1 hw2)); clear hs2 hb2))
              go_ret2
              exact ⟨rfl, HB2.out⟩
          · have hfd : decide (frm < t.size) = false := decide_eq_false hf
            by_cases hf0 : frm = 0
            · rw [if_pos (Or.inr hf0)] at hh
              have hf0b : ((frm : Int) == 0) = true := beq_iff_eq.2 (by omega)
              clear hf hf0
              obtain ⟨⟨s, er⟩, hpc⟩ : ∃ p, pieceP t frm t.size = p := ⟨_, rfl⟩
              rw [hpc] at hh
              have hfk : frm ≤ t.size := HI.out.2.1
              have hks : t.size ≤ t.size := Nat.le_refl _
              by_cases hz : er = 0
              · subst hz
                have hh' : name_Of.f (L ++ [s] ++ B) = some (r1, r2) := by rw [name_Of.some_, ← hh]; simp
                have HH' := Aside0.mk hh'
                clear hh hh'
                go_wp2_with (first | (go_at_call 55; (with_reducible refine (piece_calls t frm t.size L w.heap.size (w1.heap.size + 1) w1.heap.size (w1.heap.size + 2) _ HS.out hfk hks hsz' hLl hne).mono ?_); rw [hpc]; rintro e w2 ⟨rfl, hs2, hb2⟩; have HS2 := Aside0.mk hs2; have HB2 := Aside0.mk (HB.out.trans (hb2 _ (Nat.le_refl _) hw1' hw1 hw2)); clear hs2 hb2))
                obtain ⟨vl, hlb2, hRl⟩ := HS2.out.lbox
                have HBd := Aside0.mk (below_drew HB2.out)
                have HSd := Aside0.mk (HS2.out.below (below_drew (Below.refl _ _)))
                have HLd := Aside0.mk (blk_drew hlb2)
                have HRd := Aside0.mk (Kd.R_drew hRl)
                have hcd : w2.drew.cell? ⟨w1.heap.size, 0, none⟩ = some vl := (blk_cell HLd.out 0).trans rfl
                clear hlb2 hRl
                refine start_ (n := 5) (S := (fun w' => w'.cell? ⟨w1.heap.size, 0, none⟩ = some vl)) (ds := [4]) #[false, false, false, false, false] (by kernel_rfl) rfl rfl hcd (fun hHeld => ?_)
                generalize w2.drew = wd at HBd HSd HLd HRd hcd hHeld ⊢
                refine take_ (i := 0) (N := some 54) (v := ?_) (a' := ?_) #[true, false, false, false, false] rfl rfl (by kernel_rfl) (fun _ _ _ h => h) (Or.inl ⟨by rfl, ?_⟩) hHeld ?_ ?_
                rotate_left
                · rintro w' hs0
                  go_simp
                  with_reducible rfl
                rotate_left
                · simp only [Act.put, List.setIfInBounds_toArray, List.set_cons_zero, List.set_cons_succ, i64_w, i32_w]
                  rfl
                refine pure_ (i := 1) (N := some 55) (v := ?_) (a' := ?_) #[true, true, false, false, false] rfl rfl (by kernel_rfl) (fun _ _ _ h => h) (Or.inl ⟨by rfl, ?_⟩) ?_ ?_
                rotate_left
                · intro w'
                  go_simp
                  with_reducible rfl
                rotate_left
                · simp only [Act.put, List.setIfInBounds_toArray, List.set_cons_zero, List.set_cons_succ, i64_w, i32_w]
                  rfl
                refine one_ (i := 2) (N := some 56) #[true, true, true, false, false] rfl rfl (by kernel_rfl) (by decide) (fun K hK => ?_)
                refine goes_ Try.func17 (by kernel_rfl) rfl #[.string o] (by rfl) rfl rfl (by (try simp only [List.map_toArray, List.map_cons, List.map_nil]); first | done | rfl) ?_
                (with_reducible refine (name_Labels.calls kl o B _ HKL.out).mono ?_)
                rintro e w4 ⟨v2, rfl, hR2, hb2⟩
                obtain ⟨A2, c2, rfl, hle2, hC2⟩ := Kd.R_reads hR2
                have HS4 := Aside0.mk (HSd.out.below hb2)
                have HL4 := Aside0.mk (blk_below HLd.out hb2)
                have HB4 := Aside0.mk (HBd.out.trans (below_to hb2 HBd.out.size))
                have HC4 := Aside0.mk hC2
                have hc4 : w4.cell? ⟨w1.heap.size, 0, none⟩ = some vl := pw_cell_below hb2 hHeld
                have HR4 := Aside0.mk (Kd.R_below HRd.out hb2)
                clear hR2 hb2 hle2 hC2
                refine ⟨_, rfl, ?_⟩
                refine hK.out _ _ hc4 (fun hHeld => ?_)
                clear hK K
                refine norm_ (a' := ?_) ?_ ?_
                rotate_left
                · show Act.put _ (some 56) _ = _
                  simp only [Act.put, List.setIfInBounds_toArray, List.set_cons_zero, List.set_cons_succ, i64_w, i32_w]
                  rfl
                refine one_ (i := 3) (N := some 57) #[true, true, true, true, false] rfl rfl (by kernel_rfl) (by decide) (fun K hK => ?_)
                refine Kd.R_append_rows_step Kd.string (w0 := w4) (w1.heap.size + 2) (by rfl) (.tmp 54) (.tmp 56) 23 9 (.string ⟨#[]⟩) 16 rfl Try.underlying23 infoStr rfl (by decide) (by omega) _ (L ++ [s]) B A2 B.length c2 (fun k_ => w1.heap.size + 2 ≤ k_) (fun _ => False) rfl rfl HR4.out HC4.out ?aK (fun _ hk => hk.elim) (fun k_ hk_ => Nat.le_trans HS4.out.size hk_) (Below.refl _ _) HS4.out.size (by rw [List.length_append, List.length_singleton]; omega) ?_
                (case aK => exact fun _ _ hk => hk)
                intro v1_ w5 ho hb hg hat
                generalize L ++ [s] ++ B = L6 at ho HH'
                obtain ⟨A3, c3, rfl, hle3, hC3⟩ := Kd.R_reads ho
                have hl5 := (hb.block w1.heap.size (by omega)).trans HL4.out
                have hc5 : w5.cell? ⟨w1.heap.size, 0, none⟩ = some vl := (blk_cell hl5 0).trans rfl
                have hf5 : w5.frozen? ⟨w1.heap.size, 0, none⟩ = false := blk_frozen hl5 0
                have HR5 := Aside0.mk (Kd.R_far ho (p := ⟨w1.heap.size, 0, none⟩) (fun k_ hk_ => by show k_ ≠ w1.heap.size; omega) (.slice A3 L6.length c3))
                have HB5 := Aside0.mk ((HB4.out.trans (below_to hb (by omega))).setCell (p := ⟨w1.heap.size, 0, none⟩) hw1 (.slice A3 L6.length c3))
                have HL5 := Aside0.mk (blk_set hl5 0 (.slice A3 L6.length c3))
                clear ho hb hg hat hle3 hC3 hl5
                refine hK.out _ _ hc5 (fun hHeld => ?_)
                clear hK K
                refine norm_ (a' := ?_) ?_ ?_
                rotate_left
                · show Act.put _ (some 57) _ = _
                  simp only [Act.put, List.setIfInBounds_toArray, List.set_cons_zero, List.set_cons_succ, i64_w, i32_w]
                  rfl
                refine last_ (i := 4) (N := none) #[true, true, true, true, true] rfl rfl (by kernel_rfl) (by decide) (fun K hK => ?_)
                refine skip_ (w1 := w5.setCell ⟨w1.heap.size, 0, none⟩ (.slice A3 L6.length c3)) (by rfl) rfl ?_ ?_
                · go_simp
                  try with_reducible rfl
                refine hK.out _ _ ?_
                clear hK K
                refine done_ (by kernel_rfl) ?_
                have hc6 : (w5.setCell ⟨w1.heap.size, 0, none⟩ (.slice A3 L6.length c3)).cell? ⟨w1.heap.size, 0, none⟩ = some (.slice A3 L6.length c3) := (blk_cell HL5.out 0).trans rfl
                generalize w5.setCell ⟨w1.heap.size, 0, none⟩ (.slice A3 L6.length c3) = w6 at HR5 HB5 HL5 hc6 ⊢
                obtain ⟨_, hle6, hC6⟩ := Kd.R_reads' HR5.out
                have HC6 := Aside0.mk hC6
                clear hC6
                go_wp2_with (first | (go_at_call 21; (with_reducible refine (name_Of.calls A3 c3 L6 r1 r2 _ HC6.out hle6 HH'.out).mono ?_); rintro e w7 ⟨rfl, hb7⟩; have HB7 := Aside0.mk (HB5.out.trans (below_to hb7 HB5.out.size)); clear hb7))
                go_ret2
                exact ⟨rfl, HB7.out⟩
              · have hzb : (er != 0) = true := bne_iff_ne.2 hz
                rw [if_pos hz] at hh
                cases hh
                clear hz
                go_wp2_with (first | (go_at_call 55; (with_reducible refine (piece_calls t frm t.size L w.heap.size (w1.heap.size + 1) w1.heap.size (w1.heap.size + 2) _ HS.out hfk hks hsz' hLl hne).mono ?_); rw [hpc]; rintro e w2 ⟨rfl, hs2, hb2⟩; have HS2 := Aside0.mk hs2; have HB2 := Aside0.mk (HB.out.trans (hb2 _ (Nat.le_refl _) hw1' hw1 hw2)); clear hs2 hb2))
                go_ret2
                exact ⟨rfl, HB2.out⟩
            · rw [if_neg (by omega)] at hh
              have hf0b : ((frm : Int) == 0) = false := beq_eq_false_iff_ne.2 (by omega)
              have hh' : name_Of.f L = some (r1, r2) := by rw [name_Of.some_, ← hh]
              have HH' := Aside0.mk hh'
              obtain ⟨vl, hlb2, hRl⟩ := HS.out.lbox
              obtain ⟨A3, c3, rfl, hle6, hC6⟩ := Kd.R_reads hRl
              have hc6 : wr.cell? ⟨w1.heap.size, 0, none⟩ = some (.slice A3 L.length c3) := (blk_cell hlb2 0).trans rfl
              have HC6 := Aside0.mk hC6
              clear hf hf0 hh hh' hlb2 hRl hC6
              go_wp2_with (first | (go_at_call 21; (with_reducible refine (name_Of.calls A3 c3 L r1 r2 _ HC6.out hle6 HH'.out).mono ?_); rintro e w7 ⟨rfl, hb7⟩; have HB7 := Aside0.mk (HB.out.trans (below_to hb7 HB.out.size)); clear hb7))
              go_ret2
              exact ⟨rfl, HB7.out⟩
end Go.Proofs.Ytplnknhlgdoliaa.Print
