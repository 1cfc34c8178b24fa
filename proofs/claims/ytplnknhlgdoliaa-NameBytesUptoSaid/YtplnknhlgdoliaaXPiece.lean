/- name.Parse's closure 'piece', walked. -/
import Derived.Test.YtplnknhlgdoliaaXBytes
import Derived.Test.YtplnknhlgdoliaaXNames
namespace Go.Proofs.Ytplnknhlgdoliaa.Print
set_option linter.unusedVariables false
set_option linter.unusedSimpArgs false
open Go.RowKit Go.Proofs.YtplnknhlgdoliaaW.PrintWords Go.Proofs.YtplnknhlgdoliaaW.PrintLast Go.Proofs.YtplnknhlgdoliaaW.PrintMore
theorem infoStr : (Try.prog.info? 9).map (fun i => (i.zero, i.size, i.bytes)) = some (some (.string ⟨#[]⟩), 1, 16) := by kernel_rfl
theorem Kd.R_ne' {α : Type} {d : Kd α} {e : Nat} {w : World} {base : Nat} {ok : Nat → Prop} {v : Value} {xs : List α} (h : d.R e w base ok v xs) {b : Nat} (hb : b < base) : some b ≠ v.ownBlock := fun h1 => by have := Kd.R_base h b h1.symm; omega
theorem below_to {A B : Nat} {w w' : World} (h : Below A w w') (hB : B ≤ A) : Below B w w' := ⟨h.os, h.tape, h.output, h.size, fun i hi => h.block i (Nat.lt_of_lt_of_le hi hB)⟩
/-- what the text of a piece means -/
def bytesP (t : ByteArray) : ByteArray × Int := match unesc (bytesOf t) with | some l => (strOfNums l, 0) | none => (⟨#[]⟩, 12)
theorem bytesP_f (t : ByteArray) (h : t.size < 140737488355328) : name_Bytes.f t = some (bytesP t) := by
  unfold name_Bytes.f bytesP
  rw [if_pos h]
  cases unesc (bytesOf t) <;> rfl
theorem unesc_len : ∀ (n : Nat) (l m : List Int), l.length ≤ n → unesc l = some m → m.length ≤ l.length
  | n, [], m, _, h => by simp [unesc] at h; subst h; simp
  | 0, c :: r, m, hn, h => by simp at hn
  | n + 1, c :: r, m, hn, h => by
    have hn' : r.length ≤ n := by simpa using hn
    by_cases hc : c = 92
    · subst hc
      match r, hn' with
      | [], _ => rw [unesc_last] at h; cases h
      | d :: r1, hn' =>
        by_cases hd : isDig d = false
        · rw [unesc_one _ _ hd] at h
          obtain ⟨m1, h1, rfl⟩ := Option.map_eq_some_iff.1 h
          have := unesc_len n r1 m1 (by simp at hn'; omega) h1
          simp; omega
        · have hd' : isDig d = true := by simpa using hd
          match r1, hn' with
          | [], _ => rw [unesc_two _ _ hd' (by simp)] at h; cases h
          | [e], _ => rw [unesc_two _ _ hd' (by simp)] at h; cases h
          | e :: f :: r2, hn' =>
            rw [unesc_three _ _ _ _ hd'] at h
            split at h
            · split at h
              · cases h
              · obtain ⟨m1, h1, rfl⟩ := Option.map_eq_some_iff.1 h
                have := unesc_len n r2 m1 (by simp at hn'; omega) h1
                simp; omega
            · cases h
    · rw [unesc_plain _ _ hc] at h
      obtain ⟨m1, h1, rfl⟩ := Option.map_eq_some_iff.1 h
      have := unesc_len n r m1 hn' h1
      simp; omega
theorem bytesP_size {t s : ByteArray} {er : Int} (h : bytesP t = (s, er)) (ht : t.size ≤ 1099511627776) : s.size ≤ 1099511627776 := by
  unfold bytesP at h
  cases hu : unesc (bytesOf t) with
  | none => rw [hu] at h; cases h; exact Nat.zero_le _
  | some l =>
    rw [hu] at h
    cases h
    rw [strOfNums_size]
    have := unesc_len _ _ _ (Nat.le_refl _) hu
    rw [bytesOf_length] at this
    omega
def pieceP (t : ByteArray) (a b : Nat) : ByteArray × Int := let p := bytesP (t.extract a b); if p.2 = 0 ∧ (p.1.size = 0 ∨ 63 < p.1.size) then (p.1, 10) else p
/-- Parse's boxes: the text, where the piece begins, the labels -/
structure PState (W : World) (tb fb lb base : Nat) (t : ByteArray) (frm : Nat) (L : List ByteArray) : Prop where
  tbox : W.heap[tb]? = some (.cells #[.string t] 9 (0, 0))
  fbox : W.heap[fb]? = some (.cells #[.int .i64 (frm : Int)] 3 (0, 0))
  lbox : ∃ vl, W.heap[lb]? = some (.cells #[vl] 23 (0, 0)) ∧ Kd.R Kd.string 9 W base (fun k_ => base ≤ k_) vl L
  tb_lt : tb < base
  fb_lt : fb < base
  lb_lt : lb < base
  size : base ≤ W.heap.size
theorem PState.below {W W' : World} {tb fb lb base : Nat} {t : ByteArray} {frm : Nat} {L : List ByteArray} (h : PState W tb fb lb base t frm L) (hb : Below W.heap.size W W') : PState W' tb fb lb base t frm L := by
  obtain ⟨vl, h1, h2⟩ := h.lbox
  exact ⟨blk_below h.tbox hb, blk_below h.fbox hb, ⟨vl, blk_below h1 hb, Kd.R_below h2 hb⟩, h.tb_lt, h.fb_lt, h.lb_lt, Nat.le_trans h.size hb.size⟩
theorem PState.after {w0 W : World} {tb fb lb base : Nat} {t : ByteArray} {frm : Nat} {vl v : Value} {L : List ByteArray} {k : Int} {upt : Nat} (hk : k = (upt : Int)) (hT : W.heap[tb]? = some (.cells #[.string t] 9 (0, 0))) (hF : W.heap[fb]? = some (.cells #[.int .i64 (frm : Int)] 3 (0, 0))) (hL : W.heap[lb]? = some (.cells #[vl] 23 (0, 0)))
    (hR : Kd.R Kd.string 9 W base (fun k_ => base ≤ k_) v L) (htb : tb < base) (hfb : fb < base) (hlb : lb < base) (n1 : tb ≠ fb) (n2 : tb ≠ lb) (n3 : fb ≠ lb) (hb : Below base w0 W) (hs : base ≤ w0.heap.size) :
    PState ((W.setCell ⟨lb, 0, none⟩ v).setCell ⟨fb, 0, none⟩ (.int .i64 k)) tb fb lb base t upt L ∧ ∀ B, B ≤ tb → B ≤ fb → B ≤ lb → B ≤ base → Below B w0 ((W.setCell ⟨lb, 0, none⟩ v).setCell ⟨fb, 0, none⟩ (.int .i64 k)) := by
  subst hk
  have hsz : base ≤ W.heap.size := Nat.le_trans hs hb.size
  refine ⟨⟨?_, ?_, ⟨v, ?_, ?_⟩, htb, hfb, hlb, by simpa only [World.size_setCell] using hsz⟩, fun B h1 h2 h3 h4 => ((below_to hb h4).setCell h3 _).setCell h2 _⟩
  · exact blk_far (blk_far hT n2 _) n1 _
  · exact blk_set (blk_far hF n3 _) 0 _
  · exact blk_far (blk_set hL 0 v) (Ne.symm n3) _
  · exact Kd.R_far (Kd.R_far hR (fun k hk => by show k ≠ lb; omega) _) (fun k hk => by show k ≠ fb; omega) _
set_option maxHeartbeats 4000000 in
set_option maxRecDepth 100000 in
theorem piece_calls (t : ByteArray) (frm upt : Nat) (L : List ByteArray) (tb fb lb base : Nat) (w : World) (hS : PState w tb fb lb base t frm L) (hft : frm ≤ upt) (hto : upt ≤ t.size) (hsz : t.size ≤ 1099511627776) (hLl : L.length ≤ 1099511627776) (hne : tb ≠ fb ∧ tb ≠ lb ∧ fb ≠ lb) :
    Calls Try.prog 55 #[.int .i64 (upt : Int), .pointer (some ⟨tb, 0, none⟩), .pointer (some ⟨fb, 0, none⟩), .pointer (some ⟨lb, 0, none⟩)] w fun e w' =>
      e = .returned (.int .i64 (pieceP t frm upt).2) ∧ PState w' tb fb lb base t (upt + 1) (L ++ [(pieceP t frm upt).1]) ∧ ∀ B, B ≤ tb → B ≤ fb → B ≤ lb → B ≤ base → Below B w w' := by
  obtain ⟨hbox, hfbox, ⟨vl, hlbox, hR⟩, htb, hfb, hlb, hbs⟩ := hS
  obtain ⟨n1, n2, n3⟩ := hne
  have hext : (t.extract frm upt).size = upt - frm := by simp; omega
  obtain ⟨u, hu⟩ : ∃ u, t.extract frm upt = u := ⟨_, rfl⟩
  rw [hu] at hext
  obtain ⟨⟨s, er⟩, hp⟩ : ∃ p, bytesP u = p := ⟨_, rfl⟩
  have hbf := bytesP_f u (by omega)
  rw [hp] at hbf
  have hP : pieceP t frm upt = if er = 0 ∧ (s.size = 0 ∨ 63 < s.size) then (s, 10) else (s, er) := by unfold pieceP; rw [hu, hp]
  have hsl : s.size ≤ 1099511627776 := bytesP_size hp (by omega)
  have HBF := Aside0.mk hbf
  have HP := Aside0.mk hP
  have HT := Aside0.mk hbox
  have HF := Aside0.mk hfbox
  have HL := Aside0.mk hlbox
  have HR := Aside0.mk hR
  have ct : w.cell? ⟨tb, 0, none⟩ = some (.string t) := (blk_cell hbox 0).trans rfl
  have cf : w.cell? ⟨fb, 0, none⟩ = some (.int .i64 (frm : Int)) := (blk_cell hfbox 0).trans rfl
  replace htb := Aside0.mk htb
  replace hfb := Aside0.mk hfb
  replace hlb := Aside0.mk hlb
  have hbs0 := Aside0.mk hbs
  replace hbs := Aside0.mk hbs
  clear hbf hP hbox hfbox hlbox hR hp
  have h0 : (0 : Int) ≤ (frm : Int) := by omega
  have h1 : (frm : Int) ≤ (upt : Int) := by omega
  have h2 : (upt : Int) ≤ (t.size : Int) := by omega
  have hu' := Aside0.mk hu
  by_cases hz : er = 0
  · by_cases hs0 : s.size = 0
    · have hsb := empty_true hs0
      have HP2 : Aside0 (pieceP t frm upt = (s, 10)) := ⟨by rw [HP.out, if_pos ⟨hz, Or.inl hs0⟩]⟩
      have hzb : (er == 0) = true := beq_iff_eq.2 hz
      clear hs0 hz
      clear hu
      go_enter Try.func55, Try.ntmps55
      go_wp2_with (first | (go_at_call 23; (rw [hu'.out]; (with_reducible refine (name_Bytes.calls u s er _ HBF.out).mono ?_); rintro e w1 ⟨rfl, hb1⟩; have HT1 := Aside0.mk (blk_below HT.out hb1); have HF1 := Aside0.mk (blk_below HF.out hb1); have HL1 := Aside0.mk (blk_below HL.out hb1); have HR1 := Aside0.mk (Kd.R_below HR.out hb1); have HB1 := Aside0.mk hb1; have hbs := Aside0.mk (Nat.le_trans hbs.out hb1.size); have HBb := Aside0.mk (below_to hb1 hbs0.out); have cl1 : w1.cell? ⟨lb, 0, none⟩ = some vl := (blk_cell HL1.out 0).trans rfl; clear hb1)) | ((with_reducible refine gate_builtin (b := .append) (xs := #[.tmp 27, .tmp 29]) rfl ?_); at_builtin; refine Kd.R_append Kd.string (w0 := w) base rfl (.tmp 27) (.tmp 29) 23 9 (.string ⟨#[]⟩) 16 rfl Try.underlying23 infoStr rfl (by decide) (by omega) _ L s [.string s] (fun k_ => base ≤ k_) (fun _ => False) rfl rfl ?aP (fun _ hk => hk.elim) ?aF ?aO ?aB ?aS ?aL ?_; (case aP => exact rfl); (case aB => exact (by repeat (first | (with_reducible first | exact HBb.out | apply below_alloc | apply pw_below_drewN | apply below_drew1) | exact HBb.out))); (case aF => exact (fun k_ hk_ => Nat.le_trans hbs.out hk_)); (case aO => exact (by (with_reducible repeat (first | apply Kd.R_alloc | apply Kd.R_drewN | apply Kd.R_drew)); exact HR1.out)); (case aS => exact hbs.out); (case aL => exact (by have := hLl; omega)); intro v1_ w1_ ho hb hg hat; obtain ⟨A3, c3, rfl, hle3, hC3⟩ := Kd.R_reads ho; clear hle3 hC3; have hl3 := blk_grown HL1.out hg (Kd.R_ne' HR1.out hlb.out); have ht3 := blk_grown HT1.out hg (Kd.R_ne' HR1.out htb.out); have hf3 := blk_grown HF1.out hg (Kd.R_ne' HR1.out hfb.out); have HL3 := Aside0.mk hl3; have HT3 := Aside0.mk ht3; have HF3 := Aside0.mk hf3; have cl3 : w1_.cell? ⟨lb, 0, none⟩ = some vl := (blk_cell hl3 0).trans rfl; have fl3 := blk_frozen hl3 0; have cf3 : w1_.cell? ⟨fb, 0, none⟩ = some (.int .i64 (frm : Int)) := (blk_cell hf3 0).trans rfl; have ff3 := blk_frozen hf3 0; clear hl3 ht3 hf3; have n0_ := Aside0.mk hb; have n1_ := Aside0.mk ho; clear HBb HR1; have HBb := n0_; have HR1 := n1_; clear n0_ n1_; clear ho hb hg hat))
      go_ret
      rw [HP2.out]
      have hR9 := HR1.out
      rw [show (L ++ [s]).length = L.length + 1 by simp] at hR9
      exact ⟨rfl, PState.after (by first | rfl | omega) HT3.out HF3.out HL3.out hR9 htb.out hfb.out hlb.out n1 n2 n3 HBb.out hbs0.out⟩
    · have hsb := empty_false hs0
      by_cases h63 : 63 < s.size
      · have HP2 : Aside0 (pieceP t frm upt = (s, 10)) := ⟨by rw [HP.out, if_pos ⟨hz, Or.inr h63⟩]⟩
        have hzb : (er == 0) = true := beq_iff_eq.2 hz
        clear hs0 hz
        clear hu
        go_enter Try.func55, Try.ntmps55
        go_wp2_with (first | (go_at_call 23; (rw [hu'.out]; (with_reducible refine (name_Bytes.calls u s er _ HBF.out).mono ?_); rintro e w1 ⟨rfl, hb1⟩; have HT1 := Aside0.mk (blk_below HT.out hb1); have HF1 := Aside0.mk (blk_below HF.out hb1); have HL1 := Aside0.mk (blk_below HL.out hb1); have HR1 := Aside0.mk (Kd.R_below HR.out hb1); have HB1 := Aside0.mk hb1; have hbs := Aside0.mk (Nat.le_trans hbs.out hb1.size); have HBb := Aside0.mk (below_to hb1 hbs0.out); have cl1 : w1.cell? ⟨lb, 0, none⟩ = some vl := (blk_cell HL1.out 0).trans rfl; clear hb1)) | ((with_reducible refine gate_builtin (b := .append) (xs := #[.tmp 27, .tmp 29]) rfl ?_); at_builtin; refine Kd.R_append Kd.string (w0 := w) base rfl (.tmp 27) (.tmp 29) 23 9 (.string ⟨#[]⟩) 16 rfl Try.underlying23 infoStr rfl (by decide) (by omega) _ L s [.string s] (fun k_ => base ≤ k_) (fun _ => False) rfl rfl ?aP (fun _ hk => hk.elim) ?aF ?aO ?aB ?aS ?aL ?_; (case aP => exact rfl); (case aB => exact (by repeat (first | (with_reducible first | exact HBb.out | apply below_alloc | apply pw_below_drewN | apply below_drew1) | exact HBb.out))); (case aF => exact (fun k_ hk_ => Nat.le_trans hbs.out hk_)); (case aO => exact (by (with_reducible repeat (first | apply Kd.R_alloc | apply Kd.R_drewN | apply Kd.R_drew)); exact HR1.out)); (case aS => exact hbs.out); (case aL => exact (by have := hLl; omega)); intro v1_ w1_ ho hb hg hat; obtain ⟨A3, c3, rfl, hle3, hC3⟩ := Kd.R_reads ho; clear hle3 hC3; have hl3 := blk_grown HL1.out hg (Kd.R_ne' HR1.out hlb.out); have ht3 := blk_grown HT1.out hg (Kd.R_ne' HR1.out htb.out); have hf3 := blk_grown HF1.out hg (Kd.R_ne' HR1.out hfb.out); have HL3 := Aside0.mk hl3; have HT3 := Aside0.mk ht3; have HF3 := Aside0.mk hf3; have cl3 : w1_.cell? ⟨lb, 0, none⟩ = some vl := (blk_cell hl3 0).trans rfl; have fl3 := blk_frozen hl3 0; have cf3 : w1_.cell? ⟨fb, 0, none⟩ = some (.int .i64 (frm : Int)) := (blk_cell hf3 0).trans rfl; have ff3 := blk_frozen hf3 0; clear hl3 ht3 hf3; have n0_ := Aside0.mk hb; have n1_ := Aside0.mk ho; clear HBb HR1; have HBb := n0_; have HR1 := n1_; clear n0_ n1_; clear ho hb hg hat))
        go_ret
        rw [HP2.out]
        have hR9 := HR1.out
        rw [show (L ++ [s]).length = L.length + 1 by simp] at hR9
        exact ⟨rfl, PState.after (by first | rfl | omega) HT3.out HF3.out HL3.out hR9 htb.out hfb.out hlb.out n1 n2 n3 HBb.out hbs0.out⟩
      · have HP2 : Aside0 (pieceP t frm upt = (s, er)) := ⟨by rw [HP.out, if_neg (by omega)]⟩
        have hzb : (er == 0) = true := beq_iff_eq.2 hz
        clear hs0 hz
        clear hu
        go_enter Try.func55, Try.ntmps55
        go_wp2_with (first | (go_at_call 23; (rw [hu'.out]; (with_reducible refine (name_Bytes.calls u s er _ HBF.out).mono ?_); rintro e w1 ⟨rfl, hb1⟩; have HT1 := Aside0.mk (blk_below HT.out hb1); have HF1 := Aside0.mk (blk_below HF.out hb1); have HL1 := Aside0.mk (blk_below HL.out hb1); have HR1 := Aside0.mk (Kd.R_below HR.out hb1); have HB1 := Aside0.mk hb1; have hbs := Aside0.mk (Nat.le_trans hbs.out hb1.size); have HBb := Aside0.mk (below_to hb1 hbs0.out); have cl1 : w1.cell? ⟨lb, 0, none⟩ = some vl := (blk_cell HL1.out 0).trans rfl; clear hb1)) | ((with_reducible refine gate_builtin (b := .append) (xs := #[.tmp 27, .tmp 29]) rfl ?_); at_builtin; refine Kd.R_append Kd.string (w0 := w) base rfl (.tmp 27) (.tmp 29) 23 9 (.string ⟨#[]⟩) 16 rfl Try.underlying23 infoStr rfl (by decide) (by omega) _ L s [.string s] (fun k_ => base ≤ k_) (fun _ => False) rfl rfl ?aP (fun _ hk => hk.elim) ?aF ?aO ?aB ?aS ?aL ?_; (case aP => exact rfl); (case aB => exact (by repeat (first | (with_reducible first | exact HBb.out | apply below_alloc | apply pw_below_drewN | apply below_drew1) | exact HBb.out))); (case aF => exact (fun k_ hk_ => Nat.le_trans hbs.out hk_)); (case aO => exact (by (with_reducible repeat (first | apply Kd.R_alloc | apply Kd.R_drewN | apply Kd.R_drew)); exact HR1.out)); (case aS => exact hbs.out); (case aL => exact (by have := hLl; omega)); intro v1_ w1_ ho hb hg hat; obtain ⟨A3, c3, rfl, hle3, hC3⟩ := Kd.R_reads ho; clear hle3 hC3; have hl3 := blk_grown HL1.out hg (Kd.R_ne' HR1.out hlb.out); have ht3 := blk_grown HT1.out hg (Kd.R_ne' HR1.out htb.out); have hf3 := blk_grown HF1.out hg (Kd.R_ne' HR1.out hfb.out); have HL3 := Aside0.mk hl3; have HT3 := Aside0.mk ht3; have HF3 := Aside0.mk hf3; have cl3 : w1_.cell? ⟨lb, 0, none⟩ = some vl := (blk_cell hl3 0).trans rfl; have fl3 := blk_frozen hl3 0; have cf3 : w1_.cell? ⟨fb, 0, none⟩ = some (.int .i64 (frm : Int)) := (blk_cell hf3 0).trans rfl; have ff3 := blk_frozen hf3 0; clear hl3 ht3 hf3; have n0_ := Aside0.mk hb; have n1_ := Aside0.mk ho; clear HBb HR1; have HBb := n0_; have HR1 := n1_; clear n0_ n1_; clear ho hb hg hat))
        go_ret
        rw [HP2.out]
        have hR9 := HR1.out
        rw [show (L ++ [s]).length = L.length + 1 by simp] at hR9
        exact ⟨rfl, PState.after (by first | rfl | omega) HT3.out HF3.out HL3.out hR9 htb.out hfb.out hlb.out n1 n2 n3 HBb.out hbs0.out⟩
  · have HP2 : Aside0 (pieceP t frm upt = (s, er)) := ⟨by rw [HP.out, if_neg (fun h => hz h.1)]⟩
    have hzb : (er == 0) = false := beq_eq_false_iff_ne.2 hz
    clear hz
    clear hu
    go_enter Try.func55, Try.ntmps55
    go_wp2_with (first | (go_at_call 23; (rw [hu'.out]; (with_reducible refine (name_Bytes.calls u s er _ HBF.out).mono ?_); rintro e w1 ⟨rfl, hb1⟩; have HT1 := Aside0.mk (blk_below HT.out hb1); have HF1 := Aside0.mk (blk_below HF.out hb1); have HL1 := Aside0.mk (blk_below HL.out hb1); have HR1 := Aside0.mk (Kd.R_below HR.out hb1); have HB1 := Aside0.mk hb1; have hbs := Aside0.mk (Nat.le_trans hbs.out hb1.size); have HBb := Aside0.mk (below_to hb1 hbs0.out); have cl1 : w1.cell? ⟨lb, 0, none⟩ = some vl := (blk_cell HL1.out 0).trans rfl; clear hb1)) | ((with_reducible refine gate_builtin (b := .append) (xs := #[.tmp 27, .tmp 29]) rfl ?_); at_builtin; refine Kd.R_append Kd.string (w0 := w) base rfl (.tmp 27) (.tmp 29) 23 9 (.string ⟨#[]⟩) 16 rfl Try.underlying23 infoStr rfl (by decide) (by omega) _ L s [.string s] (fun k_ => base ≤ k_) (fun _ => False) rfl rfl ?aP (fun _ hk => hk.elim) ?aF ?aO ?aB ?aS ?aL ?_; (case aP => exact rfl); (case aB => exact (by repeat (first | (with_reducible first | exact HBb.out | apply below_alloc | apply pw_below_drewN | apply below_drew1) | exact HBb.out))); (case aF => exact (fun k_ hk_ => Nat.le_trans hbs.out hk_)); (case aO => exact (by (with_reducible repeat (first | apply Kd.R_alloc | apply Kd.R_drewN | apply Kd.R_drew)); exact HR1.out)); (case aS => exact hbs.out); (case aL => exact (by have := hLl; omega)); intro v1_ w1_ ho hb hg hat; obtain ⟨A3, c3, rfl, hle3, hC3⟩ := Kd.R_reads ho; clear hle3 hC3; have hl3 := blk_grown HL1.out hg (Kd.R_ne' HR1.out hlb.out); have ht3 := blk_grown HT1.out hg (Kd.R_ne' HR1.out htb.out); have hf3 := blk_grown HF1.out hg (Kd.R_ne' HR1.out hfb.out); have HL3 := Aside0.mk hl3; have HT3 := Aside0.mk ht3; have HF3 := Aside0.mk hf3; have cl3 : w1_.cell? ⟨lb, 0, none⟩ = some vl := (blk_cell hl3 0).trans rfl; have fl3 := blk_frozen hl3 0; have cf3 : w1_.cell? ⟨fb, 0, none⟩ = some (.int .i64 (frm : Int)) := (blk_cell hf3 0).trans rfl; have ff3 := blk_frozen hf3 0; clear hl3 ht3 hf3; have n0_ := Aside0.mk hb; have n1_ := Aside0.mk ho; clear HBb HR1; have HBb := n0_; have HR1 := n1_; clear n0_ n1_; clear ho hb hg hat))
    go_ret
    rw [HP2.out]
    have hR9 := HR1.out
    rw [show (L ++ [s]).length = L.length + 1 by simp] at hR9
    exact ⟨rfl, PState.after (by first | rfl | omega) HT3.out HF3.out HL3.out hR9 htb.out hfb.out hlb.out n1 n2 n3 HBb.out hbs0.out⟩
end Go.Proofs.Ytplnknhlgdoliaa.Print
