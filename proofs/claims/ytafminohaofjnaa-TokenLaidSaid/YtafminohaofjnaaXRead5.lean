/- The reader's walk from its label 'between', behind its first statement. -/
import Derived.Test.YtafminohaofjnaaXRead4
namespace Go.Proofs.Ytafminohaofjnaa.Print
set_option linter.unusedVariables false
set_option linter.unusedSimpArgs false
open Go.RowKit Go.Proofs.YtafminohaofjnaaW.PrintWords Go.Proofs.YtafminohaofjnaaW.PrintLast Go.Proofs.YtafminohaofjnaaW.PrintMore Go.Proofs.Ytafminohaofjnaa.Jumps
theorem info30 : (Try.prog.info? 30).map (fun i => (i.zero, i.size, i.bytes)) = some (some (.agg #[(.int .i64 0), (.int .i64 0)]), 2, 16) := by kernel_rfl
def At2 (f : Func) (l : Nat) (r : Code) : Prop := ∃ a b, AtL f l (.seq a (.seq b r))
theorem find_wp2 {f : Func} {l : Nat} {a0 b0 lit : Code} {a : Act} {w : World} {Q : Exit → Act → World → Prop} (h : AtL f l (.seq a0 (.seq b0 lit))) (H : lit.wp Try.prog Q a w) : ∀ r, At2 f l r → r.wp Try.prog Q a w := by
  rintro r ⟨a', b', hr⟩
  unfold AtL at h hr
  rw [h] at hr
  cases hr
  exact H
theorem wp_of_find2 {f : Func} {l : Nat} {a0 b0 lit : Code} {a : Act} {w : World} {Q : Exit → Act → World → Prop} (h : AtL f l (.seq a0 (.seq b0 lit))) (H : ∀ r, At2 f l r → r.wp Try.prog Q a w) : lit.wp Try.prog Q a w := H lit ⟨_, _, h⟩
theorem wp_of_find1 {f : Func} {l : Nat} {a0 lit : Code} {a : Act} {w : World} {Q : Exit → Act → World → Prop} (h : AtL f l (.seq a0 lit)) (H : ∀ r, At1 f l r → r.wp Try.prog Q a w) : lit.wp Try.prog Q a w := H lit ⟨_, h⟩
theorem fr_lift {g bx : Nat} {v4 : Value} {ls : List Value} {c : Code} {Q : Exit → Act → World → Prop} {W : World} (hs : ls.length = 345) (h0 : ls.getD 0 undef = .pointer (some ⟨g, 0, none⟩)) (h2 : ls.getD 2 undef = .pointer (some ⟨bx, 0, none⟩)) (h3 : ls.getD 3 undef = .int .i64 0) (h4 : ls.getD 4 undef = v4)
    (H : ∀ u, c.wp Try.prog Q { tmps := Fr g bx v4 u, defers := [] } W) : c.wp Try.prog Q { tmps := ⟨ls⟩, defers := [] } W := by
  obtain ⟨u, hu⟩ := fr_of g bx v4 ls hs h0 h2 h3 h4
  rw [hu]
  exact H u
theorem spots_snoc (s : ByteArray) (ops : List Nat) (p : Nat) : spots s (ops ++ [p]) = spots s ops ++ [⟨(pl (bytesOf s) p).1, (pl (bytesOf s) p).2⟩] := by simp [spots]
theorem RS.pos {W : World} {g base : Nat} {s : ByteArray} {p line b : Int} {op : List S30} {bl : Bool} {el : Int} {ws : List S23} {out : List S45} {ins : Bool} (h : RS W g base s p line b op bl el ws out ins) (x : Int) : RS (W.setCell ⟨g, 1, none⟩ (.int .i64 x)) g base s x line b op bl el ws out ins := by
  obtain ⟨⟨vo, vw, vt, h1, h2, h3, h4⟩, hlt, hsz⟩ := h
  exact RS.sets h2 h3 h4 hlt hsz ((KeepBut.refl W g none).set_ 1 _) ((blk_set h1 1 _).trans rfl)
/-- a line's end is passed -/
theorem rw_line {w0 w : World} {s : ByteArray} {g bx base p p0 : Nat} {ops : List Nat} {ws : List S23} {out : List S45} (hs : s.size ≤ 262144) (hgb : g < base) (hbx : bx < base) (hgx : g < bx) (hw : RW w0 s g bx base w p ops p0 ws out true) (hp : p < s.size) (hc : bt s (p : Int) = 10) (a b : Nat) :
    Calls Try.prog 31 #[.pointer (some ⟨g, 0, none⟩)] (((w.drewN a).setCell ⟨g, 1, none⟩ (.int .i64 ((p : Int) + 1))).drewN b) fun e w' => e = .returned (.tuple #[]) ∧ (ops ≠ [] → RW w0 s g bx base w' (p + 1) ops p0 ws out true) ∧ (ops = [] → RW w0 s g bx base w' (p + 1) [] (p + 1) [] (closeE (bytesOf s) p0 ws out) false) := by
  obtain ⟨⟨bl, el, hr, hi, hj⟩, hbox, hbg, hle, hwl, htl, hol, hopl⟩ := hw
  have hb := pl_bound (bytesOf s) p
  have hnl := pl_nl hp hc
  have h1 := ((hr.drewN a).pos ((p : Int) + 1)).drewN b
  have hB : Bg base g w0 (((w.drewN a).setCell ⟨g, 1, none⟩ (.int .i64 ((p : Int) + 1))).drewN b) := by
    have := (⟨pw_below_drewN hbg.b a, fun i h1 h2 => hbg.k i h1 h2⟩ : Bg base g w0 (w.drewN a)).set 1 (.int .i64 ((p : Int) + 1))
    exact ⟨pw_below_drewN this.b b, fun i h1 h2 => this.k i h1 h2⟩
  have hbox' : (((w.drewN a).setCell ⟨g, 1, none⟩ (.int .i64 ((p : Int) + 1))).drewN b).heap[bx]? = some (.cells #[.int .i64 0, .int .i64 0] 30 (0, 0)) := blk_drewN (blk_far (p := ⟨g, 1, none⟩) (blk_drewN hbox a) (by show bx ≠ g; omega) _) b
  generalize ((w.drewN a).setCell _ _).drewN b = W at h1 hB hbox' ⊢
  have e2 : ((p + 1 : Nat) : Int) - 1 + 1 = (p : Int) + 1 := by omega
  cases ops with
  | nil =>
    refine (ended_nil W g base s ((p : Int) + 1) (pl (bytesOf s) p).1 _ bl el ws out true h1 (by omega) (by omega) (by omega)).mono ?_
    rintro e w' ⟨he, h2, hb2⟩
    refine ⟨he, fun h => absurd rfl h, fun _ => ?_⟩
    rw [closeL_eq (fun _ => hi rfl)] at h2
    have hlen : (closeE (bytesOf s) p0 ws out).length ≤ p + 1 := by
      unfold closeE; split
      · omega
      · simp; omega
    refine ⟨⟨false, 0, ?_, (fun h => by cases h), (fun _ => ⟨rfl, rfl, rfl, rfl⟩)⟩, (hb2.k bx hbx (by omega)).trans hbox', hB.trans hb2, by omega, by simp, hlen, by simp, by simp⟩
    rw [hnl]
    simp only
    rw [e2]
    exact h2
  | cons q ops =>
    refine (ended_open W g base s ((p : Int) + 1) (pl (bytesOf s) p).1 _ (spots s (q :: ops)) bl el ws out true h1 (by omega) (by omega) (by omega) (by simp [spots])).mono ?_
    rintro e w' ⟨he, h2, hb2⟩
    refine ⟨he, fun _ => ?_, fun h => by cases h⟩
    refine ⟨⟨bl, el, ?_, fun _ => hi rfl, fun h => by cases h⟩, (hb2.k bx hbx (by omega)).trans hbox', hB.trans hb2, by omega, by omega, by omega, by simp at hol ⊢; omega, hopl⟩
    rw [hnl]
    simp only
    rw [e2]
    exact h2

set_option maxHeartbeats 8000000 in
set_option maxRecDepth 100000 in
theorem chain_blank (w0 : World) (s : ByteArray) (R : Res) (g bx base : Nat) (hs : s.size ≤ 262144) (hgb : g < base) (hbx : bx < base) (hgx : g < bx) (m : Nat) (u : Nat → Value) (v4 : Value) (w : World) (p : Nat) (ops : List Nat) (p0 : Nat) (ws : List S23) (out : List S45) (hw0 : RW w0 s g bx base w p ops p0 ws out true) (hm : 3 * (s.size - p) + 1 ≤ m) (hp : p < s.size) (hc : blankB (bt s (p : Int)) = true) (hR : R = sp0 s p ops p0 ws out) :
    ∀ r, At2 Try.f25 0 r → r.wp Try.prog (Out w0 s R g bx base m) { tmps := Fr g bx v4 u, defers := [] } w := by
  obtain ⟨c0, c1, f1, hgl⟩ := hw0.cells
  have hw := hw0
  have he2 : ((p : Int) == (s.size : Int)) = false := beq_eq_false_iff_ne.2 (by omega)
  have hsb : (s.size : Int) ≤ 262144 := by omega
  have hx0 := bt_nat s p hp
  have i0 : (0 : Int) ≤ (p : Int) := by omega
  have i1 : (p : Int) < (s.size : Int) := by omega
  have HBL := Aside0.mk ((tblank_f (bt s (p : Int))).trans (congrArg some hc))
  have HW := Aside0.mk (fun a : Nat => (hw.drewN a).adv hp (blank_ne hc) hgx (x := (p : Int) + 1) (by omega))
  have HR := Aside0.mk (hR.trans (sp0_blank hp hc))
  clear hw0 hw hR hc
  refine find_wp2 rfl ?_
  unfold Fr
  go_wp2
  go_quiet (fail)
  go_wp2
  go_quiet (fail)
  go_wp2_with (first | (go_at_call 30; (with_reducible refine (token_blank.calls (bt s (p : Int)) _ _ HBL.out).mono ?_); rintro e_ w1 ⟨rfl, nd_, rfl⟩))
  go_step3
  refine jump_mk (l := 0) (v4 := .int .i64 (p : Int)) ?_ ?_ ?_ ?_ ?_ ((HW.out _).drewN _) HR.out (by show 3 * (s.size - (p + 1)) + 1 < m; omega) <;> rfl

set_option maxHeartbeats 8000000 in
set_option maxRecDepth 100000 in
theorem chain_line (w0 : World) (s : ByteArray) (R : Res) (g bx base : Nat) (hs : s.size ≤ 262144) (hgb : g < base) (hbx : bx < base) (hgx : g < bx) (m : Nat) (u : Nat → Value) (v4 : Value) (w : World) (p : Nat) (ops : List Nat) (p0 : Nat) (ws : List S23) (out : List S45) (hw0 : RW w0 s g bx base w p ops p0 ws out true) (hm : 3 * (s.size - p) + 1 ≤ m) (hp : p < s.size) (hc : bt s (p : Int) = 10) (ho : ops ≠ []) (hR : R = sp0 s p ops p0 ws out) :
    ∀ r, At2 Try.f25 0 r → r.wp Try.prog (Out w0 s R g bx base m) { tmps := Fr g bx v4 u, defers := [] } w := by
  obtain ⟨c0, c1, f1, hgl⟩ := hw0.cells
  have hw := hw0
  have he2 : ((p : Int) == (s.size : Int)) = false := beq_eq_false_iff_ne.2 (by omega)
  have hsb : (s.size : Int) ≤ 262144 := by omega
  have hx0 := bt_nat s p hp
  have i0 : (0 : Int) ≤ (p : Int) := by omega
  have i1 : (p : Int) < (s.size : Int) := by omega
  have HBL : Aside0 (token_blank.f (bt s (p : Int)) = some false) := ⟨by rw [tblank_f, hc]; rfl⟩
  have e0 : (bt s (p : Int) == 10) = true := beq_iff_eq.2 hc
  have HL := Aside0.mk (fun a b => rw_line hs hgb hbx hgx hw hp hc a b)
  have HR := Aside0.mk (hR.trans (sp0_line hp hc ho))
  clear hw0 hw hR hc
  refine find_wp2 rfl ?_
  unfold Fr
  go_wp2
  go_quiet (fail)
  go_wp2
  go_quiet (fail)
  go_wp2_with (first | (go_at_call 30; (with_reducible refine (token_blank.calls (bt s (p : Int)) _ _ HBL.out).mono ?_); rintro e_ w1 ⟨rfl, nd_, rfl⟩) | (go_at_call 31; (with_reducible refine (HL.out _ _).mono ?_); rintro e_ w1 ⟨rfl, hr1, _⟩; have HW1 := Aside0.mk (hr1 ho); clear hr1))
  go_step3
  refine jump_mk (l := 0) (v4 := .int .i64 (p : Int)) ?_ ?_ ?_ ?_ ?_ HW1.out HR.out (by show 3 * (s.size - (p + 1)) + 1 < m; omega) <;> rfl

set_option maxHeartbeats 8000000 in
set_option maxRecDepth 100000 in
theorem chain_stop (w0 : World) (s : ByteArray) (R : Res) (g bx base : Nat) (hs : s.size ≤ 262144) (hgb : g < base) (hbx : bx < base) (hgx : g < bx) (m : Nat) (u : Nat → Value) (v4 : Value) (w : World) (p : Nat) (ops : List Nat) (p0 : Nat) (ws : List S23) (out : List S45) (hw0 : RW w0 s g bx base w p ops p0 ws out true) (hm : 3 * (s.size - p) + 1 ≤ m) (hp : p < s.size) (hc : bt s (p : Int) = 10) (ho : ops = []) (hR : R = sp0 s p ops p0 ws out) :
    ∀ r, At2 Try.f25 0 r → r.wp Try.prog (Out w0 s R g bx base m) { tmps := Fr g bx v4 u, defers := [] } w := by
  obtain ⟨c0, c1, f1, hgl⟩ := hw0.cells
  have hw := hw0
  have he2 : ((p : Int) == (s.size : Int)) = false := beq_eq_false_iff_ne.2 (by omega)
  have hsb : (s.size : Int) ≤ 262144 := by omega
  have hx0 := bt_nat s p hp
  have i0 : (0 : Int) ≤ (p : Int) := by omega
  have i1 : (p : Int) < (s.size : Int) := by omega
  have HBL : Aside0 (token_blank.f (bt s (p : Int)) = some false) := ⟨by rw [tblank_f, hc]; rfl⟩
  have e0 : (bt s (p : Int) == 10) = true := beq_iff_eq.2 hc
  have HL := Aside0.mk (fun a b => rw_line hs hgb hbx hgx hw hp hc a b)
  have HR := Aside0.mk (show R = sp0 s (p + 1) [] (p + 1) [] (closeE (bytesOf s) p0 ws out) by rw [hR, ho]; exact sp0_stop hp hc)
  clear hw0 hw hR hc
  refine find_wp2 rfl ?_
  unfold Fr
  go_wp2
  go_quiet (fail)
  go_wp2
  go_quiet (fail)
  go_wp2_with (first | (go_at_call 30; (with_reducible refine (token_blank.calls (bt s (p : Int)) _ _ HBL.out).mono ?_); rintro e_ w1 ⟨rfl, nd_, rfl⟩) | (go_at_call 31; (with_reducible refine (HL.out _ _).mono ?_); rintro e_ w1 ⟨rfl, _, hr1⟩; have HW1 := Aside0.mk (hr1 ho); clear hr1))
  go_step3
  refine jump_mk (l := 0) (v4 := .int .i64 (p : Int)) ?_ ?_ ?_ ?_ ?_ HW1.out HR.out (by show 3 * (s.size - (p + 1)) + 1 < m; omega) <;> rfl

set_option maxHeartbeats 8000000 in
set_option maxRecDepth 100000 in
theorem chain_remark (w0 : World) (s : ByteArray) (R : Res) (g bx base : Nat) (hs : s.size ≤ 262144) (hgb : g < base) (hbx : bx < base) (hgx : g < bx) (m : Nat) (u : Nat → Value) (v4 : Value) (w : World) (p : Nat) (ops : List Nat) (p0 : Nat) (ws : List S23) (out : List S45) (hw0 : RW w0 s g bx base w p ops p0 ws out true) (hm : 3 * (s.size - p) + 1 ≤ m) (hp : p < s.size) (hc : bt s (p : Int) = 59) (hR : R = sp0 s p ops p0 ws out) :
    ∀ r, At2 Try.f25 0 r → r.wp Try.prog (Out w0 s R g bx base m) { tmps := Fr g bx v4 u, defers := [] } w := by
  obtain ⟨c0, c1, f1, hgl⟩ := hw0.cells
  have hw := hw0
  have he2 : ((p : Int) == (s.size : Int)) = false := beq_eq_false_iff_ne.2 (by omega)
  have hsb : (s.size : Int) ≤ 262144 := by omega
  have hx0 := bt_nat s p hp
  have i0 : (0 : Int) ≤ (p : Int) := by omega
  have i1 : (p : Int) < (s.size : Int) := by omega
  have HBL : Aside0 (token_blank.f (bt s (p : Int)) = some false) := ⟨by rw [tblank_f, hc]; rfl⟩
  have e0 : (bt s (p : Int) == 10) = false := beq_eq_false_iff_ne.2 (by omega)
  have e1 : (bt s (p : Int) == 59) = true := beq_iff_eq.2 hc
  have HW := Aside0.mk (fun a : Nat => (hw.drewN a).adv hp (by omega) hgx (x := (p : Int) + 1) (by omega))
  have HR := Aside0.mk (hR.trans (sp0_remark hp hc))
  clear hw0 hw hR hc
  refine find_wp2 rfl ?_
  unfold Fr
  go_wp2
  go_quiet (fail)
  go_wp2
  go_quiet (fail)
  go_wp2_with (first | (go_at_call 30; (with_reducible refine (token_blank.calls (bt s (p : Int)) _ _ HBL.out).mono ?_); rintro e_ w1 ⟨rfl, nd_, rfl⟩))
  go_step3
  refine jump_mk (l := 2) (v4 := .int .i64 (p : Int)) ?_ ?_ ?_ ?_ ?_ ((HW.out _).drewN _) ⟨rfl, HR.out⟩ (by show 3 * (s.size - (p + 1)) + 2 < m; omega) <;> rfl

set_option maxHeartbeats 8000000 in
set_option maxRecDepth 100000 in
theorem chain_quote (w0 : World) (s : ByteArray) (R : Res) (g bx base : Nat) (hs : s.size ≤ 262144) (hgb : g < base) (hbx : bx < base) (hgx : g < bx) (m : Nat) (u : Nat → Value) (v4 : Value) (w : World) (p : Nat) (ops : List Nat) (p0 : Nat) (ws : List S23) (out : List S45) (hw0 : RW w0 s g bx base w p ops p0 ws out true) (hm : 3 * (s.size - p) + 1 ≤ m) (hp : p < s.size) (hc : bt s (p : Int) = 34) (hR : R = sp0 s p ops p0 ws out) :
    ∀ r, At2 Try.f25 0 r → r.wp Try.prog (Out w0 s R g bx base m) { tmps := Fr g bx v4 u, defers := [] } w := by
  obtain ⟨c0, c1, f1, hgl⟩ := hw0.cells
  have hw := hw0
  have he2 : ((p : Int) == (s.size : Int)) = false := beq_eq_false_iff_ne.2 (by omega)
  have hsb : (s.size : Int) ≤ 262144 := by omega
  have hx0 := bt_nat s p hp
  have i0 : (0 : Int) ≤ (p : Int) := by omega
  have i1 : (p : Int) < (s.size : Int) := by omega
  have HBL : Aside0 (token_blank.f (bt s (p : Int)) = some false) := ⟨by rw [tblank_f, hc]; rfl⟩
  have e0 : (bt s (p : Int) == 10) = false := beq_eq_false_iff_ne.2 (by omega)
  have e1 : (bt s (p : Int) == 59) = false := beq_eq_false_iff_ne.2 (by omega)
  have e2 : (bt s (p : Int) == 40) = false := beq_eq_false_iff_ne.2 (by omega)
  have e3 : (bt s (p : Int) == 41) = false := beq_eq_false_iff_ne.2 (by omega)
  have e4 : (bt s (p : Int) == 34) = true := beq_iff_eq.2 hc
  have HW := Aside0.mk (fun a : Nat => (hw.drewN a).adv hp (by omega) hgx (x := (p : Int) + 1) (by omega))
  have HR := Aside0.mk (hR.trans (sp0_quote hp hc))
  have HPL := Aside0.mk (show pl (bytesOf s) (p + 1) = ((pl (bytesOf s) p).1, (pl (bytesOf s) p).2 + ((p + 1 - p : Nat) : Int)) by rw [pl_go hp (by omega)]; congr 2; omega)
  have hwl := hw.wl
  clear hw0 hw hR hc
  refine find_wp2 rfl ?_
  unfold Fr
  go_wp2
  go_quiet (fail)
  go_wp2
  go_quiet (fail)
  go_wp2_with (first | (go_at_call 30; (with_reducible refine (token_blank.calls (bt s (p : Int)) _ _ HBL.out).mono ?_); rintro e_ w1 ⟨rfl, nd_, rfl⟩))
  go_step3
  refine jump_mk (l := 3) (v4 := .int .i64 (p : Int)) ?_ ?_ ?_ ?_ ?_ ((HW.out _).drewN _) ⟨rfl, p, rfl, by omega, HPL.out, hwl, HR.out⟩ (by show 3 * (s.size - (p + 1)) + 3 < m; omega) <;> rfl

theorem rw_back {w0 w W' : World} {s : ByteArray} {g bx base p p0 : Nat} {ops : List Nat} {ws : List S23} {out : List S45} {ins : Bool} (hw : RW w0 s g bx base w p ops p0 ws out ins) (hgx : g < bx) (a b : Nat) (x y : Int) (hy : y = (p : Int)) : RW w0 s g bx base ((((w.drewN a).setCell ⟨g, 1, none⟩ (.int .i64 x)).drewN b).setCell ⟨g, 1, none⟩ (.int .i64 y)) p ops p0 ws out ins := by
  subst hy
  obtain ⟨⟨bl, el, hr, hi, hj⟩, hbox, hbg, hle, hwl, htl, hol, hopl⟩ := hw
  have hB : Bg base g w0 ((((w.drewN a).setCell ⟨g, 1, none⟩ (.int .i64 x)).drewN b).setCell ⟨g, 1, none⟩ (.int .i64 (p : Int))) := by
    have := (⟨pw_below_drewN hbg.b a, fun i h1 h2 => hbg.k i h1 h2⟩ : Bg base g w0 (w.drewN a)).set 1 (.int .i64 x)
    exact (⟨pw_below_drewN this.b b, fun i h1 h2 => this.k i h1 h2⟩ : Bg base g w0 (((w.drewN a).setCell ⟨g, 1, none⟩ (.int .i64 x)).drewN b)).set 1 _
  exact ⟨⟨bl, el, (((hr.drewN a).pos x).drewN b).pos _, hi, hj⟩, blk_far (p := ⟨g, 1, none⟩) (blk_drewN (blk_far (p := ⟨g, 1, none⟩) (blk_drewN hbox a) (by show bx ≠ g; omega) _) b) (by show bx ≠ g; omega) _, hB, hle, hwl, htl, hol, hopl⟩
theorem bare_go (w0 : World) (s : ByteArray) (R : Res) (g bx base : Nat) (hs : s.size ≤ 262144) (hgb : g < base) (hbx : bx < base) (hgx : g < bx) (m : Nat) (u : Nat → Value) (w : World) (p f : Nat) (ops : List Nat) (p0 : Nat) (ws : List S23) (out : List S45) (hw0 : RW w0 s g bx base w p ops p0 ws out true) (hfp : f ≤ p) (hpl : pl (bytesOf s) p = ((pl (bytesOf s) f).1, (pl (bytesOf s) f).2 + ((p - f : Nat) : Int))) (hwf : ws.length ≤ f) (hm : 3 * (s.size - p) < m) (hp : p < s.size) (hns : specB (bt s (p : Int)) = false) (hR : R = sp5 s f p ops p0 ws out) :
    ∀ r, At1 Try.f25 5 r → r.wp Try.prog (Out w0 s R g bx base m) { tmps := Fr g bx (.int .i64 (f : Int)) u, defers := [] } w := by
  by_cases h92 : bt s (p : Int) = 92
  · by_cases hl : p + 1 < s.size
    · by_cases hn : bt s ((p + 1 : Nat) : Int) = 10
      · exact bare_nl2 w0 s R g bx base hs hgb hbx hgx m u w f p ops p0 ws out hw0 hfp hpl hwf hm hp hns h92 hl hn hR
      · exact bare_two w0 s R g bx base hs hgb hbx hgx m u w f p ops p0 ws out hw0 hfp hpl hwf hm hp hns h92 hl hn hR
    · exact bare_last w0 s R g bx base hs hgb hbx hgx m u w f p ops p0 ws out hw0 hfp hpl hwf hm hp hns h92 (by omega) hR
  · exact bare_one w0 s R g bx base hs hgb hbx hgx m u w f p ops p0 ws out hw0 hfp hpl hwf hm hp hns h92 hR

set_option maxHeartbeats 8000000 in
set_option maxRecDepth 100000 in
theorem chain_bare (w0 : World) (s : ByteArray) (R : Res) (g bx base : Nat) (hs : s.size ≤ 262144) (hgb : g < base) (hbx : bx < base) (hgx : g < bx) (m : Nat) (u : Nat → Value) (v4 : Value) (w : World) (p : Nat) (ops : List Nat) (p0 : Nat) (ws : List S23) (out : List S45) (hw0 : RW w0 s g bx base w p ops p0 ws out true) (hm : 3 * (s.size - p) + 1 ≤ m) (hp : p < s.size) (hc : specB (bt s (p : Int)) = false) (hR : R = sp0 s p ops p0 ws out) :
    ∀ r, At2 Try.f25 0 r → r.wp Try.prog (Out w0 s R g bx base m) { tmps := Fr g bx v4 u, defers := [] } w := by
  obtain ⟨c0, c1, f1, hgl⟩ := hw0.cells
  have hw := hw0
  have he2 : ((p : Int) == (s.size : Int)) = false := beq_eq_false_iff_ne.2 (by omega)
  have hsb : (s.size : Int) ≤ 262144 := by omega
  have hx0 := bt_nat s p hp
  have i0 : (0 : Int) ≤ (p : Int) := by omega
  have i1 : (p : Int) < (s.size : Int) := by omega
  have hns := hc
  unfold specB at hns
  simp only [Bool.or_eq_false_iff, beq_eq_false_iff_ne] at hns
  obtain ⟨⟨⟨⟨⟨hb0, n0⟩, n1⟩, n2⟩, n3⟩, n4⟩ := hns
  have HBL := Aside0.mk ((tblank_f (bt s (p : Int))).trans (congrArg some hb0))
  have e0 : (bt s (p : Int) == 10) = false := beq_eq_false_iff_ne.2 n0
  have e1 : (bt s (p : Int) == 59) = false := beq_eq_false_iff_ne.2 n1
  have e2 : (bt s (p : Int) == 40) = false := beq_eq_false_iff_ne.2 n2
  have e3 : (bt s (p : Int) == 41) = false := beq_eq_false_iff_ne.2 n3
  have e4 : (bt s (p : Int) == 34) = false := beq_eq_false_iff_ne.2 n4
  have HW := Aside0.mk (fun (a b : Nat) (x y : Int) (hy : y = (p : Int)) => rw_back (W' := w) hw hgx a b x y hy)
  have HPL := Aside0.mk (show pl (bytesOf s) p = ((pl (bytesOf s) p).1, (pl (bytesOf s) p).2 + ((p - p : Nat) : Int)) by simp)
  have HR := Aside0.mk (hR.trans (sp0_bare hp hc))
  have HC := Aside0.mk hc
  have hwl := hw.wl
  clear hw0 hw hR hc hb0 n0 n1 n2 n3 n4
  refine find_wp2 rfl ?_
  unfold Fr
  go_wp2
  go_quiet (fail)
  go_wp2
  go_quiet (fail)
  go_wp2_with (first | (go_at_call 30; (with_reducible refine (token_blank.calls (bt s (p : Int)) _ _ HBL.out).mono ?_); rintro e_ w1 ⟨rfl, nd_, rfl⟩))
  rename_i K5 _ hK5
  go_step3
  refine hK5 _ _ ?_
  refine fr_lift (g := g) (bx := bx) (v4 := .int .i64 (p : Int)) ?_ ?_ ?_ ?_ ?_ (fun u' => wp_of_find1 (f := Try.f25) (l := 5) (a0 := .skip) rfl (bare_go w0 s R g bx base hs hgb hbx hgx m u' _ p p ops p0 ws out (HW.out _ _ _ _ (by omega)) (Nat.le_refl p) HPL.out hwl (by omega) hp HC.out HR.out)) <;> rfl

end Go.Proofs.Ytafminohaofjnaa.Print
