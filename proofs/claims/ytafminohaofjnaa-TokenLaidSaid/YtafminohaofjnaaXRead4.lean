/- The reader's walk from its labels 'remark' and 'bare'. -/
import Derived.Test.YtafminohaofjnaaXRead3
import Derived.Test.YtafminohaofjnaaF30
namespace Go.Proofs.Ytafminohaofjnaa.Print
set_option linter.unusedVariables false
set_option linter.unusedSimpArgs false
open Go.RowKit Go.Proofs.YtafminohaofjnaaW.PrintWords Go.Proofs.YtafminohaofjnaaW.PrintLast Go.Proofs.YtafminohaofjnaaW.PrintMore Go.Proofs.Ytafminohaofjnaa.Jumps
theorem tblank_f (c : Int) : token_blank.f c = some (blankB c) := by
  unfold token_blank.f blankB
  by_cases h1 : c = 32
  · subst h1; rfl
  · by_cases h2 : c = 9
    · subst h2; rfl
    · rw [if_neg h1, if_neg h2]
      simp [h1, h2]
/-- the code behind label l, without the mark itself -/
def At1 (f : Func) (l : Nat) (r : Code) : Prop := ∃ a, AtL f l (.seq a r)
theorem find_wp1 {f : Func} {l : Nat} {a0 lit : Code} {a : Act} {w : World} {Q : Exit → Act → World → Prop} (h : AtL f l (.seq a0 lit)) (H : lit.wp Try.prog Q a w) : ∀ r, At1 f l r → r.wp Try.prog Q a w := by
  rintro r ⟨a', hr⟩
  unfold AtL at h hr
  rw [h] at hr
  cases hr
  exact H
theorem at1_lift {f : Func} {l : Nat} {lit : Code} {a : Act} {w : World} {Q : Exit → Act → World → Prop} (h : AtL f l (.seq .skip lit)) (H : ∀ r, At1 f l r → r.wp Try.prog Q a w) : ∀ r, AtL f l r → r.wp Try.prog Q a w :=
  find_wp h (wp_seq (wp_skip (H lit ⟨_, h⟩)))
theorem RW.cells {w0 w : World} {s : ByteArray} {g bx base p p0 : Nat} {ops : List Nat} {ws : List S23} {out : List S45} {ins : Bool} (hw : RW w0 s g bx base w p ops p0 ws out ins) :
    w.cell? ⟨g, 0, none⟩ = some (.string s) ∧ w.cell? ⟨g, 1, none⟩ = some (.int .i64 (p : Int)) ∧ w.frozen? ⟨g, 1, none⟩ = false ∧ g < w.heap.size := by
  obtain ⟨⟨bl, el, hr, hi, hj⟩, _⟩ := hw
  obtain ⟨vo, vw, vt, hb, hO, hW, hT⟩ := hr.st
  exact ⟨(blk_cell hb 0).trans rfl, (blk_cell hb 1).trans rfl, blk_frozen hb 1, blk_lt hb⟩

set_option maxHeartbeats 4000000 in
set_option maxRecDepth 100000 in
theorem remark_wp (w0 : World) (s : ByteArray) (R : Res) (g bx base : Nat) (hs : s.size ≤ 262144) (hgb : g < base) (hbx : bx < base) (hgx : g < bx) (m : Nat) (u : Nat → Value) (v4 : Value) (w : World) (p : Nat) (ops : List Nat) (p0 : Nat) (ws : List S23) (out : List S45) (hw0 : RW w0 s g bx base w p ops p0 ws out true) (hm : 3 * (s.size - p) + 2 ≤ m) (hR : R = sp2 s p ops p0 ws out) :
    ∀ r, AtL Try.f25 2 r → r.wp Try.prog (Out w0 s R g bx base m) { tmps := Fr g bx v4 u, defers := [] } w := by
  have hsb : (s.size : Int) ≤ 262144 := by omega
  have HR := Aside0.mk hR
  have HW := Aside0.mk hw0
  clear hR hw0
  refine find_wp rfl ?_
  unfold Fr
  go_wp2
  go_loopg [] (s.size - p) (fun kq wr => ∃ q : Nat, kq = s.size - q ∧ p ≤ q ∧ Aside0 (RW w0 s g bx base wr q ops p0 ws out true) ∧ Aside0 (R = sp2 s q ops p0 ws out))
  case atStart => exact ⟨p, rfl, Nat.le_refl _, HW, HR⟩
  case round =>
    clear HW HR
    obtain ⟨q, hk, hpq, HW, HR⟩ := hrel
    have HK := Aside0.mk hk
    clear hk
    obtain ⟨c0, c1, f1, hgl⟩ := HW.out.cells
    have hle := HW.out.le
    by_cases hq : q < s.size
    · have hx0 := bt_nat s q hq
      have i0 : (0 : Int) ≤ (q : Int) := by omega
      have i1 : (q : Int) < (s.size : Int) := by omega
      have he : decide ((q : Int) < (s.size : Int)) = true := decide_eq_true i1
      by_cases hc : bt s (q : Int) = 10
      · have hcb : (bt s (q : Int) != 10) = false := bne_eq_false_iff_eq.2 hc
        have HR2 := Aside0.mk (HR.out.trans (sp2_end (fun _ => hc)))
        clear hc HR
        go_wp2
        go_quiet (fail)
        go_wp2
        go_step3
        refine jump_mk (l := 0) (v4 := v4) ?_ ?_ ?_ ?_ ?_ (HW.out.drewN _) HR2.out (by show 3 * (s.size - q) + 1 < m; omega) <;> rfl
      · have hcb : (bt s (q : Int) != 10) = true := bne_iff_ne.2 hc
        have HR2 := Aside0.mk (HR.out.trans (sp2_one hq hc))
        have HW2 := Aside0.mk (fun a : Nat => (HW.out.drewN a).adv hq hc hgx (x := (q : Int) + 1) (by omega))
        clear hc HR
        go_wp2
        go_quiet (fail)
        go_wp2
        go_roundg (s.size - (q + 1))
        case measure => have := HK.out; omega
        case rel => exact ⟨q + 1, rfl, by omega, ⟨HW2.out _⟩, HR2⟩
    · have he : decide ((q : Int) < (s.size : Int)) = false := decide_eq_false (by omega)
      have HR2 := Aside0.mk (HR.out.trans (sp2_end (fun h => absurd h hq)))
      clear HR
      go_wp2
      go_quiet (fail)
      go_wp2
      go_step3
      refine jump_mk (l := 0) (v4 := v4) ?_ ?_ ?_ ?_ ?_ (HW.out.drewN _) HR2.out (by show 3 * (s.size - q) + 1 < m; omega) <;> rfl

set_option maxHeartbeats 4000000 in
set_option maxRecDepth 100000 in
theorem bare_eof (w0 : World) (s : ByteArray) (R : Res) (g bx base : Nat) (hs : s.size ≤ 262144) (hgb : g < base) (hbx : bx < base) (hgx : g < bx) (m : Nat) (u : Nat → Value) (w : World) (f p : Nat) (ops : List Nat) (p0 : Nat) (ws : List S23) (out : List S45) (hw0 : RW w0 s g bx base w p ops p0 ws out true) (hfp : f < p) (hpl : pl (bytesOf s) p = ((pl (bytesOf s) f).1, (pl (bytesOf s) f).2 + ((p - f : Nat) : Int))) (hwf : ws.length ≤ f) (hm : 3 * (s.size - p) + 2 < m) (hp : s.size ≤ p) (hR : R = sp5 s f p ops p0 ws out) :
    ∀ r, At1 Try.f25 5 r → r.wp Try.prog (Out w0 s R g bx base m) { tmps := Fr g bx (.int .i64 (f : Int)) u, defers := [] } w := by
  obtain ⟨c0, c1, f1, hgl⟩ := hw0.cells
  have hle := hw0.le
  have he : ((p : Int) == (s.size : Int)) = true := beq_iff_eq.2 (by omega)
  have hsb : (s.size : Int) ≤ 262144 := by omega
  have HR := Aside0.mk (hR.trans (sp5_stop (fun h => by omega)))
  have HW := Aside0.mk hw0
  have HPL := Aside0.mk hpl
  clear hR hw0 hpl
  refine find_wp1 rfl ?_
  unfold Fr
  go_wp2
  go_quiet (fail)
  go_wp2
  go_step3
  refine jump_mk (l := 4) (v4 := .int .i64 (f : Int)) ?_ ?_ ?_ ?_ ?_ (HW.out.drewN _) ⟨rfl, f, rfl, hfp, HPL.out, hwf, HR.out⟩ hm <;> rfl

set_option maxHeartbeats 4000000 in
set_option maxRecDepth 100000 in
theorem bare_stop0 (w0 : World) (s : ByteArray) (R : Res) (g bx base : Nat) (hs : s.size ≤ 262144) (hgb : g < base) (hbx : bx < base) (hgx : g < bx) (m : Nat) (u : Nat → Value) (w : World) (f p : Nat) (ops : List Nat) (p0 : Nat) (ws : List S23) (out : List S45) (hw0 : RW w0 s g bx base w p ops p0 ws out true) (hfp : f < p) (hpl : pl (bytesOf s) p = ((pl (bytesOf s) f).1, (pl (bytesOf s) f).2 + ((p - f : Nat) : Int))) (hwf : ws.length ≤ f) (hm : 3 * (s.size - p) + 2 < m) (hp : p < s.size) (hc : blankB (bt s (p : Int)) = true) (hR : R = sp5 s f p ops p0 ws out) :
    ∀ r, At1 Try.f25 5 r → r.wp Try.prog (Out w0 s R g bx base m) { tmps := Fr g bx (.int .i64 (f : Int)) u, defers := [] } w := by
  obtain ⟨c0, c1, f1, hgl⟩ := hw0.cells
  have hw := hw0
  have he : ((p : Int) == (s.size : Int)) = false := beq_eq_false_iff_ne.2 (by omega)
  have hx0 := bt_nat s p hp
  have i0 : (0 : Int) ≤ (p : Int) := by omega
  have i1 : (p : Int) < (s.size : Int) := by omega
  have hsb : (s.size : Int) ≤ 262144 := by omega
  have HBL := Aside0.mk ((tblank_f (bt s (p : Int))).trans (congrArg some hc))
  have hsp : specB (bt s (p : Int)) = true := by unfold specB; rw [hc]; rfl
  have HR := Aside0.mk (hR.trans (sp5_stop (fun _ => hsp)))
  have HW := Aside0.mk hw0
  have HPL := Aside0.mk hpl
  clear hR hw0 hw hpl hsp hc
  refine find_wp1 rfl ?_
  unfold Fr
  go_wp2
  go_quiet (fail)
  go_wp2
  go_quiet (fail)
  go_wp2_with (go_at_call 30; (with_reducible refine (token_blank.calls (bt s (p : Int)) _ _ HBL.out).mono ?_); rintro e_ w1 ⟨rfl, nd_, rfl⟩)
  go_step3
  refine jump_mk (l := 4) (v4 := .int .i64 (f : Int)) ?_ ?_ ?_ ?_ ?_ (HW.out.drewN _) ⟨rfl, f, rfl, hfp, HPL.out, hwf, HR.out⟩ hm <;> rfl

set_option maxHeartbeats 4000000 in
set_option maxRecDepth 100000 in
theorem bare_stop1 (w0 : World) (s : ByteArray) (R : Res) (g bx base : Nat) (hs : s.size ≤ 262144) (hgb : g < base) (hbx : bx < base) (hgx : g < bx) (m : Nat) (u : Nat → Value) (w : World) (f p : Nat) (ops : List Nat) (p0 : Nat) (ws : List S23) (out : List S45) (hw0 : RW w0 s g bx base w p ops p0 ws out true) (hfp : f < p) (hpl : pl (bytesOf s) p = ((pl (bytesOf s) f).1, (pl (bytesOf s) f).2 + ((p - f : Nat) : Int))) (hwf : ws.length ≤ f) (hm : 3 * (s.size - p) + 2 < m) (hp : p < s.size) (hc : bt s (p : Int) = 10) (hR : R = sp5 s f p ops p0 ws out) :
    ∀ r, At1 Try.f25 5 r → r.wp Try.prog (Out w0 s R g bx base m) { tmps := Fr g bx (.int .i64 (f : Int)) u, defers := [] } w := by
  obtain ⟨c0, c1, f1, hgl⟩ := hw0.cells
  have hw := hw0
  have he : ((p : Int) == (s.size : Int)) = false := beq_eq_false_iff_ne.2 (by omega)
  have hx0 := bt_nat s p hp
  have i0 : (0 : Int) ≤ (p : Int) := by omega
  have i1 : (p : Int) < (s.size : Int) := by omega
  have hsb : (s.size : Int) ≤ 262144 := by omega
  have HBL : Aside0 (token_blank.f (bt s (p : Int)) = some false) := ⟨by rw [tblank_f, hc]; rfl⟩
  have hsp : specB (bt s (p : Int)) = true := by rw [hc]; rfl
  have e0 : (bt s (p : Int) == 10) = true := beq_iff_eq.2 hc
  have HR := Aside0.mk (hR.trans (sp5_stop (fun _ => hsp)))
  have HW := Aside0.mk hw0
  have HPL := Aside0.mk hpl
  clear hR hw0 hw hpl hsp hc
  refine find_wp1 rfl ?_
  unfold Fr
  go_wp2
  go_quiet (fail)
  go_wp2
  go_quiet (fail)
  go_wp2_with (go_at_call 30; (with_reducible refine (token_blank.calls (bt s (p : Int)) _ _ HBL.out).mono ?_); rintro e_ w1 ⟨rfl, nd_, rfl⟩)
  go_step3
  refine jump_mk (l := 4) (v4 := .int .i64 (f : Int)) ?_ ?_ ?_ ?_ ?_ (HW.out.drewN _) ⟨rfl, f, rfl, hfp, HPL.out, hwf, HR.out⟩ hm <;> rfl

set_option maxHeartbeats 4000000 in
set_option maxRecDepth 100000 in
theorem bare_stop2 (w0 : World) (s : ByteArray) (R : Res) (g bx base : Nat) (hs : s.size ≤ 262144) (hgb : g < base) (hbx : bx < base) (hgx : g < bx) (m : Nat) (u : Nat → Value) (w : World) (f p : Nat) (ops : List Nat) (p0 : Nat) (ws : List S23) (out : List S45) (hw0 : RW w0 s g bx base w p ops p0 ws out true) (hfp : f < p) (hpl : pl (bytesOf s) p = ((pl (bytesOf s) f).1, (pl (bytesOf s) f).2 + ((p - f : Nat) : Int))) (hwf : ws.length ≤ f) (hm : 3 * (s.size - p) + 2 < m) (hp : p < s.size) (hc : bt s (p : Int) = 59) (hR : R = sp5 s f p ops p0 ws out) :
    ∀ r, At1 Try.f25 5 r → r.wp Try.prog (Out w0 s R g bx base m) { tmps := Fr g bx (.int .i64 (f : Int)) u, defers := [] } w := by
  obtain ⟨c0, c1, f1, hgl⟩ := hw0.cells
  have hw := hw0
  have he : ((p : Int) == (s.size : Int)) = false := beq_eq_false_iff_ne.2 (by omega)
  have hx0 := bt_nat s p hp
  have i0 : (0 : Int) ≤ (p : Int) := by omega
  have i1 : (p : Int) < (s.size : Int) := by omega
  have hsb : (s.size : Int) ≤ 262144 := by omega
  have HBL : Aside0 (token_blank.f (bt s (p : Int)) = some false) := ⟨by rw [tblank_f, hc]; rfl⟩
  have hsp : specB (bt s (p : Int)) = true := by rw [hc]; rfl
  have e0 : (bt s (p : Int) == 10) = false := beq_eq_false_iff_ne.2 (by omega)
  have e1 : (bt s (p : Int) == 59) = true := beq_iff_eq.2 hc
  have HR := Aside0.mk (hR.trans (sp5_stop (fun _ => hsp)))
  have HW := Aside0.mk hw0
  have HPL := Aside0.mk hpl
  clear hR hw0 hw hpl hsp hc
  refine find_wp1 rfl ?_
  unfold Fr
  go_wp2
  go_quiet (fail)
  go_wp2
  go_quiet (fail)
  go_wp2_with (go_at_call 30; (with_reducible refine (token_blank.calls (bt s (p : Int)) _ _ HBL.out).mono ?_); rintro e_ w1 ⟨rfl, nd_, rfl⟩)
  go_step3
  refine jump_mk (l := 4) (v4 := .int .i64 (f : Int)) ?_ ?_ ?_ ?_ ?_ (HW.out.drewN _) ⟨rfl, f, rfl, hfp, HPL.out, hwf, HR.out⟩ hm <;> rfl

set_option maxHeartbeats 4000000 in
set_option maxRecDepth 100000 in
theorem bare_stop3 (w0 : World) (s : ByteArray) (R : Res) (g bx base : Nat) (hs : s.size ≤ 262144) (hgb : g < base) (hbx : bx < base) (hgx : g < bx) (m : Nat) (u : Nat → Value) (w : World) (f p : Nat) (ops : List Nat) (p0 : Nat) (ws : List S23) (out : List S45) (hw0 : RW w0 s g bx base w p ops p0 ws out true) (hfp : f < p) (hpl : pl (bytesOf s) p = ((pl (bytesOf s) f).1, (pl (bytesOf s) f).2 + ((p - f : Nat) : Int))) (hwf : ws.length ≤ f) (hm : 3 * (s.size - p) + 2 < m) (hp : p < s.size) (hc : bt s (p : Int) = 40) (hR : R = sp5 s f p ops p0 ws out) :
    ∀ r, At1 Try.f25 5 r → r.wp Try.prog (Out w0 s R g bx base m) { tmps := Fr g bx (.int .i64 (f : Int)) u, defers := [] } w := by
  obtain ⟨c0, c1, f1, hgl⟩ := hw0.cells
  have hw := hw0
  have he : ((p : Int) == (s.size : Int)) = false := beq_eq_false_iff_ne.2 (by omega)
  have hx0 := bt_nat s p hp
  have i0 : (0 : Int) ≤ (p : Int) := by omega
  have i1 : (p : Int) < (s.size : Int) := by omega
  have hsb : (s.size : Int) ≤ 262144 := by omega
  have HBL : Aside0 (token_blank.f (bt s (p : Int)) = some false) := ⟨by rw [tblank_f, hc]; rfl⟩
  have hsp : specB (bt s (p : Int)) = true := by rw [hc]; rfl
  have e0 : (bt s (p : Int) == 10) = false := beq_eq_false_iff_ne.2 (by omega)
  have e1 : (bt s (p : Int) == 59) = false := beq_eq_false_iff_ne.2 (by omega)
  have e2 : (bt s (p : Int) == 40) = true := beq_iff_eq.2 hc
  have HR := Aside0.mk (hR.trans (sp5_stop (fun _ => hsp)))
  have HW := Aside0.mk hw0
  have HPL := Aside0.mk hpl
  clear hR hw0 hw hpl hsp hc
  refine find_wp1 rfl ?_
  unfold Fr
  go_wp2
  go_quiet (fail)
  go_wp2
  go_quiet (fail)
  go_wp2_with (go_at_call 30; (with_reducible refine (token_blank.calls (bt s (p : Int)) _ _ HBL.out).mono ?_); rintro e_ w1 ⟨rfl, nd_, rfl⟩)
  go_step3
  refine jump_mk (l := 4) (v4 := .int .i64 (f : Int)) ?_ ?_ ?_ ?_ ?_ (HW.out.drewN _) ⟨rfl, f, rfl, hfp, HPL.out, hwf, HR.out⟩ hm <;> rfl

set_option maxHeartbeats 4000000 in
set_option maxRecDepth 100000 in
theorem bare_stop4 (w0 : World) (s : ByteArray) (R : Res) (g bx base : Nat) (hs : s.size ≤ 262144) (hgb : g < base) (hbx : bx < base) (hgx : g < bx) (m : Nat) (u : Nat → Value) (w : World) (f p : Nat) (ops : List Nat) (p0 : Nat) (ws : List S23) (out : List S45) (hw0 : RW w0 s g bx base w p ops p0 ws out true) (hfp : f < p) (hpl : pl (bytesOf s) p = ((pl (bytesOf s) f).1, (pl (bytesOf s) f).2 + ((p - f : Nat) : Int))) (hwf : ws.length ≤ f) (hm : 3 * (s.size - p) + 2 < m) (hp : p < s.size) (hc : bt s (p : Int) = 41) (hR : R = sp5 s f p ops p0 ws out) :
    ∀ r, At1 Try.f25 5 r → r.wp Try.prog (Out w0 s R g bx base m) { tmps := Fr g bx (.int .i64 (f : Int)) u, defers := [] } w := by
  obtain ⟨c0, c1, f1, hgl⟩ := hw0.cells
  have hw := hw0
  have he : ((p : Int) == (s.size : Int)) = false := beq_eq_false_iff_ne.2 (by omega)
  have hx0 := bt_nat s p hp
  have i0 : (0 : Int) ≤ (p : Int) := by omega
  have i1 : (p : Int) < (s.size : Int) := by omega
  have hsb : (s.size : Int) ≤ 262144 := by omega
  have HBL : Aside0 (token_blank.f (bt s (p : Int)) = some false) := ⟨by rw [tblank_f, hc]; rfl⟩
  have hsp : specB (bt s (p : Int)) = true := by rw [hc]; rfl
  have e0 : (bt s (p : Int) == 10) = false := beq_eq_false_iff_ne.2 (by omega)
  have e1 : (bt s (p : Int) == 59) = false := beq_eq_false_iff_ne.2 (by omega)
  have e2 : (bt s (p : Int) == 40) = false := beq_eq_false_iff_ne.2 (by omega)
  have e3 : (bt s (p : Int) == 41) = true := beq_iff_eq.2 hc
  have HR := Aside0.mk (hR.trans (sp5_stop (fun _ => hsp)))
  have HW := Aside0.mk hw0
  have HPL := Aside0.mk hpl
  clear hR hw0 hw hpl hsp hc
  refine find_wp1 rfl ?_
  unfold Fr
  go_wp2
  go_quiet (fail)
  go_wp2
  go_quiet (fail)
  go_wp2_with (go_at_call 30; (with_reducible refine (token_blank.calls (bt s (p : Int)) _ _ HBL.out).mono ?_); rintro e_ w1 ⟨rfl, nd_, rfl⟩)
  go_step3
  refine jump_mk (l := 4) (v4 := .int .i64 (f : Int)) ?_ ?_ ?_ ?_ ?_ (HW.out.drewN _) ⟨rfl, f, rfl, hfp, HPL.out, hwf, HR.out⟩ hm <;> rfl

set_option maxHeartbeats 4000000 in
set_option maxRecDepth 100000 in
theorem bare_stop5 (w0 : World) (s : ByteArray) (R : Res) (g bx base : Nat) (hs : s.size ≤ 262144) (hgb : g < base) (hbx : bx < base) (hgx : g < bx) (m : Nat) (u : Nat → Value) (w : World) (f p : Nat) (ops : List Nat) (p0 : Nat) (ws : List S23) (out : List S45) (hw0 : RW w0 s g bx base w p ops p0 ws out true) (hfp : f < p) (hpl : pl (bytesOf s) p = ((pl (bytesOf s) f).1, (pl (bytesOf s) f).2 + ((p - f : Nat) : Int))) (hwf : ws.length ≤ f) (hm : 3 * (s.size - p) + 2 < m) (hp : p < s.size) (hc : bt s (p : Int) = 34) (hR : R = sp5 s f p ops p0 ws out) :
    ∀ r, At1 Try.f25 5 r → r.wp Try.prog (Out w0 s R g bx base m) { tmps := Fr g bx (.int .i64 (f : Int)) u, defers := [] } w := by
  obtain ⟨c0, c1, f1, hgl⟩ := hw0.cells
  have hw := hw0
  have he : ((p : Int) == (s.size : Int)) = false := beq_eq_false_iff_ne.2 (by omega)
  have hx0 := bt_nat s p hp
  have i0 : (0 : Int) ≤ (p : Int) := by omega
  have i1 : (p : Int) < (s.size : Int) := by omega
  have hsb : (s.size : Int) ≤ 262144 := by omega
  have HBL : Aside0 (token_blank.f (bt s (p : Int)) = some false) := ⟨by rw [tblank_f, hc]; rfl⟩
  have hsp : specB (bt s (p : Int)) = true := by rw [hc]; rfl
  have e0 : (bt s (p : Int) == 10) = false := beq_eq_false_iff_ne.2 (by omega)
  have e1 : (bt s (p : Int) == 59) = false := beq_eq_false_iff_ne.2 (by omega)
  have e2 : (bt s (p : Int) == 40) = false := beq_eq_false_iff_ne.2 (by omega)
  have e3 : (bt s (p : Int) == 41) = false := beq_eq_false_iff_ne.2 (by omega)
  have e4 : (bt s (p : Int) == 34) = true := beq_iff_eq.2 hc
  have HR := Aside0.mk (hR.trans (sp5_stop (fun _ => hsp)))
  have HW := Aside0.mk hw0
  have HPL := Aside0.mk hpl
  clear hR hw0 hw hpl hsp hc
  refine find_wp1 rfl ?_
  unfold Fr
  go_wp2
  go_quiet (fail)
  go_wp2
  go_quiet (fail)
  go_wp2_with (go_at_call 30; (with_reducible refine (token_blank.calls (bt s (p : Int)) _ _ HBL.out).mono ?_); rintro e_ w1 ⟨rfl, nd_, rfl⟩)
  go_step3
  refine jump_mk (l := 4) (v4 := .int .i64 (f : Int)) ?_ ?_ ?_ ?_ ?_ (HW.out.drewN _) ⟨rfl, f, rfl, hfp, HPL.out, hwf, HR.out⟩ hm <;> rfl

set_option maxHeartbeats 4000000 in
set_option maxRecDepth 100000 in
theorem bare_one (w0 : World) (s : ByteArray) (R : Res) (g bx base : Nat) (hs : s.size ≤ 262144) (hgb : g < base) (hbx : bx < base) (hgx : g < bx) (m : Nat) (u : Nat → Value) (w : World) (f p : Nat) (ops : List Nat) (p0 : Nat) (ws : List S23) (out : List S45) (hw0 : RW w0 s g bx base w p ops p0 ws out true) (hfp : f ≤ p) (hpl : pl (bytesOf s) p = ((pl (bytesOf s) f).1, (pl (bytesOf s) f).2 + ((p - f : Nat) : Int))) (hwf : ws.length ≤ f) (hm : 3 * (s.size - p) < m) (hp : p < s.size) (hns : specB (bt s (p : Int)) = false) (h92' : bt s (p : Int) ≠ 92) (hR : R = sp5 s f p ops p0 ws out) :
    ∀ r, At1 Try.f25 5 r → r.wp Try.prog (Out w0 s R g bx base m) { tmps := Fr g bx (.int .i64 (f : Int)) u, defers := [] } w := by
  obtain ⟨c0, c1, f1, hgl⟩ := hw0.cells
  have hw := hw0
  have he : ((p : Int) == (s.size : Int)) = false := beq_eq_false_iff_ne.2 (by omega)
  have hx0 := bt_nat s p hp
  have i0 : (0 : Int) ≤ (p : Int) := by omega
  have i1 : (p : Int) < (s.size : Int) := by omega
  have hsb : (s.size : Int) ≤ 262144 := by omega
  have hns' := hns
  unfold specB at hns'
  simp only [Bool.or_eq_false_iff, beq_eq_false_iff_ne] at hns'
  obtain ⟨⟨⟨⟨⟨hb0, n0⟩, n1⟩, n2⟩, n3⟩, n4⟩ := hns'
  have HBL := Aside0.mk ((tblank_f (bt s (p : Int))).trans (congrArg some hb0))
  have h10' := n0
  have e0 : (bt s (p : Int) == 10) = false := beq_eq_false_iff_ne.2 n0
  have e1 : (bt s (p : Int) == 59) = false := beq_eq_false_iff_ne.2 n1
  have e2 : (bt s (p : Int) == 40) = false := beq_eq_false_iff_ne.2 n2
  have e3 : (bt s (p : Int) == 41) = false := beq_eq_false_iff_ne.2 n3
  have e4 : (bt s (p : Int) == 34) = false := beq_eq_false_iff_ne.2 n4
  have h92 : (bt s (p : Int) == 92) = false := beq_eq_false_iff_ne.2 h92'
  have HR := Aside0.mk (hR.trans (sp5_one hp hns (fun h => absurd h h92')))
  have HW := Aside0.mk (fun a : Nat => (hw.drewN a).adv hp h10' hgx (x := (p : Int) + 1) (by omega))
  have HPL := Aside0.mk (show pl (bytesOf s) (p + 1) = ((pl (bytesOf s) f).1, (pl (bytesOf s) f).2 + ((p + 1 - f : Nat) : Int)) by rw [pl_go hp h10', hpl]; simp only; congr 1; omega)
  clear hR hw0 hw hpl hns hb0 n0 n1 n2 n3 n4 h10' h92'
  refine find_wp1 rfl ?_
  unfold Fr
  go_wp2
  go_quiet (fail)
  go_wp2
  go_quiet (fail)
  go_wp2_with (go_at_call 30; (with_reducible refine (token_blank.calls (bt s (p : Int)) _ _ HBL.out).mono ?_); rintro e_ w1 ⟨rfl, nd_, rfl⟩)
  go_quiet (fail)
  go_wp2
  go_step3
  refine jump_mk (l := 5) (v4 := .int .i64 (f : Int)) ?_ ?_ ?_ ?_ ?_ (HW.out _) ⟨rfl, f, rfl, by omega, HPL.out, hwf, HR.out⟩ (by show 3 * (s.size - (p + 1)) + 3 < m + 3 - 3; omega) <;> rfl

set_option maxHeartbeats 4000000 in
set_option maxRecDepth 100000 in
theorem bare_last (w0 : World) (s : ByteArray) (R : Res) (g bx base : Nat) (hs : s.size ≤ 262144) (hgb : g < base) (hbx : bx < base) (hgx : g < bx) (m : Nat) (u : Nat → Value) (w : World) (f p : Nat) (ops : List Nat) (p0 : Nat) (ws : List S23) (out : List S45) (hw0 : RW w0 s g bx base w p ops p0 ws out true) (hfp : f ≤ p) (hpl : pl (bytesOf s) p = ((pl (bytesOf s) f).1, (pl (bytesOf s) f).2 + ((p - f : Nat) : Int))) (hwf : ws.length ≤ f) (hm : 3 * (s.size - p) < m) (hp : p < s.size) (hns : specB (bt s (p : Int)) = false) (h92' : bt s (p : Int) = 92) (hlast : p + 1 = s.size) (hR : R = sp5 s f p ops p0 ws out) :
    ∀ r, At1 Try.f25 5 r → r.wp Try.prog (Out w0 s R g bx base m) { tmps := Fr g bx (.int .i64 (f : Int)) u, defers := [] } w := by
  obtain ⟨c0, c1, f1, hgl⟩ := hw0.cells
  have hw := hw0
  have he : ((p : Int) == (s.size : Int)) = false := beq_eq_false_iff_ne.2 (by omega)
  have hx0 := bt_nat s p hp
  have i0 : (0 : Int) ≤ (p : Int) := by omega
  have i1 : (p : Int) < (s.size : Int) := by omega
  have hsb : (s.size : Int) ≤ 262144 := by omega
  have hns' := hns
  unfold specB at hns'
  simp only [Bool.or_eq_false_iff, beq_eq_false_iff_ne] at hns'
  obtain ⟨⟨⟨⟨⟨hb0, n0⟩, n1⟩, n2⟩, n3⟩, n4⟩ := hns'
  have HBL := Aside0.mk ((tblank_f (bt s (p : Int))).trans (congrArg some hb0))
  have h10' := n0
  have e0 : (bt s (p : Int) == 10) = false := beq_eq_false_iff_ne.2 n0
  have e1 : (bt s (p : Int) == 59) = false := beq_eq_false_iff_ne.2 n1
  have e2 : (bt s (p : Int) == 40) = false := beq_eq_false_iff_ne.2 n2
  have e3 : (bt s (p : Int) == 41) = false := beq_eq_false_iff_ne.2 n3
  have e4 : (bt s (p : Int) == 34) = false := beq_eq_false_iff_ne.2 n4
  have h92 : (bt s (p : Int) == 92) = true := beq_iff_eq.2 h92'
  have hl1 : decide ((p : Int) + 1 < (s.size : Int)) = false := decide_eq_false (by omega)
  have HR := Aside0.mk (hR.trans (sp5_one hp hns (fun _ h => by omega)))
  have HW := Aside0.mk (fun a : Nat => (hw.drewN a).adv hp h10' hgx (x := (p : Int) + 1) (by omega))
  have HPL := Aside0.mk (show pl (bytesOf s) (p + 1) = ((pl (bytesOf s) f).1, (pl (bytesOf s) f).2 + ((p + 1 - f : Nat) : Int)) by rw [pl_go hp h10', hpl]; simp only; congr 1; omega)
  clear hR hw0 hw hpl hns hb0 n0 n1 n2 n3 n4 h10' h92' hlast
  refine find_wp1 rfl ?_
  unfold Fr
  go_wp2
  go_quiet (fail)
  go_wp2
  go_quiet (fail)
  go_wp2_with (go_at_call 30; (with_reducible refine (token_blank.calls (bt s (p : Int)) _ _ HBL.out).mono ?_); rintro e_ w1 ⟨rfl, nd_, rfl⟩)
  go_quiet (fail)
  go_wp2
  go_step3
  refine jump_mk (l := 5) (v4 := .int .i64 (f : Int)) ?_ ?_ ?_ ?_ ?_ (HW.out _) ⟨rfl, f, rfl, by omega, HPL.out, hwf, HR.out⟩ (by show 3 * (s.size - (p + 1)) + 3 < m + 3 - 3; omega) <;> rfl

set_option maxHeartbeats 4000000 in
set_option maxRecDepth 100000 in
theorem bare_nl2 (w0 : World) (s : ByteArray) (R : Res) (g bx base : Nat) (hs : s.size ≤ 262144) (hgb : g < base) (hbx : bx < base) (hgx : g < bx) (m : Nat) (u : Nat → Value) (w : World) (f p : Nat) (ops : List Nat) (p0 : Nat) (ws : List S23) (out : List S45) (hw0 : RW w0 s g bx base w p ops p0 ws out true) (hfp : f ≤ p) (hpl : pl (bytesOf s) p = ((pl (bytesOf s) f).1, (pl (bytesOf s) f).2 + ((p - f : Nat) : Int))) (hwf : ws.length ≤ f) (hm : 3 * (s.size - p) < m) (hp : p < s.size) (hns : specB (bt s (p : Int)) = false) (h92' : bt s (p : Int) = 92) (hp1 : p + 1 < s.size) (hn1 : bt s ((p + 1 : Nat) : Int) = 10) (hR : R = sp5 s f p ops p0 ws out) :
    ∀ r, At1 Try.f25 5 r → r.wp Try.prog (Out w0 s R g bx base m) { tmps := Fr g bx (.int .i64 (f : Int)) u, defers := [] } w := by
  obtain ⟨c0, c1, f1, hgl⟩ := hw0.cells
  have hw := hw0
  have he : ((p : Int) == (s.size : Int)) = false := beq_eq_false_iff_ne.2 (by omega)
  have hx0 := bt_nat s p hp
  have i0 : (0 : Int) ≤ (p : Int) := by omega
  have i1 : (p : Int) < (s.size : Int) := by omega
  have hsb : (s.size : Int) ≤ 262144 := by omega
  have hns' := hns
  unfold specB at hns'
  simp only [Bool.or_eq_false_iff, beq_eq_false_iff_ne] at hns'
  obtain ⟨⟨⟨⟨⟨hb0, n0⟩, n1⟩, n2⟩, n3⟩, n4⟩ := hns'
  have HBL := Aside0.mk ((tblank_f (bt s (p : Int))).trans (congrArg some hb0))
  have h10' := n0
  have e0 : (bt s (p : Int) == 10) = false := beq_eq_false_iff_ne.2 n0
  have e1 : (bt s (p : Int) == 59) = false := beq_eq_false_iff_ne.2 n1
  have e2 : (bt s (p : Int) == 40) = false := beq_eq_false_iff_ne.2 n2
  have e3 : (bt s (p : Int) == 41) = false := beq_eq_false_iff_ne.2 n3
  have e4 : (bt s (p : Int) == 34) = false := beq_eq_false_iff_ne.2 n4
  have h92 : (bt s (p : Int) == 92) = true := beq_iff_eq.2 h92'
  have hl1 : decide ((p : Int) + 1 < (s.size : Int)) = true := decide_eq_true (by omega)
  have i2 : (0 : Int) ≤ (p : Int) + 1 := by omega
  have i3 : (p : Int) + 1 < (s.size : Int) := by omega
  have hx1 := bt_nat s (p + 1) hp1
  have hn1b : (bt s ((p : Int) + 1) != 10) = false := bne_eq_false_iff_eq.2 hn1
  have HR := Aside0.mk (hR.trans (sp5_one hp hns (fun _ _ => hn1)))
  have HW := Aside0.mk (fun a : Nat => (hw.drewN a).adv hp h10' hgx (x := (p : Int) + 1) (by omega))
  have HPL := Aside0.mk (show pl (bytesOf s) (p + 1) = ((pl (bytesOf s) f).1, (pl (bytesOf s) f).2 + ((p + 1 - f : Nat) : Int)) by rw [pl_go hp h10', hpl]; simp only; congr 1; omega)
  clear hR hw0 hw hpl hns hb0 n0 n1 n2 n3 n4 h10' h92' hn1
  refine find_wp1 rfl ?_
  unfold Fr
  go_wp2
  go_quiet (fail)
  go_wp2
  go_quiet (fail)
  go_wp2_with (go_at_call 30; (with_reducible refine (token_blank.calls (bt s (p : Int)) _ _ HBL.out).mono ?_); rintro e_ w1 ⟨rfl, nd_, rfl⟩)
  go_quiet (fail)
  go_wp2
  go_step3
  refine jump_mk (l := 5) (v4 := .int .i64 (f : Int)) ?_ ?_ ?_ ?_ ?_ (HW.out _) ⟨rfl, f, rfl, by omega, HPL.out, hwf, HR.out⟩ (by show 3 * (s.size - (p + 1)) + 3 < m + 3 - 3; omega) <;> rfl

set_option maxHeartbeats 4000000 in
set_option maxRecDepth 100000 in
theorem bare_two (w0 : World) (s : ByteArray) (R : Res) (g bx base : Nat) (hs : s.size ≤ 262144) (hgb : g < base) (hbx : bx < base) (hgx : g < bx) (m : Nat) (u : Nat → Value) (w : World) (f p : Nat) (ops : List Nat) (p0 : Nat) (ws : List S23) (out : List S45) (hw0 : RW w0 s g bx base w p ops p0 ws out true) (hfp : f ≤ p) (hpl : pl (bytesOf s) p = ((pl (bytesOf s) f).1, (pl (bytesOf s) f).2 + ((p - f : Nat) : Int))) (hwf : ws.length ≤ f) (hm : 3 * (s.size - p) < m) (hp : p < s.size) (hns : specB (bt s (p : Int)) = false) (h92' : bt s (p : Int) = 92) (hp1 : p + 1 < s.size) (hn1 : bt s ((p + 1 : Nat) : Int) ≠ 10) (hR : R = sp5 s f p ops p0 ws out) :
    ∀ r, At1 Try.f25 5 r → r.wp Try.prog (Out w0 s R g bx base m) { tmps := Fr g bx (.int .i64 (f : Int)) u, defers := [] } w := by
  obtain ⟨c0, c1, f1, hgl⟩ := hw0.cells
  have hw := hw0
  have he : ((p : Int) == (s.size : Int)) = false := beq_eq_false_iff_ne.2 (by omega)
  have hx0 := bt_nat s p hp
  have i0 : (0 : Int) ≤ (p : Int) := by omega
  have i1 : (p : Int) < (s.size : Int) := by omega
  have hsb : (s.size : Int) ≤ 262144 := by omega
  have hns' := hns
  unfold specB at hns'
  simp only [Bool.or_eq_false_iff, beq_eq_false_iff_ne] at hns'
  obtain ⟨⟨⟨⟨⟨hb0, n0⟩, n1⟩, n2⟩, n3⟩, n4⟩ := hns'
  have HBL := Aside0.mk ((tblank_f (bt s (p : Int))).trans (congrArg some hb0))
  have h10' := n0
  have e0 : (bt s (p : Int) == 10) = false := beq_eq_false_iff_ne.2 n0
  have e1 : (bt s (p : Int) == 59) = false := beq_eq_false_iff_ne.2 n1
  have e2 : (bt s (p : Int) == 40) = false := beq_eq_false_iff_ne.2 n2
  have e3 : (bt s (p : Int) == 41) = false := beq_eq_false_iff_ne.2 n3
  have e4 : (bt s (p : Int) == 34) = false := beq_eq_false_iff_ne.2 n4
  have h92 : (bt s (p : Int) == 92) = true := beq_iff_eq.2 h92'
  have hl1 : decide ((p : Int) + 1 < (s.size : Int)) = true := decide_eq_true (by omega)
  have i2 : (0 : Int) ≤ (p : Int) + 1 := by omega
  have i3 : (p : Int) + 1 < (s.size : Int) := by omega
  have hx1 := bt_nat s (p + 1) hp1
  have hn1b : (bt s ((p : Int) + 1) != 10) = true := bne_iff_ne.2 hn1
  have HR := Aside0.mk (hR.trans (sp5_two hp h92' hp1 hn1))
  have HW := Aside0.mk (fun a : Nat => ((hw.drewN a).adv hp h10' hgx (x := (p : Int) + 1) (by omega)).adv hp1 hn1 hgx (x := (p : Int) + 1 + 1) (by omega))
  have HPL := Aside0.mk (show pl (bytesOf s) (p + 2) = ((pl (bytesOf s) f).1, (pl (bytesOf s) f).2 + ((p + 2 - f : Nat) : Int)) by rw [show p + 2 = p + 1 + 1 from rfl, pl_go hp1 hn1, pl_go hp h10', hpl]; simp only; congr 1; omega)
  clear hR hw0 hw hpl hns hb0 n0 n1 n2 n3 n4 h10' h92' hn1
  refine find_wp1 rfl ?_
  unfold Fr
  go_wp2
  go_quiet (fail)
  go_wp2
  go_quiet (fail)
  go_wp2_with (go_at_call 30; (with_reducible refine (token_blank.calls (bt s (p : Int)) _ _ HBL.out).mono ?_); rintro e_ w1 ⟨rfl, nd_, rfl⟩)
  go_quiet (fail)
  go_wp2
  go_step3
  refine jump_mk (l := 5) (v4 := .int .i64 (f : Int)) ?_ ?_ ?_ ?_ ?_ (HW.out _) ⟨rfl, f, rfl, by omega, HPL.out, hwf, HR.out⟩ (by show 3 * (s.size - (p + 2)) + 3 < m + 3 - 3; omega) <;> rfl

end Go.Proofs.Ytafminohaofjnaa.Print
