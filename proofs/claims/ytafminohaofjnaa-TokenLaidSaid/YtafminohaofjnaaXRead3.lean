/- The reader's walk from its labels 'end', 'word', 'quoted' and 'remark'. -/
import Derived.Test.YtafminohaofjnaaXRead2
namespace Go.Proofs.Ytafminohaofjnaa.Print
set_option linter.unusedVariables false
set_option linter.unusedSimpArgs false
open Go.RowKit Go.Proofs.YtafminohaofjnaaW.PrintWords Go.Proofs.YtafminohaofjnaaW.PrintLast Go.Proofs.YtafminohaofjnaaW.PrintMore Go.Proofs.Ytafminohaofjnaa.Jumps
/-- one byte further in the line -/
theorem RW.adv {w0 : World} {s : ByteArray} {g bx base : Nat} {w : World} {p : Nat} {ops : List Nat} {p0 : Nat} {ws : List S23} {out : List S45} (hw : RW w0 s g bx base w p ops p0 ws out true) (h : p < s.size) (hc : bt s (p : Int) ≠ 10) (hgx : g < bx) {x : Int} (hx : x = ((p + 1 : Nat) : Int)) :
    RW w0 s g bx base (w.setCell ⟨g, 1, none⟩ (.int .i64 x)) (p + 1) ops p0 ws out true := by
  subst hx
  obtain ⟨⟨bl, el, hr, hi, hj⟩, hbox, hbg, hle, hwl, htl, hol, hopl⟩ := hw
  obtain ⟨⟨vo, vw, vt, h1, h2, h3, h4⟩, hlt, hsz⟩ := hr
  have hpl := pl_go h hc
  refine ⟨⟨bl, el, ?_, fun _ => hi rfl, fun h => by cases h⟩, blk_far hbox (by show bx ≠ g; omega) _, hbg.set _ _, by omega, by omega, by omega, by omega, hopl⟩
  rw [hpl]
  have e : ((p + 1 : Nat) : Int) - ((pl (bytesOf s) p).2 + 1) + 1 = (p : Int) - (pl (bytesOf s) p).2 + 1 := by omega
  rw [e]
  exact RS.sets h2 h3 h4 hlt hsz ((KeepBut.refl w g none).set_ 1 _) ((blk_set h1 1 _).trans rfl)
theorem RS.drewN {W : World} {g base : Nat} {s : ByteArray} {p line b : Int} {op : List S30} {bl : Bool} {el : Int} {ws : List S23} {out : List S45} {ins : Bool} (h : RS W g base s p line b op bl el ws out ins) (n : Nat) : RS (W.drewN n) g base s p line b op bl el ws out ins := h.below (pw_below_drewN (Below.refl _ _) n)
theorem RW.drewN {w0 : World} {s : ByteArray} {g bx base : Nat} {w : World} {p : Nat} {ops : List Nat} {p0 : Nat} {ws : List S23} {out : List S45} {ins : Bool} (hw : RW w0 s g bx base w p ops p0 ws out ins) (n : Nat) : RW w0 s g bx base (w.drewN n) p ops p0 ws out ins := by
  obtain ⟨⟨bl, el, hr, hi, hj⟩, hbox, hbg, hle, hwl, htl, hol, hopl⟩ := hw
  exact ⟨⟨bl, el, hr.drewN n, hi, hj⟩, hbox, ⟨pw_below_drewN hbg.b n, fun i h1 h2 => hbg.k i h1 h2⟩, hle, hwl, htl, hol, hopl⟩
theorem closeL_eq {s : ByteArray} {p0 : Nat} {bl : Bool} {el : Int} {ws : List S23} {out : List S45} (h : ws ≠ [] → bl = blankB ((bytesOf s).getD p0 0) ∧ el = (pl (bytesOf s) p0).1) : closeL bl el ws out = closeE (bytesOf s) p0 ws out := by
  unfold closeL closeE entOf
  cases ws with
  | nil => rfl
  | cons a ws =>
    obtain ⟨rfl, rfl⟩ := h (by simp)
    rfl
/-- a spot is told: the box, and what stays -/
theorem box_set {w0 w : World} {base g bx : Nat} (hb : w.heap[bx]? = some (.cells #[.int .i64 0, .int .i64 0] 30 (0, 0))) (hg : Bg base g w0 w) (hgx : g < bx) (l c : Int) :
    ((w.setCell ⟨bx, 0, none⟩ (.int .i64 l)).setCell ⟨bx, 1, none⟩ (.int .i64 c)).heap[bx]? = some (.cells #[.int .i64 l, .int .i64 c] 30 (0, 0)) ∧ Below g w0 ((w.setCell ⟨bx, 0, none⟩ (.int .i64 l)).setCell ⟨bx, 1, none⟩ (.int .i64 c)) :=
  ⟨(blk_set (blk_set hb 0 _) 1 _).trans rfl, (hg.b.setCell (p := ⟨bx, 0, none⟩) (Nat.le_of_lt hgx) _).setCell (p := ⟨bx, 1, none⟩) (Nat.le_of_lt hgx) _⟩

set_option maxHeartbeats 4000000 in
set_option maxRecDepth 100000 in
theorem end_nil (w0 : World) (s : ByteArray) (R : Res) (g bx base : Nat) (hs : s.size ≤ 262144) (hgb : g < base) (hbx : bx < base) (hgx : g < bx) (m : Nat) (u : Nat → Value) (v4 : Value) (w : World) (p : Nat) (ops : List Nat) (p0 : Nat) (ws : List S23) (out : List S45) (ins : Bool) (hw : RW w0 s g bx base w p [] p0 ws out ins) (hp : s.size ≤ p) (hR : R = sp0 s p [] p0 ws out) :
    ∀ r, AtL Try.f25 1 r → r.wp Try.prog (Out w0 s R g bx base m) { tmps := Fr g bx v4 u, defers := [] } w := by
  obtain ⟨⟨bl, el, hr, hi, hj⟩, hbox, hbg, hle, hwl, htl, hol, hopl⟩ := hw
  rw [sp0_end hp] at hR
  simp only [List.head?_nil] at hR
  have hcl : closeL bl el ws out = closeE (bytesOf s) p0 ws out := closeL_eq (fun hne => by
    cases ins with
    | true => exact hi rfl
    | false => exact absurd (hj rfl).2.1 hne)
  have hcc := Aside0.mk (close_calls w g base s (p : Int) (pl (bytesOf s) p).1 ((p : Int) - (pl (bytesOf s) p).2 + 1) (spots s []) bl el ws out ins hr (by omega))
  obtain ⟨vo, vw, vt, hb, hO, hW, hT⟩ := hr.st
  obtain ⟨A4, n4, rfl⟩ := Kd.R_slice hO
  have c4 : w.cell? ⟨g, 4, none⟩ = some (.slice A4 0 n4) := (blk_cell hb 4).trans rfl
  have HR := Aside0.mk hR
  have HCL := Aside0.mk hcl
  have HBX := Aside0.mk hbox
  have HBG := Aside0.mk hbg
  clear hr hi hj hR hbox hbg hb hO hW hT hcl
  refine find_wp rfl ?_
  unfold Fr
  go_wp2_with (go_at_call 34; (with_reducible refine (hcc.out).mono ?_); rintro e_ w1 ⟨rfl, hr1, hb1⟩; have HR1 := Aside0.mk hr1; have HB1 := Aside0.mk hb1; have HBX1 := Aside0.mk ((hb1.k bx hbx (by omega)).trans HBX.out); have hbl : bx < w1.heap.size := blk_lt HBX1.out; have bf0 := blk_frozen HBX1.out 0; have bf1 := blk_frozen HBX1.out 1; have b0 : w1.cell? ⟨bx, 0, none⟩ = some (.int .i64 0) := (blk_cell HBX1.out 0).trans rfl; have b1 : w1.cell? ⟨bx, 1, none⟩ = some (.int .i64 0) := (blk_cell HBX1.out 1).trans rfl; clear hr1 hb1)
  have hfin := box_set HBX1.out (HBG.out.trans HB1.out) hgx 0 0
  refine bodyPost_ret (results_list (rs := [.cell 2 30, .tmp 3]) rfl (by simp) (.cell bx 30 #[.int .i64 0, .int .i64 0] (0, 0) _ rfl hfin.1 Try.underlying30 rfl (by kernel_rfl) (.tmp .nil))) rfl ?_
  rw [HR.out]
  obtain ⟨vo1, vw1, vt1, hb1, hO1, hW1, hT1⟩ := HR1.out.st
  refine ⟨rfl, hfin.2, fun _ => ⟨vt1, ?_, ?_⟩⟩
  · have := blk_far (p := ⟨bx, 1, none⟩) (blk_far (p := ⟨bx, 0, none⟩) hb1 (by show g ≠ bx; omega) (.int .i64 0)) (by show g ≠ bx; omega) (.int .i64 0)
    exact (blk_cell this 8).trans rfl
  · rw [← HCL.out]
    exact Kd.S_mono (Kd.S_far (p := ⟨bx, 1, none⟩) (Kd.S_far (p := ⟨bx, 0, none⟩) hT1 (fun k hk => by show k ≠ bx; omega) _) (fun k hk => by show k ≠ bx; omega) _) (fun k hk => hk.1)

set_option maxHeartbeats 4000000 in
set_option maxRecDepth 100000 in
theorem end_open (w0 : World) (s : ByteArray) (R : Res) (g bx base : Nat) (hs : s.size ≤ 262144) (hgb : g < base) (hbx : bx < base) (hgx : g < bx) (m : Nat) (u : Nat → Value) (v4 : Value) (w : World) (p : Nat) (ops : List Nat) (p0 : Nat) (ws : List S23) (out : List S45) (q : Nat) (ins : Bool) (hw : RW w0 s g bx base w p (q :: ops) p0 ws out ins) (hp : s.size ≤ p) (hR : R = sp0 s p (q :: ops) p0 ws out) :
    ∀ r, AtL Try.f25 1 r → r.wp Try.prog (Out w0 s R g bx base m) { tmps := Fr g bx v4 u, defers := [] } w := by
  obtain ⟨⟨bl, el, hr, hi, hj⟩, hbox, hbg, hle, hwl, htl, hol, hopl⟩ := hw
  rw [sp0_end hp] at hR
  simp only [List.head?_cons] at hR
  obtain ⟨vo, vw, vt, hb, hO, hW, hT⟩ := hr.st
  have hln : (spots s (q :: ops)).length = ops.length + 1 := by simp [spots]
  obtain ⟨g4, n4, rfl, hbg4, hlt4, _⟩ := Kd.R_form hO (by omega)
  obtain ⟨_, hle4, hC4⟩ := Kd.R_reads' hO
  rw [hln] at hb hle4 hC4
  obtain ⟨ad, had, e0, e1⟩ := at_T30 hC4 0 (by omega) (by omega)
  cases had
  have hrd : rd_T30 (spots s (q :: ops)) 0 = ⟨(pl (bytesOf s) q).1, (pl (bytesOf s) q).2⟩ := rfl
  rw [hrd] at e0 e1
  have c4 : w.cell? ⟨g, 4, none⟩ = some (.slice (some ⟨g4, 0, none⟩) (ops.length + 1) n4) := (blk_cell hb 4).trans rfl
  have d0 : w.cell? ⟨g4, 0, none⟩ = some (.int .i64 (pl (bytesOf s) q).1) := e0
  have d1 : w.cell? ⟨g4, 1, none⟩ = some (.int .i64 (pl (bytesOf s) q).2) := e1
  clear e0 e1
  have hz : (0 : Int) < ((ops.length + 1 : Nat) : Int) := by omega
  have hbl : bx < w.heap.size := blk_lt hbox
  have bf0 := blk_frozen hbox 0
  have bf1 := blk_frozen hbox 1
  have b0 : w.cell? ⟨bx, 0, none⟩ = some (.int .i64 0) := (blk_cell hbox 0).trans rfl
  have b1 : w.cell? ⟨bx, 1, none⟩ = some (.int .i64 0) := (blk_cell hbox 1).trans rfl
  have hfin := Aside0.mk (box_set hbox hbg hgx (pl (bytesOf s) q).1 (pl (bytesOf s) q).2)
  have HR := Aside0.mk hR
  clear hr hi hj hR hbox hbg hb hO hW hT hC4 hrd
  refine find_wp rfl ?_
  unfold Fr
  go_wp2
  refine bodyPost_ret (results_list (rs := [.cell 2 30, .tmp 3]) rfl (by simp) (.cell bx 30 #[.int .i64 (pl (bytesOf s) q).1, .int .i64 (pl (bytesOf s) q).2] (0, 0) _ rfl hfin.out.1 Try.underlying30 rfl (by kernel_rfl) (.tmp .nil))) rfl ?_
  rw [HR.out]
  exact ⟨rfl, hfin.out.2, fun h => absurd h (by simp)⟩

theorem rw_put {w0 w : World} {s : ByteArray} {g bx base p f p0 : Nat} {ops : List Nat} {ws : List S23} {out : List S45} (hs : s.size ≤ 262144) (hgb : g < base) (hbx : bx < base) (hgx : g < bx) (hw : RW w0 s g bx base w p ops p0 ws out true) (hfp : f < p)
    (hpl : pl (bytesOf s) p = ((pl (bytesOf s) f).1, (pl (bytesOf s) f).2 + ((p - f : Nat) : Int))) (hwf : ws.length ≤ f) (_ : True ∨ True) (q : Bool) (hq : q = true → f + 2 ≤ p) :
    Calls Try.prog 33 #[.pointer (some ⟨g, 0, none⟩), .int .i64 (f : Int), .int .i64 (p : Int), .bool q] w fun e w' => e = .returned (.tuple #[]) ∧ RW w0 s g bx base w' p ops p0 (ws ++ [wordOf s (bytesOf s) f p q]) out true := by
  obtain ⟨⟨bl, el, hr, hi, hj⟩, hbox, hbg, hle, hwl, htl, hol, hopl⟩ := hw
  have hpf := pl_bound (bytesOf s) f
  refine (put_calls w g base s (p : Int) (pl (bytesOf s) p).1 ((p : Int) - (pl (bytesOf s) p).2 + 1) (spots s ops) bl el ws out true f p q hr (by omega) (by omega) (by rw [hpl]; simp only; omega) (by rw [hpl]; simp only; omega) (by omega) hq hle).mono ?_
  rintro e w1 ⟨he, h1, hb1⟩
  have e2 : (f : Int) - ((p : Int) - (pl (bytesOf s) p).2 + 1) + 1 = (pl (bytesOf s) f).2 := by rw [hpl]; simp only; omega
  have e3 : (pl (bytesOf s) p).1 = (pl (bytesOf s) f).1 := by rw [hpl]
  have e4 : ((⟨if q = true then s.extract (f + 1) (p - 1) else s.extract f p, q, (pl (bytesOf s) p).1, (f : Int) - ((p : Int) - (pl (bytesOf s) p).2 + 1) + 1⟩ : S23)) = wordOf s (bytesOf s) f p q := by rw [e2, e3]; rfl
  rw [e4] at h1
  exact ⟨he, ⟨⟨bl, el, h1, fun _ => hi rfl, fun h => by cases h⟩, (hb1.k bx hbx (by omega)).trans hbox, hbg.trans hb1, hle, by simp; omega, htl, hol, hopl⟩⟩

set_option maxHeartbeats 4000000 in
set_option maxRecDepth 100000 in
theorem word_wp (w0 : World) (s : ByteArray) (R : Res) (g bx base : Nat) (hs : s.size ≤ 262144) (hgb : g < base) (hbx : bx < base) (hgx : g < bx) (m : Nat) (u : Nat → Value) (w : World) (f p : Nat) (ops : List Nat) (p0 : Nat) (ws : List S23) (out : List S45) (hw : RW w0 s g bx base w p ops p0 ws out true) (hfp : f < p) (hpl : pl (bytesOf s) p = ((pl (bytesOf s) f).1, (pl (bytesOf s) f).2 + ((p - f : Nat) : Int))) (hwf : ws.length ≤ f) (hm : 3 * (s.size - p) + 1 < m) (hR : R = sp4 s f p ops p0 ws out) :
    ∀ r, AtL Try.f25 4 r → r.wp Try.prog (Out w0 s R g bx base m) { tmps := Fr g bx (.int .i64 (f : Int)) u, defers := [] } w := by
  have HP := Aside0.mk (rw_put hs hgb hbx hgx hw hfp hpl hwf (Or.inl trivial) false (fun h => by cases h))
  have HR := Aside0.mk hR
  have c1 : w.cell? ⟨g, 1, none⟩ = some (.int .i64 (p : Int)) := by
    obtain ⟨⟨bl, el, hr, hi, hj⟩, _⟩ := hw
    obtain ⟨vo, vw, vt, hb, hO, hW, hT⟩ := hr.st
    exact (blk_cell hb 1).trans rfl
  clear hw hpl hR
  refine find_wp rfl ?_
  unfold Fr
  go_wp2_with (go_at_call 33; (with_reducible refine (HP.out).mono ?_); rintro e_ w1 ⟨rfl, hr1⟩; have HW1 := Aside0.mk hr1; clear hr1)
  go_step3
  refine jump_mk (l := 0) (v4 := .int .i64 (f : Int)) ?_ ?_ ?_ ?_ ?_ HW1.out HR.out hm <;> rfl

set_option maxHeartbeats 4000000 in
set_option maxRecDepth 100000 in
theorem quoted_eof (w0 : World) (s : ByteArray) (R : Res) (g bx base : Nat) (hs : s.size ≤ 262144) (hgb : g < base) (hbx : bx < base) (hgx : g < bx) (m : Nat) (u : Nat → Value) (w : World) (f p : Nat) (ops : List Nat) (p0 : Nat) (ws : List S23) (out : List S45) (hw0 : RW w0 s g bx base w p ops p0 ws out true) (hfp : f < p) (hpl : pl (bytesOf s) p = ((pl (bytesOf s) f).1, (pl (bytesOf s) f).2 + ((p - f : Nat) : Int))) (hwf : ws.length ≤ f) (hp : s.size ≤ p) (hR : R = sp3 s f p ops p0 ws out) :
    ∀ r, AtL Try.f25 3 r → r.wp Try.prog (Out w0 s R g bx base m) { tmps := Fr g bx (.int .i64 (f : Int)) u, defers := [] } w := by
  obtain ⟨⟨bl, el, hr, hi, hj⟩, hbox, hbg, hle, hwl, htl, hol, hopl⟩ := hw0
  have hpf := pl_bound (bytesOf s) f
  obtain ⟨vo, vw, vt, hb, hO, hW, hT⟩ := hr.st
  have c0 : w.cell? ⟨g, 0, none⟩ = some (.string s) := (blk_cell hb 0).trans rfl
  have c1 : w.cell? ⟨g, 1, none⟩ = some (.int .i64 (p : Int)) := (blk_cell hb 1).trans rfl
  have f1 := blk_frozen hb 1
  have hgl : g < w.heap.size := blk_lt hb
  have hsz : base ≤ w.heap.size := hr.size
  rw [sp3_bad (fun h => by omega)] at hR
  have he : ((p : Int) == (s.size : Int)) = true := beq_iff_eq.2 (by omega)
  have hsb : (s.size : Int) ≤ 262144 := by omega
  have HR := Aside0.mk hR
  have hsp0 := fun n : Nat => spot_calls (w.drewN n) g s (p : Int) (pl (bytesOf s) p).1 ((p : Int) - (pl (bytesOf s) p).2 + 1) vo bl el vw vt true (f : Int) hb (by rw [hpl]; simp only; omega) (by rw [hpl]; simp only; omega) (by omega)
  have hcol : (f : Int) - ((p : Int) - (pl (bytesOf s) p).2 + 1) + 1 = (pl (bytesOf s) f).2 := by rw [hpl]; simp only; omega
  have hlin : (pl (bytesOf s) p).1 = (pl (bytesOf s) f).1 := by rw [hpl]
  simp only [hcol, hlin] at hsp0
  have hsp := Aside0.mk hsp0
  clear hsp0 hcol hlin
  have HBX := Aside0.mk hbox
  have HBG := Aside0.mk hbg
  clear hr hi hj hR hbox hbg hb hO hW hT hpl
  refine find_wp rfl ?_
  unfold Fr
  go_wp2
  go_quiet (fail)
  go_wp2_with (go_at_call 32; (with_reducible refine (hsp.out _).mono ?_); rintro e_ w1 ⟨rfl, hb1_⟩; have hb1 := (pw_below_drewN (Below.refl w.heap.size w) _).trans hb1_; have HBG1 := Aside0.mk (HBG.out.trans (Bg.of hb1 (by omega) (Nat.le_of_lt hgl))); have HBX1 := Aside0.mk (blk_below HBX.out hb1); have hbl : bx < w1.heap.size := blk_lt HBX1.out; have bf0 := blk_frozen HBX1.out 0; have bf1 := blk_frozen HBX1.out 1; have b0 : w1.cell? ⟨bx, 0, none⟩ = some (.int .i64 0) := (blk_cell HBX1.out 0).trans rfl; have b1 : w1.cell? ⟨bx, 1, none⟩ = some (.int .i64 0) := (blk_cell HBX1.out 1).trans rfl; clear hb1 hb1_)
  have hfin := box_set HBX1.out HBG1.out hgx (pl (bytesOf s) f).1 (pl (bytesOf s) f).2
  refine bodyPost_ret (results_list (rs := [.cell 2 30, .tmp 3]) rfl (by simp) (.cell bx 30 #[.int .i64 (pl (bytesOf s) f).1, .int .i64 (pl (bytesOf s) f).2] (0, 0) _ rfl hfin.1 Try.underlying30 rfl (by kernel_rfl) (.tmp .nil))) rfl ?_
  rw [HR.out]
  exact ⟨rfl, hfin.2, fun h => absurd h (by simp)⟩

set_option maxHeartbeats 4000000 in
set_option maxRecDepth 100000 in
theorem quoted_nl (w0 : World) (s : ByteArray) (R : Res) (g bx base : Nat) (hs : s.size ≤ 262144) (hgb : g < base) (hbx : bx < base) (hgx : g < bx) (m : Nat) (u : Nat → Value) (w : World) (f p : Nat) (ops : List Nat) (p0 : Nat) (ws : List S23) (out : List S45) (hw0 : RW w0 s g bx base w p ops p0 ws out true) (hfp : f < p) (hpl : pl (bytesOf s) p = ((pl (bytesOf s) f).1, (pl (bytesOf s) f).2 + ((p - f : Nat) : Int))) (hwf : ws.length ≤ f) (hp : p < s.size) (hc : bt s (p : Int) = 10) (hR : R = sp3 s f p ops p0 ws out) :
    ∀ r, AtL Try.f25 3 r → r.wp Try.prog (Out w0 s R g bx base m) { tmps := Fr g bx (.int .i64 (f : Int)) u, defers := [] } w := by
  obtain ⟨⟨bl, el, hr, hi, hj⟩, hbox, hbg, hle, hwl, htl, hol, hopl⟩ := hw0
  have hpf := pl_bound (bytesOf s) f
  obtain ⟨vo, vw, vt, hb, hO, hW, hT⟩ := hr.st
  have c0 : w.cell? ⟨g, 0, none⟩ = some (.string s) := (blk_cell hb 0).trans rfl
  have c1 : w.cell? ⟨g, 1, none⟩ = some (.int .i64 (p : Int)) := (blk_cell hb 1).trans rfl
  have f1 := blk_frozen hb 1
  have hgl : g < w.heap.size := blk_lt hb
  have hsz : base ≤ w.heap.size := hr.size
  rw [sp3_bad (fun _ => hc)] at hR
  have he : ((p : Int) == (s.size : Int)) = false := beq_eq_false_iff_ne.2 (by omega)
  have hx0 := bt_nat s p hp
  have hcb : (bt s (p : Int) == 10) = true := beq_iff_eq.2 hc
  have i0 : (0 : Int) ≤ (p : Int) := by omega
  have i1 : (p : Int) < (s.size : Int) := by omega
  have HR := Aside0.mk hR
  have hsp0 := fun n : Nat => spot_calls (w.drewN n) g s (p : Int) (pl (bytesOf s) p).1 ((p : Int) - (pl (bytesOf s) p).2 + 1) vo bl el vw vt true (f : Int) hb (by rw [hpl]; simp only; omega) (by rw [hpl]; simp only; omega) (by omega)
  have hcol : (f : Int) - ((p : Int) - (pl (bytesOf s) p).2 + 1) + 1 = (pl (bytesOf s) f).2 := by rw [hpl]; simp only; omega
  have hlin : (pl (bytesOf s) p).1 = (pl (bytesOf s) f).1 := by rw [hpl]
  simp only [hcol, hlin] at hsp0
  have hsp := Aside0.mk hsp0
  clear hsp0 hcol hlin
  have HBX := Aside0.mk hbox
  have HBG := Aside0.mk hbg
  clear hr hi hj hR hbox hbg hb hO hW hT hpl
  clear hc
  refine find_wp rfl ?_
  unfold Fr
  go_wp2
  go_quiet (fail)
  go_wp2_with (go_at_call 32; (with_reducible refine (hsp.out _).mono ?_); rintro e_ w1 ⟨rfl, hb1_⟩; have hb1 := (pw_below_drewN (Below.refl w.heap.size w) _).trans hb1_; have HBG1 := Aside0.mk (HBG.out.trans (Bg.of hb1 (by omega) (Nat.le_of_lt hgl))); have HBX1 := Aside0.mk (blk_below HBX.out hb1); have hbl : bx < w1.heap.size := blk_lt HBX1.out; have bf0 := blk_frozen HBX1.out 0; have bf1 := blk_frozen HBX1.out 1; have b0 : w1.cell? ⟨bx, 0, none⟩ = some (.int .i64 0) := (blk_cell HBX1.out 0).trans rfl; have b1 : w1.cell? ⟨bx, 1, none⟩ = some (.int .i64 0) := (blk_cell HBX1.out 1).trans rfl; clear hb1 hb1_)
  have hfin := box_set HBX1.out HBG1.out hgx (pl (bytesOf s) f).1 (pl (bytesOf s) f).2
  refine bodyPost_ret (results_list (rs := [.cell 2 30, .tmp 3]) rfl (by simp) (.cell bx 30 #[.int .i64 (pl (bytesOf s) f).1, .int .i64 (pl (bytesOf s) f).2] (0, 0) _ rfl hfin.1 Try.underlying30 rfl (by kernel_rfl) (.tmp .nil))) rfl ?_
  rw [HR.out]
  exact ⟨rfl, hfin.2, fun h => absurd h (by simp)⟩

set_option maxHeartbeats 4000000 in
set_option maxRecDepth 100000 in
theorem quoted_one (w0 : World) (s : ByteArray) (R : Res) (g bx base : Nat) (hs : s.size ≤ 262144) (hgb : g < base) (hbx : bx < base) (hgx : g < bx) (m : Nat) (u : Nat → Value) (w : World) (f p : Nat) (ops : List Nat) (p0 : Nat) (ws : List S23) (out : List S45) (hw0 : RW w0 s g bx base w p ops p0 ws out true) (hfp : f < p) (hpl : pl (bytesOf s) p = ((pl (bytesOf s) f).1, (pl (bytesOf s) f).2 + ((p - f : Nat) : Int))) (hwf : ws.length ≤ f) (hm : 3 * (s.size - p) + 3 ≤ m) (hp : p < s.size) (h10' : bt s (p : Int) ≠ 10) (h34' : bt s (p : Int) ≠ 34) (h92' : bt s (p : Int) ≠ 92) (hR : R = sp3 s f p ops p0 ws out) :
    ∀ r, AtL Try.f25 3 r → r.wp Try.prog (Out w0 s R g bx base m) { tmps := Fr g bx (.int .i64 (f : Int)) u, defers := [] } w := by
  have hw := hw0
  obtain ⟨⟨bl, el, hr, hi, hj⟩, hbox, hbg, hle, hwl, htl, hol, hopl⟩ := hw0
  have hpf := pl_bound (bytesOf s) f
  obtain ⟨vo, vw, vt, hb, hO, hW, hT⟩ := hr.st
  have c0 : w.cell? ⟨g, 0, none⟩ = some (.string s) := (blk_cell hb 0).trans rfl
  have c1 : w.cell? ⟨g, 1, none⟩ = some (.int .i64 (p : Int)) := (blk_cell hb 1).trans rfl
  have f1 := blk_frozen hb 1
  have hgl : g < w.heap.size := blk_lt hb
  have hsz : base ≤ w.heap.size := hr.size
  have he : ((p : Int) == (s.size : Int)) = false := beq_eq_false_iff_ne.2 (by omega)
  have hx0 := bt_nat s p hp
  have i0 : (0 : Int) ≤ (p : Int) := by omega
  have i1 : (p : Int) < (s.size : Int) := by omega
  have hsb : (s.size : Int) ≤ 262144 := by omega
  have h10 : (bt s (p : Int) == 10) = false := beq_eq_false_iff_ne.2 h10'
  have h34 : (bt s (p : Int) != 34) = true := bne_iff_ne.2 h34'
  have h92 : (bt s (p : Int) == 92) = false := beq_eq_false_iff_ne.2 h92'
  have HR := Aside0.mk (hR.trans (sp3_one hp h10' h34' (fun h => absurd h h92')))
  have HW := Aside0.mk (fun a : Nat => (hw.drewN a).adv hp h10' hgx (x := (p : Int) + 1) (by omega))
  have HPL := Aside0.mk (show pl (bytesOf s) (p + 1) = ((pl (bytesOf s) f).1, (pl (bytesOf s) f).2 + ((p + 1 - f : Nat) : Int)) by rw [pl_go hp h10', hpl]; simp only; congr 1; omega)
  clear hr hi hj hR hbox hbg hb hO hW hT hpl
  clear h10' h34' h92' hw
  refine find_wp rfl ?_
  unfold Fr
  go_wp2
  go_quiet (fail)
  go_wp2
  go_quiet (fail)
  go_wp2
  go_quiet (fail)
  go_wp2
  go_step3
  refine jump_mk (l := 3) (v4 := .int .i64 (f : Int)) ?_ ?_ ?_ ?_ ?_ ((HW.out _).drewN _) ⟨rfl, f, rfl, by omega, HPL.out, hwf, HR.out⟩ (by show 3 * (s.size - (p + 1)) + 3 < m; omega) <;> rfl

set_option maxHeartbeats 4000000 in
set_option maxRecDepth 100000 in
theorem quoted_last (w0 : World) (s : ByteArray) (R : Res) (g bx base : Nat) (hs : s.size ≤ 262144) (hgb : g < base) (hbx : bx < base) (hgx : g < bx) (m : Nat) (u : Nat → Value) (w : World) (f p : Nat) (ops : List Nat) (p0 : Nat) (ws : List S23) (out : List S45) (hw0 : RW w0 s g bx base w p ops p0 ws out true) (hfp : f < p) (hpl : pl (bytesOf s) p = ((pl (bytesOf s) f).1, (pl (bytesOf s) f).2 + ((p - f : Nat) : Int))) (hwf : ws.length ≤ f) (hm : 3 * (s.size - p) + 3 ≤ m) (hp : p < s.size) (h92' : bt s (p : Int) = 92) (hlast : p + 1 = s.size) (hR : R = sp3 s f p ops p0 ws out) :
    ∀ r, AtL Try.f25 3 r → r.wp Try.prog (Out w0 s R g bx base m) { tmps := Fr g bx (.int .i64 (f : Int)) u, defers := [] } w := by
  have hw := hw0
  obtain ⟨⟨bl, el, hr, hi, hj⟩, hbox, hbg, hle, hwl, htl, hol, hopl⟩ := hw0
  have hpf := pl_bound (bytesOf s) f
  obtain ⟨vo, vw, vt, hb, hO, hW, hT⟩ := hr.st
  have c0 : w.cell? ⟨g, 0, none⟩ = some (.string s) := (blk_cell hb 0).trans rfl
  have c1 : w.cell? ⟨g, 1, none⟩ = some (.int .i64 (p : Int)) := (blk_cell hb 1).trans rfl
  have f1 := blk_frozen hb 1
  have hgl : g < w.heap.size := blk_lt hb
  have hsz : base ≤ w.heap.size := hr.size
  have he : ((p : Int) == (s.size : Int)) = false := beq_eq_false_iff_ne.2 (by omega)
  have hx0 := bt_nat s p hp
  have i0 : (0 : Int) ≤ (p : Int) := by omega
  have i1 : (p : Int) < (s.size : Int) := by omega
  have hsb : (s.size : Int) ≤ 262144 := by omega
  have h34 : (bt s (p : Int) != 34) = true := bne_iff_ne.2 (by omega)
  have h92 : (bt s (p : Int) == 92) = true := beq_iff_eq.2 h92'
  have h10' : bt s (p : Int) ≠ 10 := by omega
  have h10 : (bt s (p : Int) == 10) = false := beq_eq_false_iff_ne.2 h10'
  have hl1 : decide ((p : Int) + 1 < (s.size : Int)) = false := decide_eq_false (by omega)
  have HR := Aside0.mk (hR.trans (sp3_one hp h10' (by omega) (fun _ h => by omega)))
  have HW := Aside0.mk (fun a : Nat => (hw.drewN a).adv hp h10' hgx (x := (p : Int) + 1) (by omega))
  have HPL := Aside0.mk (show pl (bytesOf s) (p + 1) = ((pl (bytesOf s) f).1, (pl (bytesOf s) f).2 + ((p + 1 - f : Nat) : Int)) by rw [pl_go hp h10', hpl]; simp only; congr 1; omega)
  clear hr hi hj hR hbox hbg hb hO hW hT hpl
  clear h10' h92' hlast hw
  refine find_wp rfl ?_
  unfold Fr
  go_wp2
  go_quiet (fail)
  go_wp2
  go_quiet (fail)
  go_wp2
  go_quiet (fail)
  go_wp2
  go_step3
  refine jump_mk (l := 3) (v4 := .int .i64 (f : Int)) ?_ ?_ ?_ ?_ ?_ ((HW.out _).drewN _) ⟨rfl, f, rfl, by omega, HPL.out, hwf, HR.out⟩ (by show 3 * (s.size - (p + 1)) + 3 < m; omega) <;> rfl

set_option maxHeartbeats 4000000 in
set_option maxRecDepth 100000 in
theorem quoted_nl2 (w0 : World) (s : ByteArray) (R : Res) (g bx base : Nat) (hs : s.size ≤ 262144) (hgb : g < base) (hbx : bx < base) (hgx : g < bx) (m : Nat) (u : Nat → Value) (w : World) (f p : Nat) (ops : List Nat) (p0 : Nat) (ws : List S23) (out : List S45) (hw0 : RW w0 s g bx base w p ops p0 ws out true) (hfp : f < p) (hpl : pl (bytesOf s) p = ((pl (bytesOf s) f).1, (pl (bytesOf s) f).2 + ((p - f : Nat) : Int))) (hwf : ws.length ≤ f) (hm : 3 * (s.size - p) + 3 ≤ m) (hp : p < s.size) (h92' : bt s (p : Int) = 92) (hp1 : p + 1 < s.size) (hn1 : bt s ((p + 1 : Nat) : Int) = 10) (hR : R = sp3 s f p ops p0 ws out) :
    ∀ r, AtL Try.f25 3 r → r.wp Try.prog (Out w0 s R g bx base m) { tmps := Fr g bx (.int .i64 (f : Int)) u, defers := [] } w := by
  have hw := hw0
  obtain ⟨⟨bl, el, hr, hi, hj⟩, hbox, hbg, hle, hwl, htl, hol, hopl⟩ := hw0
  have hpf := pl_bound (bytesOf s) f
  obtain ⟨vo, vw, vt, hb, hO, hW, hT⟩ := hr.st
  have c0 : w.cell? ⟨g, 0, none⟩ = some (.string s) := (blk_cell hb 0).trans rfl
  have c1 : w.cell? ⟨g, 1, none⟩ = some (.int .i64 (p : Int)) := (blk_cell hb 1).trans rfl
  have f1 := blk_frozen hb 1
  have hgl : g < w.heap.size := blk_lt hb
  have hsz : base ≤ w.heap.size := hr.size
  have he : ((p : Int) == (s.size : Int)) = false := beq_eq_false_iff_ne.2 (by omega)
  have hx0 := bt_nat s p hp
  have i0 : (0 : Int) ≤ (p : Int) := by omega
  have i1 : (p : Int) < (s.size : Int) := by omega
  have hsb : (s.size : Int) ≤ 262144 := by omega
  have h34 : (bt s (p : Int) != 34) = true := bne_iff_ne.2 (by omega)
  have h92 : (bt s (p : Int) == 92) = true := beq_iff_eq.2 h92'
  have h10' : bt s (p : Int) ≠ 10 := by omega
  have h10 : (bt s (p : Int) == 10) = false := beq_eq_false_iff_ne.2 h10'
  have hl1 : decide ((p : Int) + 1 < (s.size : Int)) = true := decide_eq_true (by omega)
  have i2 : (0 : Int) ≤ (p : Int) + 1 := by omega
  have i3 : (p : Int) + 1 < (s.size : Int) := by omega
  have hx1 := bt_nat s (p + 1) hp1
  have hn1b : (bt s ((p : Int) + 1) != 10) = false := bne_eq_false_iff_eq.2 hn1
  have HR := Aside0.mk (hR.trans (sp3_one hp h10' (by omega) (fun _ _ => hn1)))
  have HW := Aside0.mk (fun a : Nat => (hw.drewN a).adv hp h10' hgx (x := (p : Int) + 1) (by omega))
  have HPL := Aside0.mk (show pl (bytesOf s) (p + 1) = ((pl (bytesOf s) f).1, (pl (bytesOf s) f).2 + ((p + 1 - f : Nat) : Int)) by rw [pl_go hp h10', hpl]; simp only; congr 1; omega)
  clear hr hi hj hR hbox hbg hb hO hW hT hpl
  clear h10' h92' hw hn1
  refine find_wp rfl ?_
  unfold Fr
  go_wp2
  go_quiet (fail)
  go_wp2
  go_quiet (fail)
  go_wp2
  go_quiet (fail)
  go_wp2
  go_step3
  refine jump_mk (l := 3) (v4 := .int .i64 (f : Int)) ?_ ?_ ?_ ?_ ?_ ((HW.out _).drewN _) ⟨rfl, f, rfl, by omega, HPL.out, hwf, HR.out⟩ (by show 3 * (s.size - (p + 1)) + 3 < m; omega) <;> rfl

set_option maxHeartbeats 4000000 in
set_option maxRecDepth 100000 in
theorem quoted_two (w0 : World) (s : ByteArray) (R : Res) (g bx base : Nat) (hs : s.size ≤ 262144) (hgb : g < base) (hbx : bx < base) (hgx : g < bx) (m : Nat) (u : Nat → Value) (w : World) (f p : Nat) (ops : List Nat) (p0 : Nat) (ws : List S23) (out : List S45) (hw0 : RW w0 s g bx base w p ops p0 ws out true) (hfp : f < p) (hpl : pl (bytesOf s) p = ((pl (bytesOf s) f).1, (pl (bytesOf s) f).2 + ((p - f : Nat) : Int))) (hwf : ws.length ≤ f) (hm : 3 * (s.size - p) + 3 ≤ m) (hp : p < s.size) (h92' : bt s (p : Int) = 92) (hp1 : p + 1 < s.size) (hn1 : bt s ((p + 1 : Nat) : Int) ≠ 10) (hR : R = sp3 s f p ops p0 ws out) :
    ∀ r, AtL Try.f25 3 r → r.wp Try.prog (Out w0 s R g bx base m) { tmps := Fr g bx (.int .i64 (f : Int)) u, defers := [] } w := by
  have hw := hw0
  obtain ⟨⟨bl, el, hr, hi, hj⟩, hbox, hbg, hle, hwl, htl, hol, hopl⟩ := hw0
  have hpf := pl_bound (bytesOf s) f
  obtain ⟨vo, vw, vt, hb, hO, hW, hT⟩ := hr.st
  have c0 : w.cell? ⟨g, 0, none⟩ = some (.string s) := (blk_cell hb 0).trans rfl
  have c1 : w.cell? ⟨g, 1, none⟩ = some (.int .i64 (p : Int)) := (blk_cell hb 1).trans rfl
  have f1 := blk_frozen hb 1
  have hgl : g < w.heap.size := blk_lt hb
  have hsz : base ≤ w.heap.size := hr.size
  have he : ((p : Int) == (s.size : Int)) = false := beq_eq_false_iff_ne.2 (by omega)
  have hx0 := bt_nat s p hp
  have i0 : (0 : Int) ≤ (p : Int) := by omega
  have i1 : (p : Int) < (s.size : Int) := by omega
  have hsb : (s.size : Int) ≤ 262144 := by omega
  have h34 : (bt s (p : Int) != 34) = true := bne_iff_ne.2 (by omega)
  have h92 : (bt s (p : Int) == 92) = true := beq_iff_eq.2 h92'
  have h10' : bt s (p : Int) ≠ 10 := by omega
  have h10 : (bt s (p : Int) == 10) = false := beq_eq_false_iff_ne.2 h10'
  have hl1 : decide ((p : Int) + 1 < (s.size : Int)) = true := decide_eq_true (by omega)
  have i2 : (0 : Int) ≤ (p : Int) + 1 := by omega
  have i3 : (p : Int) + 1 < (s.size : Int) := by omega
  have hx1 := bt_nat s (p + 1) hp1
  have hn1b : (bt s ((p : Int) + 1) != 10) = true := bne_iff_ne.2 hn1
  have HR := Aside0.mk (hR.trans (sp3_two hp h92' hp1 hn1))
  have HW := Aside0.mk (fun a b : Nat => (((hw.drewN a).adv hp h10' hgx (x := (p : Int) + 1) (by omega)).drewN b).adv hp1 hn1 hgx (x := (p : Int) + 1 + 1) (by omega))
  have HPL := Aside0.mk (show pl (bytesOf s) (p + 2) = ((pl (bytesOf s) f).1, (pl (bytesOf s) f).2 + ((p + 2 - f : Nat) : Int)) by rw [show p + 2 = p + 1 + 1 from rfl, pl_go hp1 hn1, pl_go hp h10', hpl]; simp only; congr 1; omega)
  clear hr hi hj hR hbox hbg hb hO hW hT hpl
  clear h10' h92' hw hn1
  refine find_wp rfl ?_
  unfold Fr
  go_wp2
  go_quiet (fail)
  go_wp2
  go_quiet (fail)
  go_wp2
  go_quiet (fail)
  go_wp2
  go_step3
  refine jump_mk (l := 3) (v4 := .int .i64 (f : Int)) ?_ ?_ ?_ ?_ ?_ (HW.out _ _) ⟨rfl, f, rfl, by omega, HPL.out, hwf, HR.out⟩ (by show 3 * (s.size - (p + 2)) + 3 < m; omega) <;> rfl

set_option maxHeartbeats 4000000 in
set_option maxRecDepth 100000 in
theorem quoted_end (w0 : World) (s : ByteArray) (R : Res) (g bx base : Nat) (hs : s.size ≤ 262144) (hgb : g < base) (hbx : bx < base) (hgx : g < bx) (m : Nat) (u : Nat → Value) (w : World) (f p : Nat) (ops : List Nat) (p0 : Nat) (ws : List S23) (out : List S45) (hw0 : RW w0 s g bx base w p ops p0 ws out true) (hfp : f < p) (hpl : pl (bytesOf s) p = ((pl (bytesOf s) f).1, (pl (bytesOf s) f).2 + ((p - f : Nat) : Int))) (hwf : ws.length ≤ f) (hm : 3 * (s.size - p) + 3 ≤ m) (hp : p < s.size) (h34' : bt s (p : Int) = 34) (hR : R = sp3 s f p ops p0 ws out) :
    ∀ r, AtL Try.f25 3 r → r.wp Try.prog (Out w0 s R g bx base m) { tmps := Fr g bx (.int .i64 (f : Int)) u, defers := [] } w := by
  have hw := hw0
  obtain ⟨⟨bl, el, hr, hi, hj⟩, hbox, hbg, hle, hwl, htl, hol, hopl⟩ := hw0
  have hpf := pl_bound (bytesOf s) f
  obtain ⟨vo, vw, vt, hb, hO, hW, hT⟩ := hr.st
  have c0 : w.cell? ⟨g, 0, none⟩ = some (.string s) := (blk_cell hb 0).trans rfl
  have c1 : w.cell? ⟨g, 1, none⟩ = some (.int .i64 (p : Int)) := (blk_cell hb 1).trans rfl
  have f1 := blk_frozen hb 1
  have hgl : g < w.heap.size := blk_lt hb
  have hsz : base ≤ w.heap.size := hr.size
  have he : ((p : Int) == (s.size : Int)) = false := beq_eq_false_iff_ne.2 (by omega)
  have hx0 := bt_nat s p hp
  have i0 : (0 : Int) ≤ (p : Int) := by omega
  have i1 : (p : Int) < (s.size : Int) := by omega
  have hsb : (s.size : Int) ≤ 262144 := by omega
  have h34 : (bt s (p : Int) != 34) = false := bne_eq_false_iff_eq.2 h34'
  have h92 : (bt s (p : Int) == 92) = false := beq_eq_false_iff_ne.2 (by omega)
  have h10' : bt s (p : Int) ≠ 10 := by omega
  have h10 : (bt s (p : Int) == 10) = false := beq_eq_false_iff_ne.2 h10'
  have HR := Aside0.mk (hR.trans (sp3_end hp h34'))
  have hput : ∀ a b : Nat, ∀ W, W = ((w.drewN a).setCell ⟨g, 1, none⟩ (.int .i64 ((p : Int) + 1))).drewN b → RW w0 s g bx base W (p + 1) ops p0 ws out true ∧ Calls Try.prog 33 #[.pointer (some ⟨g, 0, none⟩), .int .i64 (f : Int), .int .i64 ((p : Int) + 1), .bool true] W fun e w' => e = .returned (.tuple #[]) ∧ RW w0 s g bx base w' (p + 1) ops p0 (ws ++ [wordOf s (bytesOf s) f (p + 1) true]) out true := by
    intro a b W hW
    have h1 := ((hw.drewN a).adv hp h10' hgx (x := (p : Int) + 1) (by omega)).drewN b
    rw [← hW] at h1
    have hpl1 : pl (bytesOf s) (p + 1) = ((pl (bytesOf s) f).1, (pl (bytesOf s) f).2 + ((p + 1 - f : Nat) : Int)) := by rw [pl_go hp h10', hpl]; simp only; congr 1; omega
    exact ⟨h1, rw_put hs hgb hbx hgx h1 (by omega) hpl1 hwf (Or.inl trivial) true (fun _ => by omega)⟩
  have HP := Aside0.mk (fun a b => (hput a b _ rfl).2)
  clear hr hi hj hR hbox hbg hb hO hW hT hpl
  clear h10' h34' hw hput
  refine find_wp rfl ?_
  unfold Fr
  go_wp2
  go_quiet (fail)
  go_wp2
  go_quiet (fail)
  go_wp2
  go_quiet (fail)
  go_wp2_with (go_at_call 33; (with_reducible refine (HP.out _ _).mono ?_); rintro e_ w1 ⟨rfl, hr1⟩; have HW1 := Aside0.mk hr1; clear hr1)
  go_step3
  refine jump_mk (l := 0) (v4 := .int .i64 (f : Int)) ?_ ?_ ?_ ?_ ?_ HW1.out HR.out (by show 3 * (s.size - (p + 1)) + 1 < m; omega) <;> rfl

end Go.Proofs.Ytafminohaofjnaa.Print
