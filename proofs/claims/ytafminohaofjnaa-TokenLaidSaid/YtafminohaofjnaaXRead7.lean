/- The reader's walk through a text. -/
import Derived.Test.YtafminohaofjnaaXRead6
import Derived.Test.YtafminohaofjnaaXREnt
namespace Go.Proofs.Ytafminohaofjnaa.Print
set_option linter.unusedVariables false
set_option linter.unusedSimpArgs false
open Go.RowKit Go.Proofs.YtafminohaofjnaaW.PrintWords Go.Proofs.YtafminohaofjnaaW.PrintLast Go.Proofs.YtafminohaofjnaaW.PrintMore Go.Proofs.Ytafminohaofjnaa.Jumps
theorem KeepBut.drewN' {w w1 : World} {g : Nat} {row : Option Nat} (h : KeepBut w w1 g row) (n : Nat) : KeepBut w (w1.drewN n) g row := ⟨h.1, h.2⟩
theorem Bg.drewN' {base g : Nat} {w w1 : World} (h : Bg base g w w1) (n : Nat) : Bg base g w (w1.drewN n) := ⟨pw_below_drewN h.b n, fun i h1 h2 => h.k i h1 h2⟩
/-- an entry begins -/
theorem RW.enter {w0 w W' : World} {s : ByteArray} {g bx base p p0 : Nat} {ops : List Nat} {ws : List S23} {out : List S45} (hw : RW w0 s g bx base w p ops p0 ws out false) (hbx : bx < base) (hgx : g < bx) (hk : KeepBut w W' g none) (hB : Bg base g w W')
    (hb : ∀ vo vw vt bl el, w.heap[g]? = some (.cells (rcells s (p : Int) (pl (bytesOf s) p).1 ((p : Int) - (pl (bytesOf s) p).2 + 1) vo bl el vw vt false) 64 (0, 0)) → W'.heap[g]? = some (.cells (rcells s (p : Int) (pl (bytesOf s) p).1 ((p : Int) - (pl (bytesOf s) p).2 + 1) vo (blankB (bt s (p : Int))) (pl (bytesOf s) p).1 (.slice none 0 0) vt true) 64 (0, 0))) (hp : p < s.size) :
    RW w0 s g bx base W' p ops p [] out true ∧ p0 = p ∧ ws = [] := by
  obtain ⟨⟨bl, el, hr, hi, hj⟩, hbox, hbg, hle, hwl, htl, hol, hopl⟩ := hw
  obtain ⟨rfl, rfl, rfl, rfl⟩ := hj rfl
  obtain ⟨⟨vo, vw, vt, h1, h2, h3, h4⟩, hlt, hsz⟩ := hr
  have hT : Kd.S k45 45 W' base (fun k => base ≤ k ∧ ¬ some k = (Value.slice none 0 0).ownBlock) vt out := Kd.S_mono (Kd.S_keep h4 hk (fun k hk => by omega)) (fun k hk => ⟨hk.1, by simp [Value.ownBlock]⟩)
  refine ⟨⟨⟨_, _, ⟨⟨vo, .slice none 0 0, vt, hb _ _ _ _ _ h1, Kd.R_keep h2 hk (fun k hk => by omega), Kd.R_nil _ _ _ _ _, hT⟩, hlt, Nat.le_trans hsz hk.1⟩, fun _ => ⟨?_, rfl⟩, fun h => by cases h⟩, (hB.k bx hbx (by omega)).trans hbox, hbg.trans hB, hle, hwl, htl, hol, hopl⟩, rfl, rfl⟩
  rw [List.getD_eq_getElem?_getD, bt_get' hp]; rfl
theorem chain_all (w0 : World) (s : ByteArray) (R : Res) (g bx base : Nat) (hs : s.size ≤ 262144) (hgb : g < base) (hbx : bx < base) (hgx : g < bx) (m : Nat) (u : Nat → Value) (v4 : Value) (w : World) (p : Nat) (ops : List Nat) (p0 : Nat) (ws : List S23) (out : List S45) (hw0 : RW w0 s g bx base w p ops p0 ws out true) (hm : 3 * (s.size - p) + 1 ≤ m) (hp : p < s.size) (hR : R = sp0 s p ops p0 ws out) :
    ∀ r, At2 Try.f25 0 r → r.wp Try.prog (Out w0 s R g bx base m) { tmps := Fr g bx v4 u, defers := [] } w := by
  cases hb : blankB (bt s (p : Int)) with
  | true => exact chain_blank w0 s R g bx base hs hgb hbx hgx m u v4 w p ops p0 ws out hw0 hm hp hb hR
  | false =>
    by_cases h10 : bt s (p : Int) = 10
    · by_cases ho : ops = []
      · exact chain_stop w0 s R g bx base hs hgb hbx hgx m u v4 w p ops p0 ws out hw0 hm hp h10 ho hR
      · exact chain_line w0 s R g bx base hs hgb hbx hgx m u v4 w p ops p0 ws out hw0 hm hp h10 ho hR
    · by_cases h59 : bt s (p : Int) = 59
      · exact chain_remark w0 s R g bx base hs hgb hbx hgx m u v4 w p ops p0 ws out hw0 hm hp h59 hR
      · by_cases h40 : bt s (p : Int) = 40
        · exact chain_open w0 s R g bx base hs hgb hbx hgx m u v4 w p ops p0 ws out hw0 hm hp h40 hR
        · by_cases h41 : bt s (p : Int) = 41
          · by_cases ho : ops = []
            · exact chain_bad w0 s R g bx base hs hgb hbx hgx m u v4 w p ops p0 ws out hw0 hm hp h41 ho hR
            · exact chain_close w0 s R g bx base hs hgb hbx hgx m u v4 w p ops p0 ws out hw0 hm hp h41 ho hR
          · by_cases h34 : bt s (p : Int) = 34
            · exact chain_quote w0 s R g bx base hs hgb hbx hgx m u v4 w p ops p0 ws out hw0 hm hp h34 hR
            · exact chain_bare w0 s R g bx base hs hgb hbx hgx m u v4 w p ops p0 ws out hw0 hm hp (spec_false hb h10 h59 h40 h41 h34) hR

set_option maxHeartbeats 8000000 in
set_option maxRecDepth 100000 in
theorem between_eof_true (w0 : World) (s : ByteArray) (R : Res) (g bx base : Nat) (hs : s.size ≤ 262144) (hgb : g < base) (hbx : bx < base) (hgx : g < bx) (m : Nat) (u : Nat → Value) (v4 : Value) (w : World) (p : Nat) (ops : List Nat) (p0 : Nat) (ws : List S23) (out : List S45) (hw0 : RW w0 s g bx base w p ops p0 ws out true) (hm : 3 * (s.size - p) + 1 ≤ m) (hp : s.size ≤ p) (hR : R = sp0 s p ops p0 ws out) :
    ∀ r, At1 Try.f25 0 r → r.wp Try.prog (Out w0 s R g bx base m) { tmps := Fr g bx v4 u, defers := [] } w := by
  obtain ⟨c0, c1, f1, hgl⟩ := hw0.cells
  have hle := hw0.le
  have HW := Aside0.mk hw0
  have HR := Aside0.mk hR
  have he : decide ((p : Int) < (s.size : Int)) = false := decide_eq_false (by omega)
  have he2 : ((p : Int) == (s.size : Int)) = true := beq_iff_eq.2 (by omega)
  have hsb : (s.size : Int) ≤ 262144 := by omega
  clear hw0 hR
  have c9 : w.cell? ⟨g, 9, none⟩ = some (.bool true) := by
    obtain ⟨⟨bl, el, hr, hi, hj⟩, _⟩ := HW.out
    obtain ⟨vo, vw, vt, hb, _⟩ := hr.st
    exact (blk_cell hb 9).trans rfl
  refine find_wp1 rfl ?_
  unfold Fr
  go_wp2
  go_quiet (fail)
  go_wp2
  go_quiet (fail)
  go_wp2
  go_step3
  refine jump_mk (l := 1) (v4 := v4) ?_ ?_ ?_ ?_ ?_ ((HW.out.drewN _).drewN _) ⟨hp, HR.out⟩ (by show 0 < m; omega) <;> rfl

set_option maxHeartbeats 8000000 in
set_option maxRecDepth 100000 in
theorem between_eof_false (w0 : World) (s : ByteArray) (R : Res) (g bx base : Nat) (hs : s.size ≤ 262144) (hgb : g < base) (hbx : bx < base) (hgx : g < bx) (m : Nat) (u : Nat → Value) (v4 : Value) (w : World) (p : Nat) (ops : List Nat) (p0 : Nat) (ws : List S23) (out : List S45) (hw0 : RW w0 s g bx base w p ops p0 ws out false) (hm : 3 * (s.size - p) + 1 ≤ m) (hp : s.size ≤ p) (hR : R = sp0 s p ops p0 ws out) :
    ∀ r, At1 Try.f25 0 r → r.wp Try.prog (Out w0 s R g bx base m) { tmps := Fr g bx v4 u, defers := [] } w := by
  obtain ⟨c0, c1, f1, hgl⟩ := hw0.cells
  have hle := hw0.le
  have HW := Aside0.mk hw0
  have HR := Aside0.mk hR
  have he : decide ((p : Int) < (s.size : Int)) = false := decide_eq_false (by omega)
  have he2 : ((p : Int) == (s.size : Int)) = true := beq_iff_eq.2 (by omega)
  have hsb : (s.size : Int) ≤ 262144 := by omega
  clear hw0 hR
  have c9 : w.cell? ⟨g, 9, none⟩ = some (.bool false) := by
    obtain ⟨⟨bl, el, hr, hi, hj⟩, _⟩ := HW.out
    obtain ⟨vo, vw, vt, hb, _⟩ := hr.st
    exact (blk_cell hb 9).trans rfl
  refine find_wp1 rfl ?_
  unfold Fr
  go_wp2
  go_quiet (fail)
  go_wp2
  go_quiet (fail)
  go_wp2
  go_step3
  refine jump_mk (l := 1) (v4 := v4) ?_ ?_ ?_ ?_ ?_ ((HW.out.drewN _).drewN _) ⟨hp, HR.out⟩ (by show 0 < m; omega) <;> rfl

set_option maxHeartbeats 8000000 in
set_option maxRecDepth 100000 in
theorem between_true (w0 : World) (s : ByteArray) (R : Res) (g bx base : Nat) (hs : s.size ≤ 262144) (hgb : g < base) (hbx : bx < base) (hgx : g < bx) (m : Nat) (u : Nat → Value) (v4 : Value) (w : World) (p : Nat) (ops : List Nat) (p0 : Nat) (ws : List S23) (out : List S45) (hw0 : RW w0 s g bx base w p ops p0 ws out true) (hm : 3 * (s.size - p) + 1 ≤ m) (hp : p < s.size) (hR : R = sp0 s p ops p0 ws out) :
    ∀ r, At1 Try.f25 0 r → r.wp Try.prog (Out w0 s R g bx base m) { tmps := Fr g bx v4 u, defers := [] } w := by
  obtain ⟨c0, c1, f1, hgl⟩ := hw0.cells
  have HW := Aside0.mk hw0
  have HR := Aside0.mk hR
  have he : decide ((p : Int) < (s.size : Int)) = true := decide_eq_true (by omega)
  have hsb : (s.size : Int) ≤ 262144 := by omega
  have hx0 := bt_nat s p hp
  have i0 : (0 : Int) ≤ (p : Int) := by omega
  have i1 : (p : Int) < (s.size : Int) := by omega
  clear hw0 hR
  have c9 : w.cell? ⟨g, 9, none⟩ = some (.bool true) := by
    obtain ⟨⟨bl, el, hr, hi, hj⟩, _⟩ := HW.out
    obtain ⟨vo, vw, vt, hb, _⟩ := hr.st
    exact (blk_cell hb 9).trans rfl
  refine find_wp1 rfl ?_
  refine wp_seq_k (fun K hK => ?_)
  have HK := Aside0.mk hK
  clear hK
  unfold Fr
  go_wp2
  go_quiet (fail)
  go_wp2
  refine HK.out _ _ ?_
  refine fr_lift (g := g) (bx := bx) (v4 := v4) ?_ ?_ ?_ ?_ ?_ (fun u' => wp_of_find2 (f := Try.f25) (l := 0) (a0 := .skip) rfl (chain_all w0 s R g bx base hs hgb hbx hgx m u' v4 _ p ops p0 ws out (HW.out.drewN _) hm hp HR.out)) <;> rfl

set_option maxHeartbeats 8000000 in
set_option maxRecDepth 100000 in
theorem between_false (w0 : World) (s : ByteArray) (R : Res) (g bx base : Nat) (hs : s.size ≤ 262144) (hgb : g < base) (hbx : bx < base) (hgx : g < bx) (m : Nat) (u : Nat → Value) (v4 : Value) (w : World) (p : Nat) (ops : List Nat) (p0 : Nat) (ws : List S23) (out : List S45) (hw0 : RW w0 s g bx base w p ops p0 ws out false) (hm : 3 * (s.size - p) + 1 ≤ m) (hp : p < s.size) (hR : R = sp0 s p ops p0 ws out) :
    ∀ r, At1 Try.f25 0 r → r.wp Try.prog (Out w0 s R g bx base m) { tmps := Fr g bx v4 u, defers := [] } w := by
  obtain ⟨c0, c1, f1, hgl⟩ := hw0.cells
  have HW := Aside0.mk hw0
  have HR := Aside0.mk hR
  have he : decide ((p : Int) < (s.size : Int)) = true := decide_eq_true (by omega)
  have hsb : (s.size : Int) ≤ 262144 := by omega
  have hx0 := bt_nat s p hp
  have i0 : (0 : Int) ≤ (p : Int) := by omega
  have i1 : (p : Int) < (s.size : Int) := by omega
  clear hw0 hR
  have c9 : w.cell? ⟨g, 9, none⟩ = some (.bool false) := by
    obtain ⟨⟨bl, el, hr, hi, hj⟩, _⟩ := HW.out
    obtain ⟨vo, vw, vt, hb, _⟩ := hr.st
    exact (blk_cell hb 9).trans rfl
  have HBL := Aside0.mk (tblank_f (bt s (p : Int)))
  have HF : ∀ j, w.frozen? ⟨g, j, none⟩ = false := by
    obtain ⟨⟨bl, el, hr, hi, hj⟩, _⟩ := HW.out
    obtain ⟨vo, vw, vt, hb, _⟩ := hr.st
    exact fun j => blk_frozen hb j
  have f9 := HF 9
  have HF5 := Aside0.mk (HF 5)
  have HF6 := Aside0.mk (HF 6)
  have HF7 := Aside0.mk (HF 7)
  clear HF
  have c2 : w.cell? ⟨g, 2, none⟩ = some (.int .i64 (pl (bytesOf s) p).1) := by
    obtain ⟨⟨bl, el, hr, hi, hj⟩, _⟩ := HW.out
    obtain ⟨vo, vw, vt, hb, _⟩ := hr.st
    exact (blk_cell hb 2).trans rfl
  have HEN : Aside0 (∀ a b : Nat, RW w0 s g bx base ((((((w.drewN a).setCell ⟨g, 9, none⟩ (.bool true)).drew.drewN b).setCell ⟨g, 5, none⟩ (.bool (blankB (bt s (p : Int))))).setCell ⟨g, 6, none⟩ (.int .i64 (pl (bytesOf s) p).1)).setCell ⟨g, 7, none⟩ (.slice none 0 0)) p ops p [] out true ∧ p0 = p ∧ ws = []) := ⟨fun a b => by
    refine HW.out.enter hbx hgx ?_ ?_ (fun vo vw vt bl el h => ?_) hp
    · exact KeepBut.set_ (KeepBut.set_ (KeepBut.set_ (KeepBut.drewN' (KeepBut.drewN' (KeepBut.set_ (KeepBut.drewN' (KeepBut.refl w g none) a) 9 _) 1) b) 5 _) 6 _) 7 _
    · exact Bg.set (Bg.set (Bg.set (Bg.drewN' (Bg.drewN' (Bg.set (Bg.drewN' (Bg.refl base g w) a) 9 _) 1) b) 5 _) 6 _) 7 _
    · exact (blk_set (blk_set (blk_set (blk_drewN (blk_drew (blk_set (blk_drewN h a) 9 _)) b) 5 _) 6 _) 7 _).trans rfl⟩
  have HFA : Aside0 (∀ a : Nat, ∃ cs : Array Value, ((w.drewN a).setCell ⟨g, 9, none⟩ (.bool true)).heap[g]? = some (.cells cs 64 (0, 0)) ∧ cs[0]? = some (.string s) ∧ cs[1]? = some (.int .i64 (p : Int)) ∧ cs[2]? = some (.int .i64 (pl (bytesOf s) p).1) ∧ (∃ v5, cs[5]? = some v5) ∧ (∃ v6, cs[6]? = some v6) ∧ (∃ v7, cs[7]? = some v7)) := ⟨fun a => by
    obtain ⟨⟨bl, el, hr, hi, hj⟩, _⟩ := HW.out
    obtain ⟨vo, vw, vt, hb, _⟩ := hr.st
    exact ⟨_, blk_set (blk_drewN hb a) 9 _, rfl, rfl, rfl, ⟨_, rfl⟩, ⟨_, rfl⟩, ⟨_, rfl⟩⟩⟩
  refine find_wp1 rfl ?_
  refine wp_seq_k (fun K hK => ?_)
  have HK := Aside0.mk hK
  clear hK
  unfold Fr
  go_wp2
  go_quiet (fail)
  go_wp2
  refine world_lift (fun W => (∃ cs : Array Value, W.heap[g]? = some (.cells cs 64 (0, 0)) ∧ cs[0]? = some (.string s) ∧ cs[1]? = some (.int .i64 (p : Int)) ∧ cs[2]? = some (.int .i64 (pl (bytesOf s) p).1) ∧ (∃ v5, cs[5]? = some v5) ∧ (∃ v6, cs[6]? = some v6) ∧ (∃ v7, cs[7]? = some v7)) ∧ ∀ b : Nat, RW w0 s g bx base ((((W.drew.drewN b).setCell ⟨g, 5, none⟩ (.bool (blankB (bt s (p : Int))))).setCell ⟨g, 6, none⟩ (.int .i64 (pl (bytesOf s) p).1)).setCell ⟨g, 7, none⟩ (.slice none 0 0)) p ops p [] out true ∧ p0 = p ∧ ws = []) ⟨HFA.out _, fun b => HEN.out _ b⟩ (fun w3 hw3 => ?_)
  obtain ⟨⟨cs, hbs, hc0, hc1, hc2, ⟨v5, hv5⟩, ⟨v6, hv6⟩, ⟨v7, hv7⟩⟩, hfin⟩ := hw3
  have hcd : w3.drew.cell? ⟨g, 0, none⟩ = some (.string s) ∧ w3.drew.cell? ⟨g, 1, none⟩ = some (.int .i64 (p : Int)) ∧ w3.drew.cell? ⟨g, 2, none⟩ = some (.int .i64 (pl (bytesOf s) p).1) := ⟨(blk_cell (blk_drew hbs) 0).trans hc0, (blk_cell (blk_drew hbs) 1).trans hc1, (blk_cell (blk_drew hbs) 2).trans hc2⟩
  have hv5' : w3.drew.cell? ⟨g, 5, none⟩ = some v5 := (blk_cell (blk_drew hbs) 5).trans hv5
  have hv6' : w3.drew.cell? ⟨g, 6, none⟩ = some v6 := (blk_cell (blk_drew hbs) 6).trans hv6
  have hv7' : w3.drew.cell? ⟨g, 7, none⟩ = some v7 := (blk_cell (blk_drew hbs) 7).trans hv7
  have hfd5 : w3.drew.frozen? ⟨g, 5, none⟩ = false := blk_frozen (blk_drew hbs) 5
  have hfd6 : w3.drew.frozen? ⟨g, 6, none⟩ = false := blk_frozen (blk_drew hbs) 6
  have hfd7 : w3.drew.frozen? ⟨g, 7, none⟩ = false := blk_frozen (blk_drew hbs) 7
  have hgd : g < w3.drew.heap.size := blk_lt (blk_drew hbs)
  have HFIN := Aside0.mk hfin
  clear hbs hc0 hc1 hc2 hv5 hv6 hv7 hfin HFA HEN HF5 HF6 HF7
  refine start_ (n := 19) (S := (fun w' => w'.cell? ⟨g, 0, none⟩ = some (.string s) ∧ w'.cell? ⟨g, 1, none⟩ = some (.int .i64 (p : Int)) ∧ w'.cell? ⟨g, 2, none⟩ = some (.int .i64 (pl (bytesOf s) p).1))) (ds := [18]) #[false, false, false, false, false, false, false, false, false, false, false, false, false, false, false, false, false, false, false] (by kernel_rfl) rfl rfl hcd (fun hHeld => ?_)
  generalize w3.drew = wd at hv5' hv6' hv7' hfd5 hfd6 hfd7 hgd hcd HFIN hHeld ⊢
  refine pure_ (i := 0) (N := some 26) (v := ?_) (a' := ?_) #[true, false, false, false, false, false, false, false, false, false, false, false, false, false, false, false, false, false, false] rfl rfl (by kernel_rfl) (fun _ _ _ h => h) (Or.inl ⟨by rfl, ?_⟩) ?_ ?_
  rotate_left
  · intro w'
    go_simp
    with_reducible rfl
  rotate_left
  · simp only [Act.put, List.setIfInBounds_toArray, List.set_cons_zero, List.set_cons_succ, i64_w, i32_w]
    rfl
  refine pure_ (i := 1) (N := some 27) (v := ?_) (a' := ?_) #[true, true, false, false, false, false, false, false, false, false, false, false, false, false, false, false, false, false, false] rfl rfl (by kernel_rfl) (fun _ _ _ h => h) (Or.inl ⟨by rfl, ?_⟩) ?_ ?_
  rotate_left
  · intro w'
    go_simp
    with_reducible rfl
  rotate_left
  · simp only [Act.put, List.setIfInBounds_toArray, List.set_cons_zero, List.set_cons_succ, i64_w, i32_w]
    rfl
  refine pure_ (i := 2) (N := some 28) (v := ?_) (a' := ?_) #[true, true, true, false, false, false, false, false, false, false, false, false, false, false, false, false, false, false, false] rfl rfl (by kernel_rfl) (fun _ _ _ h => h) (Or.inl ⟨by rfl, ?_⟩) ?_ ?_
  rotate_left
  · intro w'
    go_simp
    with_reducible rfl
  rotate_left
  · simp only [Act.put, List.setIfInBounds_toArray, List.set_cons_zero, List.set_cons_succ, i64_w, i32_w]
    rfl
  refine pure_ (i := 3) (N := some 29) (v := ?_) (a' := ?_) #[true, true, true, true, false, false, false, false, false, false, false, false, false, false, false, false, false, false, false] rfl rfl (by kernel_rfl) (fun _ _ _ h => h) (Or.inl ⟨by rfl, ?_⟩) ?_ ?_
  rotate_left
  · intro w'
    go_simp
    with_reducible rfl
  rotate_left
  · simp only [Act.put, List.setIfInBounds_toArray, List.set_cons_zero, List.set_cons_succ, i64_w, i32_w]
    rfl
  refine take_ (i := 4) (N := some 30) (v := ?_) (a' := ?_) #[true, true, true, true, true, false, false, false, false, false, false, false, false, false, false, false, false, false, false] rfl rfl (by kernel_rfl) (fun _ _ _ h => h) (Or.inl ⟨by rfl, ?_⟩) hHeld ?_ ?_
  rotate_left
  · rintro w' ⟨h0, h1, h2⟩
    go_simp
    with_reducible rfl
  rotate_left
  · simp only [Act.put, List.setIfInBounds_toArray, List.set_cons_zero, List.set_cons_succ, i64_w, i32_w]
    rfl
  refine pure_ (i := 5) (N := some 31) (v := ?_) (a' := ?_) #[true, true, true, true, true, true, false, false, false, false, false, false, false, false, false, false, false, false, false] rfl rfl (by kernel_rfl) (fun _ _ _ h => h) (Or.inl ⟨by rfl, ?_⟩) ?_ ?_
  rotate_left
  · intro w'
    go_simp
    with_reducible rfl
  rotate_left
  · simp only [Act.put, List.setIfInBounds_toArray, List.set_cons_zero, List.set_cons_succ, i64_w, i32_w]
    rfl
  refine pure_ (i := 6) (N := some 32) (v := ?_) (a' := ?_) #[true, true, true, true, true, true, true, false, false, false, false, false, false, false, false, false, false, false, false] rfl rfl (by kernel_rfl) (fun _ _ _ h => h) (Or.inl ⟨by rfl, ?_⟩) ?_ ?_
  rotate_left
  · intro w'
    go_simp
    with_reducible rfl
  rotate_left
  · simp only [Act.put, List.setIfInBounds_toArray, List.set_cons_zero, List.set_cons_succ, i64_w, i32_w]
    rfl
  refine pure_ (i := 7) (N := some 33) (v := ?_) (a' := ?_) #[true, true, true, true, true, true, true, true, false, false, false, false, false, false, false, false, false, false, false] rfl rfl (by kernel_rfl) (fun _ _ _ h => h) (Or.inl ⟨by rfl, ?_⟩) ?_ ?_
  rotate_left
  · intro w'
    go_simp
    with_reducible rfl
  rotate_left
  · simp only [Act.put, List.setIfInBounds_toArray, List.set_cons_zero, List.set_cons_succ, i64_w, i32_w]
    rfl
  refine take_ (i := 8) (N := some 34) (v := ?_) (a' := ?_) #[true, true, true, true, true, true, true, true, true, false, false, false, false, false, false, false, false, false, false] rfl rfl (by kernel_rfl) (fun _ _ _ h => h) (Or.inl ⟨by rfl, ?_⟩) hHeld ?_ ?_
  rotate_left
  · rintro w' ⟨h0, h1, h2⟩
    go_simp
    with_reducible rfl
  rotate_left
  · simp only [Act.put, List.setIfInBounds_toArray, List.set_cons_zero, List.set_cons_succ, i64_w, i32_w]
    rfl
  refine pure_ (i := 9) (N := some 35) (v := ?_) (a' := ?_) #[true, true, true, true, true, true, true, true, true, true, false, false, false, false, false, false, false, false, false] rfl rfl (by kernel_rfl) (fun _ _ _ h => h) (Or.inl ⟨by rfl, ?_⟩) ?_ ?_
  rotate_left
  · intro w'
    go_simp
    with_reducible rfl
  rotate_left
  · simp only [Act.put, List.setIfInBounds_toArray, List.set_cons_zero, List.set_cons_succ, i64_w, i32_w]
    rfl
  refine pure_ (i := 10) (N := some 36) (v := ?_) (a' := ?_) #[true, true, true, true, true, true, true, true, true, true, true, false, false, false, false, false, false, false, false] rfl rfl (by kernel_rfl) (fun _ _ _ h => h) (Or.inl ⟨by rfl, ?_⟩) ?_ ?_
  rotate_left
  · intro w'
    go_simp
    with_reducible rfl
  rotate_left
  · simp only [Act.put, List.setIfInBounds_toArray, List.set_cons_zero, List.set_cons_succ, i64_w, i32_w]
    rfl
  refine pure_ (i := 11) (N := some 37) (v := ?_) (a' := ?_) #[true, true, true, true, true, true, true, true, true, true, true, true, false, false, false, false, false, false, false] rfl rfl (by kernel_rfl) (fun _ _ _ h => h) (Or.inl ⟨by rfl, ?_⟩) ?_ ?_
  rotate_left
  · intro w'
    go_simp
    with_reducible rfl
  rotate_left
  · simp only [Act.put, List.setIfInBounds_toArray, List.set_cons_zero, List.set_cons_succ, i64_w, i32_w]
    rfl
  refine take_ (i := 12) (N := some 38) (v := ?_) (a' := ?_) #[true, true, true, true, true, true, true, true, true, true, true, true, true, false, false, false, false, false, false] rfl rfl (by kernel_rfl) (fun _ _ _ h => h) (Or.inl ⟨by rfl, ?_⟩) hHeld ?_ ?_
  rotate_left
  · rintro w' ⟨h0, h1, h2⟩
    go_simp
    with_reducible rfl
  rotate_left
  · simp only [Act.put, List.setIfInBounds_toArray, List.set_cons_zero, List.set_cons_succ, i64_w, i32_w]
    rfl
  refine pure_ (i := 13) (N := some 39) (v := ?_) (a' := ?_) #[true, true, true, true, true, true, true, true, true, true, true, true, true, true, false, false, false, false, false] rfl rfl (by kernel_rfl) (fun _ _ _ h => h) (Or.inl ⟨by rfl, ?_⟩) ?_ ?_
  rotate_left
  · intro w'
    go_simp
    with_reducible rfl
  rotate_left
  · simp only [Act.put, List.setIfInBounds_toArray, List.set_cons_zero, List.set_cons_succ, i64_w, i32_w]
    rfl
  refine one_ (i := 14) (N := some 40) #[true, true, true, true, true, true, true, true, true, true, true, true, true, true, true, false, false, false, false] rfl rfl (by kernel_rfl) (by decide) (fun K hK => ?_)
  refine goes_ Try.func30 (by kernel_rfl) rfl #[.int .u8 (bt s (p : Int))] (by rfl) rfl rfl (by (try simp only [List.map_toArray, List.map_cons, List.map_nil]); first | done | rfl) ?_
  (with_reducible refine (token_blank.calls (bt s (p : Int)) _ _ HBL.out).mono ?_)
  rintro e_ w4 ⟨rfl, nd, rfl⟩
  refine ⟨_, rfl, ?_⟩
  refine hK.out _ _ hHeld (fun hHeld => ?_)
  clear hK K
  refine norm_ (a' := ?_) ?_ ?_
  rotate_left
  · show Act.put _ (some 40) _ = _
    simp only [Act.put, List.setIfInBounds_toArray, List.set_cons_zero, List.set_cons_succ, i64_w, i32_w]
    rfl
  refine pure_ (i := 15) (N := some 41) (v := ?_) (a' := ?_) #[true, true, true, true, true, true, true, true, true, true, true, true, true, true, true, true, false, false, false] rfl rfl (by kernel_rfl) (fun _ _ _ h => h) (Or.inl ⟨by rfl, ?_⟩) ?_ ?_
  rotate_left
  · intro w'
    go_simp
    with_reducible rfl
  rotate_left
  · simp only [Act.put, List.setIfInBounds_toArray, List.set_cons_zero, List.set_cons_succ, i64_w, i32_w]
    rfl
  refine pure_ (i := 16) (N := some 42) (v := ?_) (a' := ?_) #[true, true, true, true, true, true, true, true, true, true, true, true, true, true, true, true, true, false, false] rfl rfl (by kernel_rfl) (fun _ _ _ h => h) (Or.inl ⟨by rfl, ?_⟩) ?_ ?_
  rotate_left
  · intro w'
    go_simp
    with_reducible rfl
  rotate_left
  · simp only [Act.put, List.setIfInBounds_toArray, List.set_cons_zero, List.set_cons_succ, i64_w, i32_w]
    rfl
  refine pure_ (i := 17) (N := some 43) (v := ?_) (a' := ?_) #[true, true, true, true, true, true, true, true, true, true, true, true, true, true, true, true, true, true, false] rfl rfl (by kernel_rfl) (fun _ _ _ h => h) (Or.inl ⟨by rfl, ?_⟩) ?_ ?_
  rotate_left
  · intro w'
    go_simp
    with_reducible rfl
  rotate_left
  · simp only [Act.put, List.setIfInBounds_toArray, List.set_cons_zero, List.set_cons_succ, i64_w, i32_w]
    rfl
  refine last_ (i := 18) (N := none) #[true, true, true, true, true, true, true, true, true, true, true, true, true, true, true, true, true, true, true] rfl rfl (by kernel_rfl) (by decide) (fun K hK => ?_)
  refine skip_ (w1 := (((wd.drewN nd).setCell ⟨g, 5, none⟩ (.bool (blankB (bt s (p : Int))))).setCell ⟨g, 6, none⟩ (.int .i64 (pl (bytesOf s) p).1)).setCell ⟨g, 7, none⟩ (.slice none 0 0)) (by rfl) rfl ?_ ?_
  · go_simp
    try with_reducible rfl
  refine hK.out _ _ ?_
  clear hK K
  refine done_ (by kernel_rfl) ?_
  go_wp2
  obtain ⟨hfw, hpp, hww⟩ := HFIN.out nd
  refine HK.out _ _ ?_
  refine fr_lift (g := g) (bx := bx) (v4 := v4) ?_ ?_ ?_ ?_ ?_ (fun u' => wp_of_find2 (f := Try.f25) (l := 0) (a0 := .skip) rfl (chain_all w0 s R g bx base hs hgb hbx hgx m u' v4 _ p ops p [] out hfw hm hp (by rw [HR.out, hpp, hww]))) <;> rfl

theorem between_wp (w0 : World) (s : ByteArray) (R : Res) (g bx base : Nat) (hs : s.size ≤ 262144) (hgb : g < base) (hbx : bx < base) (hgx : g < bx) (m : Nat) (u : Nat → Value) (v4 : Value) (w : World) (p : Nat) (ops : List Nat) (p0 : Nat) (ws : List S23) (out : List S45) (ins : Bool) (hw0 : RW w0 s g bx base w p ops p0 ws out ins) (hm : 3 * (s.size - p) + 1 ≤ m) (hR : R = sp0 s p ops p0 ws out) :
    ∀ r, At1 Try.f25 0 r → r.wp Try.prog (Out w0 s R g bx base m) { tmps := Fr g bx v4 u, defers := [] } w := by
  by_cases hp : p < s.size
  · cases ins with
    | true => exact between_true w0 s R g bx base hs hgb hbx hgx m u v4 w p ops p0 ws out hw0 hm hp hR
    | false => exact between_false w0 s R g bx base hs hgb hbx hgx m u v4 w p ops p0 ws out hw0 hm hp hR
  · cases ins with
    | true => exact between_eof_true w0 s R g bx base hs hgb hbx hgx m u v4 w p ops p0 ws out hw0 hm (by omega) hR
    | false => exact between_eof_false w0 s R g bx base hs hgb hbx hgx m u v4 w p ops p0 ws out hw0 hm (by omega) hR
/-- from any label on -/
theorem pass_all (w0 : World) (s : ByteArray) (R : Res) (g bx base : Nat) (hs : s.size ≤ 262144) (hgb : g < base) (hbx : bx < base) (hgx : g < bx) (l : Nat) (a : Act) (w : World) (hJ : J w0 s R g bx base l a w) :
    ∀ r, AtL Try.f25 l r → r.wp Try.prog (Out w0 s R g bx base (mu s g l a w)) a w := by
  obtain ⟨u, v4, p, ops, p0, ws, out, ins, rfl, hw, hsp⟩ := hJ
  have hmu : mu s g l { tmps := Fr g bx v4 u, defers := [] } w = muN (s.size - p) l := by unfold mu; rw [hw.pos]
  rw [hmu]
  match l, hsp with
  | 0, hsp => exact at1_lift rfl (between_wp w0 s R g bx base hs hgb hbx hgx _ u v4 w p ops p0 ws out ins hw (Nat.le_refl _) hsp)
  | 1, hsp =>
    cases ops with
    | nil => exact end_nil w0 s R g bx base hs hgb hbx hgx _ u v4 w p [] p0 ws out ins hw hsp.1 hsp.2
    | cons q ops => exact end_open w0 s R g bx base hs hgb hbx hgx _ u v4 w p ops p0 ws out q ins hw hsp.1 hsp.2
  | 2, hsp =>
    obtain ⟨rfl, hR⟩ := hsp
    exact remark_wp w0 s R g bx base hs hgb hbx hgx _ u v4 w p ops p0 ws out hw (Nat.le_refl _) hR
  | 3, hsp =>
    obtain ⟨rfl, f, rfl, hfp, hpl, hwf, hR⟩ := hsp
    by_cases hp : p < s.size
    · by_cases h10 : bt s (p : Int) = 10
      · exact quoted_nl w0 s R g bx base hs hgb hbx hgx _ u w f p ops p0 ws out hw hfp hpl hwf hp h10 hR
      · by_cases h34 : bt s (p : Int) = 34
        · exact quoted_end w0 s R g bx base hs hgb hbx hgx _ u w f p ops p0 ws out hw hfp hpl hwf (Nat.le_refl _) hp h34 hR
        · by_cases h92 : bt s (p : Int) = 92
          · by_cases hl : p + 1 < s.size
            · by_cases hn : bt s ((p + 1 : Nat) : Int) = 10
              · exact quoted_nl2 w0 s R g bx base hs hgb hbx hgx _ u w f p ops p0 ws out hw hfp hpl hwf (Nat.le_refl _) hp h92 hl hn hR
              · exact quoted_two w0 s R g bx base hs hgb hbx hgx _ u w f p ops p0 ws out hw hfp hpl hwf (Nat.le_refl _) hp h92 hl hn hR
            · exact quoted_last w0 s R g bx base hs hgb hbx hgx _ u w f p ops p0 ws out hw hfp hpl hwf (Nat.le_refl _) hp h92 (by omega) hR
          · exact quoted_one w0 s R g bx base hs hgb hbx hgx _ u w f p ops p0 ws out hw hfp hpl hwf (Nat.le_refl _) hp h10 h34 h92 hR
    · exact quoted_eof w0 s R g bx base hs hgb hbx hgx _ u w f p ops p0 ws out hw hfp hpl hwf (by omega) hR
  | 4, hsp =>
    obtain ⟨rfl, f, rfl, hfp, hpl, hwf, hR⟩ := hsp
    exact word_wp w0 s R g bx base hs hgb hbx hgx _ u w f p ops p0 ws out hw hfp hpl hwf (by show 3 * (s.size - p) + 1 < 3 * (s.size - p) + 2; omega) hR
  | 5, hsp =>
    obtain ⟨rfl, f, rfl, hfp, hpl, hwf, hR⟩ := hsp
    have hm : 3 * (s.size - p) + 2 < muN (s.size - p) 5 := by show _ < 3 * (s.size - p) + 3; omega
    refine at1_lift rfl ?_
    by_cases hp : p < s.size
    · cases hsb : specB (bt s (p : Int)) with
      | false => exact bare_go w0 s R g bx base hs hgb hbx hgx _ u w p f ops p0 ws out hw (Nat.le_of_lt hfp) hpl hwf (by omega) hp hsb hR
      | true =>
        by_cases hb : blankB (bt s (p : Int)) = true
        · exact bare_stop0 w0 s R g bx base hs hgb hbx hgx _ u w f p ops p0 ws out hw hfp hpl hwf hm hp hb hR
        by_cases h0 : bt s (p : Int) = 10
        · exact bare_stop1 w0 s R g bx base hs hgb hbx hgx _ u w f p ops p0 ws out hw hfp hpl hwf hm hp h0 hR
        by_cases h1 : bt s (p : Int) = 59
        · exact bare_stop2 w0 s R g bx base hs hgb hbx hgx _ u w f p ops p0 ws out hw hfp hpl hwf hm hp h1 hR
        by_cases h2 : bt s (p : Int) = 40
        · exact bare_stop3 w0 s R g bx base hs hgb hbx hgx _ u w f p ops p0 ws out hw hfp hpl hwf hm hp h2 hR
        by_cases h3 : bt s (p : Int) = 41
        · exact bare_stop4 w0 s R g bx base hs hgb hbx hgx _ u w f p ops p0 ws out hw hfp hpl hwf hm hp h3 hR
        by_cases h4 : bt s (p : Int) = 34
        · exact bare_stop5 w0 s R g bx base hs hgb hbx hgx _ u w f p ops p0 ws out hw hfp hpl hwf hm hp h4 hR
        rw [spec_false (by simpa using hb) h0 h1 h2 h3 h4] at hsb
        cases hsb
    · exact bare_eof w0 s R g bx base hs hgb hbx hgx _ u w f p ops p0 ws out hw hfp hpl hwf hm (by omega) hR
  | n + 6, hsp => exact hsp.elim

set_option maxHeartbeats 8000000 in
set_option maxRecDepth 100000 in
theorem read_walk (w : World) (g : Nat) (s : ByteArray) (hs : s.size ≤ 262144) (hb : w.heap[g]? = some (.cells (rcells s 0 1 0 (.slice none 0 0) false 0 (.slice none 0 0) (.slice none 0 0) false) 64 (0, 0))) :
    Calls Try.prog 25 #[.pointer (some ⟨g, 0, none⟩)] w (Done (w.alloc (.cells #[.int .i64 0, .int .i64 0] 30)) (sp0 s 0 [] 0 [] []) g (w.heap.size + 1)) := by
  have hgl : g < w.heap.size := blk_lt hb
  have hW : RW (w.alloc (.cells #[.int .i64 0, .int .i64 0] 30)) s g w.heap.size (w.heap.size + 1) (w.alloc (.cells #[.int .i64 0, .int .i64 0] 30)) 0 [] 0 [] [] false := by
    refine ⟨⟨false, 0, ⟨⟨_, _, _, blk_alloc hb _, Kd.R_nil _ _ _ _ _, Kd.R_nil _ _ _ _ _, Kd.S_nil _ _ _ _ _⟩, by omega, by simp⟩, (fun h => by cases h), (fun _ => ⟨rfl, rfl, rfl, rfl⟩)⟩, blk_new _ _, Bg.refl _ _ _, by omega, by simp, by simp, by simp, by simp⟩
  have HW := Aside0.mk hW
  clear hb hW
  go_enter Try.func25, Try.ntmps25
  go_wp2
  refine wp_scope_many (J (w.alloc (.cells #[.int .i64 0, .int .i64 0] 30)) s (sp0 s 0 [] 0 [] []) g w.heap.size (w.heap.size + 1)) (mu s g) (fun l a w' hJ => ?_) ?_
  · have hp := pass_all _ s _ g w.heap.size (w.heap.size + 1) hs (by omega) (by omega) hgl l a w' hJ
    obtain ⟨u, v4, p, ops, p0, ws, out, ins, _, _, hsp⟩ := hJ
    match l, hsp, hp with
    | 0, _, hp => exact ⟨_, rfl, hp _ rfl⟩
    | 1, _, hp => exact ⟨_, rfl, hp _ rfl⟩
    | 2, _, hp => exact ⟨_, rfl, hp _ rfl⟩
    | 3, _, hp => exact ⟨_, rfl, hp _ rfl⟩
    | 4, _, hp => exact ⟨_, rfl, hp _ rfl⟩
    | 5, _, hp => exact ⟨_, rfl, hp _ rfl⟩
    | n + 6, hsp, _ => exact hsp.elim
  · go_wp2
    rename_i K5 hK5
    go_step3
    refine hK5 _ _ ?_
    refine fr_lift (g := g) (bx := w.heap.size) (v4 := .int .i64 0) ?_ ?_ ?_ ?_ ?_ (fun u' => wp_mono (wp_of_find1 (f := Try.f25) (l := 0) (a0 := .skip) rfl (between_wp _ s _ g w.heap.size (w.heap.size + 1) hs (by omega) (by omega) hgl _ u' (.int .i64 0) _ 0 [] 0 [] [] false HW.out (Nat.le_refl _) rfl)) (fun e a w' hq => ?_))
    · rfl
    · rfl
    · rfl
    · rfl
    · rfl
    · cases e with
      | goto l => exact hq.1
      | _ => exact hq
/-- the reader's walk through a whole text -/
theorem read_calls (w : World) (g : Nat) (s : ByteArray) (hs : s.size ≤ 262144) (hb : w.heap[g]? = some (.cells (rcells s 0 1 0 (.slice none 0 0) false 0 (.slice none 0 0) (.slice none 0 0) false) 64 (0, 0))) :
    Calls Try.prog 25 #[.pointer (some ⟨g, 0, none⟩)] w fun e w' => e = .returned (.tuple #[.agg #[.int .i64 (sp0 s 0 [] 0 [] []).2.1, .int .i64 (sp0 s 0 [] 0 [] []).2.2.1], .int .i64 (sp0 s 0 [] 0 [] []).2.2.2]) ∧ Below g w w' ∧ ((sp0 s 0 [] 0 [] []).2.2.2 = 0 → ∃ vt, w'.cell? ⟨g, 8, none⟩ = some vt ∧ Kd.S k45 45 w' (w.heap.size + 1) (fun k => w.heap.size + 1 ≤ k) vt (sp0 s 0 [] 0 [] []).1) := by
  refine (read_walk w g s hs hb).mono ?_
  rintro e w' ⟨h1, h2, h3⟩
  exact ⟨h1, (below_to (below_alloc (Below.refl w.heap.size w) _) (Nat.le_of_lt (blk_lt hb))).trans h2, h3⟩

theorem finish_ends (s : ByteArray) (T : List Int) (x : Option (Nat × Int)) (hx : ∀ y, x = some y → y.2 ≠ 0) : ∀ (l : List Tok) (p : Nat) (ws : List S23) (out : List S45), ((finish s T x l p ws out).2.2.2 ≠ 0 → (finish s T x l p ws out).1 = []) ∧ ((finish s T x l p ws out).2.2.2 = 0 → (finish s T x l p ws out).2.1 = 0 ∧ (finish s T x l p ws out).2.2.1 = 0)
  | [], p, ws, out => by
    unfold finish
    cases x with
    | none => exact ⟨fun h => absurd rfl h, fun _ => ⟨rfl, rfl⟩⟩
    | some y => exact ⟨fun _ => rfl, fun h => absurd h (hx y rfl)⟩
  | .stop q :: r, p, ws, out => finish_ends s T x hx r _ _ _
  | .word b e q :: r, p, ws, out => finish_ends s T x hx r _ _ _
theorem sp0_ends (s : ByteArray) : ((sp0 s 0 [] 0 [] []).2.2.2 ≠ 0 → (sp0 s 0 [] 0 [] []).1 = []) ∧ ((sp0 s 0 [] 0 [] []).2.2.2 = 0 → (sp0 s 0 [] 0 [] []).2.1 = 0 ∧ (sp0 s 0 [] 0 [] []).2.2.1 = 0) :=
  finish_ends s _ _ (fun y hy => by
    have := lex_err _ ((bytesOf s).drop 0) 0 [] y (Nat.le_refl _) (by simp) hy
    omega) _ _ _ _

set_option maxHeartbeats 8000000 in
set_option maxRecDepth 100000 in
theorem Entries_big (s : ByteArray) (r1 : List S45) (r2 r3 r4 : Int) (w : World) (h : token_Entries.f s = some (r1, r2, r3, r4)) (hs : 262144 < s.size) :
    Calls Try.prog 12 #[.string s] w fun e w' => ∃ v0_ : Value, e = .returned (.tuple #[v0_, .agg #[.int .i64 r2, .int .i64 r3], .int .i64 r4]) ∧ Kd.S k45 45 w' w.heap.size (fun _ => True) v0_ r1 ∧ Below w.heap.size w w' := by
  unfold token_Entries.f at h
  rw [if_pos hs] at h
  simp only [Option.some.injEq, Prod.mk.injEq] at h
  obtain ⟨rfl, rfl, rfl, rfl⟩ := h
  have hb : (262144 : Int) < (s.size : Int) := by omega
  clear hs
  go_enter Try.func12, Try.ntmps12
  go_wp2
  refine bodyPost_ret (results_list (rs := [.tmp 2, .cell 3 30, .tmp 4]) rfl (by simp) (.tmp (.cell w.heap.size 30 #[.int .i64 0, .int .i64 0] (0, 0) _ rfl (blk_new _ _) Try.underlying30 rfl (by kernel_rfl) (.tmp .nil)))) rfl ?_
  exact ⟨_, rfl, Kd.S_nil _ _ _ _ _, below_alloc (Below.refl _ _) _⟩

set_option maxHeartbeats 8000000 in
set_option maxRecDepth 100000 in
theorem Entries_bad (s : ByteArray) (r1 : List S45) (r2 r3 r4 : Int) (w : World) (h : token_Entries.f s = some (r1, r2, r3, r4)) (hs : s.size ≤ 262144) (he : r4 ≠ 0) :
    Calls Try.prog 12 #[.string s] w fun e w' => ∃ v0_ : Value, e = .returned (.tuple #[v0_, .agg #[.int .i64 r2, .int .i64 r3], .int .i64 r4]) ∧ Kd.S k45 45 w' w.heap.size (fun _ => True) v0_ r1 ∧ Below w.heap.size w w' := by
  unfold token_Entries.f at h
  rw [if_neg (by omega)] at h
  have hsp : sp0 s 0 [] 0 [] [] = (r1, r2, r3, r4) := Option.some.inj h
  have hn : ¬ (262144 : Int) < (s.size : Int) := by omega
  have hrd := fun (W : World) (g : Nat) (hb : W.heap[g]? = some (.cells (rcells s 0 1 0 (.slice none 0 0) false 0 (.slice none 0 0) (.slice none 0 0) false) 64 (0, 0))) => read_calls W g s hs hb
  have hends := sp0_ends s
  rw [hsp] at hrd hends
  simp only at hrd hends
  have hr1 := Aside0.mk (hends.1 he)
  have hz : (w.alloc (.cells #[.int .i64 0, .int .i64 0] 30)).heap.size = w.heap.size + 1 := by simp
  have hnb := blk_new (w.alloc (.cells #[.int .i64 0, .int .i64 0] 30)) (.cells (rcells s 0 1 0 (.slice none 0 0) false 0 (.slice none 0 0) (.slice none 0 0) false) 64 (0, 0))
  rw [hz] at hnb
  have h2 := hrd _ _ hnb
  have hb3 : ((w.alloc (.cells #[.int .i64 0, .int .i64 0] 30)).alloc (.cells (rcells s 0 1 0 (.slice none 0 0) false 0 (.slice none 0 0) (.slice none 0 0) false) 64 (0, 0))).heap[w.heap.size]? = some (.cells #[.int .i64 0, .int .i64 0] 30 (0, 0)) := blk_alloc (blk_new w _) _
  have hbw : Below w.heap.size w ((w.alloc (.cells #[.int .i64 0, .int .i64 0] 30)).alloc (.cells (rcells s 0 1 0 (.slice none 0 0) false 0 (.slice none 0 0) (.slice none 0 0) false) 64 (0, 0))) := below_alloc (below_alloc (Below.refl _ _) _) _
  have hz2 : ((w.alloc (.cells #[.int .i64 0, .int .i64 0] 30)).alloc (.cells (rcells s 0 1 0 (.slice none 0 0) false 0 (.slice none 0 0) (.slice none 0 0) false) 64 (0, 0))).heap.size = w.heap.size + 2 := by simp
  have h3 : Calls Try.prog 25 #[.pointer (some ⟨w.heap.size + 1, 0, none⟩)] ((w.alloc (.cells #[.int .i64 0, .int .i64 0] 30)).alloc (.cells #[.string s, .int .i64 0, .int .i64 1, .int .i64 0, .slice none 0 0, .bool false, .int .i64 0, .slice none 0 0, .slice none 0 0, .bool false] 64)) fun e w' => e = .returned (.tuple #[.agg #[.int .i64 r2, .int .i64 r3], .int .i64 r4]) ∧ w'.heap[w.heap.size]? = some (.cells #[.int .i64 0, .int .i64 0] 30 (0, 0)) ∧ Below w.heap.size w w' ∧ w.heap.size + 2 ≤ w'.heap.size ∧ (r4 = 0 → ∃ vt, w'.cell? ⟨w.heap.size + 1, 8, none⟩ = some vt ∧ Kd.S k45 45 w' w.heap.size (fun k => w.heap.size < k) vt r1) := by
    refine h2.mono ?_
    rintro e w' ⟨e1, e2, e3⟩
    refine ⟨e1, (e2.block w.heap.size (by omega)).trans hb3, hbw.trans (below_to e2 (by omega)), by have := e2.size; omega, fun h0 => ?_⟩
    obtain ⟨vt, k1, k2⟩ := e3 h0
    exact ⟨vt, k1, Kd.S_mono (Kd.S_lower k2 (by omega)) (fun k hk => by omega)⟩
  have HRD := Aside0.mk h3
  have HE := Aside0.mk he
  have heb : (r4 != 0) = true := bne_iff_ne.2 he
  clear hrd h hsp he h2 h3 hb3 hbw hz hz2 hnb
  go_enter Try.func12, Try.ntmps12
  go_wp2_with fail
  (with_reducible refine (HRD.out).mono ?_)
  rintro e_ w1 ⟨rfl, hb3, hbw, hsz, hvt_⟩
  have HB3 := Aside0.mk hb3
  have HBW := Aside0.mk hbw
  have HVT := Aside0.mk hvt_
  have b0 : w1.cell? ⟨w.heap.size, 0, none⟩ = some (.int .i64 0) := (blk_cell hb3 0).trans rfl
  have b1 : w1.cell? ⟨w.heap.size, 1, none⟩ = some (.int .i64 0) := (blk_cell hb3 1).trans rfl
  have bf0 := blk_frozen hb3 0
  have bf1 := blk_frozen hb3 1
  have hbl : w.heap.size < w1.heap.size := by omega
  have hg1 : w.heap.size + 1 < w1.heap.size := by omega
  clear hb3 hbw hvt_
  go_wp2
  go_region
  go_wp2
  refine bodyPost_ret (results_list (rs := [.tmp 2, .cell 3 30, .tmp 4]) rfl (by simp) (.tmp (.cell w.heap.size 30 #[.int .i64 r2, .int .i64 r3] (0, 0) _ rfl ?_ Try.underlying30 rfl (by kernel_rfl) (.tmp .nil)))) rfl ?_
  · exact blk_drew (blk_alloc ((blk_set (blk_set HB3.out 0 _) 1 _).trans rfl) _)
  · rw [hr1.out]
    exact ⟨_, rfl, Kd.S_nil _ _ _ _ _, below_drew1 (below_alloc ((HBW.out.setCell (p := ⟨w.heap.size, 0, none⟩) (Nat.le_refl _) _).setCell (p := ⟨w.heap.size, 1, none⟩) (Nat.le_refl _) _) _)⟩

set_option maxHeartbeats 8000000 in
set_option maxRecDepth 100000 in
theorem Entries_ok (s : ByteArray) (r1 : List S45) (r2 r3 r4 : Int) (w : World) (h : token_Entries.f s = some (r1, r2, r3, r4)) (hs : s.size ≤ 262144) (he : r4 = 0) :
    Calls Try.prog 12 #[.string s] w fun e w' => ∃ v0_ : Value, e = .returned (.tuple #[v0_, .agg #[.int .i64 r2, .int .i64 r3], .int .i64 r4]) ∧ Kd.S k45 45 w' w.heap.size (fun _ => True) v0_ r1 ∧ Below w.heap.size w w' := by
  unfold token_Entries.f at h
  rw [if_neg (by omega)] at h
  have hsp : sp0 s 0 [] 0 [] [] = (r1, r2, r3, r4) := Option.some.inj h
  have hn : ¬ (262144 : Int) < (s.size : Int) := by omega
  have hrd := fun (W : World) (g : Nat) (hb : W.heap[g]? = some (.cells (rcells s 0 1 0 (.slice none 0 0) false 0 (.slice none 0 0) (.slice none 0 0) false) 64 (0, 0))) => read_calls W g s hs hb
  have hends := sp0_ends s
  rw [hsp] at hrd hends
  simp only at hrd hends
  have hr23 := Aside0.mk (hends.2 he)
  have hz : (w.alloc (.cells #[.int .i64 0, .int .i64 0] 30)).heap.size = w.heap.size + 1 := by simp
  have hnb := blk_new (w.alloc (.cells #[.int .i64 0, .int .i64 0] 30)) (.cells (rcells s 0 1 0 (.slice none 0 0) false 0 (.slice none 0 0) (.slice none 0 0) false) 64 (0, 0))
  rw [hz] at hnb
  have h2 := hrd _ _ hnb
  have hb3 : ((w.alloc (.cells #[.int .i64 0, .int .i64 0] 30)).alloc (.cells (rcells s 0 1 0 (.slice none 0 0) false 0 (.slice none 0 0) (.slice none 0 0) false) 64 (0, 0))).heap[w.heap.size]? = some (.cells #[.int .i64 0, .int .i64 0] 30 (0, 0)) := blk_alloc (blk_new w _) _
  have hbw : Below w.heap.size w ((w.alloc (.cells #[.int .i64 0, .int .i64 0] 30)).alloc (.cells (rcells s 0 1 0 (.slice none 0 0) false 0 (.slice none 0 0) (.slice none 0 0) false) 64 (0, 0))) := below_alloc (below_alloc (Below.refl _ _) _) _
  have hz2 : ((w.alloc (.cells #[.int .i64 0, .int .i64 0] 30)).alloc (.cells (rcells s 0 1 0 (.slice none 0 0) false 0 (.slice none 0 0) (.slice none 0 0) false) 64 (0, 0))).heap.size = w.heap.size + 2 := by simp
  have h3 : Calls Try.prog 25 #[.pointer (some ⟨w.heap.size + 1, 0, none⟩)] ((w.alloc (.cells #[.int .i64 0, .int .i64 0] 30)).alloc (.cells #[.string s, .int .i64 0, .int .i64 1, .int .i64 0, .slice none 0 0, .bool false, .int .i64 0, .slice none 0 0, .slice none 0 0, .bool false] 64)) fun e w' => e = .returned (.tuple #[.agg #[.int .i64 r2, .int .i64 r3], .int .i64 r4]) ∧ w'.heap[w.heap.size]? = some (.cells #[.int .i64 0, .int .i64 0] 30 (0, 0)) ∧ Below w.heap.size w w' ∧ w.heap.size + 2 ≤ w'.heap.size ∧ (r4 = 0 → ∃ vt, w'.cell? ⟨w.heap.size + 1, 8, none⟩ = some vt ∧ Kd.S k45 45 w' w.heap.size (fun k => w.heap.size < k) vt r1) := by
    refine h2.mono ?_
    rintro e w' ⟨e1, e2, e3⟩
    refine ⟨e1, (e2.block w.heap.size (by omega)).trans hb3, hbw.trans (below_to e2 (by omega)), by have := e2.size; omega, fun h0 => ?_⟩
    obtain ⟨vt, k1, k2⟩ := e3 h0
    exact ⟨vt, k1, Kd.S_mono (Kd.S_lower k2 (by omega)) (fun k hk => by omega)⟩
  have HRD := Aside0.mk h3
  have HE := Aside0.mk he
  have heb : (r4 != 0) = false := bne_eq_false_iff_eq.2 he
  clear hrd h hsp he h2 h3 hb3 hbw hz hz2 hnb
  go_enter Try.func12, Try.ntmps12
  go_wp2_with fail
  (with_reducible refine (HRD.out).mono ?_)
  rintro e_ w1 ⟨rfl, hb3, hbw, hsz, hvt_⟩
  have HB3 := Aside0.mk hb3
  have HBW := Aside0.mk hbw
  have HVT := Aside0.mk hvt_
  have b0 : w1.cell? ⟨w.heap.size, 0, none⟩ = some (.int .i64 0) := (blk_cell hb3 0).trans rfl
  have b1 : w1.cell? ⟨w.heap.size, 1, none⟩ = some (.int .i64 0) := (blk_cell hb3 1).trans rfl
  have bf0 := blk_frozen hb3 0
  have bf1 := blk_frozen hb3 1
  have hbl : w.heap.size < w1.heap.size := by omega
  have hg1 : w.heap.size + 1 < w1.heap.size := by omega
  obtain ⟨vt, cvt, hS⟩ := hvt_ HE.out
  obtain ⟨At, nt, rfl⟩ := Kd.R_slice (Kd.S_R hS)
  have HS := Aside0.mk hS
  clear hS
  clear hb3 hbw hvt_
  go_wp2
  have hez : r4 = 0 := HE.out
  subst hez
  obtain ⟨h2_, h3_⟩ := hr23.out
  subst h2_ h3_
  refine bodyPost_ret (results_list (rs := [.tmp 2, .cell 3 30, .tmp 4]) rfl (by simp) (.tmp (.cell w.heap.size 30 #[.int .i64 0, .int .i64 0] (0, 0) _ rfl ?_ Try.underlying30 rfl (by kernel_rfl) (.tmp .nil)))) rfl ?_
  · exact blk_alloc ((blk_set (blk_set HB3.out 0 _) 1 _).trans rfl) _
  · exact ⟨_, rfl, Kd.S_mono (Kd.S_alloc (Kd.S_far (p := ⟨w.heap.size, 1, none⟩) (Kd.S_far (p := ⟨w.heap.size, 0, none⟩) HS.out (fun k hk => by show k ≠ w.heap.size; omega) _) (fun k hk => by show k ≠ w.heap.size; omega) _) _) (fun _ _ => trivial), below_alloc ((HBW.out.setCell (p := ⟨w.heap.size, 0, none⟩) (Nat.le_refl _) _).setCell (p := ⟨w.heap.size, 1, none⟩) (Nat.le_refl _) _) _⟩

end Go.Proofs.Ytafminohaofjnaa.Print
