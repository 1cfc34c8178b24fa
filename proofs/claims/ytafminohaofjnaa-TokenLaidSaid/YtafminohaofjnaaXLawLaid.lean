/- The statement TokenLaid, walked. -/
import Derived.Test.YtafminohaofjnaaXGap
import Derived.Test.YtafminohaofjnaaXReads
import Derived.Test.YtafminohaofjnaaF18
import Derived.Test.YtafminohaofjnaaEq30
namespace Go.Proofs.Ytafminohaofjnaa.Print
open Go.RowKit Go.Proofs.YtafminohaofjnaaW.PrintWords Go.Proofs.YtafminohaofjnaaW.PrintLast Go.Proofs.YtafminohaofjnaaW.PrintMore
set_option linter.unusedVariables false
set_option linter.unusedSimpArgs false
theorem Fp.blk {base g k t : Nat} {cs : Array Value} {w w1 : World} (h : Fp base g w w1) (hb : w.heap[k]? = some (.cells cs t (0, 0))) (ht : t ≠ 5) (hk : k ≠ g) : w1.heap[k]? = some (.cells cs t (0, 0)) := (h.t k cs t hb ht hk).trans hb
theorem Fp.S {base g b : Nat} {ok : Nat → Prop} {cs : Array Value} {w w1 : World} {v : Value} {xs : List S45} (h : Fp base g w w1) (hg : w.heap[g]? = some (.cells cs 39 (0, 0))) (hS : Kd.S k45 45 w b ok v xs) : Kd.S k45 45 w1 b ok v xs :=
  Kd.S_mono (Kd.S_step (Kd.S_bound hS) (fun k hk _ => by
    obtain ⟨_, _, _, q, hq, cells, hc⟩ := hk
    have h5 : ∀ q, q ∈ 45 :: k45.E → q ≠ 5 ∧ q ≠ 39 := by decide
    refine h.t k cells q hc (h5 q hq).1 (fun he => ?_)
    subst he
    rw [hg] at hc
    injection hc with hc
    injection hc with _ hc
    exact (h5 q hq).2 hc.symm)) (fun _ hk => hk.1)
theorem Fp.R {base g b : Nat} {ok : Nat → Prop} {cs : Array Value} {w w1 : World} {v : Value} {xs : List S23} (h : Fp base g w w1) (hg : w.heap[g]? = some (.cells cs 39 (0, 0))) (hS : Kd.R k23 23 w b ok v xs) : Kd.R k23 23 w1 b ok v xs :=
  Kd.R_mono (Kd.R_step (Kd.R_bound hS) (fun k hk _ => by
    obtain ⟨_, _, _, q, hq, cells, hc⟩ := hk
    have h5 : ∀ q, q ∈ 23 :: k23.E → q ≠ 5 ∧ q ≠ 39 := by decide
    refine h.t k cells q hc (h5 q hq).1 (fun he => ?_)
    subst he
    rw [hg] at hc
    injection hc with hc
    injection hc with _ hc
    exact (h5 q hq).2 hc.symm)) (fun _ hk => hk.1)
/-- what stands first in an entry's line -/
def First (T : List Int) (x0 : Bool) (m : Nat) (T2 : List Int) : Prop := ∃ S, T2 = T ++ S ∧ (S = [] → x0 = false ∧ m = 0) ∧ ∀ c r, S = c :: r → blankB c = x0
theorem first_none (T : List Int) : First T false 0 T := ⟨[], by simp, fun _ => ⟨rfl, rfl⟩, fun c r h => by cases h⟩
theorem first_blank (T : List Int) : First T true 0 (T ++ [32]) := ⟨[32], rfl, fun h => (by cases h), fun c r h => by injection h with h _; subst h; decide⟩
theorem First.more {T T2 : List Int} {x0 : Bool} {m : Nat} (h : First T x0 m T2) (hm : x0 = true ∨ 0 < m) (X : List Int) : First T x0 m (T2 ++ X) := by
  obtain ⟨S, h1, h2, h3⟩ := h
  cases S with
  | nil => obtain ⟨h4, h5⟩ := h2 rfl; rcases hm with hm | hm; (rw [h4] at hm; cases hm); omega
  | cons c r => exact ⟨c :: (r ++ X), by rw [h1, List.append_assoc]; rfl, fun e => (by cases e), fun c' r' e => by injection e with e _; subst e; exact h3 _ _ rfl⟩
theorem First.word {T T2 : List Int} {x0 : Bool} {m : Nat} (h : First T x0 m T2) {X : List Int} (hX : ∃ c r, X = c :: r ∧ blankB c = false) : First T x0 (m + 1) (T2 ++ X) := by
  obtain ⟨S, h1, h2, h3⟩ := h
  cases S with
  | nil =>
    obtain ⟨h4, h5⟩ := h2 rfl
    obtain ⟨c, r, rfl, hc⟩ := hX
    exact ⟨c :: r, by rw [h1, List.append_nil], fun e => by (cases e), fun c' r' e => by injection e with e _; subst e; rw [h4]; exact hc⟩
  | cons c r => exact ⟨c :: (r ++ X), by rw [h1, List.append_assoc]; rfl, fun e => (by cases e), fun c' r' e => by injection e with e _; subst e; exact h3 _ _ rfl⟩
theorem First.at {T T2 : List Int} {x0 : Bool} {m : Nat} (h : First T x0 m T2) (hm : 0 < m) (X : List Int) : T.length < (T2 ++ X).length ∧ blankB ((T2 ++ X).getD T.length 0) = x0 := by
  obtain ⟨S, h1, h2, h3⟩ := h
  cases S with
  | nil => have := (h2 rfl).2; omega
  | cons c r =>
    subst h1
    refine ⟨by simp, ?_⟩
    rw [List.append_assoc, List.getD_eq_getElem?_getD, List.getElem?_append_right (Nat.le_refl _), Nat.sub_self]
    exact h3 _ _ rfl
theorem bytes_app {a b : List Int} (ha : Bytes a) (hb : Bytes b) : Bytes (a ++ b) := fun x hx => (List.mem_append.1 hx).elim (ha x) (hb x)
theorem bytes_gap (k : Int) (o : Nat) : Bytes (gapP k o).1 := by
  unfold gapP
  repeat' split
  all_goals (intro x hx; simp only [List.mem_cons, List.not_mem_nil, or_false] at hx; omega)
theorem Sh.step {w w1 : World} {g base : Nat} {T : List Int} {o : Nat} (h : Sh w g base T o) (hg : w1.heap[g]? = w.heap[g]?) (ht : ∀ (k : Nat) (cs : Array Value), w.heap[k]? = some (.cells cs 5 (0, 0)) → w1.heap[k]? = w.heap[k]?) (hs : w.heap.size ≤ w1.heap.size) : Sh w1 g base T o := by
  obtain ⟨⟨v, h1, h2⟩, hlt, hsz⟩ := h
  refine ⟨⟨v, hg.trans h1, Kd.R_mono (Kd.R_step (Kd.R_bound h2) (fun k hk _ => ?_)) (fun _ hk => hk.1)⟩, hlt, Nat.le_trans hsz hs⟩
  obtain ⟨_, _, _, q, hq, cells, hc⟩ := hk
  have h5 : ∀ q, q ∈ 5 :: (Kd.int .u8).E → q = 5 := by decide
  rw [h5 q hq] at hc
  exact ht k cells hc
theorem Sh.put {w : World} {g base : Nat} {T : List Int} {o : Nat} (h : Sh w g base T o) {b t : Nat} {cs : Array Value} (hb : w.heap[b]? = some (.cells cs t (0, 0))) (ht : t ≠ 5) (hbg : g ≠ b) (j : Nat) (u : Value) : Sh (w.setCell ⟨b, j, none⟩ u) g base T o :=
  h.step (Below.heap_setCell w ⟨b, j, none⟩ u g hbg) (fun k c hk => Below.heap_setCell w ⟨b, j, none⟩ u k (fun e => by
    have e : k = b := e
    subst e
    rw [hk] at hb
    injection hb with hb
    injection hb with _ hb
    exact ht hb.symm)) (by simp [World.setCell])
theorem Sh.grown {w w1 : World} {g base : Nat} {T : List Int} {o : Nat} (h : Sh w g base T o) {v : Value} (hg : w.grownBy w1 v.ownBlock) {t : Nat} (ht : t ≠ 5 ∧ t ≠ 39) (hv : ∀ k, v.ownBlock = some k → ∃ cells, w.heap[k]? = some (.cells cells t (0, 0))) : Sh w1 g base T o := by
  obtain ⟨⟨vs, h1, _⟩, _, _⟩ := id h
  refine h.step (hg.block g (blk_lt h1) (fun e => ?_)) (fun k c hk => hg.block k (blk_lt hk) (fun e => ?_)) hg.size
  · obtain ⟨cs, hc⟩ := hv g e.symm
    rw [h1] at hc
    injection hc with hc
    injection hc with _ hc
    exact ht.2 hc.symm
  · obtain ⟨cs, hc⟩ := hv k e.symm
    rw [hk] at hc
    injection hc with hc
    injection hc with _ hc
    exact ht.1 hc.symm
theorem gapOf_f {l : List Int} (h : Bytes l) (m : Nat) : ∃ r, hearsaylaw08_gapOf.f l (m : Int) = some r ∧ 0 ≤ r ∧ r < 256 := by
  unfold hearsaylaw08_gapOf.f
  by_cases h1 : (m : Int) < (l.length : Int)
  · rw [if_pos h1, if_pos (by omega)]
    refine ⟨_, rfl, ?_⟩
    unfold rd
    rw [Int.toNat_natCast, List.getD_eq_getElem?_getD, List.getElem?_eq_getElem (by omega)]
    exact h _ (List.getElem_mem _)
  · rw [if_neg h1]
    exact ⟨0, rfl, by omega, by omega⟩
theorem nil_empty : (⟨#[]⟩ : ByteArray).toList.isEmpty = true := by
  unfold ByteArray.toList
  unfold ByteArray.toList.loop
  rfl
theorem gap_pos (k : Int) (o : Nat) : 1 ≤ (gapP k o).1.length := by
  unfold gapP
  repeat' split
  all_goals simp
theorem First.le {T T2 : List Int} {x0 : Bool} {m : Nat} (h : First T x0 m T2) : T.length ≤ T2.length := by
  obtain ⟨S, rfl, _⟩ := h
  simp
theorem bytes_rep (n : Nat) : Bytes (List.replicate n 41) := fun x hx => by
  have := List.eq_of_mem_replicate hx
  omega
theorem bytes_end : Bytes endB := by
  intro x hx
  unfold endB at hx
  simp only [List.mem_cons, List.not_mem_nil, or_false] at hx
  omega
/-- how many parentheses are open, as the sheet has it -/
def openOf (w : World) (g : Nat) : Nat := match w.cell? ⟨g, 3, none⟩ with | some (.int _ z) => z.toNat | _ => 0
theorem open_of {w : World} {g base : Nat} {T : List Int} {o : Nat} (h : Sh w g base T o) : openOf w g = o := by
  obtain ⟨⟨v, h1, _⟩, _, _⟩ := h
  unfold openOf
  rw [show w.cell? ⟨g, 3, none⟩ = some (.int .i64 (o : Int)) from (blk_cell h1 3).trans rfl]
  simp
theorem empty_of {s : ByteArray} (h : bytesOf s = []) : s.toList.isEmpty = true := by
  have e : s = ⟨#[]⟩ := bo_inj (by rw [h]; rfl)
  rw [e]; exact nil_empty
theorem sh_new (w : World) : Sh (w.alloc (.cells #[.slice none 0 0, .int .i64 1, .int .i64 1, .int .i64 0] 39)) w.heap.size (w.heap.size + 1) [] 0 :=
  ⟨⟨.slice none 0 0, blk_new w _, Kd.R_nil _ _ _ _ _⟩, by omega, by simp⟩
attribute [local go_sem high] eqA30
set_option maxHeartbeats 40000000 in
set_option maxRecDepth 100000 in
theorem tokenLaid_calls (A : Option Addr) (c : Nat) (L : List S42) (w : World) (hC : Kd.C k42 w A L.length L) (hc : L.length ≤ c) (hwf : ∀ x ∈ L, Bytes x.f2) :
    Calls Try.prog 5 #[.slice A L.length c] w fun e w' => e = .returned (.bool true) ∧ Below w.heap.size w w' := by
  by_cases h40 : 40 < L.length
  · have h1 : (40 : Int) < (L.length : Int) := by omega
    go_enter Try.func5, Try.ntmps5
    go_wp2
    go_ret
    exact ⟨rfl, Below.refl _ _⟩
  · have h1 : ¬ (40 : Int) < (L.length : Int) := by omega
    have h1' : decide ((40 : Int) < (L.length : Int)) = false := decide_eq_false h1
    have HC := Aside0.mk hC
    have HLC := Aside0.mk hc
    have HWF := Aside0.mk hwf
    clear hC hc hwf
    go_enter Try.func5, Try.ntmps5
    go_wp2
    have HSH := Aside0.mk (sh_new w)
    have HB := Aside0.mk (below_alloc (Below.refl w.heap.size w) (.cells #[.slice none 0 0, .int .i64 1, .int .i64 1, .int .i64 0] 39))
    have HT := Aside0.mk told_nil
    generalize w.alloc (.cells #[.slice none 0 0, .int .i64 1, .int .i64 1, .int .i64 0] 39) = w1 at HSH HB ⊢
    obtain ⟨gs, hgs⟩ : ∃ n, n = w.heap.size := ⟨_, rfl⟩
    rw [← hgs] at HSH ⊢
    have HGS := Aside0.mk hgs
    clear hgs
    have hLm : L.length ≤ 40 := by omega
    go_loopw [4, 5] (fun v4 i wr => ∃ (k : Nat) (T : List Int) (toks : List Tok) (out : List S45), k ≤ L.length ∧ i = .int .i64 k ∧ Aside0 (Sh wr gs (gs + 1) T 0) ∧ Aside0 (Told T toks [] false T.length [] out) ∧ Aside0 (Kd.S k45 45 wr (gs + 1) (fun _ => True) v4 out) ∧ Aside0 (T.length ≤ 5101 * k ∧ out.length ≤ k ∧ Bytes T) ∧ Aside0 (Below w.heap.size w wr)) (fun _ i _ => L.length - (intOf i).toNat)
    case atStart => exact ⟨0, [], [], [], Nat.zero_le _, rfl, HSH, HT, ⟨Kd.S_nil _ _ _ _ _⟩, ⟨by simp, by simp, fun x hx => by cases hx⟩, HB⟩
    case round =>
      clear HSH HB HT
      obtain ⟨k, T, toks, out, hk, rfl, HSH, HT, HW, HZ, HB⟩ := hrel
      by_cases hlt : k < L.length
      · obtain ⟨x, hx⟩ : ∃ x, L[k]? = some x := ⟨L[k], List.getElem?_eq_getElem hlt⟩
        have hxi : rd_T42 L (k : Int) = x := by unfold rd_T42; rw [Int.toNat_natCast, List.getD_eq_getElem?_getD, hx]; rfl
        have HBX := Aside0.mk (HWF.out x (List.mem_of_getElem? hx))
        have HXI := Aside0.mk hxi
        clear hx hxi
        obtain ⟨ad, A1, c1, A2, c2, rfl, k0, k1, k2, hl1, hC1, hl2, hC2⟩ := at_T42 HC.out (k : Int) (by omega) (by omega)
        rw [HXI.out] at k0 k1 k2 hl1 hC1 hl2 hC2
        rw [Int.toNat_natCast] at k0 k1 k2
        have HQ0 := Aside0.mk k0
        have HQ1 := Aside0.mk k1
        have HQ2 := Aside0.mk k2
        replace k0 := pw_cell_below HB.out k0
        replace k1 := pw_cell_below HB.out k1
        replace k2 := pw_cell_below HB.out k2
        have HC1 := Aside0.mk hC1
        have HC2 := Aside0.mk hC2
        have HL1 := Aside0.mk hl1
        have HL2 := Aside0.mk hl2
        clear hC1 hC2 hl1 hl2
        have hk0 : (0 : Int) ≤ (k : Int) := by omega
        have hkl : (k : Int) < (L.length : Int) := by omega
        by_cases h20 : 20 < x.f1.length
        · have h2 : (20 : Int) < (x.f1.length : Int) := by omega
          go_wp2
          go_ret
          exact ⟨rfl, HB.out⟩
        · have h2 : ¬ (20 : Int) < (x.f1.length : Int) := by omega
          have h2' : decide ((20 : Int) < (x.f1.length : Int)) = false := decide_eq_false h2
          go_wp2
          obtain ⟨⟨vb, hbk, hvb⟩, _, hsz⟩ := HSH.out
          have s1 : wr.cell? ⟨gs, 1, none⟩ = some (.int .i64 (pl T T.length).1) := (blk_cell hbk 1).trans rfl
          obtain ⟨ln, hln⟩ : ∃ l, l = (pl T T.length).1 := ⟨_, rfl⟩
          rw [← hln] at s1
          have HLN := Aside0.mk hln
          have HSZ := Aside0.mk hsz
          clear hln hsz hbk hvb
          have HCd := Aside0.mk (show wr.drew.cell? (ad.add (k * 3)) = some (.bool x.f0) ∧ wr.drew.cell? ⟨gs, 1, none⟩ = some (.int .i64 ln) from ⟨k0, s1⟩)
          have HBd := Aside0.mk (below_drew1 (Below.refl wr.heap.size wr))
          refine start_ (n := 10) (S := (fun w' => w'.cell? (ad.add (k * 3)) = some (.bool x.f0) ∧ w'.cell? ⟨gs, 1, none⟩ = some (.int .i64 ln))) (ds := [9]) #[false, false, false, false, false, false, false, false, false, false] (by kernel_rfl) rfl rfl HCd.out (fun hHeld => ?_)
          generalize wr.drew = wd at HBd HCd hHeld ⊢
          refine pure_ (i := 0) (N := some 31) (v := ?_) (a' := ?_) #[true, false, false, false, false, false, false, false, false, false] rfl rfl (by kernel_rfl) (fun _ _ _ h => h) (Or.inl ⟨by rfl, ?_⟩) ?_ ?_
          rotate_left
          · intro w'
            go_simp
            with_reducible rfl
          rotate_left
          · simp only [Act.put, List.setIfInBounds_toArray, List.set_cons_zero, List.set_cons_succ, i64_w, i32_w]
            rfl
          refine pure_ (i := 1) (N := some 32) (v := ?_) (a' := ?_) #[true, true, false, false, false, false, false, false, false, false] rfl rfl (by kernel_rfl) (fun _ _ _ h => h) (Or.inl ⟨by rfl, ?_⟩) ?_ ?_
          rotate_left
          · intro w'
            go_simp
            with_reducible rfl
          rotate_left
          · simp only [Act.put, List.setIfInBounds_toArray, List.set_cons_zero, List.set_cons_succ, i64_w, i32_w]
            rfl
          refine pure_ (i := 2) (N := some 33) (v := ?_) (a' := ?_) #[true, true, true, false, false, false, false, false, false, false] rfl rfl (by kernel_rfl) (fun _ _ _ h => h) (Or.inl ⟨by rfl, ?_⟩) ?_ ?_
          rotate_left
          · intro w'
            go_simp
            with_reducible rfl
          rotate_left
          · simp only [Act.put, List.setIfInBounds_toArray, List.set_cons_zero, List.set_cons_succ, i64_w, i32_w]
            rfl
          refine pure_ (i := 3) (N := some 34) (v := ?_) (a' := ?_) #[true, true, true, true, false, false, false, false, false, false] rfl rfl (by kernel_rfl) (fun _ _ _ h => h) (Or.inl ⟨by rfl, ?_⟩) ?_ ?_
          rotate_left
          · intro w'
            go_simp
            with_reducible rfl
          rotate_left
          · simp only [Act.put, List.setIfInBounds_toArray, List.set_cons_zero, List.set_cons_succ, i64_w, i32_w]
            rfl
          refine take_ (i := 4) (N := some 35) (v := ?_) (a' := ?_) #[true, true, true, true, true, false, false, false, false, false] rfl rfl (by kernel_rfl) (fun _ _ _ h => h) (Or.inl ⟨by rfl, ?_⟩) hHeld ?_ ?_
          rotate_left
          · rintro w' ⟨h0_, h1_⟩
            go_simp
            with_reducible rfl
          rotate_left
          · simp only [Act.put, List.setIfInBounds_toArray, List.set_cons_zero, List.set_cons_succ, i64_w, i32_w]
            rfl
          refine pure_ (i := 5) (N := some 36) (v := ?_) (a' := ?_) #[true, true, true, true, true, true, false, false, false, false] rfl rfl (by kernel_rfl) (fun _ _ _ h => h) (Or.inl ⟨by rfl, ?_⟩) ?_ ?_
          rotate_left
          · intro w'
            go_simp
            with_reducible rfl
          rotate_left
          · simp only [Act.put, List.setIfInBounds_toArray, List.set_cons_zero, List.set_cons_succ, i64_w, i32_w]
            rfl
          refine take_ (i := 6) (N := some 37) (v := ?_) (a' := ?_) #[true, true, true, true, true, true, true, false, false, false] rfl rfl (by kernel_rfl) (fun _ _ _ h => h) (Or.inl ⟨by rfl, ?_⟩) hHeld ?_ ?_
          rotate_left
          · rintro w' ⟨h0_, h1_⟩
            go_simp
            with_reducible rfl
          rotate_left
          · simp only [Act.put, List.setIfInBounds_toArray, List.set_cons_zero, List.set_cons_succ, i64_w, i32_w]
            rfl
          refine pure_ (i := 7) (N := some 38) (v := ?_) (a' := ?_) #[true, true, true, true, true, true, true, true, false, false] rfl rfl (by kernel_rfl) (fun _ _ _ h => h) (Or.inl ⟨by rfl, ?_⟩) ?_ ?_
          rotate_left
          · intro w'
            go_simp
            with_reducible rfl
          rotate_left
          · simp only [Act.put, List.setIfInBounds_toArray, List.set_cons_zero, List.set_cons_succ, i64_w, i32_w]
            rfl
          refine one_ (i := 8) (N := some 6) #[true, true, true, true, true, true, true, true, true, false] rfl rfl (by kernel_rfl) (by decide) (fun K hK => ?_)
          refine value_ (v := .pointer (some ⟨wd.heap.size, 0, none⟩)) (w1 := wd.alloc (.cells #[.bool false, .int .i64 0, .slice none 0 0] 45)) (by rfl) rfl ?_ ?_
          · go_simp
            try with_reducible rfl
          refine hK.out _ _ (have ha := (below_alloc (Below.refl wd.heap.size wd) (.cells #[.bool false, .int .i64 0, .slice none 0 0] 45 (0, 0))); ⟨pw_cell_below ha hHeld.1, pw_cell_below ha hHeld.2⟩) (fun hHeld => ?_)
          clear hK K
          refine norm_ (a' := ?_) ?_ ?_
          rotate_left
          · show Act.put _ (some 6) _ = _
            simp only [Act.put, List.setIfInBounds_toArray, List.set_cons_zero, List.set_cons_succ, i64_w, i32_w]
            rfl
          refine last_ (i := 9) (N := none) #[true, true, true, true, true, true, true, true, true, true] rfl rfl (by kernel_rfl) (by decide) (fun K hK => ?_)
          refine skip_ (w1 := ?_) (by rfl) rfl ?_ ?_
          rotate_left
          · go_simp
            rfl
          refine hK.out _ _ ?_
          clear hK K
          refine done_ (by kernel_rfl) ?_
          have HNB := Aside0.mk (blk_new wd (.cells #[.bool x.f0, .int .i64 ln, .slice none 0 0] 45))
          have hba := below_alloc HBd.out (.cells #[.bool x.f0, .int .i64 ln, .slice none 0 0] 45)
          have HSH2 := Aside0.mk (HSH.out.below hba)
          have HW2 := Aside0.mk (Kd.S_below (Kd.S_mono (ok' := fun k_ => k_ ≠ wd.heap.size) (Kd.S_bound HW.out) (fun k_ hk_ => by have h1_ := hk_.2.2.1; have h2_ := HBd.out.size; omega)) hba)
          have HB2 := Aside0.mk (below_step HB.out hba)
          have HNG := Aside0.mk (show gs + 1 ≤ wd.heap.size from Nat.le_trans HSZ.out HBd.out.size)
          clear hba HSH HW HB k0 k1 k2 s1 HBd HCd HSZ hHeld
          generalize wd.alloc (.cells #[.bool x.f0, .int .i64 ln, .slice none 0 0] 45) = w2 at HNB HSH2 HW2 HB2 ⊢
          generalize wd.heap.size = nb at HNB HNG HW2 ⊢
          have k0 := pw_cell_below HB2.out HQ0.out
          have HTL := Aside0.mk (show T.length + (⟨#[32]⟩ : ByteArray).size ≤ 262144 from by show T.length + 1 ≤ 262144; have := HZ.out.1; omega)
          go_upto_if 43 with (fail)
          go_cut [] (fun wc => ∃ T1 : List Int, Aside0 (T1 = if x.f0 = true then T ++ [32] else T) ∧ Aside0 (Sh wc gs (gs + 1) T1 0) ∧ Aside0 (Fp (gs + 1) gs w2 wc))
          case first =>
            obtain ⟨xb, hxb⟩ : ∃ b, b = x.f0 := ⟨_, rfl⟩
            rw [← hxb]
            have HXB := Aside0.mk hxb
            clear hxb k0
            cases xb with
            | true =>
              go_wp2_with (first | (go_at_call 16; (with_reducible refine (sput_calls (⟨#[32]⟩ : ByteArray) T 0 gs (gs + 1) _ HSH2.out HTL.out).mono ?_); rintro e w3 ⟨rfl, h1_, h2_⟩; have HS3 := Aside0.mk h1_; have HF3 := Aside0.mk h2_; clear h1_ h2_))
              go_meet
              case rel => exact ⟨T ++ [32], ⟨by rw [if_pos HXB.out.symm]⟩, HS3, HF3⟩
            | false =>
              go_wp2
              go_meet
              case rel => exact ⟨T, ⟨by rw [← HXB.out, if_neg (by simp)]⟩, HSH2, ⟨Fp.refl _ _ _⟩⟩
          case rest =>
            obtain ⟨T1, HT1, HS, HF⟩ := hcut
            obtain ⟨⟨vs_, hgs_, _⟩, _, _⟩ := HSH2.out
            have HW := Aside0.mk (HF.out.S hgs_ HW2.out)
            have HB := Aside0.mk (HB2.out.trans (by rw [← HGS.out]; exact HF.out.b.b))
            have HN := Aside0.mk (HF.out.blk HNB.out (by decide) (by have := HNG.out; omega))
            clear hgs_ HW2 HB2 HNB HSH2 HF HTL k0
            have HTD : Aside0 (Told T1 toks [] false T.length [] out) := ⟨by
              rw [HT1.out]
              split
              · exact (HT.out.gap 0).choose_spec.2 |> fun h => by
                  have e : gapP 0 0 = ([32], 0) := by decide
                  have h0 : (HT.out.gap 0).choose = [] := List.eq_nil_of_length_eq_zero ((HT.out.gap 0).choose_spec.1.trans (by show (gapP 0 0).2 = 0; rw [e]))
                  rw [h0] at h
                  simpa [e] using h
              · exact HT.out⟩
            have HFR : Aside0 (First T x.f0 0 T1) := ⟨by rw [HT1.out]; cases hx0 : x.f0 <;> simp only [if_true, Bool.false_eq_true, if_false]; exact first_none T; exact first_blank T⟩
            have HT1L : Aside0 (T1.length ≤ T.length + 1 ∧ Bytes T1) := ⟨by rw [HT1.out]; split; exact ⟨by simp, bytes_app HZ.out.2.2 (fun x hx => by simp only [List.mem_cons, List.not_mem_nil, or_false] at hx; omega)⟩; exact ⟨by omega, HZ.out.2.2⟩⟩
            clear HT1
            go_wp2
            go_loopw [7] (fun i wr => ∃ (m : Nat) (T2 : List Int) (tk : List Tok) (ops : List Nat) (ws : List S23) (br : Bool) (vw : Value), m ≤ x.f1.length ∧ i = .int .i64 m ∧ Aside0 (Sh wr gs (gs + 1) T2 ops.length) ∧ Aside0 (Told T2 tk ops br T.length ws out) ∧ Aside0 (First T x.f0 m T2) ∧ Aside0 (wr.heap[nb]? = some (.cells #[.bool x.f0, .int .i64 ln, vw] 45 (0, 0))) ∧ Aside0 (Kd.R k23 23 wr (gs + 1) (fun k_ => k_ ≠ nb) vw ws) ∧ Aside0 (Kd.S k45 45 wr (gs + 1) (fun k_ => some k_ ≠ vw.ownBlock ∧ k_ ≠ nb) u4 out) ∧ Aside0 (Below w.heap.size w wr) ∧ Aside0 (T2.length ≤ T.length + 1 + 253 * m ∧ ops.length ≤ m ∧ ws.length = m ∧ Bytes T2 ∧ (m = 0 → br = false))) (fun i _ => x.f1.length - (intOf i).toNat)
            case atStart => exact ⟨0, T1, toks, [], [], false, .slice none 0 0, Nat.zero_le _, rfl, HS, HTD, HFR, HN, ⟨Kd.R_nil _ _ _ _ _⟩, ⟨Kd.S_mono HW.out (fun k_ hk_ => ⟨by simp [Value.ownBlock], hk_⟩)⟩, HB, ⟨by have := HT1L.out.1; omega, by simp, rfl, HT1L.out.2, fun _ => rfl⟩⟩
            case round =>
              clear HS HTD HFR HN HW HB HT1L
              obtain ⟨m, T2, tk, ops, ws, br, vw, hm, rfl, HS, HTD, HFR, HN, HWR, HO, HB, HZ2⟩ := hrel
              have k1 := pw_cell_below HB.out HQ1.out
              by_cases hmw : m < x.f1.length
              · obtain ⟨y, hy⟩ : ∃ y, rd_T48 x.f1 (m : Int) = y := ⟨_, rfl⟩
                obtain ⟨ad1, rfl, j0, j1⟩ := at_T48 HC1.out (m : Int) (by omega) (by omega)
                rw [hy] at j0 j1
                rw [Int.toNat_natCast] at j0 j1
                replace j0 := pw_cell_below HB.out j0
                replace j1 := pw_cell_below HB.out j1
                clear hy
                have hm0 : (0 : Int) ≤ (m : Int) := by omega
                have hml : (m : Int) < (x.f1.length : Int) := by omega
                by_cases h60 : 60 < y.f0.size
                · have h3 : (60 : Int) < (y.f0.size : Int) := by omega
                  go_wp2
                  go_ret
                  exact ⟨rfl, below_alloc HB.out _⟩
                · have h3 : ¬ (60 : Int) < (y.f0.size : Int) := by omega
                  have h3' : decide ((60 : Int) < (y.f0.size : Int)) = false := decide_eq_false h3
                  go_upto_region 17 with (fail)
                  have HX := Aside0.mk (blk_new wr (.cells #[.string y.f0, .bool y.f1] 48))
                  have hba := below_alloc (Below.refl wr.heap.size wr) (.cells #[.string y.f0, .bool y.f1] 48)
                  have HS_ := Aside0.mk (HS.out.below hba)
                  have HN_ := Aside0.mk (blk_below HN.out hba)
                  have HWR_ := Aside0.mk (Kd.R_below HWR.out hba)
                  have HO_ := Aside0.mk (Kd.S_below HO.out hba)
                  have HB_ := Aside0.mk (below_step HB.out hba)
                  have HXN := Aside0.mk (show gs ≠ wr.heap.size ∧ nb ≠ wr.heap.size from ⟨by have := HS.out.lt; have := HS.out.size; omega, Nat.ne_of_lt (blk_lt HN.out)⟩)
                  clear hba HS HN HWR HO HB k1 j0 j1
                  generalize wr.alloc (.cells #[.string y.f0, .bool y.f1] 48) = w3 at HX HS_ HN_ HWR_ HO_ HB_ ⊢
                  generalize wr.heap.size = bx at HX HXN ⊢
                  have x0 : w3.cell? ⟨bx, 0, none⟩ = some (.string y.f0) := (blk_cell HX.out 0).trans rfl
                  go_upto_region 19 with (fail)
                  have k0 := pw_cell_below HB_.out HQ0.out
                  go_cut [75] (fun c_ wc_ => c_ = .bool (decide (0 < m) || x.f0) ∧ wc_ = w3)
                  case first =>
                    by_cases hmp : 0 < m
                    · have hmp1 : (0 : Int) < (m : Int) := by omega
                      have hmp2 : decide ((0 : Int) < (m : Int)) = true := decide_eq_true hmp1
                      go_wp2
                      go_meet
                      case rel => exact ⟨by simp [hmp], rfl⟩
                    · have hmp1 : ¬ (0 : Int) < (m : Int) := by omega
                      have hmp2 : decide ((0 : Int) < (m : Int)) = false := decide_eq_false hmp1
                      go_wp2
                      go_meet
                      case rel => exact ⟨by simp [hmp], rfl⟩
                  case rest =>
                    obtain ⟨rfl, hwc⟩ := hcut
                    have hwc := hwc.symm
                    subst hwc
                    clear k0 x0
                    obtain ⟨cb, hcb⟩ : ∃ b, b = (decide (0 < m) || x.f0) := ⟨_, rfl⟩
                    rw [← hcb]
                    have HCB := Aside0.mk hcb
                    clear hcb
                    have k2 := pw_cell_below HB_.out HQ2.out
                    obtain ⟨gr, hgr, hg0, hg256⟩ := gapOf_f HBX.out m
                    have HGR := Aside0.mk hgr
                    clear hgr
                    have HTL := Aside0.mk (show T2.length + 11 ≤ 262144 ∧ ops.length ≤ 262144 from by have h1_ := HZ2.out.1; have h2_ := HZ2.out.2.1; have h3_ := HZ.out.1; omega)
                    go_upto_if 75 with (fail)
                    go_cut [] (fun wc_ => ∃ (T3 : List Int) (op3 : List Nat), Aside0 (Sh wc_ gs (gs + 1) T3 op3.length) ∧ Aside0 (Told T3 tk op3 false T.length ws out) ∧ Aside0 (First T x.f0 m T3) ∧ Aside0 (Fp (gs + 1) gs w3 wc_) ∧ Aside0 (T3.length ≤ T2.length + 11 ∧ op3.length ≤ ops.length + 1 ∧ Bytes T3))
                    case first =>
                      cases cb with
                      | true =>
                        go_wp2_with (first
                          | (go_at_call 18; (with_reducible refine (hearsaylaw08_gapOf.calls A2 c2 x.f2 (m : Int) gr _ (Kd.C_below HC2.out HB_.out) HL2.out HGR.out).mono ?_); rintro e w4 ⟨rfl, hd⟩; have hb := hd.below; have HS4 := Aside0.mk (HS_.out.below hb); have HF4 := Aside0.mk (Fp.of (g := gs) hb HS_.out.size (by omega)); clear hd hb)
                          | (go_at_call 17; (with_reducible refine (sgap_calls gr hg0 hg256 T2 ops.length gs (gs + 1) _ HS4.out HTL.out.1 HTL.out.2).mono ?_); rintro e w5 ⟨rfl, h1_, h2_⟩; have HS5 := Aside0.mk h1_; have HF5 := Aside0.mk (HF4.out.trans h2_); clear h1_ h2_))
                        go_meet
                        case rel =>
                          obtain ⟨op3, hop, htd⟩ := HTD.out.gap gr
                          refine ⟨T2 ++ (gapP gr ops.length).1, op3, ⟨by rw [hop]; exact HS5.out⟩, ⟨htd⟩, ⟨HFR.out.more ?_ _⟩, HF5, ?_⟩
                          · have h1_ := HCB.out.symm
                            simp only [Bool.or_eq_true, decide_eq_true_eq] at h1_
                            exact h1_.symm
                          · have h1_ := gap_len gr ops.length
                            exact ⟨by rw [List.length_append]; omega, by omega, bytes_app HZ2.out.2.2.2.1 (bytes_gap _ _)⟩
                      | false =>
                        go_wp2
                        go_meet
                        case rel =>
                          have h1_ := HCB.out.symm
                          simp only [Bool.or_eq_false_iff, decide_eq_false_iff_not] at h1_
                          refine ⟨T2, ops, HS_, ⟨?_⟩, HFR, ⟨Fp.refl _ _ _⟩, ⟨by omega, by omega, HZ2.out.2.2.2.1⟩⟩
                          have h2_ := HZ2.out.2.2.2.2 (by omega)
                          rw [← h2_]
                          exact HTD.out
                    case rest =>
                      obtain ⟨T3, op3, HS, HTD3, HFR3, HF, HZ3⟩ := hcut
                      obtain ⟨⟨vs_, hgs_, _⟩, _, _⟩ := HS_.out
                      have HN := Aside0.mk (HF.out.blk HN_.out (by decide) (by have := HNG.out; omega))
                      have HX3 := Aside0.mk (HF.out.blk HX.out (by decide) (fun e => HXN.out.1 e.symm))
                      have HWR := Aside0.mk (HF.out.R hgs_ HWR_.out)
                      have HO := Aside0.mk (HF.out.S hgs_ HO_.out)
                      have HB := Aside0.mk (HB_.out.trans (by rw [← HGS.out]; exact HF.out.b.b))
                      obtain ⟨kf, hkf⟩ := (stands_f y.f0 y.f1 (by omega)).rounds
                      obtain ⟨sB, hsB⟩ : ∃ sB, sB = strOfNums (standsP y.f1 (bytesOf y.f0)) := ⟨_, rfl⟩
                      rw [← hsB] at hkf
                      have HKF := Aside0.mk hkf
                      have HSB := Aside0.mk (show bytesOf sB = standsP y.f1 (bytesOf y.f0) by rw [hsB]; exact stands_bytes y.f0 y.f1)
                      clear hgs_ hsB hkf HS_ HN_ HX HWR_ HO_ HB_ HTD HFR HCB HTL k2
                      have x0 : wc.cell? ⟨bx, 0, none⟩ = some (.string y.f0) := (blk_cell HX3.out 0).trans rfl
                      have x1 : wc.cell? ⟨bx, 1, none⟩ = some (.bool y.f1) := (blk_cell HX3.out 1).trans rfl
                      go_upto_region 22 with (first | (go_at_call 19; (with_reducible refine (hearsaylaw08_stands.calls kf y.f0 y.f1 sB _ HKF.out).mono ?_); rintro e w6 ⟨rfl, hb⟩; have HS6 := Aside0.mk (HS.out.below hb); have HN6 := Aside0.mk (blk_below HN.out hb); have HX6 := Aside0.mk (blk_below HX3.out hb); have HWR6 := Aside0.mk (Kd.R_below HWR.out hb); have HO6 := Aside0.mk (Kd.S_below HO.out hb); have HB6 := Aside0.mk (below_step HB.out hb); clear hb x0 x1))
                      clear HS HN HX3 HWR HO HB
                      have x1 : w6.cell? ⟨bx, 1, none⟩ = some (.bool y.f1) := (blk_cell HX6.out 1).trans rfl
                      obtain ⟨yq, hyq⟩ : ∃ b, b = y.f1 := ⟨_, rfl⟩
                      rw [← hyq] at x1
                      have HYQ := Aside0.mk hyq
                      clear hyq
                      go_cut [10] (fun c_ wc_ => c_ = .bool (yq || sB.toList.isEmpty) ∧ wc_ = w6)
                      case first =>
                        cases yq with
                        | true =>
                          go_wp2
                          go_meet
                          case rel => exact ⟨rfl, rfl⟩
                        | false =>
                          go_wp2
                          go_meet
                          case rel => exact ⟨rfl, rfl⟩
                      case rest =>
                        obtain ⟨rfl, hwc⟩ := hcut
                        have hwc := hwc.symm
                        subst hwc
                        clear x1
                        obtain ⟨q, hq⟩ : ∃ b, b = (yq || sB.toList.isEmpty) := ⟨_, rfl⟩
                        rw [← hq]
                        have HQQ := Aside0.mk hq
                        clear hq
                        obtain ⟨Aw, nw, ew⟩ := Kd.R_slice HWR6.out
                        subst ew
                        obtain ⟨⟨vs_, hgs_, _⟩, _, _⟩ := HS6.out
                        obtain ⟨pL, hpL⟩ : ∃ p, p = (pl T3 T3.length).1 := ⟨_, rfl⟩
                        obtain ⟨pC, hpC⟩ : ∃ p, p = (pl T3 T3.length).2 := ⟨_, rfl⟩
                        have s1 : w6.cell? ⟨gs, 1, none⟩ = some (.int .i64 pL) := (blk_cell hgs_ 1).trans (by rw [hpL]; rfl)
                        have s2 : w6.cell? ⟨gs, 2, none⟩ = some (.int .i64 pC) := (blk_cell hgs_ 2).trans (by rw [hpC]; rfl)
                        have HPL := Aside0.mk hpL
                        have HPC := Aside0.mk hpC
                        have n2 : w6.cell? ⟨nb, 2, none⟩ = some (.slice Aw ws.length nw) := (blk_cell HN6.out 2).trans rfl
                        have hnb : nb < w6.heap.size := blk_lt HN6.out
                        have hbs : gs + 1 ≤ w6.heap.size := HS6.out.size
                        have hgt : gs < w6.heap.size := by omega
                        have hwl : (ws.length + 1) * 40 ≤ 140737488355328 := by have h1_ := HZ2.out.2.2.1; omega
                        clear hpL hpC hgs_
                        go_upto_region 24 with (first
                          | ((with_reducible refine gate_builtin (b := .append) (xs := #[.tmp 93, .tmp 101]) rfl ?_); at_builtin; refine Kd.R_append k23 (w0 := w6) (gs + 1) (by rfl) (.tmp 93) (.tmp 101) 43 23 (.agg #[(.string ⟨#[]⟩), (.bool false), (.int .i64 0), (.int .i64 0)]) 40 rfl Try.underlying43 info23 rfl (by decide) (by omega) _ ws (⟨sB, q, pL, pC⟩ : S23) [.string sB, .bool q, .int .i64 pL, .int .i64 pC] (fun k_ => k_ ≠ nb) (fun _ => False) rfl rfl (k23_mkM _ _ _ (⟨sB, q, pL, pC⟩ : S23)) (fun k hk => hk.elim) (fun k hk => by omega) HWR6.out (Below.refl _ _) hbs hwl ?_; intro v1 w7 ho hb hg hat; obtain ⟨ws9, hws9⟩ : ∃ l, ws ++ [(⟨sB, q, pL, pC⟩ : S23)] = l := ⟨_, rfl⟩; rw [hws9] at ho; have HWS9 := Aside0.mk hws9; obtain ⟨A9, n9, e9⟩ := Kd.R_slice ho; subst e9; have HW7 := Aside0.mk ho; have HS7 := Aside0.mk (HS6.out.grown hg (t := 23) (by decide) (Kd.R_typed HWR6.out)); have HN7 := Aside0.mk (blk_grown HN6.out hg (fun e_ => HWR6.out.1 nb e_.symm rfl)); have HO7 := Aside0.mk (Kd.S_mono (ok' := fun k_ => some k_ ≠ (Value.slice A9 ws9.length n9).ownBlock ∧ k_ ≠ nb) (Kd.S_grown (Kd.S_bound HO6.out) hg (fun k_ hk_ => hk_.1.1)) (fun k_ hk_ => ⟨fun e_ => by (rcases hat with hat | ⟨b_, hb1_, hb2_⟩; exact hk_.1.1 (e_.trans hat); have h1_ := hk_.2.2.1; rw [hb1_] at e_; injection e_ with e_; omega), hk_.1.2⟩)); have HB7 := Aside0.mk (HB6.out.trans (below_to hb (by have h1_ := HGS.out; omega))); have m2 : w7.cell? ⟨nb, 2, none⟩ = some (.slice Aw ws.length nw) := (blk_cell HN7.out 2).trans rfl; have g2 := blk_frozen HN7.out 2; have hn7 : nb < w7.heap.size := blk_lt HN7.out; clear s1 s2 n2 hnb hbs hgt hwl hws9 ho hb hg hat))
                        have hgn : gs ≠ nb := by have h1_ := HNG.out; omega
                        have HS8 := Aside0.mk (HS7.out.put HN7.out (by decide) hgn 2 (.slice A9 ws9.length n9))
                        have HN8 := Aside0.mk (blk_put (cs' := #[.bool x.f0, .int .i64 ln, .slice A9 ws9.length n9]) HN7.out 2 (.slice A9 ws9.length n9) rfl)
                        have HW8 := Aside0.mk (Kd.R_far (p := ⟨nb, 2, none⟩) HW7.out (fun k_ hk_ => hk_) (.slice A9 ws9.length n9))
                        have HO8 := Aside0.mk (Kd.S_far (p := ⟨nb, 2, none⟩) HO7.out (fun k_ hk_ => hk_.2) (.slice A9 ws9.length n9))
                        have HB8 := Aside0.mk (below_set (g := nb) (j := 2) (v := .slice A9 ws9.length n9) HB7.out (by have h1_ := HNG.out; have h2_ := HGS.out; omega))
                        clear HS7 HN7 HW7 HO7 HB7 m2 g2 hn7 hgn HS6 HN6 HX6 HWR6 HO6 HB6 HF
                        generalize w7.setCell ⟨nb, 2, none⟩ (.slice A9 ws9.length n9) = w8 at HS8 HN8 HW8 HO8 HB8 ⊢
                        have hsz : sB.size ≤ 240 := by
                          have h1_ := (standsP_len y.f1 (bytesOf y.f0)).2
                          rw [← HSB.out, bytesOf_length, bytesOf_length] at h1_
                          omega
                        have z1 : (9223372036854775807 < 1 + sB.size) = False := eq_false (by omega)
                        have z2 : (9223372036854775807 < 1 + sB.size + 1) = False := eq_false (by omega)
                        cases q with
                        | true =>
                          go_upto_region 26 with (fail)
                          obtain ⟨tx, htx⟩ : ∃ t, t = (⟨#[34]⟩ : ByteArray) ++ sB ++ (⟨#[34]⟩ : ByteArray) := ⟨_, rfl⟩
                          rw [← htx]
                          have hbt : bytesOf tx = 34 :: (bytesOf sB ++ [34]) := by rw [htx, bo_append, bo_append]; rfl
                          have htz : tx.size ≤ 242 := by rw [← bytesOf_length, hbt]; simp only [List.length_cons, List.length_append, bytesOf_length, List.length_nil]; omega
                          have HTN := Aside0.mk (HTD3.out.quoted y.f1 HSB.out)
                          have HFN := Aside0.mk (HFR3.out.word (X := bytesOf tx) ⟨34, _, hbt, by decide⟩)
                          rw [← hbt, ← HPL.out, ← HPC.out, HWS9.out] at HTN
                          clear hbt
                          have hb6 : Bytes (bytesOf tx) := bytes_of tx
                          have hl6 : T3.length + tx.size ≤ 262144 := by have h1_ := HZ3.out.1; have h2_ := HZ2.out.1; have h3_ := HZ.out.1; omega
                          have HB6 := Aside0.mk hb6
                          have HL6 := Aside0.mk hl6
                          have HTXZ := Aside0.mk htz
                          clear hb6 hl6 htz hsz z1 z2 htx
                          go_wp2_with (first | (go_at_call 16; (with_reducible refine (sput_calls tx T3 op3.length gs (gs + 1) _ HS8.out HL6.out).mono ?_); rintro e w9 ⟨rfl, h1_, h2_⟩; have HS9 := Aside0.mk h1_; have HF9 := Aside0.mk h2_; clear h1_ h2_))
                          go_roundw
                          case rel =>
                            obtain ⟨⟨vs_, hgs_, _⟩, _, _⟩ := HS8.out
                            exact ⟨m + 1, T3 ++ bytesOf tx, _, op3, ws9, _, _, by omega, by go_num, HS9, HTN, HFN, ⟨HF9.out.blk HN8.out (by decide) (by have := HNG.out; omega)⟩, ⟨HF9.out.R hgs_ HW8.out⟩, ⟨HF9.out.S hgs_ HO8.out⟩, ⟨HB8.out.trans (by rw [← HGS.out]; exact HF9.out.b.b)⟩,
                              ⟨by rw [List.length_append, bytesOf_length]; have h1_ := HTXZ.out; have h2_ := HZ3.out.1; have h3_ := HZ2.out.1; omega, by have h1_ := HZ3.out.2.1; have h2_ := HZ2.out.2.1; omega, by rw [← HWS9.out, List.length_append, HZ2.out.2.2.1]; rfl, bytes_app HZ3.out.2.2 HB6.out, fun e => by omega⟩⟩
                          case measure => simp [intOf]; omega
                        | false =>
                          go_upto_region 26 with (fail)
                          obtain ⟨tx, htx⟩ : ∃ t, t = sB := ⟨_, rfl⟩
                          rw [← htx]
                          have hq_ := HQQ.out.symm
                          rw [Bool.or_eq_false_iff, HYQ.out] at hq_
                          have hsb := HSB.out
                          rw [hq_.1] at hsb
                          have hne : standsP false (bytesOf y.f0) ≠ [] := fun e_ => by
                            rw [e_] at hsb
                            have h1_ := hq_.2
                            rw [empty_of hsb] at h1_
                            cases h1_
                          have htz : tx.size ≤ 242 := by rw [htx]; omega
                          have HTN := Aside0.mk (HTD3.out.bare hsb hne)
                          have HFN := Aside0.mk (HFR3.out.word (X := bytesOf tx) (by
                            obtain ⟨c_, r_, h1_, h2_⟩ := stands_head hne
                            exact ⟨c_, r_, by rw [htx, hsb, h1_], (spec_parts h2_).1⟩))
                          rw [← HPL.out, ← HPC.out, HWS9.out] at HTN
                          rw [← htx] at HTN
                          clear hne hsb hq_
                          have hb6 : Bytes (bytesOf tx) := bytes_of tx
                          have hl6 : T3.length + tx.size ≤ 262144 := by have h1_ := HZ3.out.1; have h2_ := HZ2.out.1; have h3_ := HZ.out.1; omega
                          have HB6 := Aside0.mk hb6
                          have HL6 := Aside0.mk hl6
                          have HTXZ := Aside0.mk htz
                          clear hb6 hl6 htz hsz z1 z2 htx
                          go_wp2_with (first | (go_at_call 16; (with_reducible refine (sput_calls tx T3 op3.length gs (gs + 1) _ HS8.out HL6.out).mono ?_); rintro e w9 ⟨rfl, h1_, h2_⟩; have HS9 := Aside0.mk h1_; have HF9 := Aside0.mk h2_; clear h1_ h2_))
                          go_roundw
                          case rel =>
                            obtain ⟨⟨vs_, hgs_, _⟩, _, _⟩ := HS8.out
                            exact ⟨m + 1, T3 ++ bytesOf tx, _, op3, ws9, _, _, by omega, by go_num, HS9, HTN, HFN, ⟨HF9.out.blk HN8.out (by decide) (by have := HNG.out; omega)⟩, ⟨HF9.out.R hgs_ HW8.out⟩, ⟨HF9.out.S hgs_ HO8.out⟩, ⟨HB8.out.trans (by rw [← HGS.out]; exact HF9.out.b.b)⟩,
                              ⟨by rw [List.length_append, bytesOf_length]; have h1_ := HTXZ.out; have h2_ := HZ3.out.1; have h3_ := HZ2.out.1; omega, by have h1_ := HZ3.out.2.1; have h2_ := HZ2.out.2.1; omega, by rw [← HWS9.out, List.length_append, HZ2.out.2.2.1]; rfl, bytes_app HZ3.out.2.2 HB6.out, fun e => by omega⟩⟩
                          case measure => simp [intOf]; omega
              · obtain rfl : m = x.f1.length := by omega
                have k2 := pw_cell_below HB.out HQ2.out
                obtain ⟨gr, hgr, hg0, hg256⟩ := gapOf_f HBX.out x.f1.length
                have HGR := Aside0.mk hgr
                clear hgr
                have HTL := Aside0.mk (show T2.length + 11 ≤ 262144 ∧ ops.length ≤ 262144 from by have h1_ := HZ2.out.1; have h2_ := HZ2.out.2.1; have h3_ := HZ.out.1; omega)
                go_wp2
                have HBd := Aside0.mk (below_drew1 (Below.refl wr.heap.size wr))
                have HCd := Aside0.mk (show wr.drew.cell? ⟨(ad.add (k * 3)).block, (ad.add (k * 3)).off + 1, none⟩ = some (.slice A1 x.f1.length c1) ∧ wr.drew.cell? ⟨(ad.add (k * 3)).block, (ad.add (k * 3)).off + 2, none⟩ = some (.slice A2 x.f2.length c2) from ⟨k1, k2⟩)
                have hk0' : (0 : Int) ≤ (k : Int) := by omega
                have hkl' : (k : Int) < (L.length : Int) := by omega
                refine start_ (n := 13) (S := (fun w' => w'.cell? ⟨(ad.add (k * 3)).block, (ad.add (k * 3)).off + 1, none⟩ = some (.slice A1 x.f1.length c1) ∧ w'.cell? ⟨(ad.add (k * 3)).block, (ad.add (k * 3)).off + 2, none⟩ = some (.slice A2 x.f2.length c2))) (ds := [12]) #[false, false, false, false, false, false, false, false, false, false, false, false, false] (by kernel_rfl) rfl rfl HCd.out (fun hHeld => ?_)
                generalize wr.drew = wd at HBd HCd hHeld ⊢
                have HSd := Aside0.mk (HS.out.below HBd.out)
                have HBw := Aside0.mk (below_step HB.out HBd.out)
                refine pure_ (i := 0) (N := some 110) (v := ?_) (a' := ?_) #[true, false, false, false, false, false, false, false, false, false, false, false, false] rfl rfl (by kernel_rfl) (fun _ _ _ h => h) (Or.inl ⟨by rfl, ?_⟩) ?_ ?_
                rotate_left
                · intro w'
                  go_simp
                  with_reducible rfl
                rotate_left
                · simp only [Act.put, List.setIfInBounds_toArray, List.set_cons_zero, List.set_cons_succ, i64_w, i32_w]
                  rfl
                refine pure_ (i := 1) (N := some 111) (v := ?_) (a' := ?_) #[true, true, false, false, false, false, false, false, false, false, false, false, false] rfl rfl (by kernel_rfl) (fun _ _ _ h => h) (Or.inl ⟨by rfl, ?_⟩) ?_ ?_
                rotate_left
                · intro w'
                  go_simp
                  with_reducible rfl
                rotate_left
                · simp only [Act.put, List.setIfInBounds_toArray, List.set_cons_zero, List.set_cons_succ, i64_w, i32_w]
                  rfl
                refine pure_ (i := 2) (N := some 112) (v := ?_) (a' := ?_) #[true, true, true, false, false, false, false, false, false, false, false, false, false] rfl rfl (by kernel_rfl) (fun _ _ _ h => h) (Or.inl ⟨by rfl, ?_⟩) ?_ ?_
                rotate_left
                · intro w'
                  go_simp
                  with_reducible rfl
                rotate_left
                · simp only [Act.put, List.setIfInBounds_toArray, List.set_cons_zero, List.set_cons_succ, i64_w, i32_w]
                  rfl
                refine pure_ (i := 3) (N := some 113) (v := ?_) (a' := ?_) #[true, true, true, true, false, false, false, false, false, false, false, false, false] rfl rfl (by kernel_rfl) (fun _ _ _ h => h) (Or.inl ⟨by rfl, ?_⟩) ?_ ?_
                rotate_left
                · intro w'
                  go_simp
                  with_reducible rfl
                rotate_left
                · simp only [Act.put, List.setIfInBounds_toArray, List.set_cons_zero, List.set_cons_succ, i64_w, i32_w]
                  rfl
                refine take_ (i := 4) (N := some 114) (v := ?_) (a' := ?_) #[true, true, true, true, true, false, false, false, false, false, false, false, false] rfl rfl (by kernel_rfl) (fun _ _ _ h => h) (Or.inl ⟨by rfl, ?_⟩) hHeld ?_ ?_
                rotate_left
                · rintro w' ⟨h0_, h1_⟩
                  go_simp
                  with_reducible rfl
                rotate_left
                · simp only [Act.put, List.setIfInBounds_toArray, List.set_cons_zero, List.set_cons_succ, i64_w, i32_w]
                  rfl
                refine pure_ (i := 5) (N := some 115) (v := ?_) (a' := ?_) #[true, true, true, true, true, true, false, false, false, false, false, false, false] rfl rfl (by kernel_rfl) (fun _ _ _ h => h) (Or.inl ⟨by rfl, ?_⟩) ?_ ?_
                rotate_left
                · intro w'
                  go_simp
                  with_reducible rfl
                rotate_left
                · simp only [Act.put, List.setIfInBounds_toArray, List.set_cons_zero, List.set_cons_succ, i64_w, i32_w]
                  rfl
                refine pure_ (i := 6) (N := some 116) (v := ?_) (a' := ?_) #[true, true, true, true, true, true, true, false, false, false, false, false, false] rfl rfl (by kernel_rfl) (fun _ _ _ h => h) (Or.inl ⟨by rfl, ?_⟩) ?_ ?_
                rotate_left
                · intro w'
                  go_simp
                  with_reducible rfl
                rotate_left
                · simp only [Act.put, List.setIfInBounds_toArray, List.set_cons_zero, List.set_cons_succ, i64_w, i32_w]
                  rfl
                refine pure_ (i := 7) (N := some 117) (v := ?_) (a' := ?_) #[true, true, true, true, true, true, true, true, false, false, false, false, false] rfl rfl (by kernel_rfl) (fun _ _ _ h => h) (Or.inl ⟨by rfl, ?_⟩) ?_ ?_
                rotate_left
                · intro w'
                  go_simp
                  with_reducible rfl
                rotate_left
                · simp only [Act.put, List.setIfInBounds_toArray, List.set_cons_zero, List.set_cons_succ, i64_w, i32_w]
                  rfl
                refine pure_ (i := 8) (N := some 118) (v := ?_) (a' := ?_) #[true, true, true, true, true, true, true, true, true, false, false, false, false] rfl rfl (by kernel_rfl) (fun _ _ _ h => h) (Or.inl ⟨by rfl, ?_⟩) ?_ ?_
                rotate_left
                · intro w'
                  go_simp
                  with_reducible rfl
                rotate_left
                · simp only [Act.put, List.setIfInBounds_toArray, List.set_cons_zero, List.set_cons_succ, i64_w, i32_w]
                  rfl
                refine take_ (i := 9) (N := some 119) (v := ?_) (a' := ?_) #[true, true, true, true, true, true, true, true, true, true, false, false, false] rfl rfl (by kernel_rfl) (fun _ _ _ h => h) (Or.inl ⟨by rfl, ?_⟩) hHeld ?_ ?_
                rotate_left
                · rintro w' ⟨h0_, h1_⟩
                  go_simp
                  with_reducible rfl
                rotate_left
                · simp only [Act.put, List.setIfInBounds_toArray, List.set_cons_zero, List.set_cons_succ, i64_w, i32_w]
                  rfl
                refine pure_ (i := 10) (N := some 120) (v := ?_) (a' := ?_) #[true, true, true, true, true, true, true, true, true, true, true, false, false] rfl rfl (by kernel_rfl) (fun _ _ _ h => h) (Or.inl ⟨by rfl, ?_⟩) ?_ ?_
                rotate_left
                · intro w'
                  go_simp
                  with_reducible rfl
                rotate_left
                · simp only [Act.put, List.setIfInBounds_toArray, List.set_cons_zero, List.set_cons_succ, i64_w, i32_w]
                  rfl
                refine one_ (i := 11) (N := some 121) #[true, true, true, true, true, true, true, true, true, true, true, true, false] rfl rfl (by kernel_rfl) (by decide) (fun K hK => ?_)
                refine goes_ Try.func18 (by kernel_rfl) rfl #[.slice A2 x.f2.length c2, .int .i64 (x.f1.length : Int)] (by rfl) rfl rfl (by (try simp only [List.map_toArray, List.map_cons, List.map_nil]); first | done | rfl) ?_
                (with_reducible refine (hearsaylaw08_gapOf.calls A2 c2 x.f2 (x.f1.length : Int) gr _ (Kd.C_below HC2.out HBw.out) HL2.out HGR.out).mono ?_)
                rintro e_ w4 ⟨rfl, hd4⟩
                have hb4 := hd4.below
                have HS4 := Aside0.mk (HSd.out.below hb4)
                have HB4 := Aside0.mk (below_step HBd.out hb4)
                clear hd4
                refine ⟨_, rfl, ?_⟩
                refine hK.out _ _ ⟨pw_cell_below hb4 hHeld.1, pw_cell_below hb4 hHeld.2⟩ (fun hHeld => ?_)
                clear hK K
                refine norm_ (a' := ?_) ?_ ?_
                rotate_left
                · show Act.put _ (some 121) _ = _
                  simp only [Act.put, List.setIfInBounds_toArray, List.set_cons_zero, List.set_cons_succ, i64_w, i32_w]
                  rfl
                refine last_ (i := 12) (N := some 122) #[true, true, true, true, true, true, true, true, true, true, true, true, true] rfl rfl (by kernel_rfl) (by decide) (fun K hK => ?_)
                clear hb4
                refine goes_ Try.func17 (by kernel_rfl) rfl #[.pointer (some ⟨gs, 0, none⟩), .int .u8 gr] (by rfl) rfl rfl (by (try simp only [List.map_toArray, List.map_cons, List.map_nil]); first | done | rfl) ?_
                (with_reducible refine (sgap_calls gr hg0 hg256 T2 ops.length gs (gs + 1) _ HS4.out HTL.out.1 HTL.out.2).mono ?_)
                rintro e_ w5 ⟨rfl, h1_, h2_⟩
                have HS5 := Aside0.mk h1_
                have HF5 := Aside0.mk ((Fp.of (g := gs) HB4.out HS.out.size (Nat.le_of_lt HS.out.lt)).trans h2_)
                clear h1_ h2_
                refine ⟨_, rfl, ?_⟩
                refine hK.out _ _ ?_
                clear hK K
                refine norm_ (a' := ?_) ?_ ?_
                rotate_left
                · show Act.put _ (some 122) _ = _
                  simp only [Act.put, List.setIfInBounds_toArray, List.set_cons_zero, List.set_cons_succ, i64_w, i32_w]
                  rfl
                refine done_ (by kernel_rfl) ?_
                obtain ⟨op3, hop, htd⟩ := HTD.out.gap gr
                rw [← hop] at HS5
                have hz3 : op3.length ≤ ops.length + 1 := by rw [hop]; exact (gap_len gr ops.length).2
                obtain ⟨gt, hgt⟩ : ∃ t, t = (gapP gr ops.length).1 := ⟨_, rfl⟩
                have hgl : gt.length ≤ 11 ∧ 1 ≤ gt.length ∧ Bytes gt := by rw [hgt]; exact ⟨(gap_len gr ops.length).1, gap_pos _ _, bytes_gap _ _⟩
                rw [← hgt] at HS5 htd
                have HGT := Aside0.mk hgl
                have HTD3 := Aside0.mk htd
                have HZ3 := Aside0.mk hz3
                obtain ⟨⟨vs_, hgs_, _⟩, _, _⟩ := HS.out
                have HN5 := Aside0.mk (HF5.out.blk HN.out (by decide) (by have := HNG.out; omega))
                have HW5 := Aside0.mk (HF5.out.R hgs_ HWR.out)
                have HO5 := Aside0.mk (HF5.out.S hgs_ HO.out)
                have HB5 := Aside0.mk (HB.out.trans (by rw [← HGS.out]; exact HF5.out.b.b))
                clear hop hz3 hgt hgl htd hgs_ HS HN HWR HO HB HSd HBw HS4 HB4 HBd HCd HF5 HTD k1 k2 hHeld HGR HTL hg0 hg256
                go_wp2
                go_loopw [] (fun wr => ∃ j : Nat, j ≤ op3.length ∧ Aside0 (Sh wr gs (gs + 1) (T2 ++ gt ++ List.replicate j 41) (op3.length - j)) ∧ Aside0 (Fp (gs + 1) gs w5 wr)) (fun wr => openOf wr gs)
                case atStart => exact ⟨0, Nat.zero_le _, ⟨by rw [List.replicate_zero, List.append_nil]; exact HS5.out⟩, ⟨Fp.refl _ _ _⟩⟩
                case round =>
                  obtain ⟨j, hj, HSj, HFj⟩ := hrel
                  by_cases hjl : j < op3.length
                  · obtain ⟨⟨v_, hb_, _⟩, _, _⟩ := HSj.out
                    obtain ⟨oo, hoo⟩ : ∃ o, o = op3.length - j := ⟨_, rfl⟩
                    have h3_ := HZ3.out
                    have h4_ := HZ2.out
                    have h5_ := HZ.out.1
                    rw [← hoo] at HSj hb_
                    have c3 : wr.cell? ⟨gs, 3, none⟩ = some (.int .i64 (oo : Int)) := (blk_cell hb_ 3).trans rfl
                    have hc1 : (0 : Int) < (oo : Int) := by omega
                    have hc2 : decide ((0 : Int) < (oo : Int)) = true := decide_eq_true hc1
                    have ho1 : (0 : Int) ≤ (oo : Int) := by omega
                    have ho2 : (oo : Int) ≤ 262144 := by omega
                    have HL := Aside0.mk (show (T2 ++ gt ++ List.replicate j 41).length + (⟨#[41]⟩ : ByteArray).size ≤ 262144 from by rw [List.length_append, List.length_append, List.length_replicate]; show T2.length + gt.length + j + 1 ≤ _; have h6_ := HGT.out.1; omega)
                    have HOO := Aside0.mk hoo
                    clear hb_ h3_ h4_ h5_ hoo
                    go_wp2_with (first | (go_at_call 16; (with_reducible refine (sput_calls (⟨#[41]⟩ : ByteArray) (T2 ++ gt ++ List.replicate j 41) oo gs (gs + 1) _ HSj.out HL.out).mono ?_); rintro e w6 ⟨rfl, h1_, h2_⟩; have HS6 := Aside0.mk h1_; have HF6 := Aside0.mk h2_; obtain ⟨⟨v1_, hb1_, _⟩, _, _⟩ := HS6.out; have d3 : w6.cell? ⟨gs, 3, none⟩ = some (.int .i64 (oo : Int)) := (blk_cell hb1_ 3).trans rfl; have e3 := blk_frozen hb1_ 3; clear hb1_ h1_ h2_))
                    go_roundw
                    case rel =>
                      refine ⟨j + 1, by omega, ⟨?_⟩, ⟨(HFj.out.trans HF6.out).set 3 _⟩⟩
                      have e1_ : T2 ++ gt ++ List.replicate (j + 1) 41 = (T2 ++ gt ++ List.replicate j 41) ++ bytesOf (⟨#[41]⟩ : ByteArray) := by rw [List.replicate_succ', ← List.append_assoc]; rfl
                      have e2_ : op3.length - (j + 1) = oo - 1 := by have := HOO.out; omega
                      rw [e1_, e2_]
                      exact HS6.out.opened (oo - 1) _ (by omega)
                    case measure =>
                      rw [open_of HSj.out]
                      exact Nat.lt_of_le_of_lt (Nat.le_of_eq (open_of (HS6.out.opened (oo - 1) _ (by omega)))) (by omega)
                  · obtain rfl : j = op3.length := by omega
                    rw [Nat.sub_self] at HSj
                    obtain ⟨T5, hT5⟩ : ∃ t, t = T2 ++ gt ++ List.replicate op3.length 41 := ⟨_, rfl⟩
                    have htd5 := HTD3.out.close
                    rw [← hT5] at HSj htd5
                    have HTD5 := Aside0.mk htd5
                    have HT5 := Aside0.mk hT5
                    have HT5L : Aside0 (T5.length ≤ T.length + 1 + 253 * x.f1.length + 11 + (x.f1.length + 1) ∧ Bytes T5) := ⟨by rw [hT5, List.length_append, List.length_append, List.length_replicate]; have h1_ := HZ2.out; have h2_ := HZ3.out; have h3_ := HGT.out.1; omega, by rw [hT5]; exact bytes_app (bytes_app HZ2.out.2.2.2.1 HGT.out.2.2) (bytes_rep _)⟩
                    have hp5 : T.length < T5.length := by rw [hT5, List.length_append, List.length_append]; have h1_ := HFR.out.le; have h2_ := HGT.out.2.1; omega
                    have HTD6 := Aside0.mk (htd5.stop hp5)
                    have HPL5 : Aside0 ((pl T5 T.length).1 = ln ∧ (0 < x.f1.length → blankB (T5.getD T.length 0) = x.f0)) := ⟨by
                      obtain ⟨S_, e1_, _⟩ := HFR.out
                      rw [hT5, e1_, List.append_assoc, List.append_assoc, pl_pre _ _ (Nat.le_refl _)]
                      exact HLN.out.symm, fun h1_ => by rw [hT5, List.append_assoc]; exact (HFR.out.at h1_ _).2⟩
                    clear htd5 hT5 hp5
                    obtain ⟨⟨v_, hb_, _⟩, _, _⟩ := HSj.out
                    have c3 : wr.cell? ⟨gs, 3, none⟩ = some (.int .i64 0) := (blk_cell hb_ 3).trans rfl
                    obtain ⟨⟨vs_, hgs_, _⟩, _, _⟩ := HS5.out
                    have HN6 := Aside0.mk (HFj.out.blk HN5.out (by decide) (by have := HNG.out; omega))
                    have HW6 := Aside0.mk (HFj.out.R hgs_ HW5.out)
                    have HO6 := Aside0.mk (HFj.out.S hgs_ HO5.out)
                    have HB6 := Aside0.mk (HB5.out.trans (by rw [← HGS.out]; exact HFj.out.b.b))
                    have HL := Aside0.mk (show T5.length + (⟨#[32, 59, 32, 34, 32, 40, 32, 10]⟩ : ByteArray).size ≤ 262144 from by show T5.length + 8 ≤ _; have h1_ := HT5L.out.1; have h2_ := HZ.out.1; omega)
                    clear hb_ hgs_ HN5 HW5 HO5 HB5 HFj HS5
                    go_upto_region 32 with (first | (go_at_call 16; (with_reducible refine (sput_calls (⟨#[32, 59, 32, 34, 32, 40, 32, 10]⟩ : ByteArray) T5 0 gs (gs + 1) _ HSj.out HL.out).mono ?_); rintro e w7 ⟨rfl, h1_, h2_⟩; have HS7 := Aside0.mk h1_; have HF7 := Aside0.mk h2_; clear h1_ h2_ c3))
                    have hend : bytesOf (⟨#[32, 59, 32, 34, 32, 40, 32, 10]⟩ : ByteArray) = endB := rfl
                    rw [hend] at HS7
                    obtain ⟨⟨vs_, hgs_, _⟩, _, _⟩ := HSj.out
                    have HN7 := Aside0.mk (HF7.out.blk HN6.out (by decide) (by have := HNG.out; omega))
                    have HW7 := Aside0.mk (HF7.out.R hgs_ HW6.out)
                    have HO7 := Aside0.mk (HF7.out.S hgs_ HO6.out)
                    have HB7 := Aside0.mk (HB6.out.trans (by rw [← HGS.out]; exact HF7.out.b.b))
                    clear hend hgs_ HSj HF7 HN6 HW6 HO6 HB6
                    obtain ⟨Aw, nw, ew⟩ := Kd.R_slice HW7.out
                    subst ew
                    have n0 : w7.cell? ⟨nb, 0, none⟩ = some (.bool x.f0) := (blk_cell HN7.out 0).trans rfl
                    have n1 : w7.cell? ⟨nb, 1, none⟩ = some (.int .i64 ln) := (blk_cell HN7.out 1).trans rfl
                    have n2 : w7.cell? ⟨nb, 2, none⟩ = some (.slice Aw ws.length nw) := (blk_cell HN7.out 2).trans rfl
                    obtain ⟨A4, n4, e4⟩ := Kd.R_slice (Kd.S_R HO7.out)
                    subst e4
                    have hbs : gs + 1 ≤ w7.heap.size := HS7.out.size
                    have hol : (out.length + 1) * 40 ≤ 140737488355328 := by have h1_ := HZ.out.2.1; omega
                    have hnb7 : nb < w7.heap.size := blk_lt HN7.out
                    by_cases hz : 0 < ws.length
                    · have hz1 : (0 : Int) < (ws.length : Int) := by omega
                      have hz2 : decide ((0 : Int) < (ws.length : Int)) = true := decide_eq_true hz1
                      have hne : ws ≠ [] := fun e_ => by rw [e_] at hz; exact absurd hz (by simp)
                      have HNE := Aside0.mk hne
                      clear hne
                      go_wp2_with (first
                        | ((with_reducible refine gate_builtin (b := .append) (xs := #[.tmp 136, .tmp 138]) rfl ?_); at_builtin; refine Kd.S_append k45 (w0 := w7) (gs + 1) (by rfl) (.tmp 136) (.tmp 138) 28 45 (.agg #[(.bool false), (.int .i64 0), (.slice none 0 0)]) 40 rfl Try.underlying28 info45 rfl (by decide) (by omega) _ out (⟨x.f0, ln, ws⟩ : S45) [.bool x.f0, .int .i64 ln, .slice Aw ws.length nw] (fun _ => True) (fun k_ => some k_ = (Value.slice Aw ws.length nw).ownBlock) rfl rfl (k45_mkM _ _ _ (⟨x.f0, ln, ws⟩ : S45) (Kd.R_tight rfl HW7.out)) (fun k_ hk_ => ⟨trivial, fun e_ => Kd.S_away HO7.out (g := k_) (fun j_ hj_ e2_ => hj_.1 (e2_ ▸ hk_)) e_⟩) (fun _ _ => trivial) (Kd.S_mono HO7.out (fun k_ hk_ => ⟨trivial, hk_.1⟩)) (Below.refl _ _) hbs hol ?_; intro v1 w8 ho hb hg hat; obtain ⟨ou9, hou9⟩ : ∃ l, out ++ [(⟨x.f0, ln, ws⟩ : S45)] = l := ⟨_, rfl⟩; rw [hou9] at ho; have HOU := Aside0.mk hou9; have HO8 := Aside0.mk ho; have HS8 := Aside0.mk (HS7.out.grown hg (t := 45) (by decide) (Kd.S_typed HO7.out)); have HB8 := Aside0.mk (HB7.out.trans (below_to hb (by have h1_ := HGS.out; omega))); clear hou9 ho hb hg hat))
                      go_roundw
                      case rel =>
                        refine ⟨k + 1, T5 ++ endB, tk ++ [.stop (T5.length + 7)], ou9, by omega, by go_num, HS8, ⟨?_⟩, ⟨HO8.out⟩, ⟨?_, ?_, ?_⟩, HB8⟩
                        · have h1_ := HTD6.out
                          rw [if_neg HNE.out, HPL5.out.1, HPL5.out.2 (by have h2_ := HZ2.out.2.2.1; omega), HOU.out] at h1_
                          exact h1_
                        · have h1_ := HT5L.out.1
                          have h2_ := HZ.out.1
                          rw [List.length_append]
                          show T5.length + 8 ≤ _
                          omega
                        · rw [← HOU.out, List.length_append]; have h1_ := HZ.out.2.1; show out.length + 1 ≤ _; omega
                        · exact bytes_app HT5L.out.2 bytes_end
                      case measure => simp [intOf]; omega
                    · have hz1 : ¬ (0 : Int) < (ws.length : Int) := by omega
                      have hz2 : decide ((0 : Int) < (ws.length : Int)) = false := decide_eq_false hz1
                      have HNE := Aside0.mk (show ws = [] from List.eq_nil_of_length_eq_zero (by omega))
                      go_wp2
                      go_roundw
                      case rel =>
                        refine ⟨k + 1, T5 ++ endB, tk ++ [.stop (T5.length + 7)], out, by omega, by go_num, HS7, ⟨?_⟩, ⟨Kd.S_mono HO7.out (fun _ _ => trivial)⟩, ⟨?_, ?_, ?_⟩, HB7⟩
                        · have h1_ := HTD6.out
                          rw [if_pos HNE.out] at h1_
                          exact h1_
                        · have h1_ := HT5L.out.1
                          have h2_ := HZ.out.1
                          rw [List.length_append]
                          show T5.length + 8 ≤ _
                          omega
                        · have h1_ := HZ.out.2.1; omega
                        · exact bytes_app HT5L.out.2 bytes_end
                      case measure => simp [intOf]; omega
      · obtain rfl : k = L.length := by omega
        obtain ⟨⟨vT, hb_, hvT⟩, _, _⟩ := HSH.out
        obtain ⟨AT, nT, eT⟩ := Kd.R_slice hvT
        subst eT
        have t0 : wr.cell? ⟨gs, 0, none⟩ = some (.slice AT T.length nT) := (blk_cell hb_ 0).trans rfl
        have hCM := (Kd.R_reads' hvT).2.2
        have hcv : (convert 37 9 (.slice AT T.length nT)).run Try.prog wr = .ok (.string (strOfNums T)) wr := Kd.C_string Try.underlying37 Try.underlying5 Try.underlying9 hCM
        obtain ⟨sT, hsT⟩ : ∃ s, s = strOfNums T := ⟨_, rfl⟩
        rw [← hsT] at hcv
        have hbT : bytesOf sT = T := by rw [hsT]; exact bytes_str HZ.out.2.2
        have hzT : sT.size ≤ 262144 := by rw [← bytesOf_length, hbT]; have h1_ := HZ.out.1; omega
        have he := told_entries HT.out hbT hzT
        have HE := Aside0.mk he
        have HK : ∃ k1, Aside0 (hearsayref08_Same.f k1 out out = some true) := by
          have e1_ : entr sT = (out, 0, 0, 0) := by
            have h1_ := entr_f sT
            rw [he] at h1_
            exact (Option.some.inj h1_).symm
          obtain ⟨k1, h2_⟩ := (entr_same sT).rounds
          rw [e1_] at h2_
          exact ⟨k1, ⟨h2_⟩⟩
        obtain ⟨k1, HK⟩ := HK
        obtain ⟨AW, nW, eW⟩ := Kd.R_slice (Kd.S_R HW.out)
        subst eW
        clear hb_ hvT hCM hsT hbT hzT he HT HSH
        go_upto_region 35 with (first | (go_at_call 12; (with_reducible refine (token_Entries.calls sT out 0 0 0 _ HE.out).mono ?_); rintro e w1 ⟨va, rfl, hS, hb⟩; have HG1 := Aside0.mk hS; have HW1 := Aside0.mk (Kd.S_below HW.out hb); have HB1 := Aside0.mk (below_step HB.out hb); clear hS hb t0 hcv HW HB))
        have HX := Aside0.mk (blk_new w1 (.cells #[.int .i64 0, .int .i64 0] 30))
        have hba := below_alloc (Below.refl w1.heap.size w1) (.cells #[.int .i64 0, .int .i64 0] 30)
        have HG2 := Aside0.mk (Kd.S_below HG1.out hba)
        have HW2 := Aside0.mk (Kd.S_below HW1.out hba)
        have HB2 := Aside0.mk (below_step HB1.out hba)
        clear HG1 HW1 HB1 hba
        generalize w1.alloc (.cells #[.int .i64 0, .int .i64 0] 30) = w2 at HX HG2 HW2 HB2 ⊢
        generalize w1.heap.size = bx at HX ⊢
        obtain ⟨AG, nG, rfl, hlG, hCG⟩ := Kd.S_reads HG2.out
        have HLG := Aside0.mk hlG
        have HCG := Aside0.mk hCG
        obtain ⟨_, hlW, hCW⟩ := Kd.S_reads' HW2.out
        have HLW := Aside0.mk hlW
        have HCW := Aside0.mk hCW
        have d0 : w2.cell? ⟨bx, 0, none⟩ = some (.int .i64 0) := (blk_cell HX.out 0).trans rfl
        have d1 : w2.cell? ⟨bx, 1, none⟩ = some (.int .i64 0) := (blk_cell HX.out 1).trans rfl
        clear hlG hCG hlW hCW HX HG2 HW2
        go_wp2_with (first | (go_at_call 14; (with_reducible refine (hearsayref08_Same.calls k1 AG nG out AW nW out true _ HCG.out HLG.out HCW.out HLW.out HK.out).mono ?_); rintro e w8 ⟨rfl, hd⟩; have hb := hd.below; have HB8 := Aside0.mk (below_step HB2.out hb); clear hd hb HB2) | (go_at_call 15; (with_reducible refine (hearsaylaw08_reads.calls true _ reads_f).mono ?_); rintro e w9 ⟨rfl, hb⟩; have HB9 := Aside0.mk (below_step HB8.out hb); clear hb HB8))
        go_ret
        exact ⟨rfl, HB9.out⟩
end Go.Proofs.Ytafminohaofjnaa.Print
