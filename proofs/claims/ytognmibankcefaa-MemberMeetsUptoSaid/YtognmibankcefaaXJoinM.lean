/- Some texts of the proof in one: XOpens, F19, XMeets, XOpensM. -/
import Derived.Test.YtognmibankcefaaWMore
import Derived.ProofKit
import Derived.OpenShut
import Derived.ShutString
import Derived.SizedLaws
import Derived.Test.YtognmibankcefaaKinds
import Derived.Test.YtognmibankcefaaEq25
import Derived.Test.YtognmibankcefaaXLattice
import Derived.Test.YtognmibankcefaaXMem
section
/- How a law's arguments, read as data, are told by the kinds (Kd): each type's reading opens to a value of its kind. -/
namespace Go.Proofs.Ytognmibankcefaa.Opens
open Go.RowKit Go.Proofs.YtognmibankcefaaW.PrintWords Go.Proofs.YtognmibankcefaaW.PrintLast Go.Proofs.YtognmibankcefaaW.PrintMore
set_option linter.unusedVariables false
set_option linter.unusedSimpArgs false

/-- What reads as type t is told by kind d. -/
def Opens (P : Program) (t : TypeId) {α : Type} (d : Kd α) (wf : α → Prop) : Prop :=
  ∀ (H : Type) (enc : TypeId × Value → H) (w : World) (base : Nat) (spare : Nat → Bool) (held : Bool) (fuel : Nat) (cs : List Value) (y : DataW H × List MemPlace),
    DataW.trod enc P w base spare held fuel t cs = some y → ∃ x, d.K w x cs ∧ wf x
theorem opens_int {P : Program} {t : TypeId} {k : IntKind} (h : P.underlying t = some (.int k)) : Opens P t (Kd.int k) (fun n => (Lit.int k n).wf = true) := by
  intro H enc w base spare held fuel cs y hy
  cases fuel with
  | zero => simp [DataW.trod] at hy
  | succ n =>
    unfold DataW.trod at hy
    rw [h] at hy
    split at hy <;> simp_all
    obtain ⟨⟨rfl, hw⟩, _⟩ := hy
    exact ⟨_, rfl, hw⟩
theorem opens_bool {P : Program} {t : TypeId} (h : P.underlying t = some .bool) : Opens P t Kd.bool (fun _ => True) := by
  intro H enc w base spare held fuel cs y hy
  cases fuel with
  | zero => simp [DataW.trod] at hy
  | succ n =>
    unfold DataW.trod at hy
    rw [h] at hy
    split at hy
    all_goals first | exact ⟨_, rfl, trivial⟩ | (simp_all; done)
theorem opens_string {P : Program} {t : TypeId} (h : P.underlying t = some .string) : Opens P t Kd.string (fun s => s.size ≤ maxLen) := by
  intro H enc w base spare held fuel cs y hy
  cases fuel with
  | zero => simp [DataW.trod] at hy
  | succ n =>
    unfold DataW.trod at hy
    rw [h] at hy
    split at hy <;> simp_all
    exact ⟨_, rfl, hy.1⟩
theorem mapM_get {α β : Type} {f : α → Option β} : ∀ {l : List α} {r : List β}, l.mapM f = some r → r.length = l.length ∧ ∀ (i : Nat) (x : α), l[i]? = some x → ∃ y, f x = some y
  | [], r, h => by simp at h; subst h; exact ⟨rfl, fun i x hx => by simp at hx⟩
  | a :: l, r, h => by
    simp only [List.mapM_cons, Option.bind_eq_bind, Option.bind_eq_some_iff, Option.pure_def, Option.some.injEq] at h
    obtain ⟨b, hb, bs, hbs, rfl⟩ := h
    obtain ⟨h1, h2⟩ := mapM_get hbs
    refine ⟨by simp [h1], fun i x hx => ?_⟩
    cases i with
    | zero => simp at hx; subst hx; exact ⟨b, hb⟩
    | succ i => simp at hx; exact h2 i x hx
theorem cells_get {w : World} {base : Nat} {a : Addr} {n : Nat} {c : List Value} (h : w.cells? base a n = some c) : base ≤ a.block ∧ c.length = n ∧ ∀ i u, c[i]? = some u → w.cell? (a.add i) = some u := by
  unfold World.cells? at h
  split at h
  · rename_i hb
    refine ⟨hb, ?_⟩
    suffices H : ∀ (l : List Nat) (c : List Value), l.mapM (fun i => w.cell? (a.add i)) = some c → c.length = l.length ∧ ∀ i u, c[i]? = some u → ∃ j, l[i]? = some j ∧ w.cell? (a.add j) = some u by
      obtain ⟨h1, h2⟩ := H _ _ h
      refine ⟨by simpa using h1, fun i u hu => ?_⟩
      obtain ⟨j, hj, hc⟩ := h2 i u hu
      rw [List.getElem?_range (by have := (List.getElem?_eq_some_iff.1 hu).1; simp at h1; omega)] at hj
      simp at hj; subst hj; exact hc
    intro l
    induction l with
    | nil => intro c hc; simp at hc; subst hc; exact ⟨rfl, fun i u hu => by simp at hu⟩
    | cons x l ih =>
      intro c hc
      simp only [List.mapM_cons, Option.bind_eq_bind, Option.bind_eq_some_iff, Option.pure_def, Option.some.injEq] at hc
      obtain ⟨b, hb, bs, hbs, rfl⟩ := hc
      obtain ⟨h1, h2⟩ := ih _ hbs
      refine ⟨by simp [h1], fun i u hu => ?_⟩
      cases i with
      | zero => simp at hu; subst hu; exact ⟨x, rfl, hb⟩
      | succ i => simp at hu; obtain ⟨j, hj, hc⟩ := h2 i u hu; exact ⟨j, by simpa using hj, hc⟩
  · simp at h
theorem choose_list {α : Type} {n : Nat} {Q : Nat → α → Prop} (h : ∀ i, i < n → ∃ x, Q i x) : ∃ xs : List α, xs.length = n ∧ ∀ i x, xs[i]? = some x → Q i x := by
  induction n with
  | zero => exact ⟨[], rfl, fun i x hx => by simp at hx⟩
  | succ n ih =>
    obtain ⟨xs, hl, hx⟩ := ih (fun i hi => h i (by omega))
    obtain ⟨x, hq⟩ := h n (by omega)
    refine ⟨xs ++ [x], by simp [hl], fun i y hy => ?_⟩
    rcases Nat.lt_or_ge i xs.length with hi | hi
    · rw [List.getElem?_append_left hi] at hy; exact hx i y hy
    · rw [List.getElem?_append_right hi] at hy
      have : i - xs.length = 0 := by
        have := (List.getElem?_eq_some_iff.1 hy).1; simp at this; omega
      rw [this] at hy; simp at hy; subst hy
      have : i = n := by omega
      subst this; exact hq
theorem opens_slice {P : Program} {t e : TypeId} {α : Type} {d : Kd α} {wf : α → Prop} (h : P.underlying t = some (.slice e)) (hz : P.cellsOf e = d.sz) (he : Opens P e d wf) : Opens P t (Kd.slice e d) (fun xs => ∀ x ∈ xs, wf x) := by
  intro H enc w base spare held fuel cs y hy
  cases fuel with
  | zero => simp [DataW.trod] at hy
  | succ n =>
    unfold DataW.trod at hy
    rw [h] at hy
    dsimp only at hy
    split at hy
    all_goals try (simp at hy; done)
    all_goals try (rename_i hh; simp at hh; done)
    · exact ⟨[], ⟨none, 0, rfl, Nat.le_refl _, ⟨rfl, by simp, fun h => absurd h (by simp)⟩⟩, fun x hx => by simp at hx⟩
    · rename_i e' a len cap he'
      simp only [Option.some.injEq, TypeDesc.slice.injEq] at he'
      subst he'
      split at hy
      · rename_i hc
        simp only [Option.bind_eq_some_iff] at hy
        obtain ⟨elems, hel, _⟩ := hy
        obtain ⟨hl, hg⟩ := mapM_get hel
        have hx : ∀ i, i < len → ∃ x, (∃ c, c.length = d.sz ∧ d.K w x c ∧ ∀ j u, c[j]? = some u → w.cell? (a.add (i * d.sz + j)) = some u) ∧ wf x := by
          intro i hi
          obtain ⟨yy, hyy⟩ := hg i i (by rw [List.getElem?_range hi])
          simp only [Option.bind_eq_some_iff] at hyy
          obtain ⟨c, hcc, hty⟩ := hyy
          obtain ⟨x, hk, hw⟩ := he H enc w base spare held n c yy hty
          obtain ⟨_, hcl, hcg⟩ := cells_get hcc
          refine ⟨x, ⟨c, by rw [hcl, hz], hk, fun j u hu => ?_⟩, hw⟩
          have := hcg j u hu
          rw [hz] at this
          rwa [add_add] at this
        obtain ⟨xs, hxl, hxs⟩ := choose_list hx
        refine ⟨xs, ⟨some a, cap, by rw [hxl], by omega, ⟨rfl, by rw [hxl]; unfold maxLen at hc; omega, fun _ => ⟨a, rfl, fun j p hp => ?_⟩⟩⟩, fun x hx => ?_⟩
        · exact (hxs j p hp).1
        · obtain ⟨i, hi⟩ := List.mem_iff_getElem?.1 hx
          exact (hxs i x hi).2
      · simp at hy
/-- A struct's fields, from cell 'off' on. -/
def OpensF (P : Program) (fs : List Field) (off : Nat) {α : Type} (d : Kd α) (wf : α → Prop) : Prop :=
  ∀ (H : Type) (enc : TypeId × Value → H) (w : World) (base : Nat) (spare : Nat → Bool) (held : Bool) (fuel : Nat) (cs : List Value) (ys : List (DataW H × List MemPlace)),
    cs.length = off + d.sz → fs.mapM (fun f => DataW.trod enc P w base spare held fuel f.type ((cs.drop f.offset).take (P.cellsOf f.type))) = some ys → ∃ x, d.K w x (cs.drop off) ∧ wf x
theorem opensF_one {P : Program} {f : Field} {off : Nat} {α : Type} {d : Kd α} {wf : α → Prop} (ho : f.offset = off) (hz : P.cellsOf f.type = d.sz) (h : Opens P f.type d wf) : OpensF P [f] off d wf := by
  intro H enc w base spare held fuel cs ys hl hy
  simp only [List.mapM_cons, List.mapM_nil, Option.bind_eq_bind, Option.bind_eq_some_iff, Option.pure_def, Option.some.injEq] at hy
  obtain ⟨y, hy, _⟩ := hy
  obtain ⟨x, hk, hw⟩ := h _ _ _ _ _ _ _ _ _ hy
  refine ⟨x, ?_, hw⟩
  rw [ho, hz, List.take_of_length_le (by simp; omega)] at hk
  exact hk
theorem opensF_cons {P : Program} {f : Field} {fs : List Field} {off : Nat} {α β : Type} {d : Kd α} {d' : Kd β} {wf : α → Prop} {wf' : β → Prop} (ho : f.offset = off) (hz : P.cellsOf f.type = d.sz) (h : Opens P f.type d wf) (hs : OpensF P fs (off + d.sz) d' wf') :
    OpensF P (f :: fs) off (Kd.pair d d') (fun x => wf x.1 ∧ wf' x.2) := by
  intro H enc w base spare held fuel cs ys hl hy
  simp only [List.mapM_cons, Option.bind_eq_bind, Option.bind_eq_some_iff, Option.pure_def, Option.some.injEq] at hy
  obtain ⟨y, hy, zs, hzs, _⟩ := hy
  obtain ⟨x, hk, hw⟩ := h _ _ _ _ _ _ _ _ _ hy
  have hl' : cs.length = off + (d.sz + d'.sz) := hl
  obtain ⟨x', hk', hw'⟩ := hs H enc w base spare held fuel cs zs (by omega) hzs
  refine ⟨(x, x'), ⟨(cs.drop off).take d.sz, cs.drop (off + d.sz), ?_, ?_, hk'⟩, hw, hw'⟩
  · rw [← List.drop_drop]; exact (List.take_append_drop _ _).symm
  · rw [ho, hz] at hk; exact hk
theorem opens_struct {P : Program} {t : TypeId} {fs : Array Field} {α : Type} {d : Kd α} {wf : α → Prop} (h : P.underlying t = some (.struct fs)) (hz : P.cellsOf t = d.sz) (hs : OpensF P fs.toList 0 d wf) : Opens P t d wf := by
  intro H enc w base spare held fuel cs y hy
  cases fuel with
  | zero => simp [DataW.trod] at hy
  | succ n =>
    unfold DataW.trod at hy
    rw [h] at hy
    dsimp only at hy
    split at hy
    · rename_i hc
      simp only [Option.map_eq_some_iff] at hy
      obtain ⟨ys, hys, _⟩ := hy
      obtain ⟨x, hk, hw⟩ := hs H enc w base spare held n cs ys (by omega) hys
      exact ⟨x, by simpa using hk, hw⟩
    · simp at hy
theorem opens_iso {P : Program} {t : TypeId} {α β : Type} {d : Kd α} {wf : α → Prop} (h : Opens P t d wf) (f : β → α) (g : α → β) (hg : ∀ x, f (g x) = x) : Opens P t (Kd.iso d f) (fun x => wf (f x)) := by
  intro H enc w base spare held fuel cs y hy
  obtain ⟨x, hk, hw⟩ := h _ _ _ _ _ _ _ _ _ hy
  exact ⟨g x, by show d.K w (f (g x)) cs; rw [hg]; exact hk, by show wf (f (g x)); rw [hg]; exact hw⟩
/-- An argument that reads. -/
theorem opens_arg {P : Program} {t : TypeId} {α : Type} {d : Kd α} {wf : α → Prop} (h : Opens P t d wf) {H : Type} {enc : TypeId × Value → H} {w : World} {base : Nat} {spare : Nat → Bool} {held : Bool} {v : Value} {y : DataW H} {ps : List MemPlace}
    (ht : DataW.Trod enc P w base spare held t v y ps) : ∃ x, d.K w x v.cells.toList ∧ wf x := by
  obtain ⟨fuel, hf⟩ := ht
  exact h _ _ _ _ _ _ _ _ _ hf
/-- a slice that is read as data has as many elements as it says -/
theorem trod_len {P : Program} {t e : TypeId} (h : P.underlying t = some (.slice e)) {H : Type} {enc : TypeId × Value → H} {w : World} {base : Nat} {spare : Nat → Bool} {held : Bool} {A : Option Addr} {n c : Nat} {y : DataW H} {ps : List MemPlace}
    (ht : DataW.Trod enc P w base spare held t (.slice A n c) y ps) : (A = none ∧ n = 0) ∨ ∃ elems rest, y = .slice elems rest ∧ elems.length = n := by
  obtain ⟨fuel, hy⟩ := ht
  cases fuel with
  | zero => simp [DataW.trod] at hy
  | succ m =>
    unfold DataW.trod at hy
    rw [h] at hy
    simp only [Value.cells] at hy
    try dsimp only at hy
    split at hy
    all_goals try (simp at hy; done)
    all_goals try (rename_i hh; simp at hh; done)
    · rename_i hh
      simp at hh
      exact Or.inl ⟨hh.1, hh.2.1⟩
    · rename_i e' a len cap he' hh
      simp only [Option.some.injEq, TypeDesc.slice.injEq] at he'
      subst he'
      simp at hh
      obtain ⟨rfl, rfl, rfl⟩ := hh
      split at hy
      · simp only [Option.bind_eq_some_iff] at hy
        obtain ⟨elems, hel, hr⟩ := hy
        have hl := (mapM_get hel).1
        obtain ⟨rest, _, hr2⟩ := Option.map_eq_some_iff.1 hr
        cases hr2
        exact Or.inr ⟨_, _, rfl, by simp [hl]⟩
      · simp at hy
end Go.Proofs.Ytognmibankcefaa.Opens
end
section
-- Written by a program of this session, built on the kit's print (it is not the print's own text).
namespace Go.Proofs.Ytognmibankcefaa.Print
open Go.RowKit Go.Proofs.YtognmibankcefaaW.PrintWords Go.Proofs.YtognmibankcefaaW.PrintLast Go.Proofs.YtognmibankcefaaW.PrintMore
attribute [local go_sem] max2_int min2_int max_two min_two max_three min_three max_four min_four   -- for this text's walks alone
set_option linter.unusedVariables false
set_option linter.unusedSimpArgs false

attribute [local go_sem high] eqA25
/-! ### hearsayref17_Equal: function 19 -/
def hearsayref17_Equal.l0 : Nat → List (S25) → List (S25) → Int → Option (Bool)
  | 0, _, _, _ => none
  | k + 1, x0, x1, x5 => if x5 < (x0.length : Int) then (if 0 ≤ x5 then (if x5 < (x1.length : Int) then (if (!(((rd_T25 x0 x5).f0) == ((rd_T25 x1 x5).f0)) || (!(((rd_T25 x0 x5).f1) == ((rd_T25 x1 x5).f1)) || (!(((rd_T25 x0 x5).f2) == ((rd_T25 x1 x5).f2)) || (!((((rd_T25 x0 x5).f3).toList) == (((rd_T25 x1 x5).f3).toList)))))) = true then (some false) else (hearsayref17_Equal.l0 k x0 x1 (wrap64 (x5 + 1)))) else (none)) else (none)) else (some true)
def hearsayref17_Equal.f (k : Nat) (l0 : List (S25)) (l1 : List (S25)) : Option (Bool) := if (l0.length : Int) = (l1.length : Int) then (hearsayref17_Equal.l0 k l0 l1 0) else (some false)
theorem hearsayref17_Equal.mono_l : ∀ k, (∀ y0 y1 y2, LeO (hearsayref17_Equal.l0 k y0 y1 y2) (hearsayref17_Equal.l0 (k + 1) y0 y1 y2))
  | 0 => fun _ _ _ r h => by simp [hearsayref17_Equal.l0] at h
  | k + 1 => by
    have ih0 := hearsayref17_Equal.mono_l k
    · intro y0 y1 y2
      unfold hearsayref17_Equal.l0
      repeat' first
      | (with_reducible exact ih0 _ _ _)
      | (with_reducible exact LeO.refl _)
      | (with_reducible exact LeO.none _)
      | (with_reducible refine LeO.ite ?_ ?_)
      | (with_reducible refine LeO.bind ?_ (fun _ => ?_))
      | exact ih0 _ _ _
      | exact LeO.none _
      | refine LeO.ite ?_ ?_
      | refine LeO.bind ?_ (fun _ => ?_)
theorem hearsayref17_Equal.mono : ∀ a0 a1 k, LeO (hearsayref17_Equal.f k a0 a1) (hearsayref17_Equal.f (k + 1) a0 a1) := by
  intro a0 a1 k
  have ih0 := hearsayref17_Equal.mono_l k
  unfold hearsayref17_Equal.f
  repeat' first
      | (with_reducible exact ih0 _ _ _)
      | (with_reducible exact LeO.refl _)
      | (with_reducible exact LeO.none _)
      | (with_reducible refine LeO.ite ?_ ?_)
      | (with_reducible refine LeO.bind ?_ (fun _ => ?_))
      | exact ih0 _ _ _
      | exact LeO.none _
      | refine LeO.ite ?_ ?_
      | refine LeO.bind ?_ (fun _ => ?_)
set_option maxHeartbeats 8000000 in
set_option maxRecDepth 100000 in
theorem hearsayref17_Equal.calls (k : Nat) (A0 : Option Addr) (c0 : Nat) (l0 : List (S25)) (A1 : Option Addr) (c1 : Nat) (l1 : List (S25)) (r : Bool) (w : World) (hr0 : Kd.C k25 w A0 l0.length l0) (hc0 : l0.length ≤ c0) (hr1 : Kd.C k25 w A1 l1.length l1) (hc1 : l1.length ≤ c1) (h : hearsayref17_Equal.f k l0 l1 = some r) :
    Calls Try.prog 19 #[.slice A0 l0.length c0, .slice A1 l1.length c1] w fun e w' => e = .returned (.bool r) ∧ Drawn0 w w' := by
  have hu25 := Try.underlying25
  have HR0 := Aside0.mk hr0
  have HC0 := Aside0.mk hc0
  clear hr0 hc0
  have HR1 := Aside0.mk hr1
  have HC1 := Aside0.mk hc1
  clear hr1 hc1
  have H : (if (l0.length : Int) = (l1.length : Int) then (hearsayref17_Equal.l0 k l0 l1 0) else (some false)) = some r := h
  clear h
  by_cases c3 : (l0.length : Int) = (l1.length : Int)
  · rw [if_pos c3] at H
    have c3b0 : ((l0.length : Int) == (l1.length : Int)) = true := beq_iff_eq.mpr c3
    have c3b1 : ((l0.length : Int) != (l1.length : Int)) = false := bne_eq_false_iff_eq.mpr c3
    have c3b2 : (l0.length == l1.length) = true := by first | simpa using c3 | (simp at c3 ⊢; omega)
    clear c3
    have H' := Aside0.mk H
    clear H
    go_enter Try.func19, Try.ntmps19
    go_wp2
    repeat (go_quiet (fail); try go_wp2)
    go_loopg [5] k (fun kq v5 w' => ∃ (x5_1 : Int), v5 = .int .i64 x5_1 ∧ Aside0 (hearsayref17_Equal.l0 kq l0 l1 x5_1 = some r) ∧ Aside0 (kq ≤ k) ∧ Drawn0 w w')
    case atStart => exact ⟨(0), (by first | rfl | (simp; done) | (simp [*]; done)), H', ⟨Nat.le_refl _⟩, by repeat (first | exact Drawn0.refl _ | apply Drawn0.step)⟩
    case round =>
      clear H'
      try clear c1
      try clear p2
      try clear c3
      try clear c3b0
      try clear c3b1
      try clear c3b2
      obtain ⟨x5_1, rfl, HA, HK1, ⟨m1, rfl⟩⟩ := hrel
      cases gk with
      | zero => exact absurd HA.out (by simp [hearsayref17_Equal.l0])
      | succ k1 =>
        have H := HA.out
        clear HA
        simp only [hearsayref17_Equal.l0] at H
        by_cases c4 : x5_1 < (l0.length : Int)
        · rw [if_pos c4] at H
          have c4b0 : decide (x5_1 < (l0.length : Int)) = true := decide_eq_true c4
          clear c4
          by_cases c5 : 0 ≤ x5_1
          · rw [if_pos c5] at H
            have c5b0 : decide (0 ≤ x5_1) = true := decide_eq_true c5
            clear c5
            by_cases c6 : x5_1 < (l1.length : Int)
            · rw [if_pos c6] at H
              have c6b0 : decide (x5_1 < (l1.length : Int)) = true := decide_eq_true c6
              clear c6
              by_cases c7 : (!(((rd_T25 l0 x5_1).f0) == ((rd_T25 l1 x5_1).f0)) || (!(((rd_T25 l0 x5_1).f1) == ((rd_T25 l1 x5_1).f1)) || (!(((rd_T25 l0 x5_1).f2) == ((rd_T25 l1 x5_1).f2)) || (!((((rd_T25 l0 x5_1).f3).toList) == (((rd_T25 l1 x5_1).f3).toList)))))) = true
              · rw [if_pos c7] at H
                have c7b0 : (!(((rd_T25 l0 x5_1).f0) == ((rd_T25 l1 x5_1).f0)) || (!(((rd_T25 l0 x5_1).f1) == ((rd_T25 l1 x5_1).f1)) || (!(((rd_T25 l0 x5_1).f2) == ((rd_T25 l1 x5_1).f2)) || (!((((rd_T25 l0 x5_1).f3).toList) == (((rd_T25 l1 x5_1).f3).toList)))))) = true := c7
                clear c7
                obtain rfl := Option.some.inj H
                have p130 : 0 ≤ (x5_1 : Int) := of_decide_eq_true (by first | (with_reducible assumption) | assumption)
                have q130 : x5_1 < (l0.length : Int) := of_decide_eq_true (by first | (with_reducible assumption) | assumption)
                obtain ⟨ad130, e130, hx130_0, hx130_1, hx130_2, hx130_3⟩ := at_T25 HR0.out x5_1 p130 q130
                cases e130
                replace p130 := eq_true p130
                replace q130 := eq_true q130
                have p131 : 0 ≤ (x5_1 : Int) := of_decide_eq_true (by first | (with_reducible assumption) | assumption)
                have q131 : x5_1 < (l1.length : Int) := of_decide_eq_true (by first | (with_reducible assumption) | assumption)
                obtain ⟨ad131, e131, hx131_0, hx131_1, hx131_2, hx131_3⟩ := at_T25 HR1.out x5_1 p131 q131
                cases e131
                replace p131 := eq_true p131
                replace q131 := eq_true q131
                go_wp2
                repeat (go_quiet (fail); try go_wp2)
                go_ret
                exact ⟨by first | rfl | (simp; done) | (simp [*]; done), by repeat (first | exact Drawn0.refl _ | apply Drawn0.step)⟩
              · rw [if_neg c7] at H
                have c7b0 : (!(((rd_T25 l0 x5_1).f0) == ((rd_T25 l1 x5_1).f0)) || (!(((rd_T25 l0 x5_1).f1) == ((rd_T25 l1 x5_1).f1)) || (!(((rd_T25 l0 x5_1).f2) == ((rd_T25 l1 x5_1).f2)) || (!((((rd_T25 l0 x5_1).f3).toList) == (((rd_T25 l1 x5_1).f3).toList)))))) = false := by simpa using c7
                clear c7
                have H' := Aside0.mk H
                clear H
                have p130 : 0 ≤ (x5_1 : Int) := of_decide_eq_true (by first | (with_reducible assumption) | assumption)
                have q130 : x5_1 < (l0.length : Int) := of_decide_eq_true (by first | (with_reducible assumption) | assumption)
                obtain ⟨ad130, e130, hx130_0, hx130_1, hx130_2, hx130_3⟩ := at_T25 HR0.out x5_1 p130 q130
                cases e130
                replace p130 := eq_true p130
                replace q130 := eq_true q130
                have p131 : 0 ≤ (x5_1 : Int) := of_decide_eq_true (by first | (with_reducible assumption) | assumption)
                have q131 : x5_1 < (l1.length : Int) := of_decide_eq_true (by first | (with_reducible assumption) | assumption)
                obtain ⟨ad131, e131, hx131_0, hx131_1, hx131_2, hx131_3⟩ := at_T25 HR1.out x5_1 p131 q131
                cases e131
                replace p131 := eq_true p131
                replace q131 := eq_true q131
                go_wp2
                repeat (go_quiet (fail); try go_wp2)
                go_roundg k1
                case measure => have := HK1.out; omega
                case rel => exact ⟨(wrap64 (x5_1 + 1)), (by first | rfl | (simp; done) | (simp [*]; done)), H', ⟨by have := HK1.out; omega⟩, by repeat (first | exact Drawn0.refl _ | apply Drawn0.step)⟩
            · rw [if_neg c6] at H
              exact absurd H (by simp)
          · rw [if_neg c5] at H
            exact absurd H (by simp)
        · rw [if_neg c4] at H
          have c4b0 : decide (x5_1 < (l0.length : Int)) = false := decide_eq_false c4
          clear c4
          obtain rfl := Option.some.inj H
          go_wp2
          repeat (go_quiet (fail); try go_wp2)
          go_ret
          exact ⟨by first | rfl | (simp; done) | (simp [*]; done), by repeat (first | exact Drawn0.refl _ | apply Drawn0.step)⟩
  · rw [if_neg c3] at H
    have c3b0 : ((l0.length : Int) == (l1.length : Int)) = false := beq_eq_false_iff_ne.mpr c3
    have c3b1 : ((l0.length : Int) != (l1.length : Int)) = true := bne_iff_ne.mpr c3
    have c3b2 : (l0.length == l1.length) = false := by first | simpa using c3 | (simp at c3 ⊢; omega)
    obtain rfl := Option.some.inj H
    go_enter Try.func19, Try.ntmps19
    go_wp2
    repeat (go_quiet (fail); try go_wp2)
    go_ret
    exact ⟨by first | rfl | (simp; done) | (simp [*]; done), by repeat (first | exact Drawn0.refl _ | apply Drawn0.step)⟩

end Go.Proofs.Ytognmibankcefaa.Print
end
section
/- MemberMeets, walked. -/
namespace Go.Proofs.Ytognmibankcefaa.Print
open Go.RowKit Go.Maps Go.ChangeMaps Go.Proofs.YtognmibankcefaaW.PrintWords Go.Proofs.YtognmibankcefaaW.PrintLast Go.Proofs.YtognmibankcefaaW.PrintMore
set_option linter.unusedVariables false
set_option linter.unusedSimpArgs false
theorem own_C {w : World} {base : Nat} {v : Value} {L : List Mem} (h : w.ownsRow base 25 4 v L.length (flatM L)) : ∃ A c, v = .slice A L.length c ∧ L.length ≤ c ∧ Kd.C k25 w A L.length L := by
  refine Kd.R_reads (e := 25) (base := base) (ok := fun _ => True) ⟨fun _ _ => trivial, flatM L, h, ?_, fun j p hj => ?_⟩
  · exact flatM_length L
  · have h1 : L.drop j = p :: L.drop (j + 1) := by
      obtain ⟨hj', e⟩ := List.getElem?_eq_some_iff.1 hj
      rw [List.drop_eq_getElem_cons hj', e]
    show Kd.M _ _ _ _ _ (((flatM L).drop (j * 4)).take 4)
    rw [flatM_drop, h1]
    exact k25_mkM _ _ _ p
theorem equal_l0 (L : List Mem) (hl : L.length ≤ 1000000) (d : Nat) : ∀ i : Nat, L.length - i ≤ d → i ≤ L.length → Ev (fun k => hearsayref17_Equal.l0 k L L (i : Int)) true := by
  have fin : Ev (fun k => hearsayref17_Equal.l0 k L L (L.length : Int)) true := by
    refine Ev.step (f := fun _ => some true) (fun k => ?_) (Ev.now _)
    simp only [hearsayref17_Equal.l0]
    rw [if_neg (by omega)]
  induction d with
  | zero =>
    intro i hd hi
    have : i = L.length := by omega
    subst this
    exact fin
  | succ d ih =>
    intro i hd hi
    by_cases hlt : i < L.length
    · refine Ev.step (fun k => ?_) (ih (i + 1) (by omega) (by omega))
      simp only [hearsayref17_Equal.l0]
      rw [if_pos (by omega), if_pos (by omega), if_pos (by omega), if_neg (by simp), wrap_ok (by omega) (by omega)]
      rfl
    · exact ih i (by omega) hi
theorem equal_same (L : List Mem) (hl : L.length ≤ 1000000) : ∃ k, hearsayref17_Equal.f k L L = some true := by
  obtain ⟨K, hK⟩ := equal_l0 L hl L.length 0 (by omega) (by omega)
  refine ⟨K, ?_⟩
  unfold hearsayref17_Equal.f
  rw [if_pos rfl]
  exact hK K (Nat.le_refl _)
theorem VF.trans {w w1 w2 : World} {b : Nat} (h : VF w w1 b) (k : VF w1 w2 b) : VF w w2 b := World.grownBy.andThen h k (fun j hj => Or.inr hj)
theorem RowAt.kept {w w' : World} {g cap n b : Nat} {xs : List Mem} (h : RowAt w g cap n xs) (k : VF w w' b) (hne : b ≠ g) : RowAt w' g cap n xs := by
  have hlt := h.lt
  obtain ⟨cur, h1, h2⟩ := h
  exact ⟨cur, (k.block g hlt (fun e => hne (Option.some.inj e).symm)).trans h1, h2⟩
set_option maxHeartbeats 8000000 in
set_option maxRecDepth 100000 in
theorem meets_law (w : World) (A1 : Option Addr) (c1 : Nat) (la : List Mem) (A2 : Option Addr) (c2 : Nat) (lb : List Mem) (hC1 : Kd.C k25 w A1 la.length la) (hc1 : la.length ≤ c1) (hC2 : Kd.C k25 w A2 lb.length lb) (hc2 : lb.length ≤ c2)
    (hwf1 : ∀ x ∈ la, 0 ≤ x.f0 ∧ x.f0 ≤ 4294967295) (hwf2 : ∀ x ∈ lb, 0 ≤ x.f0 ∧ x.f0 ≤ 4294967295) (hsz : la.length + lb.length ≤ 4000000) :
    Calls Try.prog 4 #[.slice A1 la.length c1, .slice A2 lb.length c2] w fun e w' => e = .returned (.bool true) ∧ Below w.heap.size w w' := by
  have hu25 := Try.underlying25
  have HC1 := Aside0.mk hC1
  have HC2 := Aside0.mk hC2
  have HWF1 := Aside0.mk hwf1
  have HWF2 := Aside0.mk hwf2
  have HB0 := Aside0.mk (Below.refl w.heap.size w)
  clear hC1 hC2 hwf1 hwf2
  by_cases hbig : (la.length : Int) > 100
  · go_enter Try.func4, Try.ntmps4
    go_wp2_with (first
      | ((with_reducible refine gate_dst (N := 13) rfl ?_); refine Kd.R_append_rows k25 (w0 := w) w.heap.size ?hg (.const (.slice none 0 0)) (.tmp 12) 32 25 (.agg #[.int .u32 0, .int .u32 0, .int .u8 0, .string ⟨#[]⟩]) 32 ?ho Try.underlying32 info25 rfl (by decide) (by omega) (.slice none 0 0) [] la A1 la.length c1 (fun _ => True) (fun _ => False) ?h1 ?h2 (Kd.R_nil _ _ _ _ _) HC1.out (fun _ _ h => h) (fun _ h => h.elim) (fun _ _ => trivial) HB0.out HB0.out.size (by first | omega | (simp; omega)) ?_; (case hg => rfl); (case ho => rfl); (case h1 => rfl); (case h2 => rfl); intro v1 w1 hr1_ hb1_ hg1_ ha1_; have HR1 := Aside0.mk hr1_; have HB1 := Aside0.mk hb1_; clear hr1_ hb1_ hg1_ ha1_)
      | ((with_reducible refine gate_dst (N := 15) rfl ?_); refine Kd.R_append_rows k25 (w0 := w) w.heap.size ?hg (.tmp 13) (.tmp 14) 32 25 (.agg #[.int .u32 0, .int .u32 0, .int .u8 0, .string ⟨#[]⟩]) 32 ?ho Try.underlying32 info25 rfl (by decide) (by omega) v1 la lb A2 lb.length c2 (fun _ => True) (fun _ => False) ?h1 ?h2 HR1.out (Kd.C_below HC2.out HB1.out) (fun _ _ h => h) (fun _ h => h.elim) (fun _ _ => trivial) HB1.out HB1.out.size (by first | omega | (simp; omega)) ?_; (case hg => rfl); (case ho => rfl); (case h1 => rfl); (case h2 => rfl); intro v2 w2 hr1_ hb1_ hg1_ ha1_; obtain ⟨A3, c3, rfl, hle_, hcc_⟩ := Kd.R_reads hr1_; have HLE := Aside0.mk hle_; have HR2 := Aside0.mk hcc_; have HB2 := Aside0.mk hb1_; clear hr1_ hb1_ hg1_ ha1_ hle_ hcc_)
      | (go_at_call 13; (with_reducible refine (wakes_true _).mono ?_); rintro e w9 ⟨rfl, h1_⟩; have HB9 := Aside0.mk (below_step HB2.out h1_); clear h1_))
    go_ret
    exact ⟨rfl, HB9.out⟩
  · by_cases hbig2 : (lb.length : Int) > 100
    · go_enter Try.func4, Try.ntmps4
      go_wp2_with (first
        | ((with_reducible refine gate_dst (N := 13) rfl ?_); refine Kd.R_append_rows k25 (w0 := w) w.heap.size ?hg (.const (.slice none 0 0)) (.tmp 12) 32 25 (.agg #[.int .u32 0, .int .u32 0, .int .u8 0, .string ⟨#[]⟩]) 32 ?ho Try.underlying32 info25 rfl (by decide) (by omega) (.slice none 0 0) [] la A1 la.length c1 (fun _ => True) (fun _ => False) ?h1 ?h2 (Kd.R_nil _ _ _ _ _) HC1.out (fun _ _ h => h) (fun _ h => h.elim) (fun _ _ => trivial) HB0.out HB0.out.size (by first | omega | (simp; omega)) ?_; (case hg => rfl); (case ho => rfl); (case h1 => rfl); (case h2 => rfl); intro v1 w1 hr1_ hb1_ hg1_ ha1_; have HR1 := Aside0.mk hr1_; have HB1 := Aside0.mk hb1_; clear hr1_ hb1_ hg1_ ha1_)
        | ((with_reducible refine gate_dst (N := 15) rfl ?_); refine Kd.R_append_rows k25 (w0 := w) w.heap.size ?hg (.tmp 13) (.tmp 14) 32 25 (.agg #[.int .u32 0, .int .u32 0, .int .u8 0, .string ⟨#[]⟩]) 32 ?ho Try.underlying32 info25 rfl (by decide) (by omega) v1 la lb A2 lb.length c2 (fun _ => True) (fun _ => False) ?h1 ?h2 HR1.out (Kd.C_below HC2.out HB1.out) (fun _ _ h => h) (fun _ h => h.elim) (fun _ _ => trivial) HB1.out HB1.out.size (by first | omega | (simp; omega)) ?_; (case hg => rfl); (case ho => rfl); (case h1 => rfl); (case h2 => rfl); intro v2 w2 hr1_ hb1_ hg1_ ha1_; obtain ⟨A3, c3, rfl, hle_, hcc_⟩ := Kd.R_reads hr1_; have HLE := Aside0.mk hle_; have HR2 := Aside0.mk hcc_; have HB2 := Aside0.mk hb1_; clear hr1_ hb1_ hg1_ ha1_ hle_ hcc_)
        | (go_at_call 13; (with_reducible refine (wakes_true _).mono ?_); rintro e w9 ⟨rfl, h1_⟩; have HB9 := Aside0.mk (below_step HB2.out h1_); clear h1_))
      go_ret
      exact ⟨rfl, HB9.out⟩
    · have hl100 : la.length ≤ 100 := by omega
      have hm100 : lb.length ≤ 100 := by omega
      obtain ⟨kf, r, hf, hr⟩ := few_law (la ++ lb) (by simp; omega)
      have hfc := fun W A c (hC : Kd.C k25 W A (la ++ lb).length (la ++ lb)) (hc : (la ++ lb).length ≤ c) => hearsaylaw17_few.calls kf A c (la ++ lb) r W hC hc hf
      simp only [List.length_append] at hfc
      cases r with
      | false =>
        have HFC := Aside0.mk hfc
        clear hf hr hfc
        go_enter Try.func4, Try.ntmps4
        go_wp2_with (first
          | ((with_reducible refine gate_dst (N := 13) rfl ?_); refine Kd.R_append_rows k25 (w0 := w) w.heap.size ?hg (.const (.slice none 0 0)) (.tmp 12) 32 25 (.agg #[.int .u32 0, .int .u32 0, .int .u8 0, .string ⟨#[]⟩]) 32 ?ho Try.underlying32 info25 rfl (by decide) (by omega) (.slice none 0 0) [] la A1 la.length c1 (fun _ => True) (fun _ => False) ?h1 ?h2 (Kd.R_nil _ _ _ _ _) HC1.out (fun _ _ h => h) (fun _ h => h.elim) (fun _ _ => trivial) HB0.out HB0.out.size (by first | omega | (simp; omega)) ?_; (case hg => rfl); (case ho => rfl); (case h1 => rfl); (case h2 => rfl); intro v1 w1 hr1_ hb1_ hg1_ ha1_; have HR1 := Aside0.mk hr1_; have HB1 := Aside0.mk hb1_; clear hr1_ hb1_ hg1_ ha1_)
          | ((with_reducible refine gate_dst (N := 15) rfl ?_); refine Kd.R_append_rows k25 (w0 := w) w.heap.size ?hg (.tmp 13) (.tmp 14) 32 25 (.agg #[.int .u32 0, .int .u32 0, .int .u8 0, .string ⟨#[]⟩]) 32 ?ho Try.underlying32 info25 rfl (by decide) (by omega) v1 la lb A2 lb.length c2 (fun _ => True) (fun _ => False) ?h1 ?h2 HR1.out (Kd.C_below HC2.out HB1.out) (fun _ _ h => h) (fun _ h => h.elim) (fun _ _ => trivial) HB1.out HB1.out.size (by first | omega | (simp; omega)) ?_; (case hg => rfl); (case ho => rfl); (case h1 => rfl); (case h2 => rfl); intro v2 w2 hr1_ hb1_ hg1_ ha1_; obtain ⟨A3, c3, rfl, hle_, hcc_⟩ := Kd.R_reads hr1_; simp only [List.length_append] at hle_ hcc_; have HLE := Aside0.mk hle_; have HR2 := Aside0.mk hcc_; have HB2 := Aside0.mk hb1_; clear hr1_ hb1_ hg1_ ha1_ hle_ hcc_)
          | (go_at_call 14; (with_reducible refine (HFC.out _ A3 c3 HR2.out HLE.out).mono ?_); rintro e w3 ⟨rfl, h1_⟩; have HB3 := Aside0.mk (below_step HB2.out (Drawn0.below h1_)); clear h1_)
          | (go_at_call 13; (with_reducible refine (wakes_true _).mono ?_); rintro e w9 ⟨rfl, h1_⟩; have HB9 := Aside0.mk (below_step HB3.out h1_); clear h1_))
        go_ret
        exact ⟨rfl, HB9.out⟩
      | true =>
        have HFC := Aside0.mk hfc
        have hfw : FewP (rot la 0 ++ rot lb 0) := fun L hR hL => hr rfl L hR (fun y hy => by
          obtain ⟨z, hz, e⟩ := hL y hy
          refine ⟨z, ?_, e⟩
          rcases List.mem_append.1 hz with hz | hz
          · exact List.mem_append.2 (.inl ((rot_mem _ _ _).1 hz))
          · exact List.mem_append.2 (.inr ((rot_mem _ _ _).1 hz)))
        have HME := Aside0.mk (meets hfw)
        clear hf hr hfc hfw
        obtain ⟨La, hLa⟩ : ∃ L, L = runM [] (rot la 0) := ⟨_, rfl⟩
        obtain ⟨Lb, hLb⟩ : ∃ L, L = runM [] (rot lb 0) := ⟨_, rfl⟩
        have hm1 := fun W (hW : Below w.heap.size w W) => merged_calls W A1 c1 la 0 (Kd.C_below HC1.out hW) hc1 (by omega) (by omega) HWF1.out
        have hm2 := fun W (hW : Below w.heap.size w W) => merged_calls W A2 c2 lb 0 (Kd.C_below HC2.out hW) hc2 (by omega) (by omega) HWF2.out
        rw [← hLa] at hm1 HME
        rw [← hLb] at hm2 HME
        have HM1 := Aside0.mk hm1
        have HM2 := Aside0.mk hm2
        clear hm1 hm2 hLa hLb
        go_enter Try.func4, Try.ntmps4
        go_upto_region 4 with (first
          | ((with_reducible refine gate_dst (N := 13) rfl ?_); refine Kd.R_append_rows k25 (w0 := w) w.heap.size ?hg (.const (.slice none 0 0)) (.tmp 12) 32 25 (.agg #[.int .u32 0, .int .u32 0, .int .u8 0, .string ⟨#[]⟩]) 32 ?ho Try.underlying32 info25 rfl (by decide) (by omega) (.slice none 0 0) [] la A1 la.length c1 (fun _ => True) (fun _ => False) ?h1 ?h2 (Kd.R_nil _ _ _ _ _) HC1.out (fun _ _ h => h) (fun _ h => h.elim) (fun _ _ => trivial) HB0.out HB0.out.size (by first | omega | (simp; omega)) ?_; (case hg => rfl); (case ho => rfl); (case h1 => rfl); (case h2 => rfl); intro v1 w1 hr1_ hb1_ hg1_ ha1_; have HR1 := Aside0.mk hr1_; have HB1 := Aside0.mk hb1_; clear hr1_ hb1_ hg1_ ha1_)
          | ((with_reducible refine gate_dst (N := 15) rfl ?_); refine Kd.R_append_rows k25 (w0 := w) w.heap.size ?hg (.tmp 13) (.tmp 14) 32 25 (.agg #[.int .u32 0, .int .u32 0, .int .u8 0, .string ⟨#[]⟩]) 32 ?ho Try.underlying32 info25 rfl (by decide) (by omega) v1 la lb A2 lb.length c2 (fun _ => True) (fun _ => False) ?h1 ?h2 HR1.out (Kd.C_below HC2.out HB1.out) (fun _ _ h => h) (fun _ h => h.elim) (fun _ _ => trivial) HB1.out HB1.out.size (by first | omega | (simp; omega)) ?_; (case hg => rfl); (case ho => rfl); (case h1 => rfl); (case h2 => rfl); intro v2 w2 hr1_ hb1_ hg1_ ha1_; obtain ⟨A3, c3, rfl, hle_, hcc_⟩ := Kd.R_reads hr1_; simp only [List.length_append] at hle_ hcc_; have HLE := Aside0.mk hle_; have HR2 := Aside0.mk hcc_; have HB2 := Aside0.mk hb1_; clear hr1_ hb1_ hg1_ ha1_ hle_ hcc_)
          | (go_at_call 14; (with_reducible refine (HFC.out _ A3 c3 HR2.out HLE.out).mono ?_); rintro e w3 ⟨rfl, h1_⟩; have HB3 := Aside0.mk (below_step HB2.out (Drawn0.below h1_)); clear h1_))
        go_upto_region 5 with (first
          | (go_at_call 15; refine (HM1.out _ HB3.out).mono ?_; rintro e w4 ⟨g, b, rfl, h1_, h2_, h3_, h4_, h5_⟩; have HV4 := Aside0.mk h1_; have HLa := Aside0.mk h2_; have HG1 := Aside0.mk (Nat.le_trans HB3.out.size h4_); have HB4 := Aside0.mk (below_step HB3.out h5_); clear HM1 h1_ h2_ h3_ h4_ h5_)
          | (go_at_call 15; refine (HM2.out _ HB4.out).mono ?_; rintro e w5 ⟨g2, b2, rfl, h1_, h2_, h3_, h4_, h5_⟩; have HW5 := Aside0.mk h1_; have HLb := Aside0.mk h2_; have HNE := Aside0.mk (show b ≠ g2 ∧ b ≠ b2 ∧ b2 ≠ g from ⟨by have := HV4.out.ltb; omega, by have := HV4.out.ltb; omega, by have := HV4.out.ltg; omega⟩); have HG2 := Aside0.mk (Nat.le_trans HB4.out.size h4_); have HV5 := Aside0.mk (HV4.out.below h5_); have HB5 := Aside0.mk (below_step HB4.out h5_); clear h1_ h2_ h3_ h4_ h5_))
        clear HV4 HB4 HB3 HB2 HB1 HR1 HR2 HLE HFC
        go_upto_region 6 with (first
          | (go_at_call 16; (with_reducible refine (list_calls _ g b La HV5.out (by have := HLa.out; omega)).mono ?_); rintro e w6 ⟨v, rfl, h1_, h2_⟩; obtain ⟨pa, ka, rfl, hka, hkma, hpa⟩ := rowP h1_ rfl; have HPA := Aside0.mk hpa; have HV6 := Aside0.mk (HV5.out.below h2_); have HW6 := Aside0.mk (HW5.out.below h2_); have HB6 := Aside0.mk (below_step HB5.out h2_); have HLT5 := Aside0.mk (And.intro HV5.out.ltb HW5.out.ltb); clear h1_ h2_ hpa)
          | (go_at_call 16; (with_reducible refine (list_calls _ g2 b2 Lb HW6.out (by have := HLb.out; omega)).mono ?_); rintro e w7 ⟨v, rfl, h1_, h2_⟩; obtain ⟨pb, kb, rfl, hkb, hkmb, hpb⟩ := rowP h1_ rfl; have HPB := Aside0.mk hpb; have HBN := Aside0.mk h2_; have HV7 := Aside0.mk (HV6.out.below h2_); have HW7 := Aside0.mk (HW6.out.below h2_); have HB7 := Aside0.mk (below_step HB6.out h2_); have HLT6 := Aside0.mk (And.intro HV6.out.ltb HW6.out.ltb); clear h1_ h2_ hpb))
        have hla32 := HLa.out
        have hlb32 := HLb.out
        go_wp2
        go_loopw [10] (fun i wr => ∃ k : Nat, k ≤ Lb.length ∧ i = .int .i64 k ∧ Aside0 (Vw wr g b (runM La (Lb.take k)) ∧ (runM La (Lb.take k)).length ≤ 32) ∧ Aside0 (VF w7 wr b)) (fun i _ => Lb.length - (intOf i).toNat)
        case atStart => exact ⟨0, Nat.zero_le _, rfl, ⟨by simpa [runM] using HV7.out, by simpa [runM] using hla32⟩, ⟨VF.of (Below.refl _ _)⟩⟩
        case round =>
          obtain ⟨k, hk, rfl, HV, HB⟩ := hrel
          by_cases hlt : (k : Int) < (Lb.length : Int)
          · obtain ⟨gr, rfl, hrow, hgr⟩ := HPB.out (by omega)
            have HLT := Aside0.mk (show k < Lb.length by omega)
            have hk0 : 0 ≤ (k : Int) := by omega
            obtain ⟨y, hy⟩ : ∃ y, Lb[k]? = some y := ⟨Lb[k]'(by omega), List.getElem?_eq_getElem (by omega)⟩
            have HX := Aside0.mk (HW7.out.wf y (List.mem_of_getElem? hy))
            have hrw := hrow.kept HB.out (show b ≠ gr by have := HLT6.out; omega)
            have c0 : wr.cell? ⟨gr, k * 4, none⟩ = some (.int .u32 y.f0) := hrw.at hy 0 (by omega) _ rfl
            have c1 : wr.cell? ⟨gr, k * 4 + 1, none⟩ = some (.int .u32 y.f1) := hrw.at hy 1 (by omega) _ rfl
            have c2 : wr.cell? ⟨gr, k * 4 + 2, none⟩ = some (.int .u8 y.f2) := hrw.at hy 2 (by omega) _ rfl
            have c3 : wr.cell? ⟨gr, k * 4 + 3, none⟩ = some (.string y.f3) := hrw.at hy 3 (by omega) _ rfl
            have HY := Aside0.mk hy
            obtain ⟨L, hL⟩ : ∃ L, L = runM La (Lb.take k) := ⟨_, rfl⟩
            rw [← hL] at HV
            have HL := Aside0.mk hL
            have HL32 := Aside0.mk (merge_length L y HV.out.1.ord HV.out.2)
            have HM : Aside0 (Calls Try.prog 17 #[.pointer (some ⟨g, 0, none⟩), .agg #[.int .u32 y.f0, .int .u32 y.f1, .int .u8 y.f2, .string y.f3]] wr fun e w' => ∃ t, e = .returned t ∧ Vw w' g b (mergeM L y).2.2 ∧ VF wr w' b) := ⟨(merge_calls wr g b L y HX.out.1 HX.out.2 HV.out.1 (by have := HV.out.2; omega)).mono fun e w' h => ⟨_, h.1, h.2⟩⟩
            clear hL hy hrow hrw
            go_wp2_with (first | (go_at_call 17; (with_reducible refine HM.out.mono ?_); rintro e u1 ⟨t, rfl, h1_, h2_⟩; have HV2 := Aside0.mk h1_; have HB2 := Aside0.mk (VF.trans HB.out h2_); clear h1_ h2_ c0 c1 c2 c3))
            go_roundw
            case rel => exact ⟨k + 1, by have := HLT.out; omega, by go_num, ⟨by rw [runM_take _ _ _ _ HY.out, ← HL.out]; exact HV2.out, by rw [runM_take _ _ _ _ HY.out, ← HL.out]; exact HL32.out⟩, HB2⟩
            case measure => have := HLT.out; simp [intOf, wrap64]; omega
          · have ek : k = Lb.length := by omega
            subst ek
            rw [List.take_length] at HV
            have HWx := Aside0.mk (VF.kept HB.out HW7.out HNE.out.1 HNE.out.2.1)
            have HBx := Aside0.mk (HB7.out.trans (VF.below HB.out HG1.out HB7.out.size))
            obtain ⟨M, hM⟩ : ∃ M, M = runM La Lb := ⟨_, rfl⟩
            rw [← hM] at HV HME
            clear hM
            have HVB := HB
            go_wp2
            generalize hw8 : wr = w8 at HV HVB HWx HBx ⊢
            clear hw8
            go_loopw [11] (fun i wq => ∃ m : Nat, m ≤ La.length ∧ i = .int .i64 m ∧ Aside0 (Vw wq g2 b2 (runM Lb (La.take m)) ∧ (runM Lb (La.take m)).length ≤ 32) ∧ Aside0 (VF w8 wq b2)) (fun i _ => La.length - (intOf i).toNat)
            case atStart => exact ⟨0, Nat.zero_le _, rfl, ⟨by simpa [runM] using HWx.out, by simpa [runM] using hlb32⟩, ⟨VF.of (Below.refl _ _)⟩⟩
            case round =>
              obtain ⟨m, hm, rfl, HW, HBq⟩ := hrel
              by_cases hlt2 : (m : Int) < (La.length : Int)
              · obtain ⟨gr, rfl, hrow, hgr⟩ := HPA.out (by omega)
                have HLT := Aside0.mk (show m < La.length by omega)
                have hm0 : 0 ≤ (m : Int) := by omega
                obtain ⟨y, hy⟩ : ∃ y, La[m]? = some y := ⟨La[m]'(by omega), List.getElem?_eq_getElem (by omega)⟩
                have HX := Aside0.mk (HV7.out.wf y (List.mem_of_getElem? hy))
                have hrw := ((hrow.below HBN.out).kept HVB.out (show b ≠ gr by have := HLT5.out; omega)).kept HBq.out (show b2 ≠ gr by have := HLT5.out; omega)
                have c0 : wr.cell? ⟨gr, m * 4, none⟩ = some (.int .u32 y.f0) := hrw.at hy 0 (by omega) _ rfl
                have c1 : wr.cell? ⟨gr, m * 4 + 1, none⟩ = some (.int .u32 y.f1) := hrw.at hy 1 (by omega) _ rfl
                have c2 : wr.cell? ⟨gr, m * 4 + 2, none⟩ = some (.int .u8 y.f2) := hrw.at hy 2 (by omega) _ rfl
                have c3 : wr.cell? ⟨gr, m * 4 + 3, none⟩ = some (.string y.f3) := hrw.at hy 3 (by omega) _ rfl
                have HY := Aside0.mk hy
                obtain ⟨L, hL⟩ : ∃ L, L = runM Lb (La.take m) := ⟨_, rfl⟩
                rw [← hL] at HW
                have HL := Aside0.mk hL
                have HL32 := Aside0.mk (merge_length L y HW.out.1.ord HW.out.2)
                have HM : Aside0 (Calls Try.prog 17 #[.pointer (some ⟨g2, 0, none⟩), .agg #[.int .u32 y.f0, .int .u32 y.f1, .int .u8 y.f2, .string y.f3]] wr fun e w' => ∃ t, e = .returned t ∧ Vw w' g2 b2 (mergeM L y).2.2 ∧ VF wr w' b2) := ⟨(merge_calls wr g2 b2 L y HX.out.1 HX.out.2 HW.out.1 (by have := HW.out.2; omega)).mono fun e w' h => ⟨_, h.1, h.2⟩⟩
                clear hL hy hrow hrw
                go_wp2_with (first | (go_at_call 17; (with_reducible refine HM.out.mono ?_); rintro e u1 ⟨t, rfl, h1_, h2_⟩; have HV2 := Aside0.mk h1_; have HB2 := Aside0.mk (VF.trans HBq.out h2_); clear h1_ h2_ c0 c1 c2 c3))
                go_roundw
                case rel => exact ⟨m + 1, by have := HLT.out; omega, by go_num, ⟨by rw [runM_take _ _ _ _ HY.out, ← HL.out]; exact HV2.out, by rw [runM_take _ _ _ _ HY.out, ← HL.out]; exact HL32.out⟩, HB2⟩
                case measure => have := HLT.out; simp [intOf, wrap64]; omega
              · have em : m = La.length := by omega
                subst em
                rw [List.take_length, ← HME.out] at HW
                have HVy := Aside0.mk (VF.kept HBq.out HV.out.1 HNE.out.2.2 (fun e => HNE.out.2.1 e.symm))
                have HBy := Aside0.mk (HBx.out.trans (VF.below HBq.out HG2.out HBx.out.size))
                have hM32 : M.length ≤ 32 := HV.out.2
                obtain ⟨ke, hke⟩ := equal_same M (by omega)
                have HKE := Aside0.mk hke
                clear hke
                go_wp2_with (first
                  | (go_at_call 18; (with_reducible refine (same_calls _ g b g2 b2 M M HVy.out HW.out.1).mono ?_); rintro e u1 ⟨rr, rfl, h1_, h2_⟩; obtain rfl := h1_.2 rfl; have HVs := Aside0.mk (HVy.out.below h2_); have HWs := Aside0.mk (HW.out.1.below h2_); have HBs := Aside0.mk (below_step HBy.out h2_); clear h1_ h2_)
                  | (go_at_call 16; (with_reducible refine (list_calls _ g b M HVs.out (by omega)).mono ?_); rintro e u2 ⟨v, rfl, h1_, h2_⟩; obtain ⟨px, cx, rfl, hcx, hCx⟩ := own_C h1_; have HCX := Aside0.mk hCx; have HWt := Aside0.mk (HWs.out.below h2_); have HBt := Aside0.mk (below_step HBs.out h2_); clear h1_ h2_ hCx)
                  | (go_at_call 16; (with_reducible refine (list_calls _ g2 b2 M HWt.out (by omega)).mono ?_); rintro e u3 ⟨v, rfl, h1_, h2_⟩; obtain ⟨py, cy, rfl, hcy, hCy⟩ := own_C h1_; have HCY := Aside0.mk hCy; have HCX' := Aside0.mk (Kd.C_below HCX.out h2_); have HBu := Aside0.mk (below_step HBt.out h2_); clear h1_ h2_ hCy)
                  | (go_at_call 19; (with_reducible refine (hearsayref17_Equal.calls ke px cx M py cy M true _ HCX'.out hcx HCY.out hcy HKE.out).mono ?_); rintro e u4 ⟨rfl, h1_⟩; have HBv := Aside0.mk (below_step HBu.out (Drawn0.below h1_)); clear h1_)
                  | (go_at_call 13; (with_reducible refine (wakes_true _).mono ?_); rintro e w9 ⟨rfl, h1_⟩; have HB9 := Aside0.mk (below_step HBv.out h1_); clear h1_))
                go_ret
                exact ⟨rfl, HB9.out⟩
end Go.Proofs.Ytognmibankcefaa.Print
end
section
/- How members, and lists of them, read as data are told by their kind, with their bounds. -/
namespace Go.Proofs.Ytognmibankcefaa.Opens
open Go.ChangeShapes Go.WideShapes Go.ChangeAt Go.RowKit Go.Proofs.YtognmibankcefaaW.PrintWords Go.Proofs.Ytognmibankcefaa.Print
set_option linter.unusedVariables false
def wfM (x : Mem) : Prop := (0 ≤ x.f0 ∧ x.f0 ≤ 4294967295) ∧ x.f3.size ≤ 9223372036854775807
theorem u32_wf {n : Int} (h : (Lit.int .u32 n).wf = true) : 0 ≤ n ∧ n ≤ 4294967295 := by
  simp [Lit.wf] at h
  have e1 : IntKind.u32.min = 0 := by decide
  have e2 : IntKind.u32.max = 4294967295 := by decide
  omega
theorem opens25 : Opens Try.prog 25 k25 wfM := by
  have h := opens_iso (opens_struct Try.underlying25 (by kernel_rfl) (opensF_cons rfl (by kernel_rfl) (opens_int (k := .u32) (by kernel_rfl)) (opensF_cons rfl (by kernel_rfl) (opens_int (k := .u32) (by kernel_rfl)) (opensF_cons rfl (by kernel_rfl) (opens_int (k := .u8) (by kernel_rfl)) (opensF_one rfl (by kernel_rfl) (opens_string (by kernel_rfl))))))) (fun x : S25 => (x.f0, x.f1, x.f2, x.f3)) (fun y => ⟨y.1, y.2.1, y.2.2.1, y.2.2.2⟩) (fun _ => rfl)
  intro H enc w base spare held fuel cs y hy
  obtain ⟨x, hk, h0, h1, h2, h3⟩ := h H enc w base spare held fuel cs y hy
  exact ⟨x, hk, u32_wf h0, by unfold maxLen at h3; exact h3⟩
end Go.Proofs.Ytognmibankcefaa.Opens
end
