/- How a law's arguments, read as data, are told by the kinds (Kd): each type's reading opens to a value of its kind. -/
import Derived.Test.YtihmblbnnhcdnaaWMore
import Derived.ProofKit
import Derived.OpenShut
import Derived.ShutString
import Derived.SizedLaws
namespace Go.Proofs.Ytihmblbnnhcdnaa.Opens
open Go.RowKit Go.Proofs.YtihmblbnnhcdnaaW.PrintWords Go.Proofs.YtihmblbnnhcdnaaW.PrintLast Go.Proofs.YtihmblbnnhcdnaaW.PrintMore
set_option linter.unusedVariables false
set_option linter.unusedSimpArgs false

/-- What reads as type t is told by kind d. -/
def Opens (P : Program) (t : TypeId) {α : Type} (d : Kd α) (wf : α → Prop) : Prop :=
  ∀ (H : Type) (enc : TypeId × Value → H) (w : World) (base : Nat) (spare : Nat → Bool) (held : Bool) (fuel : Nat) (cs : List Value) (y : DataW H × List MemPlace),
    DataW.trod enc P w base spare held fuel t cs = some y → ∃ x, d.K w x cs ∧ wf x
theorem opens_int {P : Program} {t : TypeId} {k : IntKind} (h : P.underlying t = some (.int k)) : Opens P t (Kd.int k) (fun n => (Lit.int k n).wf = true) := by
  intro H enc w base spare held fuel cs y hy
  cases fuel with
  | zero => simp [DataW.trod] at hy
  | succ n =>
    unfold DataW.trod at hy
    rw [h] at hy
    split at hy <;> simp_all
    obtain ⟨⟨rfl, hw⟩, _⟩ := hy
    exact ⟨_, rfl, hw⟩
theorem opens_bool {P : Program} {t : TypeId} (h : P.underlying t = some .bool) : Opens P t Kd.bool (fun _ => True) := by
  intro H enc w base spare held fuel cs y hy
  cases fuel with
  | zero => simp [DataW.trod] at hy
  | succ n =>
    unfold DataW.trod at hy
    rw [h] at hy
    split at hy
    all_goals first | exact ⟨_, rfl, trivial⟩ | (simp_all; done)
theorem opens_string {P : Program} {t : TypeId} (h : P.underlying t = some .string) : Opens P t Kd.string (fun s => s.size ≤ maxLen) := by
  intro H enc w base spare held fuel cs y hy
  cases fuel with
  | zero => simp [DataW.trod] at hy
  | succ n =>
    unfold DataW.trod at hy
    rw [h] at hy
    split at hy <;> simp_all
    exact ⟨_, rfl, hy.1⟩
theorem mapM_get {α β : Type} {f : α → Option β} : ∀ {l : List α} {r : List β}, l.mapM f = some r → r.length = l.length ∧ ∀ (i : Nat) (x : α), l[i]? = some x → ∃ y, f x = some y
  | [], r, h => by simp at h; subst h; exact ⟨rfl, fun i x hx => by simp at hx⟩
  | a :: l, r, h => by
    simp only [List.mapM_cons, Option.bind_eq_bind, Option.bind_eq_some_iff, Option.pure_def, Option.some.injEq] at h
    obtain ⟨b, hb, bs, hbs, rfl⟩ := h
    obtain ⟨h1, h2⟩ := mapM_get hbs
    refine ⟨by simp [h1], fun i x hx => ?_⟩
    cases i with
    | zero => simp at hx; subst hx; exact ⟨b, hb⟩
    | succ i => simp at hx; exact h2 i x hx
theorem cells_get {w : World} {base : Nat} {a : Addr} {n : Nat} {c : List Value} (h : w.cells? base a n = some c) : base ≤ a.block ∧ c.length = n ∧ ∀ i u, c[i]? = some u → w.cell? (a.add i) = some u := by
  unfold World.cells? at h
  split at h
  · rename_i hb
    refine ⟨hb, ?_⟩
    suffices H : ∀ (l : List Nat) (c : List Value), l.mapM (fun i => w.cell? (a.add i)) = some c → c.length = l.length ∧ ∀ i u, c[i]? = some u → ∃ j, l[i]? = some j ∧ w.cell? (a.add j) = some u by
      obtain ⟨h1, h2⟩ := H _ _ h
      refine ⟨by simpa using h1, fun i u hu => ?_⟩
      obtain ⟨j, hj, hc⟩ := h2 i u hu
      rw [List.getElem?_range (by have := (List.getElem?_eq_some_iff.1 hu).1; simp at h1; omega)] at hj
      simp at hj; subst hj; exact hc
    intro l
    induction l with
    | nil => intro c hc; simp at hc; subst hc; exact ⟨rfl, fun i u hu => by simp at hu⟩
    | cons x l ih =>
      intro c hc
      simp only [List.mapM_cons, Option.bind_eq_bind, Option.bind_eq_some_iff, Option.pure_def, Option.some.injEq] at hc
      obtain ⟨b, hb, bs, hbs, rfl⟩ := hc
      obtain ⟨h1, h2⟩ := ih _ hbs
      refine ⟨by simp [h1], fun i u hu => ?_⟩
      cases i with
      | zero => simp at hu; subst hu; exact ⟨x, rfl, hb⟩
      | succ i => simp at hu; obtain ⟨j, hj, hc⟩ := h2 i u hu; exact ⟨j, by simpa using hj, hc⟩
  · simp at h
theorem choose_list {α : Type} {n : Nat} {Q : Nat → α → Prop} (h : ∀ i, i < n → ∃ x, Q i x) : ∃ xs : List α, xs.length = n ∧ ∀ i x, xs[i]? = some x → Q i x := by
  induction n with
  | zero => exact ⟨[], rfl, fun i x hx => by simp at hx⟩
  | succ n ih =>
    obtain ⟨xs, hl, hx⟩ := ih (fun i hi => h i (by omega))
    obtain ⟨x, hq⟩ := h n (by omega)
    refine ⟨xs ++ [x], by simp [hl], fun i y hy => ?_⟩
    rcases Nat.lt_or_ge i xs.length with hi | hi
    · rw [List.getElem?_append_left hi] at hy; exact hx i y hy
    · rw [List.getElem?_append_right hi] at hy
      have : i - xs.length = 0 := by
        have := (List.getElem?_eq_some_iff.1 hy).1; simp at this; omega
      rw [this] at hy; simp at hy; subst hy
      have : i = n := by omega
      subst this; exact hq
theorem opens_slice {P : Program} {t e : TypeId} {α : Type} {d : Kd α} {wf : α → Prop} (h : P.underlying t = some (.slice e)) (hz : P.cellsOf e = d.sz) (he : Opens P e d wf) : Opens P t (Kd.slice e d) (fun xs => ∀ x ∈ xs, wf x) := by
  intro H enc w base spare held fuel cs y hy
  cases fuel with
  | zero => simp [DataW.trod] at hy
  | succ n =>
    unfold DataW.trod at hy
    rw [h] at hy
    dsimp only at hy
    split at hy
    all_goals try (simp at hy; done)
    all_goals try (rename_i hh; simp at hh; done)
    · exact ⟨[], ⟨none, 0, rfl, Nat.le_refl _, ⟨rfl, by simp, fun h => absurd h (by simp)⟩⟩, fun x hx => by simp at hx⟩
    · rename_i e' a len cap he'
      simp only [Option.some.injEq, TypeDesc.slice.injEq] at he'
      subst he'
      split at hy
      · rename_i hc
        simp only [Option.bind_eq_some_iff] at hy
        obtain ⟨elems, hel, _⟩ := hy
        obtain ⟨hl, hg⟩ := mapM_get hel
        have hx : ∀ i, i < len → ∃ x, (∃ c, c.length = d.sz ∧ d.K w x c ∧ ∀ j u, c[j]? = some u → w.cell? (a.add (i * d.sz + j)) = some u) ∧ wf x := by
          intro i hi
          obtain ⟨yy, hyy⟩ := hg i i (by rw [List.getElem?_range hi])
          simp only [Option.bind_eq_some_iff] at hyy
          obtain ⟨c, hcc, hty⟩ := hyy
          obtain ⟨x, hk, hw⟩ := he H enc w base spare held n c yy hty
          obtain ⟨_, hcl, hcg⟩ := cells_get hcc
          refine ⟨x, ⟨c, by rw [hcl, hz], hk, fun j u hu => ?_⟩, hw⟩
          have := hcg j u hu
          rw [hz] at this
          rwa [add_add] at this
        obtain ⟨xs, hxl, hxs⟩ := choose_list hx
        refine ⟨xs, ⟨some a, cap, by rw [hxl], by omega, ⟨rfl, by rw [hxl]; unfold maxLen at hc; omega, fun _ => ⟨a, rfl, fun j p hp => ?_⟩⟩⟩, fun x hx => ?_⟩
        · exact (hxs j p hp).1
        · obtain ⟨i, hi⟩ := List.mem_iff_getElem?.1 hx
          exact (hxs i x hi).2
      · simp at hy
/-- A struct's fields, from cell 'off' on. -/
def OpensF (P : Program) (fs : List Field) (off : Nat) {α : Type} (d : Kd α) (wf : α → Prop) : Prop :=
  ∀ (H : Type) (enc : TypeId × Value → H) (w : World) (base : Nat) (spare : Nat → Bool) (held : Bool) (fuel : Nat) (cs : List Value) (ys : List (DataW H × List MemPlace)),
    cs.length = off + d.sz → fs.mapM (fun f => DataW.trod enc P w base spare held fuel f.type ((cs.drop f.offset).take (P.cellsOf f.type))) = some ys → ∃ x, d.K w x (cs.drop off) ∧ wf x
theorem opensF_one {P : Program} {f : Field} {off : Nat} {α : Type} {d : Kd α} {wf : α → Prop} (ho : f.offset = off) (hz : P.cellsOf f.type = d.sz) (h : Opens P f.type d wf) : OpensF P [f] off d wf := by
  intro H enc w base spare held fuel cs ys hl hy
  simp only [List.mapM_cons, List.mapM_nil, Option.bind_eq_bind, Option.bind_eq_some_iff, Option.pure_def, Option.some.injEq] at hy
  obtain ⟨y, hy, _⟩ := hy
  obtain ⟨x, hk, hw⟩ := h _ _ _ _ _ _ _ _ _ hy
  refine ⟨x, ?_, hw⟩
  rw [ho, hz, List.take_of_length_le (by simp; omega)] at hk
  exact hk
theorem opensF_cons {P : Program} {f : Field} {fs : List Field} {off : Nat} {α β : Type} {d : Kd α} {d' : Kd β} {wf : α → Prop} {wf' : β → Prop} (ho : f.offset = off) (hz : P.cellsOf f.type = d.sz) (h : Opens P f.type d wf) (hs : OpensF P fs (off + d.sz) d' wf') :
    OpensF P (f :: fs) off (Kd.pair d d') (fun x => wf x.1 ∧ wf' x.2) := by
  intro H enc w base spare held fuel cs ys hl hy
  simp only [List.mapM_cons, Option.bind_eq_bind, Option.bind_eq_some_iff, Option.pure_def, Option.some.injEq] at hy
  obtain ⟨y, hy, zs, hzs, _⟩ := hy
  obtain ⟨x, hk, hw⟩ := h _ _ _ _ _ _ _ _ _ hy
  have hl' : cs.length = off + (d.sz + d'.sz) := hl
  obtain ⟨x', hk', hw'⟩ := hs H enc w base spare held fuel cs zs (by omega) hzs
  refine ⟨(x, x'), ⟨(cs.drop off).take d.sz, cs.drop (off + d.sz), ?_, ?_, hk'⟩, hw, hw'⟩
  · rw [← List.drop_drop]; exact (List.take_append_drop _ _).symm
  · rw [ho, hz] at hk; exact hk
theorem opens_struct {P : Program} {t : TypeId} {fs : Array Field} {α : Type} {d : Kd α} {wf : α → Prop} (h : P.underlying t = some (.struct fs)) (hz : P.cellsOf t = d.sz) (hs : OpensF P fs.toList 0 d wf) : Opens P t d wf := by
  intro H enc w base spare held fuel cs y hy
  cases fuel with
  | zero => simp [DataW.trod] at hy
  | succ n =>
    unfold DataW.trod at hy
    rw [h] at hy
    dsimp only at hy
    split at hy
    · rename_i hc
      simp only [Option.map_eq_some_iff] at hy
      obtain ⟨ys, hys, _⟩ := hy
      obtain ⟨x, hk, hw⟩ := hs H enc w base spare held n cs ys (by omega) hys
      exact ⟨x, by simpa using hk, hw⟩
    · simp at hy
theorem opens_iso {P : Program} {t : TypeId} {α β : Type} {d : Kd α} {wf : α → Prop} (h : Opens P t d wf) (f : β → α) (g : α → β) (hg : ∀ x, f (g x) = x) : Opens P t (Kd.iso d f) (fun x => wf (f x)) := by
  intro H enc w base spare held fuel cs y hy
  obtain ⟨x, hk, hw⟩ := h _ _ _ _ _ _ _ _ _ hy
  exact ⟨g x, by show d.K w (f (g x)) cs; rw [hg]; exact hk, by show wf (f (g x)); rw [hg]; exact hw⟩
/-- An argument that reads. -/
theorem opens_arg {P : Program} {t : TypeId} {α : Type} {d : Kd α} {wf : α → Prop} (h : Opens P t d wf) {H : Type} {enc : TypeId × Value → H} {w : World} {base : Nat} {spare : Nat → Bool} {held : Bool} {v : Value} {y : DataW H} {ps : List MemPlace}
    (ht : DataW.Trod enc P w base spare held t v y ps) : ∃ x, d.K w x v.cells.toList ∧ wf x := by
  obtain ⟨fuel, hf⟩ := ht
  exact h _ _ _ _ _ _ _ _ _ hf
/-- a slice that is read as data has as many elements as it says -/
theorem trod_len {P : Program} {t e : TypeId} (h : P.underlying t = some (.slice e)) {H : Type} {enc : TypeId × Value → H} {w : World} {base : Nat} {spare : Nat → Bool} {held : Bool} {A : Option Addr} {n c : Nat} {y : DataW H} {ps : List MemPlace}
    (ht : DataW.Trod enc P w base spare held t (.slice A n c) y ps) : (A = none ∧ n = 0) ∨ ∃ elems rest, y = .slice elems rest ∧ elems.length = n := by
  obtain ⟨fuel, hy⟩ := ht
  cases fuel with
  | zero => simp [DataW.trod] at hy
  | succ m =>
    unfold DataW.trod at hy
    rw [h] at hy
    simp only [Value.cells] at hy
    try dsimp only at hy
    split at hy
    all_goals try (simp at hy; done)
    all_goals try (rename_i hh; simp at hh; done)
    · rename_i hh
      simp at hh
      exact Or.inl ⟨hh.1, hh.2.1⟩
    · rename_i e' a len cap he' hh
      simp only [Option.some.injEq, TypeDesc.slice.injEq] at he'
      subst he'
      simp at hh
      obtain ⟨rfl, rfl, rfl⟩ := hh
      split at hy
      · simp only [Option.bind_eq_some_iff] at hy
        obtain ⟨elems, hel, hr⟩ := hy
        have hl := (mapM_get hel).1
        obtain ⟨rest, _, hr2⟩ := Option.map_eq_some_iff.1 hr
        cases hr2
        exact Or.inr ⟨_, _, rfl, by simp [hl]⟩
      · simp at hy
end Go.Proofs.Ytihmblbnnhcdnaa.Opens
