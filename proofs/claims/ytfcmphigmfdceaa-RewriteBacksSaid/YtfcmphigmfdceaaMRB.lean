/- Some texts of the proof in one: XOpens, Eq38, Eq32, XLent, XOwn, XRBack, XOrder, F27, F19, XRefP, F15, F10, XAskLaws, XLawBacks, XOpensR. -/
import Derived.Test.YtfcmphigmfdceaaXGate
import Derived.Test.YtfcmphigmfdceaaWLast
import Derived.ProofKit
import Derived.OpenShut
import Derived.ShutString
import Derived.SizedLaws
import Derived.Test.YtfcmphigmfdceaaKinds
import Derived.Test.YtfcmphigmfdceaaXStr
import Derived.Test.YtfcmphigmfdceaaKindsR
import Derived.Test.YtfcmphigmfdceaaEq59
import Derived.Test.YtfcmphigmfdceaaXAsk
import Derived.Test.YtfcmphigmfdceaaXBackP
import Derived.Test.YtfcmphigmfdceaaF18
import Derived.Test.YtfcmphigmfdceaaXUnder
import Derived.Test.YtfcmphigmfdceaaF33
import Derived.Test.YtfcmphigmfdceaaXAskP
section
/- How a law's arguments, read as data, are told by the kinds (Kd): each type's reading opens to a value of its kind. -/
namespace Go.Proofs.Ytfcmphigmfdceaa.Opens
open Go.RowKit Go.Proofs.YtfcmphigmfdceaaW.PrintWords Go.Proofs.YtfcmphigmfdceaaW.PrintLast Go.Proofs.YtfcmphigmfdceaaW.PrintMore
set_option linter.unusedVariables false
set_option linter.unusedSimpArgs false

/-- What reads as type t is told by kind d. -/
def Opens (P : Program) (t : TypeId) {α : Type} (d : Kd α) (wf : α → Prop) : Prop :=
  ∀ (H : Type) (enc : TypeId × Value → H) (w : World) (base : Nat) (spare : Nat → Bool) (held : Bool) (fuel : Nat) (cs : List Value) (y : DataW H × List MemPlace),
    DataW.trod enc P w base spare held fuel t cs = some y → ∃ x, d.K w x cs ∧ wf x
theorem opens_int {P : Program} {t : TypeId} {k : IntKind} (h : P.underlying t = some (.int k)) : Opens P t (Kd.int k) (fun n => (Lit.int k n).wf = true) := by
  intro H enc w base spare held fuel cs y hy
  cases fuel with
  | zero => simp [DataW.trod] at hy
  | succ n =>
    unfold DataW.trod at hy
    rw [h] at hy
    split at hy <;> simp_all
    obtain ⟨⟨rfl, hw⟩, _⟩ := hy
    exact ⟨_, rfl, hw⟩
theorem opens_bool {P : Program} {t : TypeId} (h : P.underlying t = some .bool) : Opens P t Kd.bool (fun _ => True) := by
  intro H enc w base spare held fuel cs y hy
  cases fuel with
  | zero => simp [DataW.trod] at hy
  | succ n =>
    unfold DataW.trod at hy
    rw [h] at hy
    split at hy
    all_goals first | exact ⟨_, rfl, trivial⟩ | (simp_all; done)
theorem opens_string {P : Program} {t : TypeId} (h : P.underlying t = some .string) : Opens P t Kd.string (fun s => s.size ≤ maxLen) := by
  intro H enc w base spare held fuel cs y hy
  cases fuel with
  | zero => simp [DataW.trod] at hy
  | succ n =>
    unfold DataW.trod at hy
    rw [h] at hy
    split at hy <;> simp_all
    exact ⟨_, rfl, hy.1⟩
theorem mapM_get {α β : Type} {f : α → Option β} : ∀ {l : List α} {r : List β}, l.mapM f = some r → r.length = l.length ∧ ∀ (i : Nat) (x : α), l[i]? = some x → ∃ y, f x = some y
  | [], r, h => by simp at h; subst h; exact ⟨rfl, fun i x hx => by simp at hx⟩
  | a :: l, r, h => by
    simp only [List.mapM_cons, Option.bind_eq_bind, Option.bind_eq_some_iff, Option.pure_def, Option.some.injEq] at h
    obtain ⟨b, hb, bs, hbs, rfl⟩ := h
    obtain ⟨h1, h2⟩ := mapM_get hbs
    refine ⟨by simp [h1], fun i x hx => ?_⟩
    cases i with
    | zero => simp at hx; subst hx; exact ⟨b, hb⟩
    | succ i => simp at hx; exact h2 i x hx
theorem cells_get {w : World} {base : Nat} {a : Addr} {n : Nat} {c : List Value} (h : w.cells? base a n = some c) : base ≤ a.block ∧ c.length = n ∧ ∀ i u, c[i]? = some u → w.cell? (a.add i) = some u := by
  unfold World.cells? at h
  split at h
  · rename_i hb
    refine ⟨hb, ?_⟩
    suffices H : ∀ (l : List Nat) (c : List Value), l.mapM (fun i => w.cell? (a.add i)) = some c → c.length = l.length ∧ ∀ i u, c[i]? = some u → ∃ j, l[i]? = some j ∧ w.cell? (a.add j) = some u by
      obtain ⟨h1, h2⟩ := H _ _ h
      refine ⟨by simpa using h1, fun i u hu => ?_⟩
      obtain ⟨j, hj, hc⟩ := h2 i u hu
      rw [List.getElem?_range (by have := (List.getElem?_eq_some_iff.1 hu).1; simp at h1; omega)] at hj
      simp at hj; subst hj; exact hc
    intro l
    induction l with
    | nil => intro c hc; simp at hc; subst hc; exact ⟨rfl, fun i u hu => by simp at hu⟩
    | cons x l ih =>
      intro c hc
      simp only [List.mapM_cons, Option.bind_eq_bind, Option.bind_eq_some_iff, Option.pure_def, Option.some.injEq] at hc
      obtain ⟨b, hb, bs, hbs, rfl⟩ := hc
      obtain ⟨h1, h2⟩ := ih _ hbs
      refine ⟨by simp [h1], fun i u hu => ?_⟩
      cases i with
      | zero => simp at hu; subst hu; exact ⟨x, rfl, hb⟩
      | succ i => simp at hu; obtain ⟨j, hj, hc⟩ := h2 i u hu; exact ⟨j, by simpa using hj, hc⟩
  · simp at h
theorem choose_list {α : Type} {n : Nat} {Q : Nat → α → Prop} (h : ∀ i, i < n → ∃ x, Q i x) : ∃ xs : List α, xs.length = n ∧ ∀ i x, xs[i]? = some x → Q i x := by
  induction n with
  | zero => exact ⟨[], rfl, fun i x hx => by simp at hx⟩
  | succ n ih =>
    obtain ⟨xs, hl, hx⟩ := ih (fun i hi => h i (by omega))
    obtain ⟨x, hq⟩ := h n (by omega)
    refine ⟨xs ++ [x], by simp [hl], fun i y hy => ?_⟩
    rcases Nat.lt_or_ge i xs.length with hi | hi
    · rw [List.getElem?_append_left hi] at hy; exact hx i y hy
    · rw [List.getElem?_append_right hi] at hy
      have : i - xs.length = 0 := by
        have := (List.getElem?_eq_some_iff.1 hy).1; simp at this; omega
      rw [this] at hy; simp at hy; subst hy
      have : i = n := by omega
      subst this; exact hq
theorem opens_slice {P : Program} {t e : TypeId} {α : Type} {d : Kd α} {wf : α → Prop} (h : P.underlying t = some (.slice e)) (hz : P.cellsOf e = d.sz) (he : Opens P e d wf) : Opens P t (Kd.slice e d) (fun xs => ∀ x ∈ xs, wf x) := by
  intro H enc w base spare held fuel cs y hy
  cases fuel with
  | zero => simp [DataW.trod] at hy
  | succ n =>
    unfold DataW.trod at hy
    rw [h] at hy
    dsimp only at hy
    split at hy
    all_goals try (simp at hy; done)
    all_goals try (rename_i hh; simp at hh; done)
    · exact ⟨[], ⟨none, 0, rfl, Nat.le_refl _, ⟨rfl, by simp, fun h => absurd h (by simp)⟩⟩, fun x hx => by simp at hx⟩
    · rename_i e' a len cap he'
      simp only [Option.some.injEq, TypeDesc.slice.injEq] at he'
      subst he'
      split at hy
      · rename_i hc
        simp only [Option.bind_eq_some_iff] at hy
        obtain ⟨elems, hel, _⟩ := hy
        obtain ⟨hl, hg⟩ := mapM_get hel
        have hx : ∀ i, i < len → ∃ x, (∃ c, c.length = d.sz ∧ d.K w x c ∧ ∀ j u, c[j]? = some u → w.cell? (a.add (i * d.sz + j)) = some u) ∧ wf x := by
          intro i hi
          obtain ⟨yy, hyy⟩ := hg i i (by rw [List.getElem?_range hi])
          simp only [Option.bind_eq_some_iff] at hyy
          obtain ⟨c, hcc, hty⟩ := hyy
          obtain ⟨x, hk, hw⟩ := he H enc w base spare held n c yy hty
          obtain ⟨_, hcl, hcg⟩ := cells_get hcc
          refine ⟨x, ⟨c, by rw [hcl, hz], hk, fun j u hu => ?_⟩, hw⟩
          have := hcg j u hu
          rw [hz] at this
          rwa [add_add] at this
        obtain ⟨xs, hxl, hxs⟩ := choose_list hx
        refine ⟨xs, ⟨some a, cap, by rw [hxl], by omega, ⟨rfl, by rw [hxl]; unfold maxLen at hc; omega, fun _ => ⟨a, rfl, fun j p hp => ?_⟩⟩⟩, fun x hx => ?_⟩
        · exact (hxs j p hp).1
        · obtain ⟨i, hi⟩ := List.mem_iff_getElem?.1 hx
          exact (hxs i x hi).2
      · simp at hy
/-- A struct's fields, from cell 'off' on. -/
def OpensF (P : Program) (fs : List Field) (off : Nat) {α : Type} (d : Kd α) (wf : α → Prop) : Prop :=
  ∀ (H : Type) (enc : TypeId × Value → H) (w : World) (base : Nat) (spare : Nat → Bool) (held : Bool) (fuel : Nat) (cs : List Value) (ys : List (DataW H × List MemPlace)),
    cs.length = off + d.sz → fs.mapM (fun f => DataW.trod enc P w base spare held fuel f.type ((cs.drop f.offset).take (P.cellsOf f.type))) = some ys → ∃ x, d.K w x (cs.drop off) ∧ wf x
theorem opensF_one {P : Program} {f : Field} {off : Nat} {α : Type} {d : Kd α} {wf : α → Prop} (ho : f.offset = off) (hz : P.cellsOf f.type = d.sz) (h : Opens P f.type d wf) : OpensF P [f] off d wf := by
  intro H enc w base spare held fuel cs ys hl hy
  simp only [List.mapM_cons, List.mapM_nil, Option.bind_eq_bind, Option.bind_eq_some_iff, Option.pure_def, Option.some.injEq] at hy
  obtain ⟨y, hy, _⟩ := hy
  obtain ⟨x, hk, hw⟩ := h _ _ _ _ _ _ _ _ _ hy
  refine ⟨x, ?_, hw⟩
  rw [ho, hz, List.take_of_length_le (by simp; omega)] at hk
  exact hk
theorem opensF_cons {P : Program} {f : Field} {fs : List Field} {off : Nat} {α β : Type} {d : Kd α} {d' : Kd β} {wf : α → Prop} {wf' : β → Prop} (ho : f.offset = off) (hz : P.cellsOf f.type = d.sz) (h : Opens P f.type d wf) (hs : OpensF P fs (off + d.sz) d' wf') :
    OpensF P (f :: fs) off (Kd.pair d d') (fun x => wf x.1 ∧ wf' x.2) := by
  intro H enc w base spare held fuel cs ys hl hy
  simp only [List.mapM_cons, Option.bind_eq_bind, Option.bind_eq_some_iff, Option.pure_def, Option.some.injEq] at hy
  obtain ⟨y, hy, zs, hzs, _⟩ := hy
  obtain ⟨x, hk, hw⟩ := h _ _ _ _ _ _ _ _ _ hy
  have hl' : cs.length = off + (d.sz + d'.sz) := hl
  obtain ⟨x', hk', hw'⟩ := hs H enc w base spare held fuel cs zs (by omega) hzs
  refine ⟨(x, x'), ⟨(cs.drop off).take d.sz, cs.drop (off + d.sz), ?_, ?_, hk'⟩, hw, hw'⟩
  · rw [← List.drop_drop]; exact (List.take_append_drop _ _).symm
  · rw [ho, hz] at hk; exact hk
theorem opens_struct {P : Program} {t : TypeId} {fs : Array Field} {α : Type} {d : Kd α} {wf : α → Prop} (h : P.underlying t = some (.struct fs)) (hz : P.cellsOf t = d.sz) (hs : OpensF P fs.toList 0 d wf) : Opens P t d wf := by
  intro H enc w base spare held fuel cs y hy
  cases fuel with
  | zero => simp [DataW.trod] at hy
  | succ n =>
    unfold DataW.trod at hy
    rw [h] at hy
    dsimp only at hy
    split at hy
    · rename_i hc
      simp only [Option.map_eq_some_iff] at hy
      obtain ⟨ys, hys, _⟩ := hy
      obtain ⟨x, hk, hw⟩ := hs H enc w base spare held n cs ys (by omega) hys
      exact ⟨x, by simpa using hk, hw⟩
    · simp at hy
theorem opens_iso {P : Program} {t : TypeId} {α β : Type} {d : Kd α} {wf : α → Prop} (h : Opens P t d wf) (f : β → α) (g : α → β) (hg : ∀ x, f (g x) = x) : Opens P t (Kd.iso d f) (fun x => wf (f x)) := by
  intro H enc w base spare held fuel cs y hy
  obtain ⟨x, hk, hw⟩ := h _ _ _ _ _ _ _ _ _ hy
  exact ⟨g x, by show d.K w (f (g x)) cs; rw [hg]; exact hk, by show wf (f (g x)); rw [hg]; exact hw⟩
/-- An argument that reads. -/
theorem opens_arg {P : Program} {t : TypeId} {α : Type} {d : Kd α} {wf : α → Prop} (h : Opens P t d wf) {H : Type} {enc : TypeId × Value → H} {w : World} {base : Nat} {spare : Nat → Bool} {held : Bool} {v : Value} {y : DataW H} {ps : List MemPlace}
    (ht : DataW.Trod enc P w base spare held t v y ps) : ∃ x, d.K w x v.cells.toList ∧ wf x := by
  obtain ⟨fuel, hf⟩ := ht
  exact h _ _ _ _ _ _ _ _ _ hf
/-- a slice that is read as data has as many elements as it says -/
theorem trod_len {P : Program} {t e : TypeId} (h : P.underlying t = some (.slice e)) {H : Type} {enc : TypeId × Value → H} {w : World} {base : Nat} {spare : Nat → Bool} {held : Bool} {A : Option Addr} {n c : Nat} {y : DataW H} {ps : List MemPlace}
    (ht : DataW.Trod enc P w base spare held t (.slice A n c) y ps) : (A = none ∧ n = 0) ∨ ∃ elems rest, y = .slice elems rest ∧ elems.length = n := by
  obtain ⟨fuel, hy⟩ := ht
  cases fuel with
  | zero => simp [DataW.trod] at hy
  | succ m =>
    unfold DataW.trod at hy
    rw [h] at hy
    simp only [Value.cells] at hy
    try dsimp only at hy
    split at hy
    all_goals try (simp at hy; done)
    all_goals try (rename_i hh; simp at hh; done)
    · rename_i hh
      simp at hh
      exact Or.inl ⟨hh.1, hh.2.1⟩
    · rename_i e' a len cap he' hh
      simp only [Option.some.injEq, TypeDesc.slice.injEq] at he'
      subst he'
      simp at hh
      obtain ⟨rfl, rfl, rfl⟩ := hh
      split at hy
      · simp only [Option.bind_eq_some_iff] at hy
        obtain ⟨elems, hel, hr⟩ := hy
        have hl := (mapM_get hel).1
        obtain ⟨rest, _, hr2⟩ := Option.map_eq_some_iff.1 hr
        cases hr2
        exact Or.inr ⟨_, _, rfl, by simp [hl]⟩
      · simp at hy
end Go.Proofs.Ytfcmphigmfdceaa.Opens
end
section
-- Written by a program of this session, built on the kit's print (it is not the print's own text).
namespace Go.Proofs.Ytfcmphigmfdceaa.Print
open Go.RowKit Go.Proofs.YtfcmphigmfdceaaW.PrintWords Go.Proofs.YtfcmphigmfdceaaW.PrintLast Go.Proofs.YtfcmphigmfdceaaW.PrintMore
set_option linter.unusedVariables false
set_option linter.unusedSimpArgs false

theorem eqA38 (d : Nat) (w : World) (x0 y0 : Int) (x1 y1 : ByteArray) (x2 y2 : ByteArray) (x3 y3 : Int) (x4 y4 : Int) :
    (Op.equalIn (d + 2) 38 (.agg #[.int .u8 x0, .string x1, .string x2, .int .u16 x3, .int .u16 x4]) (.agg #[.int .u8 y0, .string y1, .string y2, .int .u16 y3, .int .u16 y4])).run Try.prog w = .ok (x0 == y0 && (x1.toList == y1.toList && (x2.toList == y2.toList && (x3 == y3 && (x4 == y4))))) w := by
  refine eqA_of Try.underlying38 (by kernel_rfl) ?_
  refine eqf_cons (by rfl) (by go_simp; rfl) (by go_simp; rfl) (by go_simp) ?_
  refine eqf_cons (by rfl) (by go_simp; rfl) (by go_simp; rfl) (by go_simp) ?_
  refine eqf_cons (by rfl) (by go_simp; rfl) (by go_simp; rfl) (by go_simp) ?_
  refine eqf_cons (by rfl) (by go_simp; rfl) (by go_simp; rfl) (by go_simp) ?_
  exact eqf_last (by rfl) (by go_simp; rfl) (by go_simp; rfl) (by go_simp)
end Go.Proofs.Ytfcmphigmfdceaa.Print
end
section
-- Written by a program of this session, built on the kit's print (it is not the print's own text).
namespace Go.Proofs.Ytfcmphigmfdceaa.Print
open Go.RowKit Go.Proofs.YtfcmphigmfdceaaW.PrintWords Go.Proofs.YtfcmphigmfdceaaW.PrintLast Go.Proofs.YtfcmphigmfdceaaW.PrintMore
set_option linter.unusedVariables false
set_option linter.unusedSimpArgs false

theorem eqA32 (d : Nat) (w : World) (x0 y0 : ByteArray) (x1 y1 : Int) (x2 y2 : Int) :
    (Op.equalIn (d + 2) 32 (.agg #[.string x0, .int .u16 x1, .int .u16 x2]) (.agg #[.string y0, .int .u16 y1, .int .u16 y2])).run Try.prog w = .ok (x0.toList == y0.toList && (x1 == y1 && (x2 == y2))) w := by
  refine eqA_of Try.underlying32 (by kernel_rfl) ?_
  refine eqf_cons (by rfl) (by go_simp; rfl) (by go_simp; rfl) (by go_simp) ?_
  refine eqf_cons (by rfl) (by go_simp; rfl) (by go_simp; rfl) (by go_simp) ?_
  exact eqf_last (by rfl) (by go_simp; rfl) (by go_simp; rfl) (by go_simp)
end Go.Proofs.Ytfcmphigmfdceaa.Print
end
section
/- hearsaylaw25's lent and kept, walked: rules with a mark behind their end, within the capacity. -/
namespace Go.Proofs.Ytfcmphigmfdceaa.Print
open Go.RowKit Go.Proofs.YtfcmphigmfdceaaW.PrintWords Go.Proofs.YtfcmphigmfdceaaW.PrintLast Go.Proofs.YtfcmphigmfdceaaW.PrintMore
set_option linter.unusedVariables false
set_option linter.unusedSimpArgs false
/-- x[:j], j within the capacity -/
theorem cut_cap {P : Program} (t e : TypeId) (kh : IntKind) {i : TypeInfo} (ht : P.underlying t = some (.slice e)) (hi : P.info? e = some i) (A : Option Addr) (n c : Nat) (j : Nat) (hm : j ≤ c) :
    ∀ W : World, (Instr.slice t (.slice A n c) none (some (.int kh (j : Int))) none).run P W = .ok (.slice A j c) W := by
  intro W
  have hel : P.elem t = e := by simp [Program.elem, ht]
  have hu : P.underlying t = some (.slice (P.elem t)) := by rw [hel]; exact ht
  have ha : (A.map fun x => x.add 0) = A := by cases A <;> simp [Addr.add]
  rw [run_slice_h W t A n c hu kh (j : Int) (by omega) (by omega), hel]
  simp [sizeOf, typeInfo, hi, sliced, Result.andThen, ha]
def mark38 : S38 := ⟨99, ⟨#[]⟩, ⟨#[]⟩, 0, 0⟩
set_option maxHeartbeats 8000000 in
set_option maxRecDepth 100000 in
theorem lent_calls (A0 : Option Addr) (c0 : Nat) (l0 : List S38) (w : World) (hr0 : Kd.C k38 w A0 l0.length l0) (hc0 : l0.length ≤ c0) (hn : l0.length ≤ 1000) :
    Calls Try.prog 11 #[.slice A0 l0.length c0] w fun e w' => ∃ A c, e = .returned (.slice A l0.length c) ∧ l0.length + 1 ≤ c ∧ Kd.C k38 w' A (l0.length + 1) (l0 ++ [mark38]) ∧ Below w.heap.size w w' := by
  have hu38 := Try.underlying38
  have HR0 := Aside0.mk hr0
  have HC0 := Aside0.mk hc0
  have hml : l0.length ≤ 9223372036854775807 := Kd.C_max hr0
  clear hr0 hc0
  have HB := Aside0.mk (Below.refl w.heap.size w)
  obtain ⟨y106, hy106⟩ : ∃ y_ : List S38, y_ = l0 ++ [mark38] := ⟨_, rfl⟩
  have hl6 : y106.length = l0.length + 1 := by rw [hy106]; simp
  have Ny106 := Aside0.mk hy106
  have HL6 := Aside0.mk hl6
  clear hy106 hl6
  go_enter Try.func11, Try.ntmps11
  go_wp2_with (first | ((with_reducible refine gate_builtin (b := .append) (xs := #[.tmp 4, .tmp 5]) rfl ?_); at_builtin; refine Kd.R_append_rows k38 (w0 := w) w.heap.size rfl (.tmp 4) (.tmp 5) 22 38 (.agg #[(.int .u8 0), (.string ⟨#[]⟩), (.string ⟨#[]⟩), (.int .u16 0), (.int .u16 0)]) 48 rfl Try.underlying22 info38 rfl (by decide) (by omega) (.slice none 0 0) ([] : List S38) l0 _ _ _ (fun _ => True) (fun _ => False) rfl rfl ?aO ?aR (fun _ _ h => h) (fun _ h => h.elim) ?aF ?aB ?aS ?aL ?_; (case aR => exact HR0.out); (case aB => exact HB.out); (case aF => exact (fun _ _ => trivial)); (case aO => exact ((Kd.R_nil _ _ _ _ (fun _ => True)))); (case aS => exact Nat.le_refl _); (case aL => simp only [List.length_nil]; omega); intro v104 w6 ho hb hg hat; rw [List.nil_append] at ho; have n0_ := Aside0.mk (hb); have n1_ := Aside0.mk (ho); clear HB; have HB := n0_; have HO105 := n1_; clear n0_ n1_; clear ho hb hg hat) | ((with_reducible refine gate_builtin (b := .append) (xs := #[.tmp 7, .tmp 9]) rfl ?_); at_builtin; refine Kd.R_append k38 (w0 := w) w.heap.size rfl (.tmp 7) (.tmp 9) 22 38 (.agg #[(.int .u8 0), (.string ⟨#[]⟩), (.string ⟨#[]⟩), (.int .u16 0), (.int .u16 0)]) 48 rfl Try.underlying22 info38 rfl (by decide) (by omega) v104 l0 mark38 [.int .u8 99, .string (⟨#[]⟩ : ByteArray), .string (⟨#[]⟩ : ByteArray), .int .u16 0, .int .u16 0] (fun _ => True) (fun _ => False) rfl rfl ?aP (fun _ hk => hk.elim) ?aF ?aO ?aB ?aS ?aL ?_; (case aP => exact k38_mkM _ _ _ mark38); (case aB => exact (by repeat (first | (with_reducible first | exact HB.out | apply below_alloc | apply pw_below_drewN | apply below_drew1) | exact HB.out))); (case aF => exact (fun _ _ => trivial)); (case aO => exact (by (with_reducible repeat (first | apply Kd.R_alloc | apply Kd.R_drewN | apply Kd.R_drew)); exact HO105.out)); (case aS => exact (below_size (by repeat (first | (with_reducible first | exact HB.out | apply below_alloc | apply pw_below_drewN | apply below_drew1) | exact HB.out)))); (case aL => omega); intro v107 w7 ho hb hg hat; rw [← Ny106.out] at ho; have n0_ := Aside0.mk (hb); have n1_ := Aside0.mk (ho); clear HB; clear HO105; have HB := n0_; have HO108 := n1_; clear n0_ n1_; clear ho hb hg hat; obtain ⟨Ao8, co8, eo8⟩ := Kd.R_slice HO108.out; subst eo8; obtain ⟨i09, hi09, _, hsz9, _⟩ := info_parts info38; have hroom := (Kd.R_reads' HO108.out).2.1; have hcut9 := cut_cap (P := Try.prog) 22 38 .i64 Try.underlying22 hi09 Ao8 y106.length co8 l0.length (by have := HL6.out; omega); have HRM := Aside0.mk hroom; clear hroom hi09 hsz9))
  go_ret
  refine ⟨Ao8, co8, rfl, by have := HL6.out; have := HRM.out; omega, ?_, HB.out⟩
  have h := (Kd.R_reads' HO108.out).2.2
  rw [HL6.out, Ny106.out] at h
  exact h
theorem get_snoc {l : List S38} {m : S38} {i : Nat} (h : i < l.length) : (l ++ [m])[i]? = l[i]? := List.getElem?_append_left h
attribute [local go_sem high] eqA38
set_option maxHeartbeats 8000000 in
set_option maxRecDepth 100000 in
theorem kept_calls (A0 : Option Addr) (c0 : Nat) (A1 : Option Addr) (c1 : Nat) (l : List S38) (w : World) (hr0 : Kd.C k38 w A0 (l.length + 1) (l ++ [mark38])) (hc0 : l.length + 1 ≤ c0) (hr1 : Kd.C k38 w A1 l.length l) (hc1 : l.length ≤ c1) :
    Calls Try.prog 14 #[.slice A0 l.length c0, .slice A1 l.length c1] w fun e w' => e = .returned (.bool true) ∧ Drawn0 w w' := by
  have hu38 := Try.underlying38
  have HR0 := Aside0.mk hr0
  have HC0 := Aside0.mk hc0
  have hml : l.length + 1 ≤ 9223372036854775807 := Kd.C_max hr0
  clear hr0 hc0
  have HR1 := Aside0.mk hr1
  have HC1 := Aside0.mk hc1
  clear hr1 hc1
  go_enter Try.func14, Try.ntmps14
  go_wp2
  repeat (go_quiet (fail); try go_wp2)
  go_loopg [5] (l.length + 1) (fun kq v5 w' => ∃ j : Nat, v5 = .int .i64 j ∧ j ≤ l.length ∧ Aside0 (kq + j = l.length + 1) ∧ Drawn0 w w')
  case atStart => exact ⟨0, rfl, Nat.zero_le _, ⟨rfl⟩, by repeat (first | exact Drawn0.refl _ | apply Drawn0.step)⟩
  case round =>
    obtain ⟨j, rfl, hj, HK, ⟨m1, rfl⟩⟩ := hrel
    by_cases hlt : j < l.length
    · obtain ⟨kg, rfl⟩ : ∃ m, gk = m + 1 := ⟨gk - 1, by have := HK.out; omega⟩
      obtain ⟨x, hx⟩ : ∃ x, l[j]? = some x := ⟨l[j], List.getElem?_eq_getElem hlt⟩
      have hx2 : (l ++ [mark38])[j]? = some x := by rw [get_snoc hlt]; exact hx
      have r1 : rd_T38 l (j : Int) = x := by simp [rd_T38, List.getD_eq_getElem?_getD, hx]
      have r2 : rd_T38 (l ++ [mark38]) (j : Int) = x := by simp [rd_T38, List.getD_eq_getElem?_getD, hx2]
      obtain ⟨ad0, e0, h00, h01, h02, h03, h04⟩ := at_T38 HR0.out (j : Int) (by omega) (by omega)
      obtain ⟨ad1, e1, h10, h11, h12, h13, h14⟩ := at_T38 HR1.out (j : Int) (by omega) (by omega)
      rw [r2] at h00 h01 h02 h03 h04
      rw [r1] at h10 h11 h12 h13 h14
      cases e0
      cases e1
      clear hx hx2 r1 r2
      have hz1 : IntKind.i64.wrap ((j : Int) + 1) = (j : Int) + 1 := IntWalk.i64_in _ (by omega)
      have c0 : decide ((j : Int) < (l.length : Int)) = true := decide_eq_true (by omega)
      have c1 : (0 : Int) ≤ (j : Int) := by omega
      have c2 : (j : Int) < (l.length : Int) := by omega
      simp only [Int.toNat_natCast] at h00 h01 h02 h03 h04 h10 h11 h12 h13 h14
      go_wp2
      repeat (go_quiet (fail); try go_wp2)
      go_roundg kg
      case measure => omega
      case rel => exact ⟨j + 1, by go_num, by omega, ⟨by have := HK.out; omega⟩, by repeat (first | exact Drawn0.refl _ | apply Drawn0.step)⟩
    · obtain rfl : j = l.length := by omega
      have hx2 : (l ++ [mark38])[l.length]? = some mark38 := by simp
      have r2 : rd_T38 (l ++ [mark38]) (l.length : Int) = mark38 := by simp [rd_T38, List.getD_eq_getElem?_getD]
      obtain ⟨ad0, e0, h00, h01, h02, h03, h04⟩ := at_T38 HR0.out (l.length : Int) (by omega) (by omega)
      rw [r2] at h00 h01 h02 h03 h04
      cases e0
      clear hx2 r2
      obtain ⟨i0, hi0, _, hsz, _⟩ := info_parts info38
      have hz1 : IntKind.i64.wrap ((l.length : Int) + 1) = (l.length : Int) + 1 := IntWalk.i64_in _ (by omega)
      have hcut0 := cut_cap (P := Try.prog) 22 38 .i64 Try.underlying22 hi0 (some ad0) l.length c0 (l.length + 1) HC0.out
      have hcut : ∀ W : World, (Instr.slice 22 (.slice (some ad0) l.length c0) none (some (.int .i64 ((l.length : Int) + 1))) none).run Try.prog W = .ok (.slice (some ad0) (l.length + 1) c0) W := hcut0
      clear hcut0 hi0 hsz
      have c0' : decide ((l.length : Int) < (l.length : Int)) = false := decide_eq_false (by omega)
      have c1' : (0 : Int) ≤ (l.length : Int) + 1 := by omega
      have c3' : (l.length : Int) < ((l.length + 1 : Nat) : Int) := by omega
      simp only [Int.toNat_natCast, mark38] at h00 h01 h02 h03 h04
      go_wp2
      repeat (go_quiet (fail); try go_wp2)
      go_ret
      exact ⟨by first | rfl | (simp; done), by repeat (first | exact Drawn0.refl _ | apply Drawn0.step)⟩
end Go.Proofs.Ytfcmphigmfdceaa.Print
end
section
/- hearsaylaw25's own and marked, walked: records with a mark behind their end, within the capacity. -/
namespace Go.Proofs.Ytfcmphigmfdceaa.Print
open Go.RowKit Go.Proofs.YtfcmphigmfdceaaW.PrintWords Go.Proofs.YtfcmphigmfdceaaW.PrintLast Go.Proofs.YtfcmphigmfdceaaW.PrintMore
set_option linter.unusedVariables false
set_option linter.unusedSimpArgs false
def mark59 : S59 := ⟨⟨#[]⟩, 0, 0, 77, ⟨⟨#[]⟩, ⟨#[]⟩, ⟨#[]⟩, ⟨0, 0, 0, 0, 0⟩⟩⟩
set_option maxHeartbeats 8000000 in
set_option maxRecDepth 100000 in
theorem own_calls (A0 : Option Addr) (c0 : Nat) (l0 : List S59) (w : World) (hr0 : Kd.C k59 w A0 l0.length l0) (hc0 : l0.length ≤ c0) (hn : l0.length ≤ 1000) :
    Calls Try.prog 21 #[.slice A0 l0.length c0] w fun e w' => ∃ A c, e = .returned (.slice A l0.length c) ∧ l0.length + 1 ≤ c ∧ Kd.R k59 59 w' w.heap.size (fun _ => True) (.slice A (l0.length + 1) c) (l0 ++ [mark59]) ∧ Below w.heap.size w w' := by
  have hu59 := Try.underlying59
  have HR0 := Aside0.mk hr0
  have HC0 := Aside0.mk hc0
  have hml : l0.length ≤ 9223372036854775807 := Kd.C_max hr0
  clear hr0 hc0
  have HB := Aside0.mk (Below.refl w.heap.size w)
  obtain ⟨y106, hy106⟩ : ∃ y_ : List S59, y_ = l0 ++ [mark59] := ⟨_, rfl⟩
  have hl6 : y106.length = l0.length + 1 := by rw [hy106]; simp
  have Ny106 := Aside0.mk hy106
  have HL6 := Aside0.mk hl6
  clear hy106 hl6
  go_enter Try.func21, Try.ntmps21
  go_wp2_with (first | ((with_reducible refine gate_builtin (b := .append) (xs := #[.tmp 4, .tmp 5]) rfl ?_); at_builtin; refine Kd.R_append_rows k59 (w0 := w) w.heap.size rfl (.tmp 4) (.tmp 5) 43 59 (.agg #[(.string ⟨#[]⟩), (.int .u16 0), (.int .u16 0), (.int .u32 0), (.string ⟨#[]⟩), (.string ⟨#[]⟩), (.string ⟨#[]⟩), (.int .u32 0), (.int .u32 0), (.int .u32 0), (.int .u32 0), (.int .u32 0)]) 96 rfl Try.underlying43 info59 rfl (by decide) (by omega) (.slice none 0 0) ([] : List S59) l0 _ _ _ (fun _ => True) (fun _ => False) rfl rfl ?aO ?aR (fun _ _ h => h) (fun _ h => h.elim) ?aF ?aB ?aS ?aL ?_; (case aR => exact HR0.out); (case aB => exact HB.out); (case aF => exact (fun _ _ => trivial)); (case aO => exact ((Kd.R_nil _ _ _ _ (fun _ => True)))); (case aS => exact Nat.le_refl _); (case aL => simp only [List.length_nil]; omega); intro v104 w6 ho hb hg hat; rw [List.nil_append] at ho; have n0_ := Aside0.mk (hb); have n1_ := Aside0.mk (ho); clear HB; have HB := n0_; have HO105 := n1_; clear n0_ n1_; clear ho hb hg hat) | ((with_reducible refine gate_builtin (b := .append) (xs := #[.tmp 7, .tmp 9]) rfl ?_); at_builtin; refine Kd.R_append k59 (w0 := w) w.heap.size rfl (.tmp 7) (.tmp 9) 43 59 (.agg #[(.string ⟨#[]⟩), (.int .u16 0), (.int .u16 0), (.int .u32 0), (.string ⟨#[]⟩), (.string ⟨#[]⟩), (.string ⟨#[]⟩), (.int .u32 0), (.int .u32 0), (.int .u32 0), (.int .u32 0), (.int .u32 0)]) 96 rfl Try.underlying43 info59 rfl (by decide) (by omega) v104 l0 mark59 [.string (⟨#[]⟩ : ByteArray), .int .u16 0, .int .u16 0, .int .u32 77, .string (⟨#[]⟩ : ByteArray), .string (⟨#[]⟩ : ByteArray), .string (⟨#[]⟩ : ByteArray), .int .u32 0, .int .u32 0, .int .u32 0, .int .u32 0, .int .u32 0] (fun _ => True) (fun _ => False) rfl rfl ?aP (fun _ hk => hk.elim) ?aF ?aO ?aB ?aS ?aL ?_; (case aP => exact k59_mkM _ _ _ mark59); (case aB => exact (by repeat (first | (with_reducible first | exact HB.out | apply below_alloc | apply pw_below_drewN | apply below_drew1) | exact HB.out))); (case aF => exact (fun _ _ => trivial)); (case aO => exact (by (with_reducible repeat (first | apply Kd.R_alloc | apply Kd.R_drewN | apply Kd.R_drew)); exact HO105.out)); (case aS => exact (below_size (by repeat (first | (with_reducible first | exact HB.out | apply below_alloc | apply pw_below_drewN | apply below_drew1) | exact HB.out)))); (case aL => omega); intro v107 w7 ho hb hg hat; rw [← Ny106.out] at ho; have n0_ := Aside0.mk (hb); have n1_ := Aside0.mk (ho); clear HB; clear HO105; have HB := n0_; have HO108 := n1_; clear n0_ n1_; clear ho hb hg hat; obtain ⟨Ao8, co8, eo8⟩ := Kd.R_slice HO108.out; subst eo8; obtain ⟨i09, hi09, _, hsz9, _⟩ := info_parts info59; have hroom := (Kd.R_reads' HO108.out).2.1; have hcut9 := cut_cap (P := Try.prog) 43 59 .i64 Try.underlying43 hi09 Ao8 y106.length co8 l0.length (by have := HL6.out; omega); have HRM := Aside0.mk hroom; clear hroom hi09 hsz9))
  go_ret
  refine ⟨Ao8, co8, rfl, by have := HL6.out; have := HRM.out; omega, ?_, HB.out⟩
  have h := HO108.out
  rw [HL6.out, Ny106.out] at h
  exact h
theorem C_own {w : World} {b : Nat} {ok : Nat → Prop} {A : Option Addr} {c : Nat} {l : List S59} (h : Kd.R k59 59 w b ok (.slice A (l.length + 1) c) (l ++ [mark59])) : Kd.C k59 w A (l.length + 1) (l ++ [mark59]) ∧ l.length + 1 ≤ c := by
  obtain ⟨h1, h2, h3⟩ := Kd.R_reads' h
  rw [← h1] at h3
  exact ⟨h3, h2⟩
theorem take_C59 {w : World} {A : Option Addr} {l : List S59} (h : Kd.C k59 w A (l.length + 1) (l ++ [mark59])) : Kd.C k59 w A l.length l := by
  have hlen : (l ++ [mark59]).length = l.length + 1 := by simp
  rw [← hlen] at h
  have h2 := Kd.C_take (m := l.length) h (by omega)
  rwa [List.take_left] at h2
attribute [local go_sem high] eqA59
set_option maxHeartbeats 8000000 in
set_option maxRecDepth 100000 in
theorem marked_calls (A0 : Option Addr) (c0 : Nat) (l : List S59) (w : World) (hr0 : Kd.C k59 w A0 (l.length + 1) (l ++ [mark59])) (hc0 : l.length + 1 ≤ c0) :
    Calls Try.prog 25 #[.slice A0 l.length c0] w fun e w' => e = .returned (.bool true) ∧ w = w' := by
  have hu59 := Try.underlying59
  have hml : l.length + 1 ≤ 9223372036854775807 := Kd.C_max hr0
  have r2 : rd_T59 (l ++ [mark59]) (l.length : Int) = mark59 := by simp [rd_T59, List.getD_eq_getElem?_getD]
  obtain ⟨ad0, e0, h00, h01, h02, h03, h04, h05, h06, h07, h08, h09, h10, h11⟩ := at_T59 hr0 (l.length : Int) (by omega) (by omega)
  rw [r2] at h00 h01 h02 h03 h04 h05 h06 h07 h08 h09 h10 h11
  cases e0
  clear r2 hr0
  obtain ⟨i0, hi0, _, hsz, _⟩ := info_parts info59
  have hz1 : IntKind.i64.wrap ((l.length : Int) + 1) = (l.length : Int) + 1 := IntWalk.i64_in _ (by omega)
  have hcut0 := cut_cap (P := Try.prog) 43 59 .i64 Try.underlying43 hi0 (some ad0) l.length c0 (l.length + 1) hc0
  have hcut : ∀ W : World, (Instr.slice 43 (.slice (some ad0) l.length c0) none (some (.int .i64 ((l.length : Int) + 1))) none).run Try.prog W = .ok (.slice (some ad0) (l.length + 1) c0) W := hcut0
  clear hcut0 hi0 hsz hc0
  have c1' : (0 : Int) ≤ (l.length : Int) + 1 := by omega
  have c3' : (l.length : Int) < ((l.length + 1 : Nat) : Int) := by omega
  simp only [Int.toNat_natCast, mark59] at h00 h01 h02 h03 h04 h05 h06 h07 h08 h09 h10 h11
  go_enter Try.func25, Try.ntmps25
  go_wp2
  go_ret
  exact ⟨by first | rfl | (simp; done), rfl⟩
end Go.Proofs.Ytfcmphigmfdceaa.Print
end
section
/- hearsayref25.Back, walked: an answer turned back; authority and extra are those that came in. -/
namespace Go.Proofs.Ytfcmphigmfdceaa.Print
open Go.RowKit Go.Proofs.YtfcmphigmfdceaaW.PrintWords Go.Proofs.YtfcmphigmfdceaaW.PrintLast Go.Proofs.YtfcmphigmfdceaaW.PrintMore
set_option linter.unusedVariables false
set_option linter.unusedSimpArgs false
theorem Bx.blw {W W' : World} {n B : Nat} {cs : Array Value} {t : TypeId} (h : Bx W B cs t) (hb : Below n W W') (hn : B < n) : Bx W' B cs t := (hb.block B hn).trans h
set_option maxHeartbeats 8000000 in
set_option maxRecDepth 100000 in
theorem rback_calls (q asked : S32) (rc : Int) (aa : Bool) (A2 : Option Addr) (c2 : Nat) (l : List S59) (A3 : Option Addr) (n3 c3 : Nat) (A4 : Option Addr) (n4 c4 : Nat) (w : World) (hr : Kd.C k59 w A2 l.length l) (hc : l.length ≤ c2) (hl : l.length ≤ 1000) (ha : asked.f0.size ≤ 9223372036854775807) (hs : ∀ r ∈ l, r.f0.size ≤ 9223372036854775807) :
    Calls Try.prog 24 #[.agg #[.string q.f0, .int .u16 q.f1, .int .u16 q.f2], .agg #[.string asked.f0, .int .u16 asked.f1, .int .u16 asked.f2], .agg #[.int .u16 rc, .bool aa, .slice A2 l.length c2, .slice A3 n3 c3, .slice A4 n4 c4]] w
      fun e w' => ∃ A c, e = .returned (.agg #[.int .u16 rc, .bool aa, .slice A l.length c, .slice A3 n3 c3, .slice A4 n4 c4]) ∧ l.length ≤ c ∧ Kd.C k59 w' A l.length (l.map (turnP q.f0 asked.f0)) ∧ Below w.heap.size w w' := by
  have hu59 := Try.underlying59
  have hml : l.length ≤ 9223372036854775807 := by omega
  have HR := Aside0.mk hr
  have HC := Aside0.mk hc
  have HA := Aside0.mk ha
  have HS := Aside0.mk hs
  clear hr hc ha hs
  obtain ⟨W1, hW1⟩ : ∃ W1, (((w.alloc (.cells #[.string q.f0, .int .u16 q.f1, .int .u16 q.f2] 32)).alloc (.cells #[.string asked.f0, .int .u16 asked.f1, .int .u16 asked.f2] 32)).alloc (.cells #[.int .u16 rc, .bool aa, .slice A2 l.length c2, .slice A3 n3 c3, .slice A4 n4 c4] 45)).alloc (.cells #[.int .u16 0, .bool false, .slice none 0 0, .slice none 0 0, .slice none 0 0] 45) = W1 := ⟨_, rfl⟩
  have X0 : Bx W1 w.heap.size #[.string q.f0, .int .u16 q.f1, .int .u16 q.f2] 32 := by rw [← hW1]; exact (((Bx.new w _ _).alloc _).alloc _).alloc _
  have X1 : Bx W1 (w.heap.size + 1) #[.string asked.f0, .int .u16 asked.f1, .int .u16 asked.f2] 32 := by
    rw [← hW1]; refine Bx.alloc (Bx.alloc ?_ _) _
    have := Bx.new (w.alloc (.cells #[.string q.f0, .int .u16 q.f1, .int .u16 q.f2] 32)) #[.string asked.f0, .int .u16 asked.f1, .int .u16 asked.f2] 32
    rwa [World.size_alloc] at this
  have X2 : Bx W1 (w.heap.size + 1 + 1) #[.int .u16 rc, .bool aa, .slice A2 l.length c2, .slice A3 n3 c3, .slice A4 n4 c4] 45 := by
    rw [← hW1]; refine Bx.alloc ?_ _
    have := Bx.new ((w.alloc (.cells #[.string q.f0, .int .u16 q.f1, .int .u16 q.f2] 32)).alloc (.cells #[.string asked.f0, .int .u16 asked.f1, .int .u16 asked.f2] 32)) #[.int .u16 rc, .bool aa, .slice A2 l.length c2, .slice A3 n3 c3, .slice A4 n4 c4] 45
    rwa [World.size_alloc, World.size_alloc] at this
  have X3 : Bx W1 (w.heap.size + 1 + 1 + 1) #[.int .u16 0, .bool false, .slice none 0 0, .slice none 0 0, .slice none 0 0] 45 := by
    rw [← hW1]
    have := Bx.new (((w.alloc (.cells #[.string q.f0, .int .u16 q.f1, .int .u16 q.f2] 32)).alloc (.cells #[.string asked.f0, .int .u16 asked.f1, .int .u16 asked.f2] 32)).alloc (.cells #[.int .u16 rc, .bool aa, .slice A2 l.length c2, .slice A3 n3 c3, .slice A4 n4 c4] 45)) #[.int .u16 0, .bool false, .slice none 0 0, .slice none 0 0, .slice none 0 0] 45
    rwa [World.size_alloc, World.size_alloc, World.size_alloc] at this
  have hsz : W1.heap.size = w.heap.size + 4 := by rw [← hW1]; simp
  have hB1 : Below w.heap.size w W1 := by rw [← hW1]; exact below_alloc (below_alloc (below_alloc (below_alloc (Below.refl _ _) _) _) _) _
  have HX0 := Aside0.mk X0
  have HX1 := Aside0.mk X1
  have HX2 := Aside0.mk X2
  have HX3 := Aside0.mk X3
  have HB1 := Aside0.mk hB1
  have HW1 := Aside0.mk hW1
  have HSZ := Aside0.mk hsz
  clear X0 X1 X2 X3 hB1 hW1 hsz
  go_enter Try.func24, Try.ntmps24
  go_wp2
  rw [HW1.out]
  go_loopw [7, 8] (fun v i wr => ∃ k : Nat, k ≤ l.length ∧ i = .int .i64 k ∧ Aside0 (Kd.R k59 59 wr W1.heap.size (fun k_ => W1.heap.size ≤ k_) v ((l.take k).map (turnP q.f0 asked.f0))) ∧ Aside0 (Below W1.heap.size W1 wr)) (fun _ i _ => l.length - (intOf i).toNat)
  case atStart => exact ⟨0, Nat.zero_le _, rfl, ⟨Kd.R_nil _ _ _ _ _⟩, ⟨Below.refl _ _⟩⟩
  case round =>
    obtain ⟨k, hk, rfl, HRk, HB⟩ := hrel
    have h20 := (Bx.blw HX2.out HB.out HX2.out.lt).cell 2 _ rfl
    have hlt0 := Nat.lt_of_lt_of_le HX2.out.lt HB.out.size
    have hlt1 := Nat.lt_of_lt_of_le HX1.out.lt HB.out.size
    have hlt00 := Nat.lt_of_lt_of_le HX0.out.lt HB.out.size
    by_cases hlt : k < l.length
    · obtain ⟨x, hx⟩ : ∃ x, l[k]? = some x := ⟨l[k], List.getElem?_eq_getElem hlt⟩
      have hsx := HS.out x (List.mem_of_getElem? hx)
      obtain ⟨ad, hA, c_0, c_1, c_2, c_3, c_4, c_5, c_6, c_7, c_8, c_9, c_10, c_11⟩ := at_T59 (Kd.C_below (Kd.C_below HR.out HB1.out) HB.out) (k : Int) (by omega) (by omega)
      rw [rd_T59_at hx] at c_0 c_1 c_2 c_3 c_4 c_5 c_6 c_7 c_8 c_9 c_10 c_11
      simp only [Int.toNat_natCast] at c_0 c_1 c_2 c_3 c_4 c_5 c_6 c_7 c_8 c_9 c_10 c_11
      subst hA
      have ht : (l.take (k + 1)).map (turnP q.f0 asked.f0) = (l.take k).map (turnP q.f0 asked.f0) ++ [turnP q.f0 asked.f0 x] := by rw [take_succ' hx, List.map_append]; rfl
      have HLK := Aside0.mk (show ((l.take k).map (turnP q.f0 asked.f0)).length ≤ 1000 from by rw [List.length_map, List.length_take]; omega)
      have hq1 := (Bx.blw HX1.out HB.out HX1.out.lt).cell 0 _ rfl
      have hq0 := (Bx.blw HX0.out HB.out HX0.out.lt).cell 0 _ rfl
      have e0 : True := trivial
      have HR1 : Aside0 (Kd.R k59 59 wr W1.heap.size (fun k_ => W1.heap.size ≤ k_ ∧ k_ < wr.heap.size) u7 ((l.take k).map (turnP q.f0 asked.f0))) := ⟨Kd.R_mono (Kd.R_bound HRk.out) (fun k_ hk_ => ⟨hk_.1, hk_.2.2.1⟩)⟩
      clear hx
      by_cases he : lowS x.f0 = lowS asked.f0
      · skip
        have hal : hearsayref01_Alike.f x.f0 asked.f0 = some true := by rw [alike_f _ _ hsx HA.out, decide_eq_true he]
        have hty : turnP q.f0 asked.f0 x = (⟨q.f0, x.f1, x.f2, x.f3, x.f4⟩ : S59) := by unfold turnP; rw [if_pos he]
        rw [hty] at ht
        have HAL := Aside0.mk hal
        have HT := Aside0.mk ht
        clear hal ht hty he hsx
        go_wp2_with (first | (go_at_call 18; refine (hearsayref01_Alike.calls x.f0 asked.f0 true _ HAL.out).mono ?_; rintro e w2 ⟨rfl, hb2⟩; have HR2 := Aside0.mk (Kd.R_below (Kd.R_alloc HR1.out (.cells #[.string x.f0, .int .u16 x.f1, .int .u16 x.f2, .int .u32 x.f3, .string x.f4.f0, .string x.f4.f1, .string x.f4.f2, .int .u32 x.f4.f3.f0, .int .u32 x.f4.f3.f1, .int .u32 x.f4.f3.f2, .int .u32 x.f4.f3.f3, .int .u32 x.f4.f3.f4] 59)) hb2); have HB2 := Aside0.mk ((HB.out.alloc HB.out.size (.cells #[.string x.f0, .int .u16 x.f1, .int .u16 x.f2, .int .u32 x.f3, .string x.f4.f0, .string x.f4.f1, .string x.f4.f2, .int .u32 x.f4.f3.f0, .int .u32 x.f4.f3.f1, .int .u32 x.f4.f3.f2, .int .u32 x.f4.f3.f3, .int .u32 x.f4.f3.f4] 59)).trans (below_to hb2 (by have := HB.out.size; simp; omega))); have HY := Aside0.mk ((Bx.new wr #[.string x.f0, .int .u16 x.f1, .int .u16 x.f2, .int .u32 x.f3, .string x.f4.f0, .string x.f4.f1, .string x.f4.f2, .int .u32 x.f4.f3.f0, .int .u32 x.f4.f3.f1, .int .u32 x.f4.f3.f2, .int .u32 x.f4.f3.f3, .int .u32 x.f4.f3.f4] 59).below hb2); clear hb2 e0 hq0 hq1; have hlt2 := HY.out.lt; have HR3 := Aside0.mk (Kd.R_mono (Kd.R_far HR2.out (p := ⟨wr.heap.size, 0, none⟩) (fun k_ hk_ => by show k_ ≠ wr.heap.size; omega) (.string q.f0)) (fun _ hk_ => hk_.1)); have HB3 := Aside0.mk (HB2.out.setCell (p := ⟨wr.heap.size, 0, none⟩) HB.out.size (.string q.f0)); have e0 := (Bx.blw HX0.out HB2.out HX0.out.lt).cell 0 _ rfl; have y0 := HY.out.cell 0 _ rfl; have y1 := HY.out.cell 1 _ rfl; have y2 := HY.out.cell 2 _ rfl; have y3 := HY.out.cell 3 _ rfl; have y4 := HY.out.cell 4 _ rfl; have y5 := HY.out.cell 5 _ rfl; have y6 := HY.out.cell 6 _ rfl; have y7 := HY.out.cell 7 _ rfl; have y8 := HY.out.cell 8 _ rfl; have y9 := HY.out.cell 9 _ rfl; have y10 := HY.out.cell 10 _ rfl; have y11 := HY.out.cell 11 _ rfl; have yf := HY.out.frozen 0) | ((with_reducible refine gate_builtin (b := .append) (xs := #[.tmp 30, .tmp 32]) rfl ?_); at_builtin; refine Kd.R_append k59 (w0 := W1) W1.heap.size rfl (.tmp 30) (.tmp 32) 43 59 (.agg #[(.string ⟨#[]⟩), (.int .u16 0), (.int .u16 0), (.int .u32 0), (.string ⟨#[]⟩), (.string ⟨#[]⟩), (.string ⟨#[]⟩), (.int .u32 0), (.int .u32 0), (.int .u32 0), (.int .u32 0), (.int .u32 0)]) 96 rfl Try.underlying43 info59 rfl (by decide) (by omega) u7 ((l.take k).map (turnP q.f0 asked.f0)) (⟨q.f0, x.f1, x.f2, x.f3, x.f4⟩ : S59) [.string q.f0, .int .u16 x.f1, .int .u16 x.f2, .int .u32 x.f3, .string x.f4.f0, .string x.f4.f1, .string x.f4.f2, .int .u32 x.f4.f3.f0, .int .u32 x.f4.f3.f1, .int .u32 x.f4.f3.f2, .int .u32 x.f4.f3.f3, .int .u32 x.f4.f3.f4] (fun k_ => W1.heap.size ≤ k_) (fun _ => False) rfl ?hx ?aP (fun _ hk => hk.elim) ?aF ?aO ?aB ?aS ?aL ?_; (case hx => first | rfl | (show Value.slice (some ⟨w2.heap.size, 0, none⟩) 1 1 = _; simp)); (case aP => exact k59_mkM _ _ _ (⟨q.f0, x.f1, x.f2, x.f3, x.f4⟩ : S59)); (case aB => exact HB3.out); (case aF => exact (fun k_ hk_ => Nat.le_trans HB3.out.size hk_)); (case aO => exact HR3.out); (case aS => exact HB3.out.size); (case aL => have := HLK.out; omega); intro v4 w4 ho hb hg hat; have HR4 := Aside0.mk ho; have HB4 := Aside0.mk hb; clear ho hb hg hat))
        go_roundw
        case rel => exact ⟨k + 1, by omega, by go_num, by rw [HT.out]; exact HR4, HB4⟩
        case measure => simp [intOf]; omega
      · skip
        have hal : hearsayref01_Alike.f x.f0 asked.f0 = some false := by rw [alike_f _ _ hsx HA.out, decide_eq_false he]
        have hty : turnP q.f0 asked.f0 x = x := by unfold turnP; rw [if_neg he]
        rw [hty] at ht
        have HAL := Aside0.mk hal
        have HT := Aside0.mk ht
        clear hal ht hty he hsx
        go_wp2_with (first | (go_at_call 18; refine (hearsayref01_Alike.calls x.f0 asked.f0 false _ HAL.out).mono ?_; rintro e w2 ⟨rfl, hb2⟩; have HR2 := Aside0.mk (Kd.R_below (Kd.R_alloc HR1.out (.cells #[.string x.f0, .int .u16 x.f1, .int .u16 x.f2, .int .u32 x.f3, .string x.f4.f0, .string x.f4.f1, .string x.f4.f2, .int .u32 x.f4.f3.f0, .int .u32 x.f4.f3.f1, .int .u32 x.f4.f3.f2, .int .u32 x.f4.f3.f3, .int .u32 x.f4.f3.f4] 59)) hb2); have HB2 := Aside0.mk ((HB.out.alloc HB.out.size (.cells #[.string x.f0, .int .u16 x.f1, .int .u16 x.f2, .int .u32 x.f3, .string x.f4.f0, .string x.f4.f1, .string x.f4.f2, .int .u32 x.f4.f3.f0, .int .u32 x.f4.f3.f1, .int .u32 x.f4.f3.f2, .int .u32 x.f4.f3.f3, .int .u32 x.f4.f3.f4] 59)).trans (below_to hb2 (by have := HB.out.size; simp; omega))); have HY := Aside0.mk ((Bx.new wr #[.string x.f0, .int .u16 x.f1, .int .u16 x.f2, .int .u32 x.f3, .string x.f4.f0, .string x.f4.f1, .string x.f4.f2, .int .u32 x.f4.f3.f0, .int .u32 x.f4.f3.f1, .int .u32 x.f4.f3.f2, .int .u32 x.f4.f3.f3, .int .u32 x.f4.f3.f4] 59).below hb2); clear hb2 e0 hq0 hq1; have hlt2 := HY.out.lt; have HR3 := Aside0.mk (Kd.R_mono HR2.out (fun _ hk_ => hk_.1)); have HB3 := HB2; have y0 := HY.out.cell 0 _ rfl; have y1 := HY.out.cell 1 _ rfl; have y2 := HY.out.cell 2 _ rfl; have y3 := HY.out.cell 3 _ rfl; have y4 := HY.out.cell 4 _ rfl; have y5 := HY.out.cell 5 _ rfl; have y6 := HY.out.cell 6 _ rfl; have y7 := HY.out.cell 7 _ rfl; have y8 := HY.out.cell 8 _ rfl; have y9 := HY.out.cell 9 _ rfl; have y10 := HY.out.cell 10 _ rfl; have y11 := HY.out.cell 11 _ rfl; have yf := HY.out.frozen 0) | ((with_reducible refine gate_builtin (b := .append) (xs := #[.tmp 30, .tmp 32]) rfl ?_); at_builtin; refine Kd.R_append k59 (w0 := W1) W1.heap.size rfl (.tmp 30) (.tmp 32) 43 59 (.agg #[(.string ⟨#[]⟩), (.int .u16 0), (.int .u16 0), (.int .u32 0), (.string ⟨#[]⟩), (.string ⟨#[]⟩), (.string ⟨#[]⟩), (.int .u32 0), (.int .u32 0), (.int .u32 0), (.int .u32 0), (.int .u32 0)]) 96 rfl Try.underlying43 info59 rfl (by decide) (by omega) u7 ((l.take k).map (turnP q.f0 asked.f0)) x [.string x.f0, .int .u16 x.f1, .int .u16 x.f2, .int .u32 x.f3, .string x.f4.f0, .string x.f4.f1, .string x.f4.f2, .int .u32 x.f4.f3.f0, .int .u32 x.f4.f3.f1, .int .u32 x.f4.f3.f2, .int .u32 x.f4.f3.f3, .int .u32 x.f4.f3.f4] (fun k_ => W1.heap.size ≤ k_) (fun _ => False) rfl ?hx ?aP (fun _ hk => hk.elim) ?aF ?aO ?aB ?aS ?aL ?_; (case hx => first | rfl | (show Value.slice (some ⟨w2.heap.size, 0, none⟩) 1 1 = _; simp)); (case aP => exact k59_mkM _ _ _ x); (case aB => exact HB3.out); (case aF => exact (fun k_ hk_ => Nat.le_trans HB3.out.size hk_)); (case aO => exact HR3.out); (case aS => exact HB3.out.size); (case aL => have := HLK.out; omega); intro v4 w4 ho hb hg hat; have HR4 := Aside0.mk ho; have HB4 := Aside0.mk hb; clear ho hb hg hat))
        go_roundw
        case rel => exact ⟨k + 1, by omega, by go_num, by rw [HT.out]; exact HR4, HB4⟩
        case measure => simp [intOf]; omega
    · obtain rfl : k = l.length := by omega
      rw [List.take_length] at HRk
      obtain ⟨A, c, rfl, hle, hC⟩ := Kd.R_reads HRk.out
      have hlen : (l.map (turnP q.f0 asked.f0)).length = l.length := List.length_map _
      rw [hlen] at hle hC
      have HCC := Aside0.mk hC
      have HBB := Aside0.mk (HB1.out.trans (below_to HB.out HB1.out.size))
      rw [hlen]
      have b2 := Bx.blw HX2.out HB.out HX2.out.lt
      have b3 := Bx.blw HX3.out HB.out HX3.out.lt
      have HN := Aside0.mk (show W1.heap.size ≤ wr.heap.size from HB.out.size)
      have d0 := b2.cell 0 _ rfl
      have d1 := b2.cell 1 _ rfl
      have d3 := b2.cell 3 _ rfl
      have d4 := b2.cell 4 _ rfl
      have df := fun j => b2.frozen j
      have ef := fun j => b3.frozen j
      have g0 := b3.cell 0 _ rfl
      have g1 := b3.cell 1 _ rfl
      have g2 := b3.cell 2 _ rfl
      have g3 := b3.cell 3 _ rfl
      have g4 := b3.cell 4 _ rfl
      have BF := Aside0.mk ((((((b3.other (B' := w.heap.size + 1 + 1) (by omega) 2 (.slice A l.length c)).set 0 (.int .u16 rc)).set 1 (.bool aa)).set 2 (.slice A l.length c)).set 3 (.slice A3 n3 c3)).set 4 (.slice A4 n4 c4))
      clear hlen hC b2 b3
      go_wp2
      have r0 := BF.out.cell 0 _ rfl
      have r1 := BF.out.cell 1 _ rfl
      have r2 := BF.out.cell 2 _ rfl
      have r3 := BF.out.cell 3 _ rfl
      have r4 := BF.out.cell 4 _ rfl
      clear d0 d1 d3 d4 df ef g0 g1 g2 g3 g4
      generalize hWF : (((((wr.setCell ⟨w.heap.size + 1 + 1, 2, none⟩ (.slice A l.length c)).setCell ⟨w.heap.size + 1 + 1 + 1, 0, none⟩ (.int .u16 rc)).setCell ⟨w.heap.size + 1 + 1 + 1, 1, none⟩ (.bool aa)).setCell ⟨w.heap.size + 1 + 1 + 1, 2, none⟩ (.slice A l.length c)).setCell ⟨w.heap.size + 1 + 1 + 1, 3, none⟩ (.slice A3 n3 c3)).setCell ⟨w.heap.size + 1 + 1 + 1, 4, none⟩ (.slice A4 n4 c4) = WF at r0 r1 r2 r3 r4 ⊢
      refine bodyPost_ret (v := .agg #[.int .u16 rc, .bool aa, .slice A l.length c, .slice A3 n3 c3, .slice A4 n4 c4]) (by simp [results, Try.results24, go_sem, r0, r1, r2, r3, r4]) rfl ⟨A, c, rfl, hle, ?_, ?_⟩
      · have hCW : ∀ W', (∀ b, W1.heap.size ≤ b → W'.heap[b]? = wr.heap[b]?) → Kd.C k59 W' A l.length (l.map (turnP q.f0 asked.f0)) := fun W' h => by
          have h1 := Kd.R_step (w1 := W') HRk.out (fun k_ hk_ _ => h k_ hk_)
          obtain ⟨_, _, hC'⟩ := Kd.R_reads' h1
          rwa [List.length_map] at hC'
        refine hCW _ (fun b hb => ?_)
        have hsz := HSZ.out
        have n2 : b ≠ w.heap.size + 1 + 1 := by omega
        have n3' : b ≠ w.heap.size + 1 + 1 + 1 := by omega
        rw [← hWF]
        exact (((((Below.heap_setCell _ ⟨w.heap.size + 1 + 1 + 1, 4, none⟩ _ b n3').trans (Below.heap_setCell _ ⟨w.heap.size + 1 + 1 + 1, 3, none⟩ _ b n3')).trans (Below.heap_setCell _ ⟨w.heap.size + 1 + 1 + 1, 2, none⟩ _ b n3')).trans (Below.heap_setCell _ ⟨w.heap.size + 1 + 1 + 1, 1, none⟩ _ b n3')).trans (Below.heap_setCell _ ⟨w.heap.size + 1 + 1 + 1, 0, none⟩ _ b n3')).trans (Below.heap_setCell _ ⟨w.heap.size + 1 + 1, 2, none⟩ _ b n2)
      · rw [← hWF]
        exact (((((HBB.out.setCell (by simp; omega) _).setCell (by simp; omega) _).setCell (by simp; omega) _).setCell (by simp; omega) _).setCell (by simp; omega) _).setCell (by simp; omega) _
end Go.Proofs.Ytfcmphigmfdceaa.Print
end
section
/- name.Cmp is an order; of names it is 0 just if they are alike. -/
namespace Go.Proofs.Ytfcmphigmfdceaa.Print
set_option linter.unusedVariables false
set_option linter.unusedSimpArgs false
open Go.RowKit Go.Proofs.YtfcmphigmfdceaaW.PrintWords Go.Proofs.YtfcmphigmfdceaaW.PrintLast Go.Proofs.YtfcmphigmfdceaaW.PrintMore
structure IsOrd {α : Type} (c : α → α → Int) : Prop where
  range : ∀ x y, -1 ≤ c x y ∧ c x y ≤ 1
  anti : ∀ x y, c x y = - c y x
  trans : ∀ x y z, c x y ≤ 0 → c y z ≤ 0 → c x z ≤ 0
theorem IsOrd.self {α : Type} {c : α → α → Int} (h : IsOrd c) (x : α) : c x x = 0 := by have := h.anti x x; omega
theorem IsOrd.lt1 {α : Type} {c : α → α → Int} (h : IsOrd c) {x y z : α} (h1 : c x y < 0) (h2 : c y z ≤ 0) : c x z < 0 := by
  have h3 := h.trans x y z (by omega) h2
  by_cases h4 : c x z = 0
  · have h5 := h.anti x z
    have h6 := h.trans y z x h2 (by omega)
    have h7 := h.anti x y
    omega
  · omega
theorem IsOrd.lt2 {α : Type} {c : α → α → Int} (h : IsOrd c) {x y z : α} (h1 : c x y ≤ 0) (h2 : c y z < 0) : c x z < 0 := by
  have h3 := h.trans x y z h1 (by omega)
  by_cases h4 : c x z = 0
  · have h5 := h.anti x z
    have h6 := h.trans z x y (by omega) h1
    have h7 := h.anti y z
    omega
  · omega
def lex {α : Type} (c : α → α → Int) : List α → List α → Int
  | [], [] => 0
  | [], _ :: _ => -1
  | _ :: _, [] => 1
  | x :: xs, y :: ys => if c x y = 0 then lex c xs ys else c x y
theorem lex_range {α : Type} {c : α → α → Int} (h : IsOrd c) : ∀ xs ys, -1 ≤ lex c xs ys ∧ lex c xs ys ≤ 1
  | [], [] => by simp [lex]
  | [], _ :: _ => by simp [lex]
  | _ :: _, [] => by simp [lex]
  | x :: xs, y :: ys => by
    simp only [lex]
    split
    · exact lex_range h xs ys
    · exact h.range x y
theorem lex_anti {α : Type} {c : α → α → Int} (h : IsOrd c) : ∀ xs ys, lex c xs ys = - lex c ys xs
  | [], [] => by simp [lex]
  | [], _ :: _ => by simp [lex]
  | _ :: _, [] => by simp [lex]
  | x :: xs, y :: ys => by
    simp only [lex]
    have ha := h.anti x y
    by_cases h0 : c x y = 0
    · rw [if_pos h0, if_pos (by omega)]; exact lex_anti h xs ys
    · rw [if_neg h0, if_neg (by omega)]; exact ha
theorem lex_trans {α : Type} {c : α → α → Int} (h : IsOrd c) : ∀ xs ys zs, lex c xs ys ≤ 0 → lex c ys zs ≤ 0 → lex c xs zs ≤ 0
  | [], _, [], _, _ => by simp [lex]
  | [], _, _ :: _, _, _ => by simp [lex]
  | x :: xs, [], _, h1, _ => by simp [lex] at h1
  | x :: xs, y :: ys, [], _, h2 => by simp [lex] at h2
  | x :: xs, y :: ys, z :: zs, h1, h2 => by
    simp only [lex] at h1 h2 ⊢
    by_cases e1 : c x y = 0
    · rw [if_pos e1] at h1
      by_cases e2 : c y z = 0
      · rw [if_pos e2] at h2
        have h3 := h.trans x y z (by omega) (by omega)
        have h4 := h.trans z y x (by have := h.anti y z; omega) (by have := h.anti x y; omega)
        have h5 := h.anti x z
        rw [if_pos (by omega)]
        exact lex_trans h xs ys zs h1 h2
      · rw [if_neg e2] at h2
        have h3 := h.lt2 (x := x) (y := y) (z := z) (by omega) (by omega)
        rw [if_neg (by omega)]; omega
    · rw [if_neg e1] at h1
      have h2' : c y z ≤ 0 := by
        by_cases e2 : c y z = 0
        · omega
        · rw [if_neg e2] at h2; exact h2
      have h3 := h.lt1 (x := x) (y := y) (z := z) (by omega) h2'
      rw [if_neg (by omega)]; omega
theorem lex_ord {α : Type} {c : α → α → Int} (h : IsOrd c) : IsOrd (lex c) := ⟨lex_range h, lex_anti h, lex_trans h⟩
theorem lex_zero {α : Type} {c : α → α → Int} (h0 : ∀ x y, c x y = 0 ↔ x = y) : ∀ xs ys, lex c xs ys = 0 ↔ xs = ys
  | [], [] => by simp [lex]
  | [], _ :: _ => by simp [lex]
  | _ :: _, [] => by simp [lex]
  | x :: xs, y :: ys => by
    simp only [lex, List.cons.injEq]
    by_cases e : c x y = 0
    · rw [if_pos e, lex_zero h0 xs ys]
      exact ⟨fun h => ⟨(h0 x y).1 e, h⟩, fun h => h.2⟩
    · rw [if_neg e]
      exact ⟨fun h => absurd h e, fun h => absurd ((h0 x y).2 h.1) e⟩
theorem lex_prefix {α : Type} {c : α → α → Int} (h : ∀ x, c x x = 0) : ∀ xs ys : List α, 0 ≤ lex c (xs ++ ys) xs
  | [], [] => by simp [lex]
  | [], _ :: _ => by simp [lex]
  | x :: xs, ys => by
    simp only [List.cons_append, lex]
    rw [if_pos (h x)]
    exact lex_prefix h xs ys
def cI (x y : Int) : Int := clamp (x - y)
theorem cI_ord : IsOrd cI := ⟨fun x y => by unfold cI clamp; omega, fun x y => by unfold cI clamp; omega, fun x y z h1 h2 => by unfold cI clamp at *; omega⟩
theorem cI_zero (x y : Int) : cI x y = 0 ↔ x = y := by unfold cI; rw [clamp_eq_zero]; omega
theorem clamp_cons {n m : Nat} : (n = 0 ∧ m = 0 → clamp ((n : Int) - (m : Int)) = 0) ∧ (n = 0 ∧ 0 < m → clamp ((n : Int) - (m : Int)) = -1) ∧ (0 < n ∧ m = 0 → clamp ((n : Int) - (m : Int)) = 1) := by
  refine ⟨fun h => ?_, fun h => ?_, fun h => ?_⟩ <;> · unfold clamp; omega
theorem diffP_lex : ∀ xs ys : List Int, clamp (diffP xs ys) = lex cI xs ys
  | [], [] => rfl
  | [], y :: ys => by simp only [diffP, lex]; exact clamp_cons.2.1 ⟨rfl, by simp⟩
  | x :: xs, [] => by simp only [diffP, lex]; exact clamp_cons.2.2 ⟨by simp, rfl⟩
  | x :: xs, y :: ys => by
    simp only [diffP, lex]
    by_cases h : x = y
    · rw [if_pos h, if_pos ((cI_zero x y).2 h)]; exact diffP_lex xs ys
    · rw [if_neg h, if_neg (fun e => h ((cI_zero x y).1 e))]; rfl
def keyB (s : ByteArray) : List Int := (bytesOf s).map low1
theorem diffL_lex : ∀ xs ys : List ByteArray, clamp (diffL xs ys) = lex (lex cI) (xs.map keyB) (ys.map keyB)
  | [], [] => rfl
  | [], y :: ys => by simp only [diffL, lex, List.map_nil, List.map_cons]; exact clamp_cons.2.1 ⟨rfl, by simp⟩
  | x :: xs, [] => by simp only [diffL, lex, List.map_nil, List.map_cons]; exact clamp_cons.2.2 ⟨by simp, rfl⟩
  | x :: xs, y :: ys => by
    simp only [diffL, lex, List.map_cons]
    have e : lex cI (keyB x) (keyB y) = clamp (diffB (bytesOf x) (bytesOf y)) := by rw [diffB_map, diffP_lex]; rfl
    rw [e]
    by_cases h : diffB (bytesOf x) (bytesOf y) = 0
    · rw [if_pos h, if_pos (clamp_eq_zero.2 h)]; exact diffL_lex xs ys
    · rw [if_neg h, if_neg (fun h2 => h (clamp_eq_zero.1 h2))]
/-- what Cmp sees of a name: its labels from the last on, in small letters; of what is none: its bytes -/
inductive Key
  | isName (l : List (List Int))
  | none (b : List Int)
def cK : Key → Key → Int
  | .isName l, .isName m => lex (lex cI) l m
  | .isName _, .none _ => -1
  | .none _, .isName _ => 1
  | .none b, .none c => lex cI b c
theorem cK_ord : IsOrd cK := by
  have o1 := lex_ord cI_ord
  have o2 := lex_ord o1
  refine ⟨fun x y => ?_, fun x y => ?_, fun x y z h1 h2 => ?_⟩
  · cases x <;> cases y <;> simp only [cK]
    · exact o2.range _ _
    · omega
    · omega
    · exact o1.range _ _
  · cases x <;> cases y <;> simp only [cK]
    · exact o2.anti _ _
    · omega
    · exact o1.anti _ _
  · cases x <;> cases y <;> cases z <;> simp only [cK] at h1 h2 ⊢
    · exact o2.trans _ _ _ h1 h2
    · omega
    · omega
    · omega
    · omega
    · omega
    · omega
    · exact o1.trans _ _ _ h1 h2
def keyN (n : ByteArray) : Key := match dec n with | some L => .isName (L.reverse.map keyB) | none => .none (bytesOf n)
theorem cmp_key (a b : ByteArray) : cmpP a b = cK (keyN a) (keyN b) := by
  unfold cmpP keyN
  cases dec a <;> cases dec b <;> simp only [cK]
  · rw [compare_diff, diffP_lex]; rfl
  · exact diffL_lex _ _
theorem low_small {c : Int} (h : c < 65) : low1 c = c := by unfold low1; rw [if_neg (by omega)]
theorem glue_low : ∀ (L : List ByteArray), L.any badLab = false → (glue L).map low1 = glue (L.map lowS)
  | [], _ => rfl
  | s :: L, h => by
    rw [List.any_cons, Bool.or_eq_false_iff] at h
    have hs := bad_false h.1
    have ih := glue_low L h.2
    simp only [glue, List.flatMap_cons, List.map_append, List.map_cons] at ih ⊢
    rw [ih]
    unfold lab
    rw [List.map_cons, low_small (by omega), bytes_lowS, lowS_size]
theorem bad_low (L : List ByteArray) (h : L.any badLab = false) : (L.map lowS).any badLab = false := by
  rw [List.any_eq_false] at h ⊢
  intro x hx
  obtain ⟨s, hs, rfl⟩ := List.mem_map.1 hx
  have := h s hs
  unfold badLab at this ⊢
  rw [lowS_size]; exact this
theorem dec_low {n : ByteArray} {L : List ByteArray} (h : dec n = some L) : dec (lowS n) = some (L.map lowS) := by
  obtain ⟨h1, h2, h3⟩ := dec_some h
  unfold dec
  rw [lowS_size, if_neg (by omega), bytes_lowS, h2, List.map_append, glue_low L h3]
  exact cut_glue _ (bad_low L h3)
theorem keyB_low {s u : ByteArray} : keyB s = keyB u ↔ lowS s = lowS u := by
  unfold keyB
  rw [← bytes_lowS, ← bytes_lowS]
  exact ⟨fun h => bytes_inj h, fun h => by rw [h]⟩
theorem keys_low {L M : List ByteArray} : L.map keyB = M.map keyB ↔ L.map lowS = M.map lowS := by
  have e : ∀ K : List ByteArray, K.map keyB = (K.map lowS).map bytesOf := fun K => by
    rw [List.map_map]; exact List.map_congr_left fun s _ => (bytes_lowS s).symm
  rw [e, e]
  refine ⟨fun h => ?_, fun h => by rw [h]⟩
  exact (List.map_inj_right (fun a b h => bytes_inj h)).1 h
theorem alike_iff {a b : ByteArray} {L M : List ByteArray} (ha : dec a = some L) (hb : dec b = some M) : lowS a = lowS b ↔ L.map keyB = M.map keyB := by
  rw [keys_low]
  refine ⟨fun h => ?_, fun h => dec_inj (dec_low ha) (by rw [h]; exact dec_low hb)⟩
  have h1 := dec_low ha
  rw [h, dec_low hb] at h1
  exact (Option.some.inj h1).symm
theorem toList_eq {a b : ByteArray} : a.toList = b.toList ↔ a = b := by
  constructor
  · intro h
    rw [Lib.toList_data, Lib.toList_data] at h
    exact ByteArray.ext (Array.ext' h)
  · intro h; rw [h]
theorem cmp_alike {a b : ByteArray} (ha : (dec a).isSome) (hb : (dec b).isSome) : cmpP a b = 0 ↔ lowS a = lowS b := by
  obtain ⟨L, hL⟩ := Option.isSome_iff_exists.1 ha
  obtain ⟨M, hM⟩ := Option.isSome_iff_exists.1 hb
  rw [cmp_key, alike_iff hL hM]
  unfold keyN
  rw [hL, hM]
  simp only [cK]
  rw [lex_zero (lex_zero cI_zero), List.map_reverse, List.map_reverse]
  exact List.reverse_inj
theorem cmp_under {a b : ByteArray} (h : underP a b = true) : 0 ≤ cmpP a b := by
  unfold underP at h
  cases ha : dec a with
  | none => rw [ha] at h; cases h
  | some L =>
    cases hb : dec b with
    | none => rw [ha, hb] at h; cases h
    | some M =>
      rw [ha, hb] at h
      simp only [] at h
      by_cases hl : L.length < M.length
      · rw [if_pos hl] at h; cases h
      · rw [if_neg hl] at h
        have hd : dec (nameOf (L.drop (L.length - M.length))) = some (L.drop (L.length - M.length)) := dec_nameOf (drop_fine (dec_some ha).2.2 _) (glue_drop ha _)
        have he := (alike_iff hd hb).1 (toList_eq.1 (by simpa using h))
        rw [cmp_key]
        unfold keyN
        rw [ha, hb]
        simp only [cK]
        have e : L.reverse.map keyB = M.reverse.map keyB ++ (L.take (L.length - M.length)).reverse.map keyB := by
          rw [List.map_reverse (l := M), ← he, ← List.map_reverse, ← List.map_append, ← List.reverse_append, List.take_append_drop]
        rw [e]
        exact lex_prefix (fun x => (lex_ord cI_ord).self x) _ _
end Go.Proofs.Ytfcmphigmfdceaa.Print
end
section
-- Written by a program of this session, built on the kit's print (it is not the print's own text).
namespace Go.Proofs.Ytfcmphigmfdceaa.Print
open Go.RowKit Go.Proofs.YtfcmphigmfdceaaW.PrintWords Go.Proofs.YtfcmphigmfdceaaW.PrintLast Go.Proofs.YtfcmphigmfdceaaW.PrintMore
set_option linter.unusedVariables false
set_option linter.unusedSimpArgs false

/-! ### hearsayref01_Is: function 27 -/
def hearsayref01_Is.f (k : Nat) (a0 : ByteArray) : Option (Bool) := (hearsayref01_Split.f k a0).bind fun bt126 => (some bt126.2)
theorem hearsayref01_Is.mono : ∀ a0 k, LeO (hearsayref01_Is.f k a0) (hearsayref01_Is.f (k + 1) a0) := by
  intro a0 k
  unfold hearsayref01_Is.f
  repeat' first
      | (with_reducible exact hearsayref01_Split.mono _ _)
      | (with_reducible exact LeO.refl _)
      | (with_reducible exact LeO.none _)
      | (with_reducible refine LeO.ite ?_ ?_)
      | (with_reducible refine LeO.bind ?_ (fun _ => ?_))
      | exact hearsayref01_Split.mono _ _
      | exact LeO.none _
      | refine LeO.ite ?_ ?_
      | refine LeO.bind ?_ (fun _ => ?_)
set_option maxHeartbeats 8000000 in
set_option maxRecDepth 100000 in
theorem hearsayref01_Is.calls (k : Nat) (a0 : ByteArray) (r : Bool) (w : World) (h : hearsayref01_Is.f k a0 = some r) :
    Calls Try.prog 27 #[.string a0] w fun e w' => e = .returned (.bool r) ∧ Below w.heap.size w w' := by
  have HB := Aside0.mk (Below.refl w.heap.size w)
  have H : ((hearsayref01_Split.f k a0).bind fun bt126 => (some bt126.2)) = some r := h
  clear h
  replace H := Option.bind_eq_some_iff.mp H
  obtain ⟨⟨t126, t127⟩, A20, H⟩ := H
  replace H : (some t127) = some r := H
  have A2 := Aside0.mk A20
  clear A20
  obtain rfl := Option.some.inj H
  go_enter Try.func27, Try.ntmps27
  go_wp2_with (first | ((with_reducible refine gate_callee (f := 33) rfl ?_); refine goesL_ (some 7) rfl rfl Try.func33 (by kernel_rfl) rfl #[.string a0] rfl (by (try simp only [List.map_toArray, List.map_cons, List.map_nil]); first | done | rfl | (simp only [List.length_drop, List.length_take]; rfl)) ?_; (with_reducible refine (hearsayref01_Split.calls k a0 t126 t127 _ A2.out).mono ?_); rintro e w3 ⟨v128, rfl, ho0, hb⟩; refine ⟨_, rfl, ?_⟩; have n0_ := Aside0.mk (Kd.R_lower ho0 (below_size (by repeat (first | (with_reducible first | exact HB.out | apply below_alloc | apply pw_below_drewN | apply below_drew1) | exact HB.out)))); have n1_ := Aside0.mk (below_step (by repeat (first | (with_reducible first | exact HB.out | apply below_alloc | apply pw_below_drewN | apply below_drew1) | exact HB.out)) hb); clear HB; have HO129 := n0_; have HB := n1_; clear n0_ n1_; (try clear hb); (try clear hb2); (try clear hk); (try clear hi); (try clear ho0)))
  go_ret
  exact ⟨by first | rfl | (simp [errW_none, errW_some] <;> rfl) | (simp [*, errW_none, errW_some] <;> rfl), by repeat (first | (with_reducible first | exact HB.out | apply below_alloc | apply pw_below_drewN | apply below_drew1) | exact HB.out)⟩

end Go.Proofs.Ytfcmphigmfdceaa.Print
end
section
-- Written by a program of this session, built on the kit's print (it is not the print's own text).
namespace Go.Proofs.Ytfcmphigmfdceaa.Print
open Go.RowKit Go.Proofs.YtfcmphigmfdceaaW.PrintWords Go.Proofs.YtfcmphigmfdceaaW.PrintLast Go.Proofs.YtfcmphigmfdceaaW.PrintMore
set_option linter.unusedVariables false
set_option linter.unusedSimpArgs false

/-! ### hearsayref01_Labels: function 19 -/
def hearsayref01_Labels.f (k : Nat) (a0 : ByteArray) : Option (List ByteArray) := (hearsayref01_Split.f k a0).bind fun bt158 => (if bt158.2 = true then (some bt158.1) else (some ([] : List ByteArray)))
theorem hearsayref01_Labels.mono : ∀ a0 k, LeO (hearsayref01_Labels.f k a0) (hearsayref01_Labels.f (k + 1) a0) := by
  intro a0 k
  unfold hearsayref01_Labels.f
  repeat' first
      | (with_reducible exact hearsayref01_Split.mono _ _)
      | (with_reducible exact LeO.refl _)
      | (with_reducible exact LeO.none _)
      | (with_reducible refine LeO.ite ?_ ?_)
      | (with_reducible refine LeO.bind ?_ (fun _ => ?_))
      | exact hearsayref01_Split.mono _ _
      | exact LeO.none _
      | refine LeO.ite ?_ ?_
      | refine LeO.bind ?_ (fun _ => ?_)
set_option maxHeartbeats 8000000 in
set_option maxRecDepth 100000 in
theorem hearsayref01_Labels.calls (k : Nat) (a0 : ByteArray) (r : List ByteArray) (w : World) (h : hearsayref01_Labels.f k a0 = some r) :
    Calls Try.prog 19 #[.string a0] w fun e w' => ∃ v0_ : Value, e = .returned (v0_) ∧ Kd.R Kd.string 9 w' w.heap.size (fun _ => True) v0_ r ∧ Below w.heap.size w w' := by
  have HB := Aside0.mk (Below.refl w.heap.size w)
  have H : ((hearsayref01_Split.f k a0).bind fun bt158 => (if bt158.2 = true then (some bt158.1) else (some ([] : List ByteArray)))) = some r := h
  clear h
  replace H := Option.bind_eq_some_iff.mp H
  obtain ⟨⟨t158, t159⟩, A20, H⟩ := H
  replace H : (if t159 = true then (some t158) else (some ([] : List ByteArray))) = some r := H
  have A2 := Aside0.mk A20
  clear A20
  by_cases c3 : t159 = true
  · subst c3
    have H1 : (some t158) = some r := by rw [if_pos rfl] at H; exact H
    clear H
    have H := H1
    clear H1
    obtain rfl := Option.some.inj H
    go_enter Try.func19, Try.ntmps19
    go_wp2_with (first | ((with_reducible refine gate_callee (f := 33) rfl ?_); refine goesL_ (some 7) rfl rfl Try.func33 (by kernel_rfl) rfl #[.string a0] rfl (by (try simp only [List.map_toArray, List.map_cons, List.map_nil]); first | done | rfl | (simp only [List.length_drop, List.length_take]; rfl)) ?_; (with_reducible refine (hearsayref01_Split.calls k a0 t158 true _ A2.out).mono ?_); rintro e w4 ⟨v160, rfl, ho0, hb⟩; refine ⟨_, rfl, ?_⟩; have n0_ := Aside0.mk (Kd.R_lower ho0 (below_size (by repeat (first | (with_reducible first | exact HB.out | apply below_alloc | apply pw_below_drewN | apply below_drew1) | exact HB.out)))); have n1_ := Aside0.mk (below_step (by repeat (first | (with_reducible first | exact HB.out | apply below_alloc | apply pw_below_drewN | apply below_drew1) | exact HB.out)) hb); clear HB; have HO161 := n0_; have HB := n1_; clear n0_ n1_; (try clear hb); (try clear hb2); (try clear hk); (try clear hi); (try clear ho0)))
    go_ret
    exact ⟨_, by first | rfl | (simp [errW_none, errW_some] <;> rfl) | (simp [*, errW_none, errW_some] <;> rfl), by (with_reducible repeat (first | apply Kd.R_alloc | apply Kd.R_drewN | apply Kd.R_drew)); exact HO161.out, by repeat (first | (with_reducible first | exact HB.out | apply below_alloc | apply pw_below_drewN | apply below_drew1) | exact HB.out)⟩
  · replace c3 := Bool.eq_false_iff.mpr c3
    subst c3
    have H1 : (some ([] : List ByteArray)) = some r := by rw [if_neg (show ¬ (false = true) by decide)] at H; exact H
    clear H
    have H := H1
    clear H1
    obtain rfl := Option.some.inj H
    go_enter Try.func19, Try.ntmps19
    go_wp2_with (first | ((with_reducible refine gate_callee (f := 33) rfl ?_); refine goesL_ (some 7) rfl rfl Try.func33 (by kernel_rfl) rfl #[.string a0] rfl (by (try simp only [List.map_toArray, List.map_cons, List.map_nil]); first | done | rfl | (simp only [List.length_drop, List.length_take]; rfl)) ?_; (with_reducible refine (hearsayref01_Split.calls k a0 t158 false _ A2.out).mono ?_); rintro e w5 ⟨v160, rfl, ho0, hb⟩; refine ⟨_, rfl, ?_⟩; have n0_ := Aside0.mk (Kd.R_lower ho0 (below_size (by repeat (first | (with_reducible first | exact HB.out | apply below_alloc | apply pw_below_drewN | apply below_drew1) | exact HB.out)))); have n1_ := Aside0.mk (below_step (by repeat (first | (with_reducible first | exact HB.out | apply below_alloc | apply pw_below_drewN | apply below_drew1) | exact HB.out)) hb); clear HB; have HO161 := n0_; have HB := n1_; clear n0_ n1_; (try clear hb); (try clear hb2); (try clear hk); (try clear hi); (try clear ho0)))
    go_ret
    exact ⟨_, by first | rfl | (simp [errW_none, errW_some] <;> rfl) | (simp [*, errW_none, errW_some] <;> rfl), by first | exact Kd.R_nil _ _ _ _ _ | exact Kd.N_nil _ _ _ _ _ | exact Kd.V_nil _ _ _ _ _ | exact Kd.Q_nil _ _ _ _ _ | exact Kd.S_nil _ _ _ _ _, by repeat (first | (with_reducible first | exact HB.out | apply below_alloc | apply pw_below_drewN | apply below_drew1) | exact HB.out)⟩

end Go.Proofs.Ytfcmphigmfdceaa.Print
end
section
/- What a rule makes of a question, as the document puts it: plain laws without its functions. -/
namespace Go.Proofs.Ytfcmphigmfdceaa.Print
open Go.RowKit Go.Proofs.YtfcmphigmfdceaaW.PrintWords Go.Proofs.YtfcmphigmfdceaaW.PrintLast Go.Proofs.YtfcmphigmfdceaaW.PrintMore
set_option linter.unusedVariables false
set_option linter.unusedSimpArgs false
theorem is_f (n : ByteArray) : Ev (fun k => hearsayref01_Is.f k n) (dec n).isSome := by
  obtain ⟨l', hE, hL⟩ := split_f n
  exact Ev.bind (f := fun _ (x : List ByteArray × Bool) => some x.2) hE (Ev.now _)
theorem rlabels_f (n : ByteArray) : Ev (fun k => hearsayref01_Labels.f k n) ((dec n).getD []) := by
  obtain ⟨l', hE, hL⟩ := split_f n
  refine Ev.bind (f := fun _ (x : List ByteArray × Bool) => if x.2 = true then some x.1 else some []) hE ?_
  cases h : dec n with
  | none => exact Ev.now _
  | some L => rw [hL L h]; exact Ev.now _
def rAlike (A B : List ByteArray) : Bool := decide (A.map lowS = B.map lowS)
theorem dec_mem {n : ByteArray} {s : ByteArray} (hs : s ∈ (dec n).getD []) : s.size ≤ 9223372036854775807 := by
  cases h : dec n with
  | none => rw [h] at hs; simp at hs
  | some L => rw [h] at hs; have := label_small h (s := s) (by simpa using hs); omega
/-- what the document makes of a question -/
def makesP (q : S32) (x : S38) : S32 × Bool :=
  if x.f0 = 4 then (if q.f1 = x.f3 then (⟨q.f0, x.f4, q.f2⟩, true) else (z32, false))
  else
    let L := (dec q.f0).getD []
    let F := (dec x.f1).getD []
    let T := (dec x.f2).getD []
    if L.length < F.length ∨ (x.f0 = 1 ∧ F.length < L.length) then (z32, false)
    else if x.f0 = 3 then (if rAlike (L.take F.length) F then ofP (T ++ L.drop F.length) q else (z32, false))
    else (if rAlike (L.drop (L.length - F.length)) F then ofP (L.take (L.length - F.length) ++ T) q else (z32, false))
theorem rAlike_keys {L M : List ByteArray} : rAlike L M = true ↔ L.map keyB = M.map keyB := by
  unfold rAlike; rw [decide_eq_true_iff]; exact keys_low.symm
theorem cmp_alikeL {a b : ByteArray} {L M : List ByteArray} (ha : dec a = some L) (hb : dec b = some M) : cmpP a b = 0 ↔ rAlike L M = true := by
  rw [cmp_key, rAlike_keys]
  unfold keyN
  rw [ha, hb]
  simp only [cK]
  rw [lex_zero (lex_zero cI_zero), List.map_reverse, List.map_reverse, List.reverse_inj]
theorem of_fine {L : List ByteArray} (h : L.any badLab = false) (hl : (glue L).length + 1 ≤ 255) : (name_Of.f L).getD (⟨#[]⟩, 1) = (nameOf L, 0) := by
  rw [of_def, if_neg (by rw [h]; simp), if_neg (by omega)]
theorem ofP_dec {n : ByteArray} {L : List ByteArray} (h : dec n = some L) (q : S32) : ofP L q = (⟨n, q.f1, q.f2⟩, true) := by
  unfold ofP
  have h1 := dec_size h
  have h2 := dec_some h
  rw [of_fine h2.2.2 (by omega)]
  simp only [if_true]
  rw [nameOf_dec h]
theorem take_fine {L : List ByteArray} (h : L.any badLab = false) (j : Nat) : (L.take j).any badLab = false := by
  rw [List.any_eq_false] at h ⊢
  exact fun x hx => h x (List.mem_of_mem_take hx)
theorem makes_do {q : S32} {x : S38} (hx : ruleOk x = true) (hq : (dec q.f0).isSome = true) : makesP q x = doP q x := by
  obtain ⟨L, hL⟩ := Option.isSome_iff_exists.1 hq
  unfold ruleOk at hx
  by_cases kk : x.f0 = 1 ∨ x.f0 = 2 ∨ x.f0 = 3
  · rw [if_pos kk] at hx
    simp only [Bool.and_eq_true, decide_eq_true_eq] at hx
    obtain ⟨F, hF⟩ := Option.isSome_iff_exists.1 hx.1.1.1
    obtain ⟨T, hT⟩ := Option.isSome_iff_exists.1 hx.1.1.2
    unfold makesP doP
    rw [if_neg (show ¬ x.f0 = 4 by omega)]
    simp only [hL, hF, hT, Option.getD_some]
    have sL := dec_some hL
    have zL := dec_size hL
    rcases kk with k1 | k2 | k3
    · rw [if_pos k1, if_neg (show ¬ x.f0 = 3 by omega)]
      by_cases hl : L.length = F.length
      · rw [if_neg (by omega), hl, Nat.sub_self, List.drop_zero, List.take_zero, List.nil_append, ofP_dec hT]
        by_cases ha : rAlike L F = true
        · rw [if_pos ha, if_pos ((cmp_alikeL hL hF).2 ha)]
        · rw [if_neg ha, if_neg (fun h => ha ((cmp_alikeL hL hF).1 h))]
      · have hne : ¬ cmpP q.f0 x.f1 = 0 := fun h => hl (by
          have h1 := (cmp_alikeL hL hF).1 h
          have h2 := congrArg List.length (rAlike_keys.1 h1)
          simpa using h2)
        rw [if_pos (by omega), if_neg hne]
    · rw [if_neg (show ¬ x.f0 = 1 by omega), if_pos k2, if_neg (show ¬ x.f0 = 3 by omega)]
      by_cases hl : L.length < F.length
      · have hu : underP q.f0 x.f1 = false := by unfold underP; rw [hL, hF]; simp only; rw [if_pos hl]
        rw [if_pos (Or.inl hl), hu]
        rfl
      · rw [if_neg (by omega)]
        have hg := glue_drop hL (L.length - F.length)
        have hd : dec (nameOf (L.drop (L.length - F.length))) = some (L.drop (L.length - F.length)) := dec_nameOf (drop_fine sL.2.2 _) hg
        have hu : underP q.f0 x.f1 = rAlike (L.drop (L.length - F.length)) F := by
          unfold underP; rw [hL, hF]; simp only; rw [if_neg hl, Bool.eq_iff_iff, rAlike_keys, ← alike_iff hd hF, beq_iff_eq, toList_eq]
        rw [hu]
    · rw [if_neg (show ¬ x.f0 = 1 by omega), if_neg (show ¬ x.f0 = 2 by omega), if_pos k3, if_pos k3]
      by_cases hl : L.length < F.length
      · rw [if_pos (Or.inl hl), if_pos hl]
      · rw [if_neg (by omega), if_neg hl]
        have hg : (glue (L.take F.length)).length ≤ (glue L).length := glue_mono L F.length
        have hd : dec (nameOf (L.take F.length)) = some (L.take F.length) := dec_nameOf (take_fine sL.2.2 _) (by omega)
        rw [of_fine (take_fine sL.2.2 _) (by omega)]
        simp only [true_and]
        by_cases ha : rAlike (L.take F.length) F = true
        · rw [if_pos ha, if_pos ((cmp_alikeL hd hF).2 ha)]
        · rw [if_neg ha, if_neg (fun h => ha ((cmp_alikeL hd hF).1 h))]
  · rw [if_neg kk] at hx
    by_cases k4 : x.f0 = 4
    · unfold makesP doP
      rw [if_pos k4, if_neg (show ¬ x.f0 = 1 by omega), if_neg (show ¬ x.f0 = 2 by omega), if_neg (show ¬ x.f0 = 3 by omega)]
    · rw [if_neg k4] at hx; exact absurd hx (by simp)
def firstP (D : S38 → S32 × Bool) (l : List S38) : S32 × Bool := match mades D l with | y :: _ => (y, true) | [] => (z32, false)
theorem firstP_yes {D : S38 → S32 × Bool} {x : S38} {l : List S38} (h : (D x).2 = true) : firstP D (x :: l) = ((D x).1, true) := by unfold firstP mades; rw [List.filterMap_cons]; simp [h]
theorem firstP_no {D : S38 → S32 × Bool} {x : S38} {l : List S38} (h : (D x).2 = false) : firstP D (x :: l) = firstP D l := by unfold firstP mades; rw [List.filterMap_cons]; simp [h]
theorem askP_first (l : List S38) (q : S32) : askP l q = if checkP l = 0 then if (dec q.f0).isSome then firstP (doP q) l else (z32, false) else (z32, false) := rfl
theorem check_all {l : List S38} (h : checkP l = 0) : l.length ≤ 32 ∧ ∀ x ∈ l, ruleOk x = true := by
  unfold checkP at h
  split at h
  · omega
  · rename_i h1
    split at h
    · rename_i h2; exact ⟨by omega, List.all_eq_true.1 h2⟩
    · omega
end Go.Proofs.Ytfcmphigmfdceaa.Print
end
section
-- Written by a program of this session, built on the kit's print (it is not the print's own text).
namespace Go.Proofs.Ytfcmphigmfdceaa.Print
open Go.RowKit Go.Proofs.YtfcmphigmfdceaaW.PrintWords Go.Proofs.YtfcmphigmfdceaaW.PrintLast Go.Proofs.YtfcmphigmfdceaaW.PrintMore
set_option linter.unusedVariables false
set_option linter.unusedSimpArgs false

attribute [local go_sem high] eqA32
/-! ### hearsaylaw25_asks: function 15 -/
def hearsaylaw25_asks.f  : Option (Bool) := (rewrite_Ask.f (([(⟨2, (⟨#[1, 98, 0]⟩ : ByteArray), (⟨#[1, 99, 1, 100, 0]⟩ : ByteArray), 0, 0⟩ : S38)] : List (S38))) (⟨#[1, 88, 1, 66, 0]⟩ : ByteArray) 1 1).bind fun bt145 => (if bt145.2.2.2 = true then (some (bt145.1.toList == ([1, 88, 1, 99, 1, 100, 0] : List UInt8) && (bt145.2.1 == 1 && (bt145.2.2.1 == 1)))) else (some false))
set_option maxHeartbeats 8000000 in
set_option maxRecDepth 100000 in
theorem hearsaylaw25_asks.calls  (r : Bool) (w : World) (h : hearsaylaw25_asks.f  = some r) :
    Calls Try.prog 15 #[] w fun e w' => e = .returned (.bool r) ∧ Below w.heap.size w w' := by
  have hu38 := Try.underlying38
  have hu32 := Try.underlying32
  have HB := Aside0.mk (Below.refl w.heap.size w)
  have H : ((rewrite_Ask.f (([(⟨2, (⟨#[1, 98, 0]⟩ : ByteArray), (⟨#[1, 99, 1, 100, 0]⟩ : ByteArray), 0, 0⟩ : S38)] : List (S38))) (⟨#[1, 88, 1, 66, 0]⟩ : ByteArray) 1 1).bind fun bt145 => (if bt145.2.2.2 = true then (some (bt145.1.toList == ([1, 88, 1, 99, 1, 100, 0] : List UInt8) && (bt145.2.1 == 1 && (bt145.2.2.1 == 1)))) else (some false))) = some r := h
  clear h
  obtain ⟨y142, hy142⟩ : ∃ y_ : List (S38), y_ = (([(⟨2, (⟨#[1, 98, 0]⟩ : ByteArray), (⟨#[1, 99, 1, 100, 0]⟩ : ByteArray), 0, 0⟩ : S38)] : List (S38))) := ⟨_, rfl⟩
  replace H : ((rewrite_Ask.f y142 (⟨#[1, 88, 1, 66, 0]⟩ : ByteArray) 1 1).bind fun bt145 => (if bt145.2.2.2 = true then (some (bt145.1.toList == ([1, 88, 1, 99, 1, 100, 0] : List UInt8) && (bt145.2.1 == 1 && (bt145.2.2.1 == 1)))) else (some false))) = some r := by first | (rw [hy142]; with_reducible exact H) | (have H2_ := (Option.bind_some _ _).symm.trans H; rw [hy142]; with_reducible exact H2_) | (have H2_ := (Option.bind_some _ _).symm.trans H; with_reducible exact H2_) | with_reducible exact H | (rw [hy142]; exact H) | exact H
  have Ny142 := Aside0.mk hy142
  clear hy142
  replace H := Option.bind_eq_some_iff.mp H
  obtain ⟨⟨t145, t146, t147, t148⟩, A10, H⟩ := H
  replace H : (if t148 = true then (some (t145.toList == ([1, 88, 1, 99, 1, 100, 0] : List UInt8) && (t146 == 1 && (t147 == 1)))) else (some false)) = some r := H
  have A1 := Aside0.mk A10
  clear A10
  by_cases c2 : t148 = true
  · subst c2
    have H1 : (some (t145.toList == ([1, 88, 1, 99, 1, 100, 0] : List UInt8) && (t146 == 1 && (t147 == 1)))) = some r := by rw [if_pos rfl] at H; exact H
    clear H
    have H := H1
    clear H1
    obtain rfl := Option.some.inj H
    go_enter Try.func15, Try.ntmps15
    go_wp2_with (first | ((with_reducible refine gate_dst (N := 5) rfl ?_); refine Kd.R_lit k38 _ 38 ?hg (N := 5) ?hd (xs := ([(⟨2, (⟨#[1, 98, 0]⟩ : ByteArray), (⟨#[1, 99, 1, 100, 0]⟩ : ByteArray), 0, 0⟩ : S38)] : List (S38))) (inner := [.int .u8 2, .string (⟨#[1, 98, 0]⟩ : ByteArray), .string (⟨#[1, 99, 1, 100, 0]⟩ : ByteArray), .int .u16 0, .int .u16 0]) (ok := fun _ => True) (okp := fun _ => True) ?hr ?hp (fun _ hk => hk) trivial (Below.refl _ _) (Nat.le_refl _) (by simp) ?_; (case hd => rfl); (case hg => rfl); (case hr => first | (go_simp; done) | (go_simp; rfl)); (case hp => exact (Reps.c5 (show Kd.M k38 _ _ _ (⟨2, (⟨#[1, 98, 0]⟩ : ByteArray), (⟨#[1, 99, 1, 100, 0]⟩ : ByteArray), 0, 0⟩ : S38) [.int .u8 2, .string (⟨#[1, 98, 0]⟩ : ByteArray), .string (⟨#[1, 99, 1, 100, 0]⟩ : ByteArray), .int .u16 0, .int .u16 0] from (k38_mkM _ _ _ (⟨2, (⟨#[1, 98, 0]⟩ : ByteArray), (⟨#[1, 99, 1, 100, 0]⟩ : ByteArray), 0, 0⟩ : S38) )) (Reps.none _ _))); intro v143 w3 ho4 hb hg_ hnew_; clear hg_ hnew_; (first | rw [← Ny142.out] at ho4 | (simp only [Int.reduceToNat] at ho4; rw [← Ny142.out] at ho4)); have n0_ := Aside0.mk (Kd.R_lower ho4 (below_size (by repeat (first | (with_reducible first | exact HB.out | apply below_alloc | apply pw_below_drewN | apply below_drew1) | exact HB.out)))); have n1_ := Aside0.mk (below_step (by repeat (first | (with_reducible first | exact HB.out | apply below_alloc | apply pw_below_drewN | apply below_drew1) | exact HB.out)) hb); clear HB; have HO144 := n0_; have HB := n1_; clear n0_ n1_; clear hb ho4; obtain ⟨Ao5, co5, eo5⟩ := Kd.R_slice HO144.out; subst eo5) | ((with_reducible refine gate_callee (f := 16) rfl ?_); refine goesL_ (some 7) rfl rfl Try.func16 (by kernel_rfl) rfl #[.slice Ao5 y142.length co5, .agg #[.string (⟨#[1, 88, 1, 66, 0]⟩ : ByteArray), .int .u16 1, .int .u16 1]] rfl (by (try simp only [List.map_toArray, List.map_cons, List.map_nil]); first | done | rfl | (simp only [List.length_drop, List.length_take]; rfl)) ?_; (with_reducible refine (rewrite_Ask.calls _ _ y142 (⟨#[1, 88, 1, 66, 0]⟩ : ByteArray) 1 1 t145 t146 t147 true _ ?side1 ?side2 A1.out).mono ?_); (case side1 => repeat (first | exact (Kd.R_reads' HO144.out).2.2 | (with_reducible refine Kd.C_alloc ?_ _) | (with_reducible refine Kd.C_drewN ?_ _) | (with_reducible refine Kd.C_drew ?_))); (case side2 => exact (Kd.R_reads' HO144.out).2.1); rintro e w6 ⟨rfl, hb⟩; refine ⟨_, rfl, ?_⟩; have n0_ := Aside0.mk (Kd.R_below (by (with_reducible repeat (first | apply Kd.R_alloc | apply Kd.R_drewN | apply Kd.R_drew)); exact HO144.out) hb); have n1_ := Aside0.mk (below_step (by repeat (first | (with_reducible first | exact HB.out | apply below_alloc | apply pw_below_drewN | apply below_drew1) | exact HB.out)) hb); clear HO144; clear HB; have HO144 := n0_; have HB := n1_; clear n0_ n1_; (try clear hb); (try clear hb2); (try clear hk); (try clear hi)) | ((with_reducible refine gate_dst (N := 1) rfl ?_); refine box_event ?hg (N := 1) ?hd (cs := #[.string (⟨#[]⟩ : ByteArray), .int .u16 0, .int .u16 0]) (t := 32) ?hr ?_; (case hd => rfl); (case hg => rfl); (case hr => first | (go_simp; done) | (go_simp; rfl)); intro gb149 hg w7 hbox hb; have n0_ := Aside0.mk (Kd.R_below (by (with_reducible repeat (first | apply Kd.R_alloc | apply Kd.R_drewN | apply Kd.R_drew)); exact HO144.out) hb); have n1_ := Aside0.mk (below_step (by repeat (first | (with_reducible first | exact HB.out | apply below_alloc | apply pw_below_drewN | apply below_drew1) | exact HB.out)) hb); have n2_ := Aside0.mk (hbox); have n3_ := Aside0.mk ((by rw [hg]; exact (below_size (by repeat (first | (with_reducible first | exact HB.out | apply below_alloc | apply pw_below_drewN | apply below_drew1) | exact HB.out))) : w.heap.size ≤ gb149)); have n4_ := Aside0.mk ((by rw [hg]; exact (below_size (by repeat (first | (with_reducible first | exact HB.out | apply below_alloc | apply pw_below_drewN | apply below_drew1) | exact HB.out))) : w.heap.size ≤ gb149)); clear HO144; clear HB; have HO144 := n0_; have HB := n1_; have BK149 := n2_; have GW149 := n3_; have GE149 := n4_; clear n0_ n1_ n2_ n3_ n4_; clear hb hbox hg; have hcz8_0 : w7.cell? ⟨gb149, 0, none⟩ = some (.string (⟨#[]⟩ : ByteArray)) := (blk_cell BK149.out 0).trans rfl; have hcz8_1 : w7.cell? ⟨gb149, 1, none⟩ = some (.int .u16 0) := (blk_cell BK149.out 1).trans rfl; have hcz8_2 : w7.cell? ⟨gb149, 2, none⟩ = some (.int .u16 0) := (blk_cell BK149.out 2).trans rfl; have hfz8_0 := blk_frozen BK149.out 0; have hfz8_1 := blk_frozen BK149.out 1; have hfz8_2 := blk_frozen BK149.out 2))
    go_ret
    exact ⟨by first | rfl | (simp [errW_none, errW_some] <;> rfl) | (simp [*, errW_none, errW_some] <;> rfl), by repeat (first | (with_reducible first | exact HB.out | apply below_alloc | apply pw_below_drewN | apply below_drew1 | refine below_set ?_ GE149.out) | exact HB.out)⟩
  · replace c2 := Bool.eq_false_iff.mpr c2
    subst c2
    have H1 : (some false) = some r := by rw [if_neg (show ¬ (false = true) by decide)] at H; exact H
    clear H
    have H := H1
    clear H1
    obtain rfl := Option.some.inj H
    go_enter Try.func15, Try.ntmps15
    go_wp2_with (first | ((with_reducible refine gate_dst (N := 5) rfl ?_); refine Kd.R_lit k38 _ 38 ?hg (N := 5) ?hd (xs := ([(⟨2, (⟨#[1, 98, 0]⟩ : ByteArray), (⟨#[1, 99, 1, 100, 0]⟩ : ByteArray), 0, 0⟩ : S38)] : List (S38))) (inner := [.int .u8 2, .string (⟨#[1, 98, 0]⟩ : ByteArray), .string (⟨#[1, 99, 1, 100, 0]⟩ : ByteArray), .int .u16 0, .int .u16 0]) (ok := fun _ => True) (okp := fun _ => True) ?hr ?hp (fun _ hk => hk) trivial (Below.refl _ _) (Nat.le_refl _) (by simp) ?_; (case hd => rfl); (case hg => rfl); (case hr => first | (go_simp; done) | (go_simp; rfl)); (case hp => exact (Reps.c5 (show Kd.M k38 _ _ _ (⟨2, (⟨#[1, 98, 0]⟩ : ByteArray), (⟨#[1, 99, 1, 100, 0]⟩ : ByteArray), 0, 0⟩ : S38) [.int .u8 2, .string (⟨#[1, 98, 0]⟩ : ByteArray), .string (⟨#[1, 99, 1, 100, 0]⟩ : ByteArray), .int .u16 0, .int .u16 0] from (k38_mkM _ _ _ (⟨2, (⟨#[1, 98, 0]⟩ : ByteArray), (⟨#[1, 99, 1, 100, 0]⟩ : ByteArray), 0, 0⟩ : S38) )) (Reps.none _ _))); intro v143 w9 ho10 hb hg_ hnew_; clear hg_ hnew_; (first | rw [← Ny142.out] at ho10 | (simp only [Int.reduceToNat] at ho10; rw [← Ny142.out] at ho10)); have n0_ := Aside0.mk (Kd.R_lower ho10 (below_size (by repeat (first | (with_reducible first | exact HB.out | apply below_alloc | apply pw_below_drewN | apply below_drew1) | exact HB.out)))); have n1_ := Aside0.mk (below_step (by repeat (first | (with_reducible first | exact HB.out | apply below_alloc | apply pw_below_drewN | apply below_drew1) | exact HB.out)) hb); clear HB; have HO144 := n0_; have HB := n1_; clear n0_ n1_; clear hb ho10; obtain ⟨Ao11, co11, eo11⟩ := Kd.R_slice HO144.out; subst eo11) | ((with_reducible refine gate_callee (f := 16) rfl ?_); refine goesL_ (some 7) rfl rfl Try.func16 (by kernel_rfl) rfl #[.slice Ao11 y142.length co11, .agg #[.string (⟨#[1, 88, 1, 66, 0]⟩ : ByteArray), .int .u16 1, .int .u16 1]] rfl (by (try simp only [List.map_toArray, List.map_cons, List.map_nil]); first | done | rfl | (simp only [List.length_drop, List.length_take]; rfl)) ?_; (with_reducible refine (rewrite_Ask.calls _ _ y142 (⟨#[1, 88, 1, 66, 0]⟩ : ByteArray) 1 1 t145 t146 t147 false _ ?side1 ?side2 A1.out).mono ?_); (case side1 => repeat (first | exact (Kd.R_reads' HO144.out).2.2 | (with_reducible refine Kd.C_alloc ?_ _) | (with_reducible refine Kd.C_drewN ?_ _) | (with_reducible refine Kd.C_drew ?_))); (case side2 => exact (Kd.R_reads' HO144.out).2.1); rintro e w12 ⟨rfl, hb⟩; refine ⟨_, rfl, ?_⟩; have n0_ := Aside0.mk (Kd.R_below (by (with_reducible repeat (first | apply Kd.R_alloc | apply Kd.R_drewN | apply Kd.R_drew)); exact HO144.out) hb); have n1_ := Aside0.mk (below_step (by repeat (first | (with_reducible first | exact HB.out | apply below_alloc | apply pw_below_drewN | apply below_drew1) | exact HB.out)) hb); clear HO144; clear HB; have HO144 := n0_; have HB := n1_; clear n0_ n1_; (try clear hb); (try clear hb2); (try clear hk); (try clear hi)) | ((with_reducible refine gate_dst (N := 1) rfl ?_); refine box_event ?hg (N := 1) ?hd (cs := #[.string (⟨#[]⟩ : ByteArray), .int .u16 0, .int .u16 0]) (t := 32) ?hr ?_; (case hd => rfl); (case hg => rfl); (case hr => first | (go_simp; done) | (go_simp; rfl)); intro gb149 hg w13 hbox hb; have n0_ := Aside0.mk (Kd.R_below (by (with_reducible repeat (first | apply Kd.R_alloc | apply Kd.R_drewN | apply Kd.R_drew)); exact HO144.out) hb); have n1_ := Aside0.mk (below_step (by repeat (first | (with_reducible first | exact HB.out | apply below_alloc | apply pw_below_drewN | apply below_drew1) | exact HB.out)) hb); have n2_ := Aside0.mk (hbox); have n3_ := Aside0.mk ((by rw [hg]; exact (below_size (by repeat (first | (with_reducible first | exact HB.out | apply below_alloc | apply pw_below_drewN | apply below_drew1) | exact HB.out))) : w.heap.size ≤ gb149)); have n4_ := Aside0.mk ((by rw [hg]; exact (below_size (by repeat (first | (with_reducible first | exact HB.out | apply below_alloc | apply pw_below_drewN | apply below_drew1) | exact HB.out))) : w.heap.size ≤ gb149)); clear HO144; clear HB; have HO144 := n0_; have HB := n1_; have BK149 := n2_; have GW149 := n3_; have GE149 := n4_; clear n0_ n1_ n2_ n3_ n4_; clear hb hbox hg; have hcz14_0 : w13.cell? ⟨gb149, 0, none⟩ = some (.string (⟨#[]⟩ : ByteArray)) := (blk_cell BK149.out 0).trans rfl; have hcz14_1 : w13.cell? ⟨gb149, 1, none⟩ = some (.int .u16 0) := (blk_cell BK149.out 1).trans rfl; have hcz14_2 : w13.cell? ⟨gb149, 2, none⟩ = some (.int .u16 0) := (blk_cell BK149.out 2).trans rfl; have hfz14_0 := blk_frozen BK149.out 0; have hfz14_1 := blk_frozen BK149.out 1; have hfz14_2 := blk_frozen BK149.out 2))
    go_ret
    exact ⟨by first | rfl | (simp [errW_none, errW_some] <;> rfl) | (simp [*, errW_none, errW_some] <;> rfl), by repeat (first | (with_reducible first | exact HB.out | apply below_alloc | apply pw_below_drewN | apply below_drew1 | refine below_set ?_ GE149.out) | exact HB.out)⟩

end Go.Proofs.Ytfcmphigmfdceaa.Print
end
section
-- Written by a program of this session, built on the kit's print (it is not the print's own text).
namespace Go.Proofs.Ytfcmphigmfdceaa.Print
open Go.RowKit Go.Proofs.YtfcmphigmfdceaaW.PrintWords Go.Proofs.YtfcmphigmfdceaaW.PrintLast Go.Proofs.YtfcmphigmfdceaaW.PrintMore
set_option linter.unusedVariables false
set_option linter.unusedSimpArgs false

/-! ### hearsaylaw25_long: function 10 -/
def hearsaylaw25_long.l0 : Nat → List (S38) → Int → Option (Bool)
  | 0, _, _ => none
  | k + 1, x0, x3 => if x3 < (x0.length : Int) then (if 0 ≤ x3 then (if (((rd_T38 x0 x3).f1).size : Int) > 2000 then (some true) else (if (((rd_T38 x0 x3).f2).size : Int) > 2000 then (some true) else (hearsaylaw25_long.l0 k x0 (wrap64 (x3 + 1))))) else (none)) else (some false)
def hearsaylaw25_long.f (k : Nat) (l0 : List (S38)) : Option (Bool) := if (l0.length : Int) > 200 then (some true) else (hearsaylaw25_long.l0 k l0 0)
theorem hearsaylaw25_long.mono_l : ∀ k, (∀ y0 y1, LeO (hearsaylaw25_long.l0 k y0 y1) (hearsaylaw25_long.l0 (k + 1) y0 y1))
  | 0 => fun _ _ r h => by simp [hearsaylaw25_long.l0] at h
  | k + 1 => by
    have ih0 := hearsaylaw25_long.mono_l k
    · intro y0 y1
      unfold hearsaylaw25_long.l0
      repeat' first
      | (with_reducible exact ih0 _ _)
      | (with_reducible exact LeO.refl _)
      | (with_reducible exact LeO.none _)
      | (with_reducible refine LeO.ite ?_ ?_)
      | (with_reducible refine LeO.bind ?_ (fun _ => ?_))
      | exact ih0 _ _
      | exact LeO.none _
      | refine LeO.ite ?_ ?_
      | refine LeO.bind ?_ (fun _ => ?_)
theorem hearsaylaw25_long.mono : ∀ a0 k, LeO (hearsaylaw25_long.f k a0) (hearsaylaw25_long.f (k + 1) a0) := by
  intro a0 k
  have ih0 := hearsaylaw25_long.mono_l k
  unfold hearsaylaw25_long.f
  repeat' first
      | (with_reducible exact ih0 _ _)
      | (with_reducible exact LeO.refl _)
      | (with_reducible exact LeO.none _)
      | (with_reducible refine LeO.ite ?_ ?_)
      | (with_reducible refine LeO.bind ?_ (fun _ => ?_))
      | exact ih0 _ _
      | exact LeO.none _
      | refine LeO.ite ?_ ?_
      | refine LeO.bind ?_ (fun _ => ?_)
set_option maxHeartbeats 8000000 in
set_option maxRecDepth 100000 in
theorem hearsaylaw25_long.calls (k : Nat) (A0 : Option Addr) (c0 : Nat) (l0 : List (S38)) (r : Bool) (w : World) (hr0 : Kd.C k38 w A0 l0.length l0) (hc0 : l0.length ≤ c0) (h : hearsaylaw25_long.f k l0 = some r) :
    Calls Try.prog 10 #[.slice A0 l0.length c0] w fun e w' => e = .returned (.bool r) ∧ Drawn0 w w' := by
  have HR0 := Aside0.mk hr0
  have HC0 := Aside0.mk hc0
  clear hr0 hc0
  have H : (if (l0.length : Int) > 200 then (some true) else (hearsaylaw25_long.l0 k l0 0)) = some r := h
  clear h
  by_cases c2 : (l0.length : Int) > 200
  · rw [if_pos c2] at H
    have c2b0 : decide (200 < (l0.length : Int)) = true := decide_eq_true c2
    have c2b1 : decide (200 < l0.length) = true := decide_eq_true (by omega)
    clear c2
    obtain rfl := Option.some.inj H
    go_enter Try.func10, Try.ntmps10
    go_wp2
    go_ret
    exact ⟨by first | rfl | (simp; done) | (simp [*]; done), by repeat (first | exact Drawn0.refl _ | apply Drawn0.step)⟩
  · rw [if_neg c2] at H
    have c2b0 : decide (200 < (l0.length : Int)) = false := decide_eq_false c2
    have c2b1 : decide (200 < l0.length) = false := decide_eq_false (by omega)
    clear c2
    have H' := Aside0.mk H
    clear H
    go_enter Try.func10, Try.ntmps10
    go_wp2
    go_loopg [3] k (fun kq v3 w' => ∃ (x3_1 : Int), v3 = .int .i64 x3_1 ∧ Aside0 (hearsaylaw25_long.l0 kq l0 x3_1 = some r) ∧ Aside0 (kq ≤ k) ∧ Drawn0 w w')
    case atStart => exact ⟨(0), (by first | rfl | (simp; done) | (simp [*]; done)), H', ⟨Nat.le_refl _⟩, by repeat (first | exact Drawn0.refl _ | apply Drawn0.step)⟩
    case round =>
      clear H'
      try clear c1
      try clear c2
      try clear c2b0
      try clear c2b1
      try clear p2
      obtain ⟨x3_1, rfl, HA, HK1, ⟨m1, rfl⟩⟩ := hrel
      cases gk with
      | zero => exact absurd HA.out (by simp [hearsaylaw25_long.l0])
      | succ k1 =>
        have H := HA.out
        clear HA
        simp only [hearsaylaw25_long.l0] at H
        by_cases c3 : x3_1 < (l0.length : Int)
        · rw [if_pos c3] at H
          have c3b0 : decide (x3_1 < (l0.length : Int)) = true := decide_eq_true c3
          clear c3
          by_cases c4 : 0 ≤ x3_1
          · rw [if_pos c4] at H
            have c4b0 : decide (0 ≤ x3_1) = true := decide_eq_true c4
            clear c4
            by_cases c5 : (((rd_T38 l0 x3_1).f1).size : Int) > 2000
            · rw [if_pos c5] at H
              have c5b0 : decide (2000 < (((rd_T38 l0 x3_1).f1).size : Int)) = true := decide_eq_true c5
              have c5b1 : decide (2000 < ((rd_T38 l0 x3_1).f1).size) = true := decide_eq_true (by omega)
              clear c5
              obtain rfl := Option.some.inj H
              have p101 : 0 ≤ (x3_1 : Int) := of_decide_eq_true (by first | (with_reducible assumption) | assumption)
              have q101 : x3_1 < (l0.length : Int) := of_decide_eq_true (by first | (with_reducible assumption) | assumption)
              obtain ⟨ad101, e101, hx101_0, hx101_1, hx101_2, hx101_3, hx101_4⟩ := at_T38 HR0.out x3_1 p101 q101
              cases e101
              replace p101 := eq_true p101
              replace q101 := eq_true q101
              go_wp2
              go_ret
              exact ⟨by first | rfl | (simp; done) | (simp [*]; done), by repeat (first | exact Drawn0.refl _ | apply Drawn0.step)⟩
            · rw [if_neg c5] at H
              have c5b0 : decide (2000 < (((rd_T38 l0 x3_1).f1).size : Int)) = false := decide_eq_false c5
              have c5b1 : decide (2000 < ((rd_T38 l0 x3_1).f1).size) = false := decide_eq_false (by omega)
              clear c5
              by_cases c6 : (((rd_T38 l0 x3_1).f2).size : Int) > 2000
              · rw [if_pos c6] at H
                have c6b0 : decide (2000 < (((rd_T38 l0 x3_1).f2).size : Int)) = true := decide_eq_true c6
                have c6b1 : decide (2000 < ((rd_T38 l0 x3_1).f2).size) = true := decide_eq_true (by omega)
                clear c6
                obtain rfl := Option.some.inj H
                have p101 : 0 ≤ (x3_1 : Int) := of_decide_eq_true (by first | (with_reducible assumption) | assumption)
                have q101 : x3_1 < (l0.length : Int) := of_decide_eq_true (by first | (with_reducible assumption) | assumption)
                obtain ⟨ad101, e101, hx101_0, hx101_1, hx101_2, hx101_3, hx101_4⟩ := at_T38 HR0.out x3_1 p101 q101
                cases e101
                replace p101 := eq_true p101
                replace q101 := eq_true q101
                have p102 : 0 ≤ (x3_1 : Int) := of_decide_eq_true (by first | (with_reducible assumption) | assumption)
                have q102 : x3_1 < (l0.length : Int) := of_decide_eq_true (by first | (with_reducible assumption) | assumption)
                obtain ⟨ad102, e102, hx102_0, hx102_1, hx102_2, hx102_3, hx102_4⟩ := at_T38 HR0.out x3_1 p102 q102
                obtain rfl : ad101 = ad102 := (by injection e102)
                replace p102 := eq_true p102
                replace q102 := eq_true q102
                go_wp2
                go_ret
                exact ⟨by first | rfl | (simp; done) | (simp [*]; done), by repeat (first | exact Drawn0.refl _ | apply Drawn0.step)⟩
              · rw [if_neg c6] at H
                have c6b0 : decide (2000 < (((rd_T38 l0 x3_1).f2).size : Int)) = false := decide_eq_false c6
                have c6b1 : decide (2000 < ((rd_T38 l0 x3_1).f2).size) = false := decide_eq_false (by omega)
                clear c6
                have H' := Aside0.mk H
                clear H
                have p101 : 0 ≤ (x3_1 : Int) := of_decide_eq_true (by first | (with_reducible assumption) | assumption)
                have q101 : x3_1 < (l0.length : Int) := of_decide_eq_true (by first | (with_reducible assumption) | assumption)
                obtain ⟨ad101, e101, hx101_0, hx101_1, hx101_2, hx101_3, hx101_4⟩ := at_T38 HR0.out x3_1 p101 q101
                cases e101
                replace p101 := eq_true p101
                replace q101 := eq_true q101
                have p102 : 0 ≤ (x3_1 : Int) := of_decide_eq_true (by first | (with_reducible assumption) | assumption)
                have q102 : x3_1 < (l0.length : Int) := of_decide_eq_true (by first | (with_reducible assumption) | assumption)
                obtain ⟨ad102, e102, hx102_0, hx102_1, hx102_2, hx102_3, hx102_4⟩ := at_T38 HR0.out x3_1 p102 q102
                obtain rfl : ad101 = ad102 := (by injection e102)
                replace p102 := eq_true p102
                replace q102 := eq_true q102
                go_wp2
                go_roundg k1
                case measure => have := HK1.out; omega
                case rel => exact ⟨(wrap64 (x3_1 + 1)), (by first | rfl | (simp; done) | (simp [*]; done)), H', ⟨by have := HK1.out; omega⟩, by repeat (first | exact Drawn0.refl _ | apply Drawn0.step)⟩
          · rw [if_neg c4] at H
            exact absurd H (by simp)
        · rw [if_neg c3] at H
          have c3b0 : decide (x3_1 < (l0.length : Int)) = false := decide_eq_false c3
          clear c3
          obtain rfl := Option.some.inj H
          go_wp2
          go_ret
          exact ⟨by first | rfl | (simp; done) | (simp [*]; done), by repeat (first | exact Drawn0.refl _ | apply Drawn0.step)⟩

end Go.Proofs.Ytfcmphigmfdceaa.Print
end
section
/- Laws of what Ask tells, and of the statements' small functions. -/
namespace Go.Proofs.Ytfcmphigmfdceaa.Print
open Go.RowKit Go.Proofs.YtfcmphigmfdceaaW.PrintWords Go.Proofs.YtfcmphigmfdceaaW.PrintLast Go.Proofs.YtfcmphigmfdceaaW.PrintMore
set_option linter.unusedVariables false
set_option linter.unusedSimpArgs false
theorem asks_f : hearsaylaw25_asks.f = some true := by decide +kernel
theorem long_l0 (l : List S38) (hl : l.length ≤ 200) (d : Nat) : ∀ t : Nat, l.length - t ≤ d → t ≤ l.length →
    Ev (fun k => hearsaylaw25_long.l0 k l (t : Int)) ((l.drop t).any fun x => decide (2000 < x.f1.size) || decide (2000 < x.f2.size)) := by
  have fin : ∀ t : Nat, t ≤ l.length → ¬ t < l.length → Ev (fun k => hearsaylaw25_long.l0 k l (t : Int)) ((l.drop t).any fun x => decide (2000 < x.f1.size) || decide (2000 < x.f2.size)) := by
    intro t h1 h2
    rw [List.drop_of_length_le (by omega)]
    refine Ev.step (f := fun _ => some false) (fun k => ?_) (Ev.now _)
    simp only [hearsaylaw25_long.l0]
    rw [if_neg (by omega)]
  induction d with
  | zero => intro t hd h1; exact fin t h1 (by omega)
  | succ d ih =>
    intro t hd h1
    by_cases ht : t < l.length
    · have hx : l[t]? = some l[t] := List.getElem?_eq_getElem ht
      have hr := rd_T38_at hx
      have hdrop : l.drop t = l[t] :: l.drop (t + 1) := List.drop_eq_getElem_cons ht
      generalize hxe : l[t] = x at hr hdrop
      have hw : wrap64 ((t : Int) + 1) = ((t + 1 : Nat) : Int) := by rw [w64 (by omega) (by omega)]; rfl
      refine Ev.step (f := fun k => if (x.f1.size : Int) > 2000 then some true else if (x.f2.size : Int) > 2000 then some true else hearsaylaw25_long.l0 k l ((t + 1 : Nat) : Int)) (fun k => ?_) ?_
      · simp only [hearsaylaw25_long.l0]; rw [if_pos (by omega), if_pos (by omega), hr, hw]
      · rw [hdrop, List.any_cons]
        by_cases g1 : 2000 < x.f1.size
        · refine Ev.congr (fun k => by rw [if_pos (by omega)]) ?_
          simpa [g1] using Ev.now true
        · by_cases g2 : 2000 < x.f2.size
          · refine Ev.congr (fun k => by rw [if_neg (by omega), if_pos (by omega)]) ?_
            simpa [g2] using Ev.now true
          · refine Ev.congr (fun k => by rw [if_neg (by omega), if_neg (by omega)]) ?_
            simpa [g1, g2] using ih (t + 1) (by omega) (by omega)
    · exact fin t h1 ht
def longP (l : List S38) : Bool := decide (200 < l.length) || l.any fun x => decide (2000 < x.f1.size) || decide (2000 < x.f2.size)
theorem long_f (l : List S38) : Ev (fun k => hearsaylaw25_long.f k l) (longP l) := by
  unfold longP
  by_cases h : 200 < l.length
  · rw [decide_eq_true h, Bool.true_or]
    exact Ev.congr (fun k => by unfold hearsaylaw25_long.f; rw [if_pos (by omega)]) (Ev.now _)
  · rw [decide_eq_false h, Bool.false_or]
    exact Ev.congr (fun k => by unfold hearsaylaw25_long.f; rw [if_neg (by omega)]; rfl) (long_l0 l (by omega) l.length 0 (by omega) (by omega))
theorem firstP_append (D : S38 → S32 × Bool) (l m : List S38) : firstP D (l ++ m) = if (firstP D l).2 then firstP D l else firstP D m := by
  unfold firstP
  have e : mades D (l ++ m) = mades D l ++ mades D m := by unfold mades; exact List.filterMap_append
  rw [e]
  cases mades D l with
  | nil => rfl
  | cons y r => rfl
theorem firstP_fail {D : S38 → S32 × Bool} {l : List S38} (h : (firstP D l).2 = false) : firstP D l = (z32, false) := by
  unfold firstP at h ⊢
  cases hm : mades D l with
  | nil => rfl
  | cons y r => rw [hm] at h; simp at h
theorem askP_fail {l : List S38} {q : S32} (h : (askP l q).2 = false) : askP l q = (z32, false) := by
  rw [askP_first] at h ⊢
  split at h
  · rename_i h1
    split at h
    · rename_i h2; rw [if_pos h1, if_pos h2]; exact firstP_fail h
    · rename_i h2; rw [if_pos h1, if_neg h2]
  · rename_i h1; rw [if_neg h1]
theorem askP_yes {l : List S38} {q : S32} (h : (askP l q).2 = true) : checkP l = 0 ∧ (dec q.f0).isSome = true ∧ askP l q = firstP (doP q) l := by
  rw [askP_first] at h ⊢
  split at h
  · rename_i h1
    split at h
    · rename_i h2; exact ⟨h1, h2, by rw [if_pos h1, if_pos h2]⟩
    · simp at h
  · simp at h
theorem checkP_zero {l : List S38} (hl : l.length ≤ 32) (h : ∀ x ∈ l, ruleOk x = true) : checkP l = 0 := by
  unfold checkP
  rw [if_neg (by omega), if_pos (List.all_eq_true.2 h)]
theorem toList_beq (a : ByteArray) : (a.toList == a.toList) = true := by simp
theorem z32_eq : z32 = (⟨⟨#[]⟩, 0, 0⟩ : S32) := rfl
end Go.Proofs.Ytfcmphigmfdceaa.Print
end
section
/- The statement RewriteBacks, walked. -/
namespace Go.Proofs.Ytfcmphigmfdceaa.Print
open Go.RowKit Go.Proofs.YtfcmphigmfdceaaW.PrintWords Go.Proofs.YtfcmphigmfdceaaW.PrintLast Go.Proofs.YtfcmphigmfdceaaW.PrintMore
set_option linter.unusedVariables false
set_option linter.unusedSimpArgs false
def Out (w : World) (e : Ending) (w' : World) : Prop := e = .returned (.bool true) ∧ Below w.heap.size w w'
theorem manyP_false {l2 l3 l4 : List S59} (h : manyP l2 l3 l4 = false) : l2.length ≤ 300 ∧ l3.length ≤ 300 ∧ l4.length ≤ 300 := by
  unfold manyP at h
  simp only [Bool.or_eq_false_iff, decide_eq_false_iff_not] at h
  omega
theorem rback_calls2 (q asked : S32) (rc : Int) (aa : Bool) (A2 : Option Addr) (c2 : Nat) (l : List S59) (A3 : Option Addr) (n3 c3 : Nat) (A4 : Option Addr) (n4 c4 : Nat) (w : World) (hr : Kd.C k59 w A2 l.length l) (hc : l.length ≤ c2) (hl : l.length ≤ 1000) (ha : asked.f0.size ≤ 9223372036854775807) (hs : ∀ r ∈ l, r.f0.size ≤ 9223372036854775807) (M : List S59) (hM : M = l.map (turnP q.f0 asked.f0)) :
    Calls Try.prog 24 #[.agg #[.string q.f0, .int .u16 q.f1, .int .u16 q.f2], .agg #[.string asked.f0, .int .u16 asked.f1, .int .u16 asked.f2], .agg #[.int .u16 rc, .bool aa, .slice A2 l.length c2, .slice A3 n3 c3, .slice A4 n4 c4]] w
      fun e w' => ∃ A c, e = .returned (.agg #[.int .u16 rc, .bool aa, .slice A M.length c, .slice A3 n3 c3, .slice A4 n4 c4]) ∧ M.length ≤ c ∧ Kd.C k59 w' A M.length M ∧ Below w.heap.size w w' := by
  subst hM
  rw [List.length_map]
  exact rback_calls q asked rc aa A2 c2 l A3 n3 c3 A4 n4 c4 w hr hc hl ha hs
set_option maxHeartbeats 8000000 in
set_option maxRecDepth 100000 in
theorem rewriteBacks_calls (q asked : S32) (rc : Int) (aa : Bool) (A2 : Option Addr) (c2 : Nat) (l2 : List S59) (A3 : Option Addr) (c3 : Nat) (l3 : List S59) (A4 : Option Addr) (c4 : Nat) (l4 : List S59) (w : World)
    (hr2 : Kd.C k59 w A2 l2.length l2) (hc2 : l2.length ≤ c2) (hr3 : Kd.C k59 w A3 l3.length l3) (hc3 : l3.length ≤ c3) (hr4 : Kd.C k59 w A4 l4.length l4) (hc4 : l4.length ≤ c4) (hs : ∀ r ∈ l2, r.f0.size ≤ 9223372036854775807) :
    Calls Try.prog 7 #[.agg #[.string q.f0, .int .u16 q.f1, .int .u16 q.f2], .agg #[.string asked.f0, .int .u16 asked.f1, .int .u16 asked.f2], .agg #[.int .u16 rc, .bool aa, .slice A2 l2.length c2, .slice A3 l3.length c3, .slice A4 l4.length c4]] w fun e w' => e = .returned (.bool true) ∧ Below w.heap.size w w' := by
  obtain ⟨km, hkm⟩ := (many_f rc aa l2 l3 l4).rounds
  have HKM := Aside0.mk hkm
  have HR2 := Aside0.mk hr2
  have HR3 := Aside0.mk hr3
  have HR4 := Aside0.mk hr4
  have HC2 := Aside0.mk hc2
  have HC3 := Aside0.mk hc3
  have HC4 := Aside0.mk hc4
  have HS := Aside0.mk hs
  have m2 : l2.length ≤ 9223372036854775807 := Kd.C_max hr2
  have m3 : l3.length ≤ 9223372036854775807 := Kd.C_max hr3
  have m4 : l4.length ≤ 9223372036854775807 := Kd.C_max hr4
  clear hkm hr2 hr3 hr4 hc2 hc3 hc4 hs
  have fin : ∀ w2, Below (((w.alloc (.cells #[.string q.f0, .int .u16 q.f1, .int .u16 q.f2] 32)).alloc (.cells #[.string asked.f0, .int .u16 asked.f1, .int .u16 asked.f2] 32)).alloc (.cells #[.int .u16 rc, .bool aa, .slice A2 l2.length c2, .slice A3 l3.length c3, .slice A4 l4.length c4] 45)).heap.size (((w.alloc (.cells #[.string q.f0, .int .u16 q.f1, .int .u16 q.f2] 32)).alloc (.cells #[.string asked.f0, .int .u16 asked.f1, .int .u16 asked.f2] 32)).alloc (.cells #[.int .u16 rc, .bool aa, .slice A2 l2.length c2, .slice A3 l3.length c3, .slice A4 l4.length c4] 45)) w2 →
      Bx w2 w.heap.size #[.string q.f0, .int .u16 q.f1, .int .u16 q.f2] 32 ∧ Bx w2 (w.heap.size + 1) #[.string asked.f0, .int .u16 asked.f1, .int .u16 asked.f2] 32 ∧ Bx w2 (w.heap.size + 1 + 1) #[.int .u16 rc, .bool aa, .slice A2 l2.length c2, .slice A3 l3.length c3, .slice A4 l4.length c4] 45 ∧ Below w.heap.size w w2 := by
    intro w2 hb
    refine ⟨Bx.below ((Bx.new w _ _).alloc _ |>.alloc _) hb, Bx.below (Bx.alloc ?_ _) hb, Bx.below ?_ hb, ?_⟩
    · have := Bx.new (w.alloc (.cells #[.string q.f0, .int .u16 q.f1, .int .u16 q.f2] 32)) #[.string asked.f0, .int .u16 asked.f1, .int .u16 asked.f2] 32
      rwa [World.size_alloc] at this
    · have := Bx.new ((w.alloc (.cells #[.string q.f0, .int .u16 q.f1, .int .u16 q.f2] 32)).alloc (.cells #[.string asked.f0, .int .u16 asked.f1, .int .u16 asked.f2] 32)) #[.int .u16 rc, .bool aa, .slice A2 l2.length c2, .slice A3 l3.length c3, .slice A4 l4.length c4] 45
      rwa [World.size_alloc, World.size_alloc] at this
    · exact (below_alloc (below_alloc (below_alloc (Below.refl w.heap.size w) _) _) _).trans (below_to hb (by simp; omega))
  have FIN := Aside0.mk fin
  clear fin
  cases hm : manyP l2 l3 l4 with
  | true =>
    rw [hm] at HKM
    clear hm
    go_enter Try.func7, Try.ntmps7
    go_wp2_with (first | (go_at_call 20; (with_reducible refine (hearsaylaw25_many.calls km rc aa A2 c2 l2 A3 c3 l3 A4 c4 l4 true _ (Kd.C_alloc (Kd.C_alloc (Kd.C_alloc HR2.out _) _) _) HC2.out (Kd.C_alloc (Kd.C_alloc (Kd.C_alloc HR3.out _) _) _) HC3.out (Kd.C_alloc (Kd.C_alloc (Kd.C_alloc HR4.out _) _) _) HC4.out HKM.out).mono ?_); rintro e w1 ⟨rfl, hb1⟩; obtain ⟨x0, x1, x2, hB⟩ := FIN.out _ hb1; have X0 := Aside0.mk x0; have X1 := Aside0.mk x1; have X2 := Aside0.mk x2; have HB1 := Aside0.mk hB; clear hb1 x0 x1 x2 hB; have z0 := X0.out.cell 0 _ rfl; have y0 := X1.out.cell 0 _ rfl; have a0 := X2.out.cell 0 _ rfl; have a1 := X2.out.cell 1 _ rfl; have a2 := X2.out.cell 2 _ rfl; have a3 := X2.out.cell 3 _ rfl; have a4 := X2.out.cell 4 _ rfl; have lt2 := X2.out.lt))
    go_ret
    exact ⟨rfl, HB1.out⟩
  | false =>
    have hl := manyP_false hm
    have HL := Aside0.mk hl
    rw [hm] at HKM
    clear hm hl
    by_cases g1 : 2000 < q.f0.size
    · have g1' : (2000 : Int) < (q.f0.size : Int) := by omega
      have g1'' : decide ((2000 : Int) < (q.f0.size : Int)) = true := decide_eq_true g1'
      go_enter Try.func7, Try.ntmps7
      go_wp2_with (first | (go_at_call 20; (with_reducible refine (hearsaylaw25_many.calls km rc aa A2 c2 l2 A3 c3 l3 A4 c4 l4 false _ (Kd.C_alloc (Kd.C_alloc (Kd.C_alloc HR2.out _) _) _) HC2.out (Kd.C_alloc (Kd.C_alloc (Kd.C_alloc HR3.out _) _) _) HC3.out (Kd.C_alloc (Kd.C_alloc (Kd.C_alloc HR4.out _) _) _) HC4.out HKM.out).mono ?_); rintro e w1 ⟨rfl, hb1⟩; obtain ⟨x0, x1, x2, hB⟩ := FIN.out _ hb1; have X0 := Aside0.mk x0; have X1 := Aside0.mk x1; have X2 := Aside0.mk x2; have HB1 := Aside0.mk hB; clear hb1 x0 x1 x2 hB; have z0 := X0.out.cell 0 _ rfl; have y0 := X1.out.cell 0 _ rfl; have a0 := X2.out.cell 0 _ rfl; have a1 := X2.out.cell 1 _ rfl; have a2 := X2.out.cell 2 _ rfl; have a3 := X2.out.cell 3 _ rfl; have a4 := X2.out.cell 4 _ rfl; have lt2 := X2.out.lt))
      go_ret
      exact ⟨rfl, HB1.out⟩
    · have g1' : ¬ (2000 : Int) < (q.f0.size : Int) := by omega
      have g1'' : decide ((2000 : Int) < (q.f0.size : Int)) = false := decide_eq_false g1'
      by_cases g2 : 2000 < asked.f0.size
      · have g2' : (2000 : Int) < (asked.f0.size : Int) := by omega
        have g2'' : decide ((2000 : Int) < (asked.f0.size : Int)) = true := decide_eq_true g2'
        go_enter Try.func7, Try.ntmps7
        go_wp2_with (first | (go_at_call 20; (with_reducible refine (hearsaylaw25_many.calls km rc aa A2 c2 l2 A3 c3 l3 A4 c4 l4 false _ (Kd.C_alloc (Kd.C_alloc (Kd.C_alloc HR2.out _) _) _) HC2.out (Kd.C_alloc (Kd.C_alloc (Kd.C_alloc HR3.out _) _) _) HC3.out (Kd.C_alloc (Kd.C_alloc (Kd.C_alloc HR4.out _) _) _) HC4.out HKM.out).mono ?_); rintro e w1 ⟨rfl, hb1⟩; obtain ⟨x0, x1, x2, hB⟩ := FIN.out _ hb1; have X0 := Aside0.mk x0; have X1 := Aside0.mk x1; have X2 := Aside0.mk x2; have HB1 := Aside0.mk hB; clear hb1 x0 x1 x2 hB; have z0 := X0.out.cell 0 _ rfl; have y0 := X1.out.cell 0 _ rfl; have a0 := X2.out.cell 0 _ rfl; have a1 := X2.out.cell 1 _ rfl; have a2 := X2.out.cell 2 _ rfl; have a3 := X2.out.cell 3 _ rfl; have a4 := X2.out.cell 4 _ rfl; have lt2 := X2.out.lt))
        go_ret
        exact ⟨rfl, HB1.out⟩
      · have g2' : ¬ (2000 : Int) < (asked.f0.size : Int) := by omega
        have g2'' : decide ((2000 : Int) < (asked.f0.size : Int)) = false := decide_eq_false g2'
        have has : asked.f0.size ≤ 9223372036854775807 := by omega
        have HAS := Aside0.mk has
        obtain ⟨M2, hM2⟩ : ∃ M, M = l2.map (turnP q.f0 asked.f0) := ⟨_, rfl⟩
        have hML : M2.length = l2.length := by rw [hM2, List.length_map]
        obtain ⟨kb, hkb⟩ := (back_f q asked rc aa l2 l3 l4 (by have := HL.out; omega) (by have := HL.out; omega) (by have := HL.out; omega) has HS.out).rounds
        rw [← hM2] at hkb
        obtain ⟨ks, hks⟩ := (same_f rc aa M2 l3 l4 (by have := HL.out; omega) (by have := HL.out; omega) (by have := HL.out; omega)).rounds
        obtain ⟨kt, hkt⟩ := (same_f rc aa l2 l3 l4 (by have := HL.out; omega) (by have := HL.out; omega) (by have := HL.out; omega)).rounds
        have HKB := Aside0.mk hkb
        have HKS := Aside0.mk hks
        have HKT := Aside0.mk hkt
        have HM2 := Aside0.mk hM2
        have HML := Aside0.mk hML
        clear hkb hks hkt hM2 hML has g1 g2
        go_enter Try.func7, Try.ntmps7
        go_wp2_with (first | (go_at_call 20; (with_reducible refine (hearsaylaw25_many.calls km rc aa A2 c2 l2 A3 c3 l3 A4 c4 l4 false _ (Kd.C_alloc (Kd.C_alloc (Kd.C_alloc HR2.out _) _) _) HC2.out (Kd.C_alloc (Kd.C_alloc (Kd.C_alloc HR3.out _) _) _) HC3.out (Kd.C_alloc (Kd.C_alloc (Kd.C_alloc HR4.out _) _) _) HC4.out HKM.out).mono ?_); rintro e w1 ⟨rfl, hb1⟩; obtain ⟨x0, x1, x2, hB⟩ := FIN.out _ hb1; have X0 := Aside0.mk x0; have X1 := Aside0.mk x1; have X2 := Aside0.mk x2; have HB1 := Aside0.mk hB; clear hb1 x0 x1 x2 hB; have z0 := X0.out.cell 0 _ rfl; have y0 := X1.out.cell 0 _ rfl; have a0 := X2.out.cell 0 _ rfl; have a1 := X2.out.cell 1 _ rfl; have a2 := X2.out.cell 2 _ rfl; have a3 := X2.out.cell 3 _ rfl; have a4 := X2.out.cell 4 _ rfl; have lt2 := X2.out.lt) | (go_at_call 21; (with_reducible refine (own_calls A2 c2 l2 _ (Kd.C_below HR2.out (below_alloc HB1.out (.cells #[.int .u16 rc, .bool aa, .slice A2 l2.length c2, .slice A3 l3.length c3, .slice A4 l4.length c4] 45))) HC2.out (by have := HL.out; omega)).mono ?_); rintro e w2 ⟨D2, d2, rfl, hd2, hR2, hb2⟩; have HD2 := Aside0.mk hd2; have HB2 := Aside0.mk ((below_alloc HB1.out (.cells #[.int .u16 rc, .bool aa, .slice A2 l2.length c2, .slice A3 l3.length c3, .slice A4 l4.length c4] 45)).trans (below_to hb2 (below_alloc HB1.out (.cells #[.int .u16 rc, .bool aa, .slice A2 l2.length c2, .slice A3 l3.length c3, .slice A4 l4.length c4] 45)).size)); have G2 := Aside0.mk ((below_alloc (Below.refl w1.heap.size w1) (.cells #[.int .u16 rc, .bool aa, .slice A2 l2.length c2, .slice A3 l3.length c3, .slice A4 l4.length c4] 45)).trans (below_to hb2 (below_alloc (Below.refl w1.heap.size w1) (.cells #[.int .u16 rc, .bool aa, .slice A2 l2.length c2, .slice A3 l3.length c3, .slice A4 l4.length c4] 45)).size)); have G2s := Aside0.mk (G2.out.setCell (p := ⟨w1.heap.size, 2, none⟩) (Nat.le_refl _) (.slice D2 l2.length d2)); have RD2 := Aside0.mk (Kd.R_mono (Kd.R_bound hR2) (ok' := fun k_ => w1.heap.size + 1 ≤ k_) (fun _ hk_ => Nat.le_trans (by simp) hk_.2.1)); have X7_2 := Aside0.mk (Bx.below (Bx.new w1 #[.int .u16 rc, .bool aa, .slice A2 l2.length c2, .slice A3 l3.length c3, .slice A4 l4.length c4] 45) hb2); have X2_2 := Aside0.mk (Bx.below (X2.out.alloc (.cells #[.int .u16 rc, .bool aa, .slice A2 l2.length c2, .slice A3 l3.length c3, .slice A4 l4.length c4] 45)) hb2); have lt7 := X7_2.out.lt; have fz := fun j => X7_2.out.frozen j; clear hd2 hR2 hb2; have HB2s := Aside0.mk (HB2.out.setCell (p := ⟨w1.heap.size, 2, none⟩) HB1.out.size (.slice D2 l2.length d2)); have X7s2 := Aside0.mk (X7_2.out.set 2 (.slice D2 l2.length d2)); have X2s2 := Aside0.mk (X2_2.out.other (B' := w1.heap.size) (by have := X2.out.lt; omega) 2 (.slice D2 l2.length d2)); have RD2s2 := Aside0.mk (Kd.R_far RD2.out (p := ⟨w1.heap.size, 2, none⟩) (fun k_ hk_ => by show k_ ≠ w1.heap.size; omega) (.slice D2 l2.length d2)); clear a0 a1 a2 a3 a4 ; have a0 := X2_2.out.cell 0 _ rfl; have a1 := X2_2.out.cell 1 _ rfl; have a2 := X2_2.out.cell 2 _ rfl; have a3 := X2_2.out.cell 3 _ rfl; have a4 := X2_2.out.cell 4 _ rfl; have i0 := X7_2.out.cell 0 _ rfl; have i1 := X7_2.out.cell 1 _ rfl; have i2 := X7_2.out.cell 2 _ rfl; have i3 := X7_2.out.cell 3 _ rfl; have i4 := X7_2.out.cell 4 _ rfl) | (go_at_call 21; (with_reducible refine (own_calls A3 c3 l3 _ (Kd.C_below HR3.out HB2s.out) HC3.out (by have := HL.out; omega)).mono ?_); rintro e w3 ⟨D3, d3, rfl, hd3, hR3, hb3⟩; have HD3 := Aside0.mk hd3; have HB3 := Aside0.mk (HB2s.out.trans (below_to hb3 HB2s.out.size)); have G3 := Aside0.mk (G2s.out.trans (below_to hb3 G2s.out.size)); have G3s := Aside0.mk (G3.out.setCell (p := ⟨w1.heap.size, 3, none⟩) (Nat.le_refl _) (.slice D3 l3.length d3)); have RD3 := Aside0.mk (Kd.R_mono (Kd.R_bound hR3) (ok' := fun k_ => w1.heap.size + 1 ≤ k_) (fun _ hk_ => Nat.le_trans (Nat.succ_le_of_lt X7s2.out.lt) hk_.2.1)); have RD2_3 := Aside0.mk (Kd.R_below RD2s2.out hb3); have X7_3 := Aside0.mk (Bx.below X7s2.out hb3); have X2_3 := Aside0.mk (Bx.below X2s2.out hb3); have lt7 := X7_3.out.lt; have fz := fun j => X7_3.out.frozen j; clear hd3 hR3 hb3; have HB3s := Aside0.mk (HB3.out.setCell (p := ⟨w1.heap.size, 3, none⟩) HB1.out.size (.slice D3 l3.length d3)); have X7s3 := Aside0.mk (X7_3.out.set 3 (.slice D3 l3.length d3)); have X2s3 := Aside0.mk (X2_3.out.other (B' := w1.heap.size) (by have := X2.out.lt; omega) 3 (.slice D3 l3.length d3)); have RD2s3 := Aside0.mk (Kd.R_far RD2_3.out (p := ⟨w1.heap.size, 3, none⟩) (fun k_ hk_ => by show k_ ≠ w1.heap.size; omega) (.slice D3 l3.length d3)); have RD3s3 := Aside0.mk (Kd.R_far RD3.out (p := ⟨w1.heap.size, 3, none⟩) (fun k_ hk_ => by show k_ ≠ w1.heap.size; omega) (.slice D3 l3.length d3)); clear a0 a1 a2 a3 a4 i0 i1 i2 i3 i4; have a0 := X2_3.out.cell 0 _ rfl; have a1 := X2_3.out.cell 1 _ rfl; have a2 := X2_3.out.cell 2 _ rfl; have a3 := X2_3.out.cell 3 _ rfl; have a4 := X2_3.out.cell 4 _ rfl; have i0 := X7_3.out.cell 0 _ rfl; have i1 := X7_3.out.cell 1 _ rfl; have i2 := X7_3.out.cell 2 _ rfl; have i3 := X7_3.out.cell 3 _ rfl; have i4 := X7_3.out.cell 4 _ rfl) | (go_at_call 21; (with_reducible refine (own_calls A4 c4 l4 _ (Kd.C_below HR4.out HB3s.out) HC4.out (by have := HL.out; omega)).mono ?_); rintro e w4 ⟨D4, d4, rfl, hd4, hR4, hb4⟩; have HD4 := Aside0.mk hd4; have HB4 := Aside0.mk (HB3s.out.trans (below_to hb4 HB3s.out.size)); have G4 := Aside0.mk (G3s.out.trans (below_to hb4 G3s.out.size)); have G4s := Aside0.mk (G4.out.setCell (p := ⟨w1.heap.size, 4, none⟩) (Nat.le_refl _) (.slice D4 l4.length d4)); have RD4 := Aside0.mk (Kd.R_mono (Kd.R_bound hR4) (ok' := fun k_ => w1.heap.size + 1 ≤ k_) (fun _ hk_ => Nat.le_trans (Nat.succ_le_of_lt X7s3.out.lt) hk_.2.1)); have RD2_4 := Aside0.mk (Kd.R_below RD2s3.out hb4); have RD3_4 := Aside0.mk (Kd.R_below RD3s3.out hb4); have X7_4 := Aside0.mk (Bx.below X7s3.out hb4); have X2_4 := Aside0.mk (Bx.below X2s3.out hb4); have lt7 := X7_4.out.lt; have fz := fun j => X7_4.out.frozen j; clear hd4 hR4 hb4; have HB4s := Aside0.mk (HB4.out.setCell (p := ⟨w1.heap.size, 4, none⟩) HB1.out.size (.slice D4 l4.length d4)); have X7s4 := Aside0.mk (X7_4.out.set 4 (.slice D4 l4.length d4)); have X2s4 := Aside0.mk (X2_4.out.other (B' := w1.heap.size) (by have := X2.out.lt; omega) 4 (.slice D4 l4.length d4)); have RD2s4 := Aside0.mk (Kd.R_far RD2_4.out (p := ⟨w1.heap.size, 4, none⟩) (fun k_ hk_ => by show k_ ≠ w1.heap.size; omega) (.slice D4 l4.length d4)); have RD3s4 := Aside0.mk (Kd.R_far RD3_4.out (p := ⟨w1.heap.size, 4, none⟩) (fun k_ hk_ => by show k_ ≠ w1.heap.size; omega) (.slice D4 l4.length d4)); have RD4s4 := Aside0.mk (Kd.R_far RD4.out (p := ⟨w1.heap.size, 4, none⟩) (fun k_ hk_ => by show k_ ≠ w1.heap.size; omega) (.slice D4 l4.length d4)); have ne0 : ¬ w.heap.size = w1.heap.size := (by have := X2.out.lt; omega); have ne1 : ¬ w.heap.size + 1 = w1.heap.size := (by have := X2.out.lt; omega); have X0_4 := Aside0.mk (X0.out.blw G4.out X0.out.lt); have X1_4 := Aside0.mk (X1.out.blw G4.out X1.out.lt); have p0 := X0_4.out.cell 0 _ rfl; have p1 := X0_4.out.cell 1 _ rfl; have p2 := X0_4.out.cell 2 _ rfl; have k0 := X1_4.out.cell 0 _ rfl; have k1 := X1_4.out.cell 1 _ rfl; have k2 := X1_4.out.cell 2 _ rfl; clear a0 a1 a2 a3 a4 i0 i1 i2 i3 i4; have a0 := X2_4.out.cell 0 _ rfl; have a1 := X2_4.out.cell 1 _ rfl; have a2 := X2_4.out.cell 2 _ rfl; have a3 := X2_4.out.cell 3 _ rfl; have a4 := X2_4.out.cell 4 _ rfl; have i0 := X7_4.out.cell 0 _ rfl; have i1 := X7_4.out.cell 1 _ rfl; have i2 := X7_4.out.cell 2 _ rfl; have i3 := X7_4.out.cell 3 _ rfl; have i4 := X7_4.out.cell 4 _ rfl) | (go_at_call 22; (with_reducible refine (rewrite_Back.calls kb q.f0 q.f1 q.f2 asked.f0 asked.f1 asked.f2 rc aa D2 d2 l2 D3 d3 l3 D4 d4 l4 rc aa M2 l3 l4 _ (take_C59 (C_own RD2s4.out).1) (Nat.le_of_succ_le (C_own RD2s4.out).2) (take_C59 (C_own RD3s4.out).1) (Nat.le_of_succ_le (C_own RD3s4.out).2) (take_C59 (C_own RD4s4.out).1) (Nat.le_of_succ_le (C_own RD4s4.out).2) HKB.out).mono ?_); rintro e w5 ⟨v2, v3, v4, rfl, hv2, hv3, hv4, hb5⟩; obtain ⟨E2, e2, rfl, le2, hE2⟩ := Kd.R_reads hv2; obtain ⟨E3, e3, rfl, le3, hE3⟩ := Kd.R_reads hv3; obtain ⟨E4, e4, rfl, le4, hE4⟩ := Kd.R_reads hv4; have HE2 := Aside0.mk (And.intro hE2 le2); have HE3 := Aside0.mk (And.intro hE3 le3); have HE4 := Aside0.mk (And.intro hE4 le4); have HI5 := Aside0.mk hb5; clear hE2 hE3 hE4 le2 le3 le4 hv2 hv3 hv4 hb5))
        have P0 := Aside0.mk (((Bx.blw X0.out G4s.out X0.out.lt).below HI5.out).alloc (.cells #[.int .u16 rc, .bool aa, .slice E2 M2.length e2, .slice E3 l3.length e3, .slice E4 l4.length e4] 45))
        have P1 := Aside0.mk (((Bx.blw X1.out G4s.out X1.out.lt).below HI5.out).alloc (.cells #[.int .u16 rc, .bool aa, .slice E2 M2.length e2, .slice E3 l3.length e3, .slice E4 l4.length e4] 45))
        have P2 := Aside0.mk (((Bx.blw X2.out G4s.out X2.out.lt).below HI5.out).alloc (.cells #[.int .u16 rc, .bool aa, .slice E2 M2.length e2, .slice E3 l3.length e3, .slice E4 l4.length e4] 45))
        have x7 : Bx (w4.setCell ⟨w1.heap.size, 4, none⟩ (.slice D4 l4.length d4)) w1.heap.size #[.int .u16 rc, .bool aa, .slice D2 l2.length d2, .slice D3 l3.length d3, .slice D4 l4.length d4] 45 := by have h := X7s4.out; simpa using h
        have P7 := Aside0.mk ((x7.below HI5.out).alloc (.cells #[.int .u16 rc, .bool aa, .slice E2 M2.length e2, .slice E3 l3.length e3, .slice E4 l4.length e4] 45))
        have P8 := Aside0.mk (Bx.new w5 #[.int .u16 rc, .bool aa, .slice E2 M2.length e2, .slice E3 l3.length e3, .slice E4 l4.length e4] 45)
        have HB8' := Aside0.mk (below_alloc (HB4s.out.trans (below_to HI5.out HB4s.out.size)) (.cells #[.int .u16 rc, .bool aa, .slice E2 M2.length e2, .slice E3 l3.length e3, .slice E4 l4.length e4] 45))
        have Q2 := Aside0.mk (Kd.R_alloc (Kd.R_below RD2s4.out HI5.out) (.cells #[.int .u16 rc, .bool aa, .slice E2 M2.length e2, .slice E3 l3.length e3, .slice E4 l4.length e4] 45))
        have Q3 := Aside0.mk (Kd.R_alloc (Kd.R_below RD3s4.out HI5.out) (.cells #[.int .u16 rc, .bool aa, .slice E2 M2.length e2, .slice E3 l3.length e3, .slice E4 l4.length e4] 45))
        have Q4 := Aside0.mk (Kd.R_alloc (Kd.R_below RD4s4.out HI5.out) (.cells #[.int .u16 rc, .bool aa, .slice E2 M2.length e2, .slice E3 l3.length e3, .slice E4 l4.length e4] 45))
        have U2 := Aside0.mk (Kd.C_alloc HE2.out.1 (.cells #[.int .u16 rc, .bool aa, .slice E2 M2.length e2, .slice E3 l3.length e3, .slice E4 l4.length e4] 45))
        have U3 := Aside0.mk (Kd.C_alloc HE3.out.1 (.cells #[.int .u16 rc, .bool aa, .slice E2 M2.length e2, .slice E3 l3.length e3, .slice E4 l4.length e4] 45))
        have U4 := Aside0.mk (Kd.C_alloc HE4.out.1 (.cells #[.int .u16 rc, .bool aa, .slice E2 M2.length e2, .slice E3 l3.length e3, .slice E4 l4.length e4] 45))
        clear x7 p0 p1 p2 k0 k1 k2 a0 a1 a2 a3 a4 i0 i1 i2 i3 i4
        generalize w5.alloc (.cells #[.int .u16 rc, .bool aa, .slice E2 M2.length e2, .slice E3 l3.length e3, .slice E4 l4.length e4] 45) = w8 at P0 P1 P2 P7 P8 HB8' Q2 Q3 Q4 U2 U3 U4 ⊢
        have Z0 : Aside0 (Bx w8.drew w.heap.size #[.string q.f0, .int .u16 q.f1, .int .u16 q.f2] 32) := ⟨P0.out⟩
        have Z1 : Aside0 (Bx w8.drew (w.heap.size + 1) #[.string asked.f0, .int .u16 asked.f1, .int .u16 asked.f2] 32) := ⟨P1.out⟩
        have Z2 : Aside0 (Bx w8.drew (w.heap.size + 1 + 1) #[.int .u16 rc, .bool aa, .slice A2 l2.length c2, .slice A3 l3.length c3, .slice A4 l4.length c4] 45) := ⟨P2.out⟩
        have Z7 : Aside0 (Bx w8.drew w1.heap.size #[.int .u16 rc, .bool aa, .slice D2 l2.length d2, .slice D3 l3.length d3, .slice D4 l4.length d4] 45) := ⟨P7.out⟩
        have Z8 : Aside0 (Bx w8.drew w5.heap.size #[.int .u16 rc, .bool aa, .slice E2 M2.length e2, .slice E3 l3.length e3, .slice E4 l4.length e4] 45) := ⟨P8.out⟩
        have HB8 := Aside0.mk (below_drew HB8'.out)
        have ZD2 := Aside0.mk (C_own (Kd.R_drew Q2.out))
        have ZD3 := Aside0.mk (C_own (Kd.R_drew Q3.out))
        have ZD4 := Aside0.mk (C_own (Kd.R_drew Q4.out))
        have ZE2 := Aside0.mk (And.intro (Kd.C_drew U2.out) HE2.out.2)
        have ZE3 := Aside0.mk (And.intro (Kd.C_drew U3.out) HE3.out.2)
        have ZE4 := Aside0.mk (And.intro (Kd.C_drew U4.out) HE4.out.2)
        refine start_ (n := 30) (S := (fun w' => Below w8.drew.heap.size w8.drew w')) (ds := []) #[false, false, false, false, false, false, false, false, false, false, false, false, false, false, false, false, false, false, false, false, false, false, false, false, false, false, false, false, false, false] (by kernel_rfl) rfl rfl (Below.refl _ _) (fun hHeld => ?_)
        refine take_ (i := 0) (N := some 40) (v := ?_) (a' := ?_) #[true, false, false, false, false, false, false, false, false, false, false, false, false, false, false, false, false, false, false, false, false, false, false, false, false, false, false, false, false, false] rfl rfl (by kernel_rfl) (fun _ _ _ h => h) (Or.inl ⟨by rfl, ?_⟩) hHeld ?_ ?_
        rotate_left
        · rintro w' hs
          have b_ := Bx.blw Z8.out hs Z8.out.lt; have c_0 := b_.cell 0 _ rfl; have c_1 := b_.cell 1 _ rfl; have c_2 := b_.cell 2 _ rfl; have c_3 := b_.cell 3 _ rfl; have c_4 := b_.cell 4 _ rfl; go_simp
          with_reducible rfl
        rotate_left
        · simp only [Act.put, List.setIfInBounds_toArray, List.set_cons_zero, List.set_cons_succ, i64_w, i32_w]
          rfl
        refine take_ (i := 1) (N := some 41) (v := ?_) (a' := ?_) #[true, true, false, false, false, false, false, false, false, false, false, false, false, false, false, false, false, false, false, false, false, false, false, false, false, false, false, false, false, false] rfl rfl (by kernel_rfl) (fun _ _ _ h => h) (Or.inl ⟨by rfl, ?_⟩) hHeld ?_ ?_
        rotate_left
        · rintro w' hs
          have b_ := Bx.blw Z0.out hs Z0.out.lt; have c_0 := b_.cell 0 _ rfl; have c_1 := b_.cell 1 _ rfl; have c_2 := b_.cell 2 _ rfl; go_simp
          with_reducible rfl
        rotate_left
        · simp only [Act.put, List.setIfInBounds_toArray, List.set_cons_zero, List.set_cons_succ, i64_w, i32_w]
          rfl
        refine take_ (i := 2) (N := some 42) (v := ?_) (a' := ?_) #[true, true, true, false, false, false, false, false, false, false, false, false, false, false, false, false, false, false, false, false, false, false, false, false, false, false, false, false, false, false] rfl rfl (by kernel_rfl) (fun _ _ _ h => h) (Or.inl ⟨by rfl, ?_⟩) hHeld ?_ ?_
        rotate_left
        · rintro w' hs
          have b_ := Bx.blw Z1.out hs Z1.out.lt; have c_0 := b_.cell 0 _ rfl; have c_1 := b_.cell 1 _ rfl; have c_2 := b_.cell 2 _ rfl; go_simp
          with_reducible rfl
        rotate_left
        · simp only [Act.put, List.setIfInBounds_toArray, List.set_cons_zero, List.set_cons_succ, i64_w, i32_w]
          rfl
        refine take_ (i := 3) (N := some 43) (v := ?_) (a' := ?_) #[true, true, true, true, false, false, false, false, false, false, false, false, false, false, false, false, false, false, false, false, false, false, false, false, false, false, false, false, false, false] rfl rfl (by kernel_rfl) (fun _ _ _ h => h) (Or.inl ⟨by rfl, ?_⟩) hHeld ?_ ?_
        rotate_left
        · rintro w' hs
          have b_ := Bx.blw Z2.out hs Z2.out.lt; have c_0 := b_.cell 0 _ rfl; have c_1 := b_.cell 1 _ rfl; have c_2 := b_.cell 2 _ rfl; have c_3 := b_.cell 3 _ rfl; have c_4 := b_.cell 4 _ rfl; go_simp
          with_reducible rfl
        rotate_left
        · simp only [Act.put, List.setIfInBounds_toArray, List.set_cons_zero, List.set_cons_succ, i64_w, i32_w]
          rfl
        refine one_ (i := 4) (N := some 44) #[true, true, true, true, true, false, false, false, false, false, false, false, false, false, false, false, false, false, false, false, false, false, false, false, false, false, false, false, false, false] rfl rfl (by kernel_rfl) (by decide) (fun K hK => ?_)
        refine goes_ Try.func24 (by kernel_rfl) rfl #[.agg #[.string q.f0, .int .u16 q.f1, .int .u16 q.f2], .agg #[.string asked.f0, .int .u16 asked.f1, .int .u16 asked.f2], .agg #[.int .u16 rc, .bool aa, .slice A2 l2.length c2, .slice A3 l3.length c3, .slice A4 l4.length c4]] (by rfl) rfl rfl (by (try simp only [List.map_toArray, List.map_cons, List.map_nil]); first | done | rfl) ?_
        (with_reducible refine (rback_calls2 q asked rc aa A2 c2 l2 A3 l3.length c3 A4 l4.length c4 _ (Kd.C_below HR2.out HB8.out) HC2.out (by have := HL.out; omega) HAS.out HS.out M2 HM2.out).mono ?_)
        rintro e w9 ⟨F2, f2, rfl, hf2, hF2, hb9⟩
        refine ⟨_, rfl, ?_⟩
        have HF2 := Aside0.mk hF2
        have HG2 := Aside0.mk hf2
        clear hF2 hf2
        refine hK.out _ _ (hHeld.trans (below_to hb9 hHeld.size)) (fun hHeld => ?_)
        clear hK K
        refine norm_ (a' := ?_) ?_ ?_
        rotate_left
        · show Act.put _ (some 44) _ = _
          simp only [Act.put, List.setIfInBounds_toArray, List.set_cons_zero, List.set_cons_succ, i64_w, i32_w]
          rfl
        refine one_ (i := 5) (N := some 45) #[true, true, true, true, true, true, false, false, false, false, false, false, false, false, false, false, false, false, false, false, false, false, false, false, false, false, false, false, false, false] rfl rfl (by kernel_rfl) (by decide) (fun K hK => ?_)
        refine goes_ Try.func23 (by kernel_rfl) rfl #[.agg #[.int .u16 rc, .bool aa, .slice E2 M2.length e2, .slice E3 l3.length e3, .slice E4 l4.length e4], .agg #[.int .u16 rc, .bool aa, .slice F2 M2.length f2, .slice A3 l3.length c3, .slice A4 l4.length c4]] (by rfl) rfl rfl (by (try simp only [List.map_toArray, List.map_cons, List.map_nil]); first | done | rfl) ?_
        (with_reducible refine (hearsayref25_Same.calls ks rc aa E2 e2 M2 E3 e3 l3 E4 e4 l4 rc aa F2 f2 M2 A3 c3 l3 A4 c4 l4 true _ (Kd.C_below ZE2.out.1 hHeld) ZE2.out.2 (Kd.C_below ZE3.out.1 hHeld) ZE3.out.2 (Kd.C_below ZE4.out.1 hHeld) ZE4.out.2 HF2.out HG2.out (Kd.C_below (Kd.C_below HR3.out HB8.out) hHeld) HC3.out (Kd.C_below (Kd.C_below HR4.out HB8.out) hHeld) HC4.out HKS.out).mono ?_)
        rintro e w10 ⟨rfl, hb10⟩
        refine ⟨_, rfl, ?_⟩
        refine hK.out _ _ (hHeld.trans (below_to hb10 hHeld.size)) (fun hHeld => ?_)
        clear hK K
        refine norm_ (a' := ?_) ?_ ?_
        rotate_left
        · show Act.put _ (some 45) _ = _
          simp only [Act.put, List.setIfInBounds_toArray, List.set_cons_zero, List.set_cons_succ, i64_w, i32_w]
          rfl
        refine pure_ (i := 6) (N := some 46) (v := ?_) (a' := ?_) #[true, true, true, true, true, true, true, false, false, false, false, false, false, false, false, false, false, false, false, false, false, false, false, false, false, false, false, false, false, false] rfl rfl (by kernel_rfl) (fun _ _ _ h => h) (Or.inl ⟨by rfl, ?_⟩) ?_ ?_
        rotate_left
        · intro w'
          go_simp
          with_reducible rfl
        rotate_left
        · simp only [Act.put, List.setIfInBounds_toArray, List.set_cons_zero, List.set_cons_succ, i64_w, i32_w]
          rfl
        refine take_ (i := 7) (N := some 47) (v := ?_) (a' := ?_) #[true, true, true, true, true, true, true, true, false, false, false, false, false, false, false, false, false, false, false, false, false, false, false, false, false, false, false, false, false, false] rfl rfl (by kernel_rfl) (fun _ _ _ h => h) (Or.inl ⟨by rfl, ?_⟩) hHeld ?_ ?_
        rotate_left
        · rintro w' hs
          have b_ := Bx.blw Z7.out hs Z7.out.lt; have c_0 := b_.cell 0 _ rfl; have c_1 := b_.cell 1 _ rfl; have c_2 := b_.cell 2 _ rfl; have c_3 := b_.cell 3 _ rfl; have c_4 := b_.cell 4 _ rfl; go_simp
          with_reducible rfl
        rotate_left
        · simp only [Act.put, List.setIfInBounds_toArray, List.set_cons_zero, List.set_cons_succ, i64_w, i32_w]
          rfl
        refine take_ (i := 8) (N := some 48) (v := ?_) (a' := ?_) #[true, true, true, true, true, true, true, true, true, false, false, false, false, false, false, false, false, false, false, false, false, false, false, false, false, false, false, false, false, false] rfl rfl (by kernel_rfl) (fun _ _ _ h => h) (Or.inl ⟨by rfl, ?_⟩) hHeld ?_ ?_
        rotate_left
        · rintro w' hs
          have b_ := Bx.blw Z2.out hs Z2.out.lt; have c_0 := b_.cell 0 _ rfl; have c_1 := b_.cell 1 _ rfl; have c_2 := b_.cell 2 _ rfl; have c_3 := b_.cell 3 _ rfl; have c_4 := b_.cell 4 _ rfl; go_simp
          with_reducible rfl
        rotate_left
        · simp only [Act.put, List.setIfInBounds_toArray, List.set_cons_zero, List.set_cons_succ, i64_w, i32_w]
          rfl
        refine one_ (i := 9) (N := some 49) #[true, true, true, true, true, true, true, true, true, true, false, false, false, false, false, false, false, false, false, false, false, false, false, false, false, false, false, false, false, false] rfl rfl (by kernel_rfl) (by decide) (fun K hK => ?_)
        refine goes_ Try.func23 (by kernel_rfl) rfl #[.agg #[.int .u16 rc, .bool aa, .slice D2 l2.length d2, .slice D3 l3.length d3, .slice D4 l4.length d4], .agg #[.int .u16 rc, .bool aa, .slice A2 l2.length c2, .slice A3 l3.length c3, .slice A4 l4.length c4]] (by rfl) rfl rfl (by (try simp only [List.map_toArray, List.map_cons, List.map_nil]); first | done | rfl) ?_
        (with_reducible refine (hearsayref25_Same.calls kt rc aa D2 d2 l2 D3 d3 l3 D4 d4 l4 rc aa A2 c2 l2 A3 c3 l3 A4 c4 l4 true _ (Kd.C_below (take_C59 ZD2.out.1) hHeld) (Nat.le_of_succ_le ZD2.out.2) (Kd.C_below (take_C59 ZD3.out.1) hHeld) (Nat.le_of_succ_le ZD3.out.2) (Kd.C_below (take_C59 ZD4.out.1) hHeld) (Nat.le_of_succ_le ZD4.out.2) (Kd.C_below (Kd.C_below HR2.out HB8.out) hHeld) HC2.out (Kd.C_below (Kd.C_below HR3.out HB8.out) hHeld) HC3.out (Kd.C_below (Kd.C_below HR4.out HB8.out) hHeld) HC4.out HKT.out).mono ?_)
        rintro e w11 ⟨rfl, hb11⟩
        refine ⟨_, rfl, ?_⟩
        refine hK.out _ _ (hHeld.trans (below_to hb11 hHeld.size)) (fun hHeld => ?_)
        clear hK K
        refine norm_ (a' := ?_) ?_ ?_
        rotate_left
        · show Act.put _ (some 49) _ = _
          simp only [Act.put, List.setIfInBounds_toArray, List.set_cons_zero, List.set_cons_succ, i64_w, i32_w]
          rfl
        refine pure_ (i := 10) (N := some 50) (v := ?_) (a' := ?_) #[true, true, true, true, true, true, true, true, true, true, true, false, false, false, false, false, false, false, false, false, false, false, false, false, false, false, false, false, false, false] rfl rfl (by kernel_rfl) (fun _ _ _ h => h) (Or.inl ⟨by rfl, ?_⟩) ?_ ?_
        rotate_left
        · intro w'
          go_simp
          with_reducible rfl
        rotate_left
        · simp only [Act.put, List.setIfInBounds_toArray, List.set_cons_zero, List.set_cons_succ, i64_w, i32_w]
          rfl
        refine pure_ (i := 11) (N := some 51) (v := ?_) (a' := ?_) #[true, true, true, true, true, true, true, true, true, true, true, true, false, false, false, false, false, false, false, false, false, false, false, false, false, false, false, false, false, false] rfl rfl (by kernel_rfl) (fun _ _ _ h => h) (Or.inl ⟨by rfl, ?_⟩) ?_ ?_
        rotate_left
        · intro w'
          go_simp
          with_reducible rfl
        rotate_left
        · simp only [Act.put, List.setIfInBounds_toArray, List.set_cons_zero, List.set_cons_succ, i64_w, i32_w]
          rfl
        refine pure_ (i := 12) (N := some 52) (v := ?_) (a' := ?_) #[true, true, true, true, true, true, true, true, true, true, true, true, true, false, false, false, false, false, false, false, false, false, false, false, false, false, false, false, false, false] rfl rfl (by kernel_rfl) (fun _ _ _ h => h) (Or.inl ⟨by rfl, ?_⟩) ?_ ?_
        rotate_left
        · intro w'
          go_simp
          with_reducible rfl
        rotate_left
        · simp only [Act.put, List.setIfInBounds_toArray, List.set_cons_zero, List.set_cons_succ, i64_w, i32_w]
          rfl
        refine take_ (i := 13) (N := some 53) (v := ?_) (a' := ?_) #[true, true, true, true, true, true, true, true, true, true, true, true, true, true, false, false, false, false, false, false, false, false, false, false, false, false, false, false, false, false] rfl rfl (by kernel_rfl) (fun _ _ _ h => h) (Or.inl ⟨by rfl, ?_⟩) hHeld ?_ ?_
        rotate_left
        · rintro w' hs
          have b_ := Bx.blw Z7.out hs Z7.out.lt; have c_0 := b_.cell 0 _ rfl; have c_1 := b_.cell 1 _ rfl; have c_2 := b_.cell 2 _ rfl; have c_3 := b_.cell 3 _ rfl; have c_4 := b_.cell 4 _ rfl; go_simp
          with_reducible rfl
        rotate_left
        · simp only [Act.put, List.setIfInBounds_toArray, List.set_cons_zero, List.set_cons_succ, i64_w, i32_w]
          rfl
        refine one_ (i := 14) (N := some 54) #[true, true, true, true, true, true, true, true, true, true, true, true, true, true, true, false, false, false, false, false, false, false, false, false, false, false, false, false, false, false] rfl rfl (by kernel_rfl) (by decide) (fun K hK => ?_)
        refine goes_ Try.func25 (by kernel_rfl) rfl #[.slice D2 l2.length d2] (by rfl) rfl rfl (by (try simp only [List.map_toArray, List.map_cons, List.map_nil]); first | done | rfl) ?_
        (with_reducible refine (marked_calls D2 d2 l2 _ (Kd.C_below ZD2.out.1 hHeld) ZD2.out.2).mono ?_)
        rintro e w' ⟨rfl, rfl⟩
        refine ⟨_, rfl, ?_⟩
        refine hK.out _ _ hHeld (fun hHeld => ?_)
        clear hK K
        refine norm_ (a' := ?_) ?_ ?_
        rotate_left
        · show Act.put _ (some 54) _ = _
          simp only [Act.put, List.setIfInBounds_toArray, List.set_cons_zero, List.set_cons_succ, i64_w, i32_w]
          rfl
        refine pure_ (i := 15) (N := some 55) (v := ?_) (a' := ?_) #[true, true, true, true, true, true, true, true, true, true, true, true, true, true, true, true, false, false, false, false, false, false, false, false, false, false, false, false, false, false] rfl rfl (by kernel_rfl) (fun _ _ _ h => h) (Or.inl ⟨by rfl, ?_⟩) ?_ ?_
        rotate_left
        · intro w'
          go_simp
          with_reducible rfl
        rotate_left
        · simp only [Act.put, List.setIfInBounds_toArray, List.set_cons_zero, List.set_cons_succ, i64_w, i32_w]
          rfl
        refine pure_ (i := 16) (N := some 56) (v := ?_) (a' := ?_) #[true, true, true, true, true, true, true, true, true, true, true, true, true, true, true, true, true, false, false, false, false, false, false, false, false, false, false, false, false, false] rfl rfl (by kernel_rfl) (fun _ _ _ h => h) (Or.inl ⟨by rfl, ?_⟩) ?_ ?_
        rotate_left
        · intro w'
          go_simp
          with_reducible rfl
        rotate_left
        · simp only [Act.put, List.setIfInBounds_toArray, List.set_cons_zero, List.set_cons_succ, i64_w, i32_w]
          rfl
        refine pure_ (i := 17) (N := some 57) (v := ?_) (a' := ?_) #[true, true, true, true, true, true, true, true, true, true, true, true, true, true, true, true, true, true, false, false, false, false, false, false, false, false, false, false, false, false] rfl rfl (by kernel_rfl) (fun _ _ _ h => h) (Or.inl ⟨by rfl, ?_⟩) ?_ ?_
        rotate_left
        · intro w'
          go_simp
          with_reducible rfl
        rotate_left
        · simp only [Act.put, List.setIfInBounds_toArray, List.set_cons_zero, List.set_cons_succ, i64_w, i32_w]
          rfl
        refine take_ (i := 18) (N := some 58) (v := ?_) (a' := ?_) #[true, true, true, true, true, true, true, true, true, true, true, true, true, true, true, true, true, true, true, false, false, false, false, false, false, false, false, false, false, false] rfl rfl (by kernel_rfl) (fun _ _ _ h => h) (Or.inl ⟨by rfl, ?_⟩) hHeld ?_ ?_
        rotate_left
        · rintro w' hs
          have b_ := Bx.blw Z7.out hs Z7.out.lt; have c_0 := b_.cell 0 _ rfl; have c_1 := b_.cell 1 _ rfl; have c_2 := b_.cell 2 _ rfl; have c_3 := b_.cell 3 _ rfl; have c_4 := b_.cell 4 _ rfl; go_simp
          with_reducible rfl
        rotate_left
        · simp only [Act.put, List.setIfInBounds_toArray, List.set_cons_zero, List.set_cons_succ, i64_w, i32_w]
          rfl
        refine one_ (i := 19) (N := some 59) #[true, true, true, true, true, true, true, true, true, true, true, true, true, true, true, true, true, true, true, true, false, false, false, false, false, false, false, false, false, false] rfl rfl (by kernel_rfl) (by decide) (fun K hK => ?_)
        refine goes_ Try.func25 (by kernel_rfl) rfl #[.slice D3 l3.length d3] (by rfl) rfl rfl (by (try simp only [List.map_toArray, List.map_cons, List.map_nil]); first | done | rfl) ?_
        (with_reducible refine (marked_calls D3 d3 l3 _ (Kd.C_below ZD3.out.1 hHeld) ZD3.out.2).mono ?_)
        rintro e w' ⟨rfl, rfl⟩
        refine ⟨_, rfl, ?_⟩
        refine hK.out _ _ hHeld (fun hHeld => ?_)
        clear hK K
        refine norm_ (a' := ?_) ?_ ?_
        rotate_left
        · show Act.put _ (some 59) _ = _
          simp only [Act.put, List.setIfInBounds_toArray, List.set_cons_zero, List.set_cons_succ, i64_w, i32_w]
          rfl
        refine pure_ (i := 20) (N := some 60) (v := ?_) (a' := ?_) #[true, true, true, true, true, true, true, true, true, true, true, true, true, true, true, true, true, true, true, true, true, false, false, false, false, false, false, false, false, false] rfl rfl (by kernel_rfl) (fun _ _ _ h => h) (Or.inl ⟨by rfl, ?_⟩) ?_ ?_
        rotate_left
        · intro w'
          go_simp
          with_reducible rfl
        rotate_left
        · simp only [Act.put, List.setIfInBounds_toArray, List.set_cons_zero, List.set_cons_succ, i64_w, i32_w]
          rfl
        refine pure_ (i := 21) (N := some 61) (v := ?_) (a' := ?_) #[true, true, true, true, true, true, true, true, true, true, true, true, true, true, true, true, true, true, true, true, true, true, false, false, false, false, false, false, false, false] rfl rfl (by kernel_rfl) (fun _ _ _ h => h) (Or.inl ⟨by rfl, ?_⟩) ?_ ?_
        rotate_left
        · intro w'
          go_simp
          with_reducible rfl
        rotate_left
        · simp only [Act.put, List.setIfInBounds_toArray, List.set_cons_zero, List.set_cons_succ, i64_w, i32_w]
          rfl
        refine pure_ (i := 22) (N := some 62) (v := ?_) (a' := ?_) #[true, true, true, true, true, true, true, true, true, true, true, true, true, true, true, true, true, true, true, true, true, true, true, false, false, false, false, false, false, false] rfl rfl (by kernel_rfl) (fun _ _ _ h => h) (Or.inl ⟨by rfl, ?_⟩) ?_ ?_
        rotate_left
        · intro w'
          go_simp
          with_reducible rfl
        rotate_left
        · simp only [Act.put, List.setIfInBounds_toArray, List.set_cons_zero, List.set_cons_succ, i64_w, i32_w]
          rfl
        refine take_ (i := 23) (N := some 63) (v := ?_) (a' := ?_) #[true, true, true, true, true, true, true, true, true, true, true, true, true, true, true, true, true, true, true, true, true, true, true, true, false, false, false, false, false, false] rfl rfl (by kernel_rfl) (fun _ _ _ h => h) (Or.inl ⟨by rfl, ?_⟩) hHeld ?_ ?_
        rotate_left
        · rintro w' hs
          have b_ := Bx.blw Z7.out hs Z7.out.lt; have c_0 := b_.cell 0 _ rfl; have c_1 := b_.cell 1 _ rfl; have c_2 := b_.cell 2 _ rfl; have c_3 := b_.cell 3 _ rfl; have c_4 := b_.cell 4 _ rfl; go_simp
          with_reducible rfl
        rotate_left
        · simp only [Act.put, List.setIfInBounds_toArray, List.set_cons_zero, List.set_cons_succ, i64_w, i32_w]
          rfl
        refine one_ (i := 24) (N := some 64) #[true, true, true, true, true, true, true, true, true, true, true, true, true, true, true, true, true, true, true, true, true, true, true, true, true, false, false, false, false, false] rfl rfl (by kernel_rfl) (by decide) (fun K hK => ?_)
        refine goes_ Try.func25 (by kernel_rfl) rfl #[.slice D4 l4.length d4] (by rfl) rfl rfl (by (try simp only [List.map_toArray, List.map_cons, List.map_nil]); first | done | rfl) ?_
        (with_reducible refine (marked_calls D4 d4 l4 _ (Kd.C_below ZD4.out.1 hHeld) ZD4.out.2).mono ?_)
        rintro e w' ⟨rfl, rfl⟩
        refine ⟨_, rfl, ?_⟩
        refine hK.out _ _ hHeld (fun hHeld => ?_)
        clear hK K
        refine norm_ (a' := ?_) ?_ ?_
        rotate_left
        · show Act.put _ (some 64) _ = _
          simp only [Act.put, List.setIfInBounds_toArray, List.set_cons_zero, List.set_cons_succ, i64_w, i32_w]
          rfl
        refine pure_ (i := 25) (N := some 65) (v := ?_) (a' := ?_) #[true, true, true, true, true, true, true, true, true, true, true, true, true, true, true, true, true, true, true, true, true, true, true, true, true, true, false, false, false, false] rfl rfl (by kernel_rfl) (fun _ _ _ h => h) (Or.inl ⟨by rfl, ?_⟩) ?_ ?_
        rotate_left
        · intro w'
          go_simp
          with_reducible rfl
        rotate_left
        · simp only [Act.put, List.setIfInBounds_toArray, List.set_cons_zero, List.set_cons_succ, i64_w, i32_w]
          rfl
        refine pure_ (i := 26) (N := some 66) (v := ?_) (a' := ?_) #[true, true, true, true, true, true, true, true, true, true, true, true, true, true, true, true, true, true, true, true, true, true, true, true, true, true, true, false, false, false] rfl rfl (by kernel_rfl) (fun _ _ _ h => h) (Or.inl ⟨by rfl, ?_⟩) ?_ ?_
        rotate_left
        · intro w'
          go_simp
          with_reducible rfl
        rotate_left
        · simp only [Act.put, List.setIfInBounds_toArray, List.set_cons_zero, List.set_cons_succ, i64_w, i32_w]
          rfl
        refine one_ (i := 27) (N := some 67) #[true, true, true, true, true, true, true, true, true, true, true, true, true, true, true, true, true, true, true, true, true, true, true, true, true, true, true, true, false, false] rfl rfl (by kernel_rfl) (by decide) (fun K hK => ?_)
        refine goes_ Try.func15 (by kernel_rfl) rfl #[] (by rfl) rfl rfl (by (try simp only [List.map_toArray, List.map_cons, List.map_nil]); first | done | rfl) ?_
        (with_reducible refine (hearsaylaw25_asks.calls true _ asks_f).mono ?_)
        rintro e w12 ⟨rfl, hb12⟩
        refine ⟨_, rfl, ?_⟩
        refine hK.out _ _ (hHeld.trans (below_to hb12 hHeld.size)) (fun hHeld => ?_)
        clear hK K
        refine norm_ (a' := ?_) ?_ ?_
        rotate_left
        · show Act.put _ (some 67) _ = _
          simp only [Act.put, List.setIfInBounds_toArray, List.set_cons_zero, List.set_cons_succ, i64_w, i32_w]
          rfl
        refine pure_ (i := 28) (N := some 68) (v := ?_) (a' := ?_) #[true, true, true, true, true, true, true, true, true, true, true, true, true, true, true, true, true, true, true, true, true, true, true, true, true, true, true, true, true, false] rfl rfl (by kernel_rfl) (fun _ _ _ h => h) (Or.inl ⟨by rfl, ?_⟩) ?_ ?_
        rotate_left
        · intro w'
          go_simp
          with_reducible rfl
        rotate_left
        · simp only [Act.put, List.setIfInBounds_toArray, List.set_cons_zero, List.set_cons_succ, i64_w, i32_w]
          rfl
        refine pure_ (i := 29) (N := some 6) (v := ?_) (a' := ?_) #[true, true, true, true, true, true, true, true, true, true, true, true, true, true, true, true, true, true, true, true, true, true, true, true, true, true, true, true, true, true] rfl rfl (by kernel_rfl) (fun _ _ _ h => h) (Or.inl ⟨by rfl, ?_⟩) ?_ ?_
        rotate_left
        · intro w'
          go_simp
          with_reducible rfl
        rotate_left
        · simp only [Act.put, List.setIfInBounds_toArray, List.set_cons_zero, List.set_cons_succ, i64_w, i32_w]
          rfl
        refine done_ (by kernel_rfl) ?_
        go_wp2
        go_ret
        exact ⟨rfl, HB8.out.trans (below_to hHeld HB8.out.size)⟩
end Go.Proofs.Ytfcmphigmfdceaa.Print
end
section
/- Records and answers, read as data, are told by their kinds. -/
namespace Go.Proofs.Ytfcmphigmfdceaa.Opens
open Go.RowKit Go.Proofs.YtfcmphigmfdceaaW.PrintWords Go.Proofs.YtfcmphigmfdceaaW.PrintLast Go.Proofs.YtfcmphigmfdceaaW.PrintMore Go.Proofs.Ytfcmphigmfdceaa.Print
set_option linter.unusedVariables false
set_option linter.unusedSimpArgs false
theorem opens_arr5 {P : Program} {t E : TypeId} {k : IntKind} (h : P.underlying t = some (.array 5 E)) (he : P.underlying E = some (.int k)) (hc : P.cellsOf E = 1) (ht : P.cellsOf t = 5) :
    Opens P t (Kd.pair (Kd.int k) (Kd.pair (Kd.int k) (Kd.pair (Kd.int k) (Kd.pair (Kd.int k) (Kd.int k))))) (fun _ => True) := by
  intro H enc w base spare held fuel cs y hy
  cases fuel with
  | zero => simp [DataW.trod] at hy
  | succ n =>
    unfold DataW.trod at hy
    rw [h] at hy
    dsimp only at hy
    split at hy
    · rename_i hl
      simp only [Option.map_eq_some_iff] at hy
      obtain ⟨ys, hys, _⟩ := hy
      rw [ht] at hl
      obtain ⟨_, hg⟩ := mapM_get hys
      have key : ∀ i, i < 5 → ∃ x, (cs.drop i).take 1 = [Value.int k x] := fun i hi => by
        obtain ⟨yy, hyy⟩ := hg i i (by rw [List.getElem?_range hi])
        rw [hc, Nat.mul_one] at hyy
        obtain ⟨x, hx, _⟩ := opens_int he H enc w base spare held n _ yy hyy
        exact ⟨x, hx⟩
      clear hys hg
      match cs, hl with
      | [c0, c1, c2, c3, c4], _ =>
        obtain ⟨x0, h0⟩ := key 0 (by omega)
        obtain ⟨x1, h1⟩ := key 1 (by omega)
        obtain ⟨x2, h2⟩ := key 2 (by omega)
        obtain ⟨x3, h3⟩ := key 3 (by omega)
        obtain ⟨x4, h4⟩ := key 4 (by omega)
        simp at h0 h1 h2 h3 h4
        subst h0; subst h1; subst h2; subst h3; subst h4
        exact ⟨(x0, x1, x2, x3, x4), ⟨[_], [_, _, _, _], rfl, rfl, ⟨[_], [_, _, _], rfl, rfl, ⟨[_], [_, _], rfl, rfl, ⟨[_], [_], rfl, rfl, rfl⟩⟩⟩⟩, trivial⟩
    · simp at hy
theorem opens55 : Opens Try.prog 55 k55 (fun _ => True) := by
  have h := opens_iso (opens_arr5 Try.underlying55 Try.underlying54 (by kernel_rfl) (by kernel_rfl)) (fun x : S55 => (x.f0, x.f1, x.f2, x.f3, x.f4)) (fun y => ⟨y.1, y.2.1, y.2.2.1, y.2.2.2.1, y.2.2.2.2⟩) (fun _ => rfl)
  exact h
theorem opens57 : Opens Try.prog 57 k57 (fun _ => True) := by
  have h := opens_iso (opens_struct Try.underlying57 (by kernel_rfl) (opensF_cons rfl (by kernel_rfl) (opens_string (by kernel_rfl)) (opensF_cons rfl (by kernel_rfl) (opens_string (by kernel_rfl)) (opensF_cons rfl (by kernel_rfl) (opens_string (by kernel_rfl)) (opensF_one rfl (by kernel_rfl) opens55))))) (fun x : S57 => (x.f0, x.f1, x.f2, x.f3)) (fun y => ⟨y.1, y.2.1, y.2.2.1, y.2.2.2⟩) (fun _ => rfl)
  intro H enc w base spare held fuel cs y hy
  obtain ⟨x, hk, _⟩ := h H enc w base spare held fuel cs y hy
  exact ⟨x, hk, trivial⟩
theorem opens59 : Opens Try.prog 59 k59 (fun x => x.f0.size ≤ maxLen) := by
  have h := opens_iso (opens_struct Try.underlying59 (by kernel_rfl) (opensF_cons rfl (by kernel_rfl) (opens_string (by kernel_rfl)) (opensF_cons rfl (by kernel_rfl) (opens_int (k := .u16) (by kernel_rfl)) (opensF_cons rfl (by kernel_rfl) (opens_int (k := .u16) (by kernel_rfl)) (opensF_cons rfl (by kernel_rfl) (opens_int (k := .u32) (by kernel_rfl)) (opensF_one rfl (by kernel_rfl) opens57)))))) (fun x : S59 => (x.f0, x.f1, x.f2, x.f3, x.f4)) (fun y => ⟨y.1, y.2.1, y.2.2.1, y.2.2.2.1, y.2.2.2.2⟩) (fun _ => rfl)
  intro H enc w base spare held fuel cs y hy
  obtain ⟨x, hk, hw⟩ := h H enc w base spare held fuel cs y hy
  exact ⟨x, hk, hw.1⟩
theorem opens43 : Opens Try.prog 43 (Kd.slice 59 k59) (fun xs => ∀ x ∈ xs, x.f0.size ≤ maxLen) := opens_slice Try.underlying43 (by kernel_rfl) opens59
def k45 : Kd (Int × Bool × List S59 × List S59 × List S59) := Kd.pair (Kd.int .u16) (Kd.pair Kd.bool (Kd.pair (Kd.slice 59 k59) (Kd.pair (Kd.slice 59 k59) (Kd.slice 59 k59))))
theorem opens45 : Opens Try.prog 45 k45 (fun x => ∀ r ∈ x.2.2.1, r.f0.size ≤ maxLen) := by
  have h := opens_struct Try.underlying45 (by kernel_rfl) (opensF_cons rfl (by kernel_rfl) (opens_int (k := .u16) (by kernel_rfl)) (opensF_cons rfl (by kernel_rfl) (opens_bool (by kernel_rfl)) (opensF_cons rfl (by kernel_rfl) opens43 (opensF_cons rfl (by kernel_rfl) opens43 (opensF_one rfl (by kernel_rfl) opens43)))))
  intro H enc w base spare held fuel cs y hy
  obtain ⟨x, hk, hw⟩ := h H enc w base spare held fuel cs y hy
  exact ⟨x, hk, hw.2.2.1⟩
theorem k45_open {w : World} {x : Int × Bool × List S59 × List S59 × List S59} {cs : List Value} (h : k45.K w x cs) : ∃ A2 c2 A3 c3 A4 c4, cs = [.int .u16 x.1, .bool x.2.1, .slice A2 x.2.2.1.length c2, .slice A3 x.2.2.2.1.length c3, .slice A4 x.2.2.2.2.length c4] ∧
    (x.2.2.1.length ≤ c2 ∧ Kd.C k59 w A2 x.2.2.1.length x.2.2.1) ∧ (x.2.2.2.1.length ≤ c3 ∧ Kd.C k59 w A3 x.2.2.2.1.length x.2.2.2.1) ∧ (x.2.2.2.2.length ≤ c4 ∧ Kd.C k59 w A4 x.2.2.2.2.length x.2.2.2.2) := by
  obtain ⟨_, _, rfl, rfl, ⟨_, _, rfl, rfl, ⟨_, _, rfl, ⟨A2, c2, rfl, l2, g2⟩, ⟨_, _, rfl, ⟨A3, c3, rfl, l3, g3⟩, ⟨A4, c4, rfl, l4, g4⟩⟩⟩⟩⟩ := h
  exact ⟨A2, c2, A3, c3, A4, c4, rfl, ⟨l2, g2⟩, ⟨l3, g3⟩, ⟨l4, g4⟩⟩
end Go.Proofs.Ytfcmphigmfdceaa.Opens
end
