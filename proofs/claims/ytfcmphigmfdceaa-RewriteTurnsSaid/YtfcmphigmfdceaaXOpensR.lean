/- Records and answers, read as data, are told by their kinds. -/
import Derived.Test.YtfcmphigmfdceaaXOpens
import Derived.Test.YtfcmphigmfdceaaKindsR
namespace Go.Proofs.Ytfcmphigmfdceaa.Opens
open Go.RowKit Go.Proofs.YtfcmphigmfdceaaW.PrintWords Go.Proofs.YtfcmphigmfdceaaW.PrintLast Go.Proofs.YtfcmphigmfdceaaW.PrintMore Go.Proofs.Ytfcmphigmfdceaa.Print
set_option linter.unusedVariables false
set_option linter.unusedSimpArgs false
theorem opens_arr5 {P : Program} {t E : TypeId} {k : IntKind} (h : P.underlying t = some (.array 5 E)) (he : P.underlying E = some (.int k)) (hc : P.cellsOf E = 1) (ht : P.cellsOf t = 5) :
    Opens P t (Kd.pair (Kd.int k) (Kd.pair (Kd.int k) (Kd.pair (Kd.int k) (Kd.pair (Kd.int k) (Kd.int k))))) (fun _ => True) := by
  intro H enc w base spare held fuel cs y hy
  cases fuel with
  | zero => simp [DataW.trod] at hy
  | succ n =>
    unfold DataW.trod at hy
    rw [h] at hy
    dsimp only at hy
    split at hy
    · rename_i hl
      simp only [Option.map_eq_some_iff] at hy
      obtain ⟨ys, hys, _⟩ := hy
      rw [ht] at hl
      obtain ⟨_, hg⟩ := mapM_get hys
      have key : ∀ i, i < 5 → ∃ x, (cs.drop i).take 1 = [Value.int k x] := fun i hi => by
        obtain ⟨yy, hyy⟩ := hg i i (by rw [List.getElem?_range hi])
        rw [hc, Nat.mul_one] at hyy
        obtain ⟨x, hx, _⟩ := opens_int he H enc w base spare held n _ yy hyy
        exact ⟨x, hx⟩
      clear hys hg
      match cs, hl with
      | [c0, c1, c2, c3, c4], _ =>
        obtain ⟨x0, h0⟩ := key 0 (by omega)
        obtain ⟨x1, h1⟩ := key 1 (by omega)
        obtain ⟨x2, h2⟩ := key 2 (by omega)
        obtain ⟨x3, h3⟩ := key 3 (by omega)
        obtain ⟨x4, h4⟩ := key 4 (by omega)
        simp at h0 h1 h2 h3 h4
        subst h0; subst h1; subst h2; subst h3; subst h4
        exact ⟨(x0, x1, x2, x3, x4), ⟨[_], [_, _, _, _], rfl, rfl, ⟨[_], [_, _, _], rfl, rfl, ⟨[_], [_, _], rfl, rfl, ⟨[_], [_], rfl, rfl, rfl⟩⟩⟩⟩, trivial⟩
    · simp at hy
theorem opens55 : Opens Try.prog 55 k55 (fun _ => True) := by
  have h := opens_iso (opens_arr5 Try.underlying55 Try.underlying54 (by kernel_rfl) (by kernel_rfl)) (fun x : S55 => (x.f0, x.f1, x.f2, x.f3, x.f4)) (fun y => ⟨y.1, y.2.1, y.2.2.1, y.2.2.2.1, y.2.2.2.2⟩) (fun _ => rfl)
  exact h
theorem opens57 : Opens Try.prog 57 k57 (fun _ => True) := by
  have h := opens_iso (opens_struct Try.underlying57 (by kernel_rfl) (opensF_cons rfl (by kernel_rfl) (opens_string (by kernel_rfl)) (opensF_cons rfl (by kernel_rfl) (opens_string (by kernel_rfl)) (opensF_cons rfl (by kernel_rfl) (opens_string (by kernel_rfl)) (opensF_one rfl (by kernel_rfl) opens55))))) (fun x : S57 => (x.f0, x.f1, x.f2, x.f3)) (fun y => ⟨y.1, y.2.1, y.2.2.1, y.2.2.2⟩) (fun _ => rfl)
  intro H enc w base spare held fuel cs y hy
  obtain ⟨x, hk, _⟩ := h H enc w base spare held fuel cs y hy
  exact ⟨x, hk, trivial⟩
theorem opens59 : Opens Try.prog 59 k59 (fun x => x.f0.size ≤ maxLen) := by
  have h := opens_iso (opens_struct Try.underlying59 (by kernel_rfl) (opensF_cons rfl (by kernel_rfl) (opens_string (by kernel_rfl)) (opensF_cons rfl (by kernel_rfl) (opens_int (k := .u16) (by kernel_rfl)) (opensF_cons rfl (by kernel_rfl) (opens_int (k := .u16) (by kernel_rfl)) (opensF_cons rfl (by kernel_rfl) (opens_int (k := .u32) (by kernel_rfl)) (opensF_one rfl (by kernel_rfl) opens57)))))) (fun x : S59 => (x.f0, x.f1, x.f2, x.f3, x.f4)) (fun y => ⟨y.1, y.2.1, y.2.2.1, y.2.2.2.1, y.2.2.2.2⟩) (fun _ => rfl)
  intro H enc w base spare held fuel cs y hy
  obtain ⟨x, hk, hw⟩ := h H enc w base spare held fuel cs y hy
  exact ⟨x, hk, hw.1⟩
theorem opens43 : Opens Try.prog 43 (Kd.slice 59 k59) (fun xs => ∀ x ∈ xs, x.f0.size ≤ maxLen) := opens_slice Try.underlying43 (by kernel_rfl) opens59
def k45 : Kd (Int × Bool × List S59 × List S59 × List S59) := Kd.pair (Kd.int .u16) (Kd.pair Kd.bool (Kd.pair (Kd.slice 59 k59) (Kd.pair (Kd.slice 59 k59) (Kd.slice 59 k59))))
theorem opens45 : Opens Try.prog 45 k45 (fun x => ∀ r ∈ x.2.2.1, r.f0.size ≤ maxLen) := by
  have h := opens_struct Try.underlying45 (by kernel_rfl) (opensF_cons rfl (by kernel_rfl) (opens_int (k := .u16) (by kernel_rfl)) (opensF_cons rfl (by kernel_rfl) (opens_bool (by kernel_rfl)) (opensF_cons rfl (by kernel_rfl) opens43 (opensF_cons rfl (by kernel_rfl) opens43 (opensF_one rfl (by kernel_rfl) opens43)))))
  intro H enc w base spare held fuel cs y hy
  obtain ⟨x, hk, hw⟩ := h H enc w base spare held fuel cs y hy
  exact ⟨x, hk, hw.2.2.1⟩
theorem k45_open {w : World} {x : Int × Bool × List S59 × List S59 × List S59} {cs : List Value} (h : k45.K w x cs) : ∃ A2 c2 A3 c3 A4 c4, cs = [.int .u16 x.1, .bool x.2.1, .slice A2 x.2.2.1.length c2, .slice A3 x.2.2.2.1.length c3, .slice A4 x.2.2.2.2.length c4] ∧
    (x.2.2.1.length ≤ c2 ∧ Kd.C k59 w A2 x.2.2.1.length x.2.2.1) ∧ (x.2.2.2.1.length ≤ c3 ∧ Kd.C k59 w A3 x.2.2.2.1.length x.2.2.2.1) ∧ (x.2.2.2.2.length ≤ c4 ∧ Kd.C k59 w A4 x.2.2.2.2.length x.2.2.2.2) := by
  obtain ⟨_, _, rfl, rfl, ⟨_, _, rfl, rfl, ⟨_, _, rfl, ⟨A2, c2, rfl, l2, g2⟩, ⟨_, _, rfl, ⟨A3, c3, rfl, l3, g3⟩, ⟨A4, c4, rfl, l4, g4⟩⟩⟩⟩⟩ := h
  exact ⟨A2, c2, A3, c3, A4, c4, rfl, ⟨l2, g2⟩, ⟨l3, g3⟩, ⟨l4, g4⟩⟩
end Go.Proofs.Ytfcmphigmfdceaa.Opens
