/- rewrite's rule.of, walked: a question with other labels. -/
import Derived.Test.YtfcmphigmfdceaaXOf
namespace Go.Proofs.Ytfcmphigmfdceaa.Print
open Go.RowKit Go.Proofs.YtfcmphigmfdceaaW.PrintWords Go.Proofs.YtfcmphigmfdceaaW.PrintLast Go.Proofs.YtfcmphigmfdceaaW.PrintMore
set_option linter.unusedVariables false
set_option linter.unusedSimpArgs false
theorem reps_enc {α : Type} {enc : α → Value} {xs : List α} {inner : List Value} (hr : Reps (fun (x : α) (cs : List Value) => cs = [enc x]) 1 xs inner) : inner = encs enc xs := by
  apply List.ext_getElem?
  intro j
  rcases Nat.lt_or_ge j xs.length with hj | hj
  · have h2 := hr.2 j _ (List.getElem?_eq_getElem hj)
    have hl : j < inner.length := by have := hr.1; omega
    have h3 : (inner.drop (j * 1)).take 1 = [enc xs[j]] := h2
    rw [Nat.mul_one, List.drop_eq_getElem_cons hl] at h3
    have h4 : inner[j] = enc xs[j] := by
      have h5 := congrArg List.head? h3
      rw [List.take_succ_cons] at h5
      exact Option.some.inj h5
    rw [List.getElem?_eq_getElem hl, h4]
    simp [encs, List.getElem?_eq_getElem hj]
  · have h3 : inner.length = xs.length := by have := hr.1; omega
    rw [List.getElem?_eq_none (by omega), List.getElem?_eq_none (by rw [encs_length]; omega)]
/-- append(x[:n:n], y...): a full slice that came in, and another one behind it -/
theorem append_full {P : Program} (W : World) (t ty e : TypeId) (ht : P.underlying t = some (.slice e)) (hinfo : (P.info? e).map (fun i => (i.zero, i.size, i.bytes)) = some (some (.string ⟨#[]⟩), 1, 16))
    (A : Option Addr) (n : Nat) (xs : List ByteArray) (hx : Kd.C Kd.string W A n xs) (A3 : Option Addr) (m c3 : Nat) (ys : List ByteArray) (hy : Kd.C Kd.string W A3 m ys) (hl : (n + m) * 16 ≤ 140737488355328) :
    ∃ A1 c1 w1, (Builtin.append_ #[t, t] ty #[.slice A n n, .slice A3 m c3]).run P W = .ok (.slice A1 (n + m) c1) w1 ∧ n + m ≤ c1 ∧ Kd.C Kd.string w1 A1 (n + m) (xs ++ ys) ∧ Below W.heap.size W w1 := by
  obtain ⟨i0, hi, hzz⟩ := Option.map_eq_some_iff.1 hinfo
  simp only [Prod.mk.injEq] at hzz
  obtain ⟨hz0, hz1, hz2⟩ := hzz
  have hxl : xs.length = n := Kd.C_len hx
  have hyl : ys.length = m := Kd.C_len hy
  have fin : ∀ v' w', w'.ownsRow W.heap.size e 1 v' (n + m) (encs Value.string xs ++ encs Value.string ys) → W.grownBy w' none → (Builtin.append_ #[t, t] ty #[.slice A n n, .slice A3 m c3]).run P W = .ok v' w' →
      ∃ A1 c1 w1, (Builtin.append_ #[t, t] ty #[.slice A n n, .slice A3 m c3]).run P W = .ok (.slice A1 (n + m) c1) w1 ∧ n + m ≤ c1 ∧ Kd.C Kd.string w1 A1 (n + m) (xs ++ ys) ∧ Below W.heap.size W w1 := by
    intro v' w' ho hg hr
    have hlen : (xs ++ ys).length = n + m := by rw [List.length_append, hxl, hyl]
    have hR : Kd.R Kd.string e w' W.heap.size (fun _ => True) v' (xs ++ ys) := Kd.R_of_own (by rw [hlen, encs_append]; exact ho) (fun _ _ => trivial)
    obtain ⟨A1, c1, rfl, hle, hC⟩ := Kd.R_reads hR
    rw [hlen] at hle hC hr
    exact ⟨A1, c1, w', hr, hle, hC, (Below.refl _ _).grown hg (Nat.le_refl _) (by simp)⟩
  rcases Nat.eq_zero_or_pos m with h0 | h0
  · subst h0
    obtain rfl : ys = [] := List.eq_nil_of_length_eq_zero hyl
    refine ⟨A, n, W, ?_, by omega, by simpa using hx, Below.refl _ _⟩
    rcases A with _ | ad <;> rcases A3 with _ | ad3 <;> simp [Builtin.append_, run_underlying ht, sizeOf, typeInfo, hi, Builtin.lenOf, Builtin.firstCells, storeCells, loadCells, loadCellsFrom]
  · obtain ⟨ad3, rfl, -⟩ := hy.2.2 h0
    obtain ⟨news, hnr, hnc⟩ := ReadsRow.inner_ hy
    have hne : news = encs Value.string ys := reps_enc hnr
    subst hne
    have hone : ∀ u ∈ encs Value.string ys, u.oneCell' = true := by
      intro u hu
      obtain ⟨s, _, rfl⟩ := List.mem_map.1 hu
      rfl
    rcases Nat.eq_zero_or_pos n with hn | hn
    · subst hn
      obtain rfl : xs = [] := List.eq_nil_of_length_eq_zero hxl
      rcases A with _ | ad
      · obtain ⟨v', w', hrun, r1, r2, _⟩ := run_append_own (P := P) W W.heap.size t ty e i0 (.string ⟨#[]⟩) 1 16 ht hi hz0 hz1 hz2 rfl (by decide) (.slice none 0 0) 0 [] (World.ownsRow_nil W _ e 1) ad3 m c3 (encs Value.string ys) (by rw [encs_length, hyl, Nat.mul_one]) hnc hone (by simp only [maxLen]; omega) (by omega) (Nat.le_refl _)
        exact fin v' w' r1 r2 hrun
      · obtain ⟨v', w', hrun, r1, r2⟩ := run_append_arg_grows (P := P) W t ty e i0 (.string ⟨#[]⟩) 1 16 ht hi hz0 hz1 hz2 rfl (by decide) ad 0 0 [] rfl (fun j u hj => by simp at hj) ad3 m c3 (encs Value.string ys) (by rw [encs_length, hyl, Nat.mul_one]) hnc (by omega) (by simp only [maxLen]; omega) hl
        exact fin v' w' r1 r2 hrun
    · obtain ⟨ad, rfl, -⟩ := hx.2.2 hn
      obtain ⟨olds, hor, hoc⟩ := ReadsRow.inner_ hx
      have hoe : olds = encs Value.string xs := reps_enc hor
      subst hoe
      obtain ⟨v', w', hrun, r1, r2⟩ := run_append_arg_grows (P := P) W t ty e i0 (.string ⟨#[]⟩) 1 16 ht hi hz0 hz1 hz2 rfl (by decide) ad n n (encs Value.string xs) (by rw [encs_length, hxl, Nat.mul_one]) hoc ad3 m c3 (encs Value.string ys) (by rw [encs_length, hyl, Nat.mul_one]) hnc (by omega) (by simp only [maxLen]; omega) hl
      exact fin v' w' r1 r2 hrun
theorem wpList_append_full {P : Program} (w : World) {ops : Array Oper} {rest : List Oper} {o : Oper} {a : Act} {Q : Exit → Act → World → Prop}
    (hg : o.guard = none) (s x : Operand) (t : TypeId) (hop : o.op = Op.call { callee := Callee.builtin Builtin.append, args := #[s, x], argTypes := #[t, t] })
    (e : TypeId) (ht : P.underlying t = some (.slice e)) (hinfo : (P.info? e).map (fun i => (i.zero, i.size, i.bytes)) = some (some (.string ⟨#[]⟩), 1, 16))
    (A : Option Addr) (n : Nat) (xs : List ByteArray) (hs : a.eval s = .slice A n n) (hx : Kd.C Kd.string w A n xs) (A3 : Option Addr) (m c3 : Nat) (ys : List ByteArray) (hsx : a.eval x = .slice A3 m c3) (hy : Kd.C Kd.string w A3 m ys) (hl : (n + m) * 16 ≤ 140737488355328)
    (hK : ∀ A1 c1 w1 L, L = xs ++ ys → L.length ≤ c1 → Kd.C Kd.string w1 A1 L.length L → Below w.heap.size w w1 → wpList P ops Q rest (a.put o.dst (.slice A1 L.length c1)) w1) :
    wpList P ops Q (o :: rest) a w := by
  obtain ⟨A1, c1, w1, hrun, h1, h2, h3⟩ := append_full (P := P) w t o.type e ht hinfo A n xs hx A3 m c3 ys hy hl
  refine wpList_plain hg fun K hK' => ?_
  unfold Oper.wp
  simp [execOp, hop, resolve, invoke, builtin, hs, hsx, hrun, Result.andThen]
  have hlen : (xs ++ ys).length = n + m := Kd.C_len h2
  have h := hK A1 c1 w1 (xs ++ ys) rfl (by rw [hlen]; exact h1) (by rw [hlen]; exact h2) h3
  rw [hlen] at h
  exact hK' _ _ h
theorem bcell {W w1 : World} (hb : Below W.heap.size W w1) : (∀ b o, b < W.heap.size → w1.cell? ⟨b, o, none⟩ = W.cell? ⟨b, o, none⟩) ∧ (∀ b o, b < W.heap.size → w1.frozen? ⟨b, o, none⟩ = W.frozen? ⟨b, o, none⟩) :=
  ⟨fun b o h => hb.cell (p := ⟨b, o, none⟩) h, fun b o h => hb.frozen (p := ⟨b, o, none⟩) h⟩
def rewrite_rule_of.f (_a0_0 : Int) (_a0_1 _a0_2 : ByteArray) (_a0_3 _a0_4 : Int) (_a1_0 : ByteArray) (a1_1 a1_2 : Int) (l2 l3 : List ByteArray) : Option (ByteArray × Int × Int × Bool) :=
  if l2.length + l3.length < 8796093022208 then (name_Of.f (l2 ++ l3)).bind fun t => if t.2 = 0 then some (t.1, a1_1, a1_2, true) else some (⟨#[]⟩, 0, 0, false) else none
set_option maxHeartbeats 4000000 in
set_option maxRecDepth 100000 in
theorem rewrite_rule_of.calls (a0_0 : Int) (a0_1 a0_2 : ByteArray) (a0_3 a0_4 : Int) (a1_0 : ByteArray) (a1_1 a1_2 : Int) (A2 : Option Addr) (c2 : Nat) (l2 : List ByteArray) (A3 : Option Addr) (c3 : Nat) (l3 : List ByteArray) (r1 : ByteArray) (r2 r3 : Int) (r4 : Bool) (w : World)
    (hr2 : Kd.C Kd.string w A2 l2.length l2) (hc2 : l2.length ≤ c2) (hr3 : Kd.C Kd.string w A3 l3.length l3) (hc3 : l3.length ≤ c3) (h : rewrite_rule_of.f a0_0 a0_1 a0_2 a0_3 a0_4 a1_0 a1_1 a1_2 l2 l3 = some (r1, r2, r3, r4)) :
    Calls Try.prog 53 #[.agg #[.int .u8 a0_0, .string a0_1, .string a0_2, .int .u16 a0_3, .int .u16 a0_4], .agg #[.string a1_0, .int .u16 a1_1, .int .u16 a1_2], .slice A2 l2.length c2, .slice A3 l3.length c3] w
      fun e w' => e = .returned (.tuple #[.agg #[.string r1, .int .u16 r2, .int .u16 r3], .bool r4]) ∧ Below w.heap.size w w' := by
  unfold rewrite_rule_of.f at h
  by_cases hl : l2.length + l3.length < 8796093022208
  · rw [if_pos hl] at h
    obtain ⟨⟨s, er⟩, hof, h1⟩ := Option.bind_eq_some_iff.1 h
    have H := Aside0.mk h1
    have HO := Aside0.mk hof
    have HR2 := Aside0.mk hr2
    have HR3 := Aside0.mk hr3
    have HC2 := Aside0.mk hc2
    have hm2 : l2.length ≤ 9223372036854775807 := Kd.C_max hr2
    clear h h1 hof hr2 hr3 hc3
    by_cases h0 : er = 0
    · have hh := H.out
      rw [if_pos h0] at hh
      simp only [Option.some.injEq, Prod.mk.injEq] at hh
      obtain ⟨rfl, rfl, rfl, rfl⟩ := hh
      subst h0
      go_enter Try.func53, Try.ntmps53
      go_wp2_with (first | (at_builtin; refine wpList_append_full _ rfl (.tmp 18) (.tmp 19) 40 rfl 9 Try.underlying40 infoStr A2 l2.length l2 rfl (by (with_reducible repeat (first | exact HR2.out | refine Kd.C_alloc ?_ _))) A3 l3.length c3 l3 rfl (by (with_reducible repeat (first | exact HR3.out | refine Kd.C_alloc ?_ _))) (by omega) ?_; intro A1 c1 w1 L hL hc1 hC1 hb1; have HL := Aside0.mk hL; have HO1 := Aside0.mk hC1; have HB1 := Aside0.mk hb1; clear hL hC1 hb1) | (go_at_call 55; refine (name_Of.calls A1 c1 L s _ w1 HO1.out hc1 (by rw [HL.out]; exact HO.out)).mono ?_; rintro e w2 ⟨rfl, hb2⟩; obtain ⟨hc, hf⟩ := bcell (HB1.out.trans (below_to hb2 HB1.out.size)); have hz := (HB1.out.trans (below_to hb2 HB1.out.size)).size; simp at hz; have HB2 := Aside0.mk (HB1.out.trans (below_to hb2 HB1.out.size)); clear hb2))
      refine bodyPost_ret (v := .tuple #[.agg #[.string s, .int .u16 a1_1, .int .u16 a1_2], .bool true]) (by simp [results, Try.results53, go_sem, hc, hf, hz]) rfl ⟨rfl, ?_⟩
      have HB0 := (below_alloc (below_alloc (below_alloc (Below.refl w.heap.size w) (.cells #[.int .u8 a0_0, .string a0_1, .string a0_2, .int .u16 a0_3, .int .u16 a0_4] 82)) (.cells #[.string a1_0, .int .u16 a1_1, .int .u16 a1_2] 32)) (.cells #[.string ⟨#[]⟩, .int .u16 0, .int .u16 0] 32)).trans (below_to HB2.out (by simp; omega))
      repeat (first | exact HB0 | refine Below.setCell ?_ (by first | (simp; done) | (simp; omega)) _)
    · have hh := H.out
      rw [if_neg h0] at hh
      simp only [Option.some.injEq, Prod.mk.injEq] at hh
      obtain ⟨rfl, rfl, rfl, rfl⟩ := hh
      go_enter Try.func53, Try.ntmps53
      go_wp2_with (first | (at_builtin; refine wpList_append_full _ rfl (.tmp 18) (.tmp 19) 40 rfl 9 Try.underlying40 infoStr A2 l2.length l2 rfl (by (with_reducible repeat (first | exact HR2.out | refine Kd.C_alloc ?_ _))) A3 l3.length c3 l3 rfl (by (with_reducible repeat (first | exact HR3.out | refine Kd.C_alloc ?_ _))) (by omega) ?_; intro A1 c1 w1 L hL hc1 hC1 hb1; have HL := Aside0.mk hL; have HO1 := Aside0.mk hC1; have HB1 := Aside0.mk hb1; clear hL hC1 hb1) | (go_at_call 55; refine (name_Of.calls A1 c1 L s _ w1 HO1.out hc1 (by rw [HL.out]; exact HO.out)).mono ?_; rintro e w2 ⟨rfl, hb2⟩; obtain ⟨hc, hf⟩ := bcell (HB1.out.trans (below_to hb2 HB1.out.size)); have hz := (HB1.out.trans (below_to hb2 HB1.out.size)).size; simp at hz; have HB2 := Aside0.mk (HB1.out.trans (below_to hb2 HB1.out.size)); clear hb2))
      refine bodyPost_ret (v := .tuple #[.agg #[.string ⟨#[]⟩, .int .u16 0, .int .u16 0], .bool false]) (by simp [results, Try.results53, go_sem, hc, hf, hz]) rfl ⟨rfl, ?_⟩
      have HB0 := (below_alloc (below_alloc (below_alloc (Below.refl w.heap.size w) (.cells #[.int .u8 a0_0, .string a0_1, .string a0_2, .int .u16 a0_3, .int .u16 a0_4] 82)) (.cells #[.string a1_0, .int .u16 a1_1, .int .u16 a1_2] 32)) (.cells #[.string ⟨#[]⟩, .int .u16 0, .int .u16 0] 32)).trans (below_to HB2.out (by simp; omega))
      repeat (first | exact HB0 | refine Below.setCell ?_ (by first | (simp; done) | (simp; omega)) _)
  · rw [if_neg hl] at h
    exact absurd h (by simp)
end Go.Proofs.Ytfcmphigmfdceaa.Print
