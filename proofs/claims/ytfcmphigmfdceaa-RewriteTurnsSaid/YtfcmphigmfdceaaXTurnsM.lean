/- Some texts of the proof in one: F27, XRefP, F15, F10, XAskLaws, XTurnsP, XTurnsB, XBits, XArrEq, Eq59, XTurnsC. -/
import Derived.Test.YtfcmphigmfdceaaKinds
import Derived.Test.YtfcmphigmfdceaaF33
import Derived.Test.YtfcmphigmfdceaaXAskP
import Derived.Test.YtfcmphigmfdceaaXOrder
import Derived.Test.YtfcmphigmfdceaaF19
import Derived.Test.YtfcmphigmfdceaaEq32
import Derived.Test.YtfcmphigmfdceaaXAsk
import Derived.Test.YtfcmphigmfdceaaF18
import Derived.Test.YtfcmphigmfdceaaKindsR
import Derived.Test.YtfcmphigmfdceaaF22
import Derived.WalkKit
import Derived.ChangeKeysEq
import Derived.Tactics
import Derived.Test.YtfcmphigmfdceaaWTab
import Derived.Test.YtfcmphigmfdceaaF26
section
-- Written by a program of this session, built on the kit's print (it is not the print's own text).
namespace Go.Proofs.Ytfcmphigmfdceaa.Print
open Go.RowKit Go.Proofs.YtfcmphigmfdceaaW.PrintWords Go.Proofs.YtfcmphigmfdceaaW.PrintLast Go.Proofs.YtfcmphigmfdceaaW.PrintMore
set_option linter.unusedVariables false
set_option linter.unusedSimpArgs false

/-! ### hearsayref01_Is: function 27 -/
def hearsayref01_Is.f (k : Nat) (a0 : ByteArray) : Option (Bool) := (hearsayref01_Split.f k a0).bind fun bt126 => (some bt126.2)
theorem hearsayref01_Is.mono : ∀ a0 k, LeO (hearsayref01_Is.f k a0) (hearsayref01_Is.f (k + 1) a0) := by
  intro a0 k
  unfold hearsayref01_Is.f
  repeat' first
      | (with_reducible exact hearsayref01_Split.mono _ _)
      | (with_reducible exact LeO.refl _)
      | (with_reducible exact LeO.none _)
      | (with_reducible refine LeO.ite ?_ ?_)
      | (with_reducible refine LeO.bind ?_ (fun _ => ?_))
      | exact hearsayref01_Split.mono _ _
      | exact LeO.none _
      | refine LeO.ite ?_ ?_
      | refine LeO.bind ?_ (fun _ => ?_)
set_option maxHeartbeats 8000000 in
set_option maxRecDepth 100000 in
theorem hearsayref01_Is.calls (k : Nat) (a0 : ByteArray) (r : Bool) (w : World) (h : hearsayref01_Is.f k a0 = some r) :
    Calls Try.prog 27 #[.string a0] w fun e w' => e = .returned (.bool r) ∧ Below w.heap.size w w' := by
  have HB := Aside0.mk (Below.refl w.heap.size w)
  have H : ((hearsayref01_Split.f k a0).bind fun bt126 => (some bt126.2)) = some r := h
  clear h
  replace H := Option.bind_eq_some_iff.mp H
  obtain ⟨⟨t126, t127⟩, A20, H⟩ := H
  replace H : (some t127) = some r := H
  have A2 := Aside0.mk A20
  clear A20
  obtain rfl := Option.some.inj H
  go_enter Try.func27, Try.ntmps27
  go_wp2_with (first | ((with_reducible refine gate_callee (f := 33) rfl ?_); refine goesL_ (some 7) rfl rfl Try.func33 (by kernel_rfl) rfl #[.string a0] rfl (by (try simp only [List.map_toArray, List.map_cons, List.map_nil]); first | done | rfl | (simp only [List.length_drop, List.length_take]; rfl)) ?_; (with_reducible refine (hearsayref01_Split.calls k a0 t126 t127 _ A2.out).mono ?_); rintro e w3 ⟨v128, rfl, ho0, hb⟩; refine ⟨_, rfl, ?_⟩; have n0_ := Aside0.mk (Kd.R_lower ho0 (below_size (by repeat (first | (with_reducible first | exact HB.out | apply below_alloc | apply pw_below_drewN | apply below_drew1) | exact HB.out)))); have n1_ := Aside0.mk (below_step (by repeat (first | (with_reducible first | exact HB.out | apply below_alloc | apply pw_below_drewN | apply below_drew1) | exact HB.out)) hb); clear HB; have HO129 := n0_; have HB := n1_; clear n0_ n1_; (try clear hb); (try clear hb2); (try clear hk); (try clear hi); (try clear ho0)))
  go_ret
  exact ⟨by first | rfl | (simp [errW_none, errW_some] <;> rfl) | (simp [*, errW_none, errW_some] <;> rfl), by repeat (first | (with_reducible first | exact HB.out | apply below_alloc | apply pw_below_drewN | apply below_drew1) | exact HB.out)⟩

end Go.Proofs.Ytfcmphigmfdceaa.Print
end
section
/- What a rule makes of a question, as the document puts it: plain laws without its functions. -/
namespace Go.Proofs.Ytfcmphigmfdceaa.Print
open Go.RowKit Go.Proofs.YtfcmphigmfdceaaW.PrintWords Go.Proofs.YtfcmphigmfdceaaW.PrintLast Go.Proofs.YtfcmphigmfdceaaW.PrintMore
set_option linter.unusedVariables false
set_option linter.unusedSimpArgs false
theorem is_f (n : ByteArray) : Ev (fun k => hearsayref01_Is.f k n) (dec n).isSome := by
  obtain ⟨l', hE, hL⟩ := split_f n
  exact Ev.bind (f := fun _ (x : List ByteArray × Bool) => some x.2) hE (Ev.now _)
theorem rlabels_f (n : ByteArray) : Ev (fun k => hearsayref01_Labels.f k n) ((dec n).getD []) := by
  obtain ⟨l', hE, hL⟩ := split_f n
  refine Ev.bind (f := fun _ (x : List ByteArray × Bool) => if x.2 = true then some x.1 else some []) hE ?_
  cases h : dec n with
  | none => exact Ev.now _
  | some L => rw [hL L h]; exact Ev.now _
def rAlike (A B : List ByteArray) : Bool := decide (A.map lowS = B.map lowS)
theorem dec_mem {n : ByteArray} {s : ByteArray} (hs : s ∈ (dec n).getD []) : s.size ≤ 9223372036854775807 := by
  cases h : dec n with
  | none => rw [h] at hs; simp at hs
  | some L => rw [h] at hs; have := label_small h (s := s) (by simpa using hs); omega
/-- what the document makes of a question -/
def makesP (q : S32) (x : S38) : S32 × Bool :=
  if x.f0 = 4 then (if q.f1 = x.f3 then (⟨q.f0, x.f4, q.f2⟩, true) else (z32, false))
  else
    let L := (dec q.f0).getD []
    let F := (dec x.f1).getD []
    let T := (dec x.f2).getD []
    if L.length < F.length ∨ (x.f0 = 1 ∧ F.length < L.length) then (z32, false)
    else if x.f0 = 3 then (if rAlike (L.take F.length) F then ofP (T ++ L.drop F.length) q else (z32, false))
    else (if rAlike (L.drop (L.length - F.length)) F then ofP (L.take (L.length - F.length) ++ T) q else (z32, false))
theorem rAlike_keys {L M : List ByteArray} : rAlike L M = true ↔ L.map keyB = M.map keyB := by
  unfold rAlike; rw [decide_eq_true_iff]; exact keys_low.symm
theorem cmp_alikeL {a b : ByteArray} {L M : List ByteArray} (ha : dec a = some L) (hb : dec b = some M) : cmpP a b = 0 ↔ rAlike L M = true := by
  rw [cmp_key, rAlike_keys]
  unfold keyN
  rw [ha, hb]
  simp only [cK]
  rw [lex_zero (lex_zero cI_zero), List.map_reverse, List.map_reverse, List.reverse_inj]
theorem of_fine {L : List ByteArray} (h : L.any badLab = false) (hl : (glue L).length + 1 ≤ 255) : (name_Of.f L).getD (⟨#[]⟩, 1) = (nameOf L, 0) := by
  rw [of_def, if_neg (by rw [h]; simp), if_neg (by omega)]
theorem ofP_dec {n : ByteArray} {L : List ByteArray} (h : dec n = some L) (q : S32) : ofP L q = (⟨n, q.f1, q.f2⟩, true) := by
  unfold ofP
  have h1 := dec_size h
  have h2 := dec_some h
  rw [of_fine h2.2.2 (by omega)]
  simp only [if_true]
  rw [nameOf_dec h]
theorem take_fine {L : List ByteArray} (h : L.any badLab = false) (j : Nat) : (L.take j).any badLab = false := by
  rw [List.any_eq_false] at h ⊢
  exact fun x hx => h x (List.mem_of_mem_take hx)
theorem makes_do {q : S32} {x : S38} (hx : ruleOk x = true) (hq : (dec q.f0).isSome = true) : makesP q x = doP q x := by
  obtain ⟨L, hL⟩ := Option.isSome_iff_exists.1 hq
  unfold ruleOk at hx
  by_cases kk : x.f0 = 1 ∨ x.f0 = 2 ∨ x.f0 = 3
  · rw [if_pos kk] at hx
    simp only [Bool.and_eq_true, decide_eq_true_eq] at hx
    obtain ⟨F, hF⟩ := Option.isSome_iff_exists.1 hx.1.1.1
    obtain ⟨T, hT⟩ := Option.isSome_iff_exists.1 hx.1.1.2
    unfold makesP doP
    rw [if_neg (show ¬ x.f0 = 4 by omega)]
    simp only [hL, hF, hT, Option.getD_some]
    have sL := dec_some hL
    have zL := dec_size hL
    rcases kk with k1 | k2 | k3
    · rw [if_pos k1, if_neg (show ¬ x.f0 = 3 by omega)]
      by_cases hl : L.length = F.length
      · rw [if_neg (by omega), hl, Nat.sub_self, List.drop_zero, List.take_zero, List.nil_append, ofP_dec hT]
        by_cases ha : rAlike L F = true
        · rw [if_pos ha, if_pos ((cmp_alikeL hL hF).2 ha)]
        · rw [if_neg ha, if_neg (fun h => ha ((cmp_alikeL hL hF).1 h))]
      · have hne : ¬ cmpP q.f0 x.f1 = 0 := fun h => hl (by
          have h1 := (cmp_alikeL hL hF).1 h
          have h2 := congrArg List.length (rAlike_keys.1 h1)
          simpa using h2)
        rw [if_pos (by omega), if_neg hne]
    · rw [if_neg (show ¬ x.f0 = 1 by omega), if_pos k2, if_neg (show ¬ x.f0 = 3 by omega)]
      by_cases hl : L.length < F.length
      · have hu : underP q.f0 x.f1 = false := by unfold underP; rw [hL, hF]; simp only; rw [if_pos hl]
        rw [if_pos (Or.inl hl), hu]
        rfl
      · rw [if_neg (by omega)]
        have hg := glue_drop hL (L.length - F.length)
        have hd : dec (nameOf (L.drop (L.length - F.length))) = some (L.drop (L.length - F.length)) := dec_nameOf (drop_fine sL.2.2 _) hg
        have hu : underP q.f0 x.f1 = rAlike (L.drop (L.length - F.length)) F := by
          unfold underP; rw [hL, hF]; simp only; rw [if_neg hl, Bool.eq_iff_iff, rAlike_keys, ← alike_iff hd hF, beq_iff_eq, toList_eq]
        rw [hu]
    · rw [if_neg (show ¬ x.f0 = 1 by omega), if_neg (show ¬ x.f0 = 2 by omega), if_pos k3, if_pos k3]
      by_cases hl : L.length < F.length
      · rw [if_pos (Or.inl hl), if_pos hl]
      · rw [if_neg (by omega), if_neg hl]
        have hg : (glue (L.take F.length)).length ≤ (glue L).length := glue_mono L F.length
        have hd : dec (nameOf (L.take F.length)) = some (L.take F.length) := dec_nameOf (take_fine sL.2.2 _) (by omega)
        rw [of_fine (take_fine sL.2.2 _) (by omega)]
        simp only [true_and]
        by_cases ha : rAlike (L.take F.length) F = true
        · rw [if_pos ha, if_pos ((cmp_alikeL hd hF).2 ha)]
        · rw [if_neg ha, if_neg (fun h => ha ((cmp_alikeL hd hF).1 h))]
  · rw [if_neg kk] at hx
    by_cases k4 : x.f0 = 4
    · unfold makesP doP
      rw [if_pos k4, if_neg (show ¬ x.f0 = 1 by omega), if_neg (show ¬ x.f0 = 2 by omega), if_neg (show ¬ x.f0 = 3 by omega)]
    · rw [if_neg k4] at hx; exact absurd hx (by simp)
def firstP (D : S38 → S32 × Bool) (l : List S38) : S32 × Bool := match mades D l with | y :: _ => (y, true) | [] => (z32, false)
theorem firstP_yes {D : S38 → S32 × Bool} {x : S38} {l : List S38} (h : (D x).2 = true) : firstP D (x :: l) = ((D x).1, true) := by unfold firstP mades; rw [List.filterMap_cons]; simp [h]
theorem firstP_no {D : S38 → S32 × Bool} {x : S38} {l : List S38} (h : (D x).2 = false) : firstP D (x :: l) = firstP D l := by unfold firstP mades; rw [List.filterMap_cons]; simp [h]
theorem askP_first (l : List S38) (q : S32) : askP l q = if checkP l = 0 then if (dec q.f0).isSome then firstP (doP q) l else (z32, false) else (z32, false) := rfl
theorem check_all {l : List S38} (h : checkP l = 0) : l.length ≤ 32 ∧ ∀ x ∈ l, ruleOk x = true := by
  unfold checkP at h
  split at h
  · omega
  · rename_i h1
    split at h
    · rename_i h2; exact ⟨by omega, List.all_eq_true.1 h2⟩
    · omega
end Go.Proofs.Ytfcmphigmfdceaa.Print
end
section
-- Written by a program of this session, built on the kit's print (it is not the print's own text).
namespace Go.Proofs.Ytfcmphigmfdceaa.Print
open Go.RowKit Go.Proofs.YtfcmphigmfdceaaW.PrintWords Go.Proofs.YtfcmphigmfdceaaW.PrintLast Go.Proofs.YtfcmphigmfdceaaW.PrintMore
set_option linter.unusedVariables false
set_option linter.unusedSimpArgs false

attribute [local go_sem high] eqA32
/-! ### hearsaylaw25_asks: function 15 -/
def hearsaylaw25_asks.f  : Option (Bool) := (rewrite_Ask.f (([(⟨2, (⟨#[1, 98, 0]⟩ : ByteArray), (⟨#[1, 99, 1, 100, 0]⟩ : ByteArray), 0, 0⟩ : S38)] : List (S38))) (⟨#[1, 88, 1, 66, 0]⟩ : ByteArray) 1 1).bind fun bt145 => (if bt145.2.2.2 = true then (some (bt145.1.toList == ([1, 88, 1, 99, 1, 100, 0] : List UInt8) && (bt145.2.1 == 1 && (bt145.2.2.1 == 1)))) else (some false))
set_option maxHeartbeats 8000000 in
set_option maxRecDepth 100000 in
theorem hearsaylaw25_asks.calls  (r : Bool) (w : World) (h : hearsaylaw25_asks.f  = some r) :
    Calls Try.prog 15 #[] w fun e w' => e = .returned (.bool r) ∧ Below w.heap.size w w' := by
  have hu38 := Try.underlying38
  have hu32 := Try.underlying32
  have HB := Aside0.mk (Below.refl w.heap.size w)
  have H : ((rewrite_Ask.f (([(⟨2, (⟨#[1, 98, 0]⟩ : ByteArray), (⟨#[1, 99, 1, 100, 0]⟩ : ByteArray), 0, 0⟩ : S38)] : List (S38))) (⟨#[1, 88, 1, 66, 0]⟩ : ByteArray) 1 1).bind fun bt145 => (if bt145.2.2.2 = true then (some (bt145.1.toList == ([1, 88, 1, 99, 1, 100, 0] : List UInt8) && (bt145.2.1 == 1 && (bt145.2.2.1 == 1)))) else (some false))) = some r := h
  clear h
  obtain ⟨y142, hy142⟩ : ∃ y_ : List (S38), y_ = (([(⟨2, (⟨#[1, 98, 0]⟩ : ByteArray), (⟨#[1, 99, 1, 100, 0]⟩ : ByteArray), 0, 0⟩ : S38)] : List (S38))) := ⟨_, rfl⟩
  replace H : ((rewrite_Ask.f y142 (⟨#[1, 88, 1, 66, 0]⟩ : ByteArray) 1 1).bind fun bt145 => (if bt145.2.2.2 = true then (some (bt145.1.toList == ([1, 88, 1, 99, 1, 100, 0] : List UInt8) && (bt145.2.1 == 1 && (bt145.2.2.1 == 1)))) else (some false))) = some r := by first | (rw [hy142]; with_reducible exact H) | (have H2_ := (Option.bind_some _ _).symm.trans H; rw [hy142]; with_reducible exact H2_) | (have H2_ := (Option.bind_some _ _).symm.trans H; with_reducible exact H2_) | with_reducible exact H | (rw [hy142]; exact H) | exact H
  have Ny142 := Aside0.mk hy142
  clear hy142
  replace H := Option.bind_eq_some_iff.mp H
  obtain ⟨⟨t145, t146, t147, t148⟩, A10, H⟩ := H
  replace H : (if t148 = true then (some (t145.toList == ([1, 88, 1, 99, 1, 100, 0] : List UInt8) && (t146 == 1 && (t147 == 1)))) else (some false)) = some r := H
  have A1 := Aside0.mk A10
  clear A10
  by_cases c2 : t148 = true
  · subst c2
    have H1 : (some (t145.toList == ([1, 88, 1, 99, 1, 100, 0] : List UInt8) && (t146 == 1 && (t147 == 1)))) = some r := by rw [if_pos rfl] at H; exact H
    clear H
    have H := H1
    clear H1
    obtain rfl := Option.some.inj H
    go_enter Try.func15, Try.ntmps15
    go_wp2_with (first | ((with_reducible refine gate_dst (N := 5) rfl ?_); refine Kd.R_lit k38 _ 38 ?hg (N := 5) ?hd (xs := ([(⟨2, (⟨#[1, 98, 0]⟩ : ByteArray), (⟨#[1, 99, 1, 100, 0]⟩ : ByteArray), 0, 0⟩ : S38)] : List (S38))) (inner := [.int .u8 2, .string (⟨#[1, 98, 0]⟩ : ByteArray), .string (⟨#[1, 99, 1, 100, 0]⟩ : ByteArray), .int .u16 0, .int .u16 0]) (ok := fun _ => True) (okp := fun _ => True) ?hr ?hp (fun _ hk => hk) trivial (Below.refl _ _) (Nat.le_refl _) (by simp) ?_; (case hd => rfl); (case hg => rfl); (case hr => first | (go_simp; done) | (go_simp; rfl)); (case hp => exact (Reps.c5 (show Kd.M k38 _ _ _ (⟨2, (⟨#[1, 98, 0]⟩ : ByteArray), (⟨#[1, 99, 1, 100, 0]⟩ : ByteArray), 0, 0⟩ : S38) [.int .u8 2, .string (⟨#[1, 98, 0]⟩ : ByteArray), .string (⟨#[1, 99, 1, 100, 0]⟩ : ByteArray), .int .u16 0, .int .u16 0] from (k38_mkM _ _ _ (⟨2, (⟨#[1, 98, 0]⟩ : ByteArray), (⟨#[1, 99, 1, 100, 0]⟩ : ByteArray), 0, 0⟩ : S38) )) (Reps.none _ _))); intro v143 w3 ho4 hb hg_ hnew_; clear hg_ hnew_; (first | rw [← Ny142.out] at ho4 | (simp only [Int.reduceToNat] at ho4; rw [← Ny142.out] at ho4)); have n0_ := Aside0.mk (Kd.R_lower ho4 (below_size (by repeat (first | (with_reducible first | exact HB.out | apply below_alloc | apply pw_below_drewN | apply below_drew1) | exact HB.out)))); have n1_ := Aside0.mk (below_step (by repeat (first | (with_reducible first | exact HB.out | apply below_alloc | apply pw_below_drewN | apply below_drew1) | exact HB.out)) hb); clear HB; have HO144 := n0_; have HB := n1_; clear n0_ n1_; clear hb ho4; obtain ⟨Ao5, co5, eo5⟩ := Kd.R_slice HO144.out; subst eo5) | ((with_reducible refine gate_callee (f := 16) rfl ?_); refine goesL_ (some 7) rfl rfl Try.func16 (by kernel_rfl) rfl #[.slice Ao5 y142.length co5, .agg #[.string (⟨#[1, 88, 1, 66, 0]⟩ : ByteArray), .int .u16 1, .int .u16 1]] rfl (by (try simp only [List.map_toArray, List.map_cons, List.map_nil]); first | done | rfl | (simp only [List.length_drop, List.length_take]; rfl)) ?_; (with_reducible refine (rewrite_Ask.calls _ _ y142 (⟨#[1, 88, 1, 66, 0]⟩ : ByteArray) 1 1 t145 t146 t147 true _ ?side1 ?side2 A1.out).mono ?_); (case side1 => repeat (first | exact (Kd.R_reads' HO144.out).2.2 | (with_reducible refine Kd.C_alloc ?_ _) | (with_reducible refine Kd.C_drewN ?_ _) | (with_reducible refine Kd.C_drew ?_))); (case side2 => exact (Kd.R_reads' HO144.out).2.1); rintro e w6 ⟨rfl, hb⟩; refine ⟨_, rfl, ?_⟩; have n0_ := Aside0.mk (Kd.R_below (by (with_reducible repeat (first | apply Kd.R_alloc | apply Kd.R_drewN | apply Kd.R_drew)); exact HO144.out) hb); have n1_ := Aside0.mk (below_step (by repeat (first | (with_reducible first | exact HB.out | apply below_alloc | apply pw_below_drewN | apply below_drew1) | exact HB.out)) hb); clear HO144; clear HB; have HO144 := n0_; have HB := n1_; clear n0_ n1_; (try clear hb); (try clear hb2); (try clear hk); (try clear hi)) | ((with_reducible refine gate_dst (N := 1) rfl ?_); refine box_event ?hg (N := 1) ?hd (cs := #[.string (⟨#[]⟩ : ByteArray), .int .u16 0, .int .u16 0]) (t := 32) ?hr ?_; (case hd => rfl); (case hg => rfl); (case hr => first | (go_simp; done) | (go_simp; rfl)); intro gb149 hg w7 hbox hb; have n0_ := Aside0.mk (Kd.R_below (by (with_reducible repeat (first | apply Kd.R_alloc | apply Kd.R_drewN | apply Kd.R_drew)); exact HO144.out) hb); have n1_ := Aside0.mk (below_step (by repeat (first | (with_reducible first | exact HB.out | apply below_alloc | apply pw_below_drewN | apply below_drew1) | exact HB.out)) hb); have n2_ := Aside0.mk (hbox); have n3_ := Aside0.mk ((by rw [hg]; exact (below_size (by repeat (first | (with_reducible first | exact HB.out | apply below_alloc | apply pw_below_drewN | apply below_drew1) | exact HB.out))) : w.heap.size ≤ gb149)); have n4_ := Aside0.mk ((by rw [hg]; exact (below_size (by repeat (first | (with_reducible first | exact HB.out | apply below_alloc | apply pw_below_drewN | apply below_drew1) | exact HB.out))) : w.heap.size ≤ gb149)); clear HO144; clear HB; have HO144 := n0_; have HB := n1_; have BK149 := n2_; have GW149 := n3_; have GE149 := n4_; clear n0_ n1_ n2_ n3_ n4_; clear hb hbox hg; have hcz8_0 : w7.cell? ⟨gb149, 0, none⟩ = some (.string (⟨#[]⟩ : ByteArray)) := (blk_cell BK149.out 0).trans rfl; have hcz8_1 : w7.cell? ⟨gb149, 1, none⟩ = some (.int .u16 0) := (blk_cell BK149.out 1).trans rfl; have hcz8_2 : w7.cell? ⟨gb149, 2, none⟩ = some (.int .u16 0) := (blk_cell BK149.out 2).trans rfl; have hfz8_0 := blk_frozen BK149.out 0; have hfz8_1 := blk_frozen BK149.out 1; have hfz8_2 := blk_frozen BK149.out 2))
    go_ret
    exact ⟨by first | rfl | (simp [errW_none, errW_some] <;> rfl) | (simp [*, errW_none, errW_some] <;> rfl), by repeat (first | (with_reducible first | exact HB.out | apply below_alloc | apply pw_below_drewN | apply below_drew1 | refine below_set ?_ GE149.out) | exact HB.out)⟩
  · replace c2 := Bool.eq_false_iff.mpr c2
    subst c2
    have H1 : (some false) = some r := by rw [if_neg (show ¬ (false = true) by decide)] at H; exact H
    clear H
    have H := H1
    clear H1
    obtain rfl := Option.some.inj H
    go_enter Try.func15, Try.ntmps15
    go_wp2_with (first | ((with_reducible refine gate_dst (N := 5) rfl ?_); refine Kd.R_lit k38 _ 38 ?hg (N := 5) ?hd (xs := ([(⟨2, (⟨#[1, 98, 0]⟩ : ByteArray), (⟨#[1, 99, 1, 100, 0]⟩ : ByteArray), 0, 0⟩ : S38)] : List (S38))) (inner := [.int .u8 2, .string (⟨#[1, 98, 0]⟩ : ByteArray), .string (⟨#[1, 99, 1, 100, 0]⟩ : ByteArray), .int .u16 0, .int .u16 0]) (ok := fun _ => True) (okp := fun _ => True) ?hr ?hp (fun _ hk => hk) trivial (Below.refl _ _) (Nat.le_refl _) (by simp) ?_; (case hd => rfl); (case hg => rfl); (case hr => first | (go_simp; done) | (go_simp; rfl)); (case hp => exact (Reps.c5 (show Kd.M k38 _ _ _ (⟨2, (⟨#[1, 98, 0]⟩ : ByteArray), (⟨#[1, 99, 1, 100, 0]⟩ : ByteArray), 0, 0⟩ : S38) [.int .u8 2, .string (⟨#[1, 98, 0]⟩ : ByteArray), .string (⟨#[1, 99, 1, 100, 0]⟩ : ByteArray), .int .u16 0, .int .u16 0] from (k38_mkM _ _ _ (⟨2, (⟨#[1, 98, 0]⟩ : ByteArray), (⟨#[1, 99, 1, 100, 0]⟩ : ByteArray), 0, 0⟩ : S38) )) (Reps.none _ _))); intro v143 w9 ho10 hb hg_ hnew_; clear hg_ hnew_; (first | rw [← Ny142.out] at ho10 | (simp only [Int.reduceToNat] at ho10; rw [← Ny142.out] at ho10)); have n0_ := Aside0.mk (Kd.R_lower ho10 (below_size (by repeat (first | (with_reducible first | exact HB.out | apply below_alloc | apply pw_below_drewN | apply below_drew1) | exact HB.out)))); have n1_ := Aside0.mk (below_step (by repeat (first | (with_reducible first | exact HB.out | apply below_alloc | apply pw_below_drewN | apply below_drew1) | exact HB.out)) hb); clear HB; have HO144 := n0_; have HB := n1_; clear n0_ n1_; clear hb ho10; obtain ⟨Ao11, co11, eo11⟩ := Kd.R_slice HO144.out; subst eo11) | ((with_reducible refine gate_callee (f := 16) rfl ?_); refine goesL_ (some 7) rfl rfl Try.func16 (by kernel_rfl) rfl #[.slice Ao11 y142.length co11, .agg #[.string (⟨#[1, 88, 1, 66, 0]⟩ : ByteArray), .int .u16 1, .int .u16 1]] rfl (by (try simp only [List.map_toArray, List.map_cons, List.map_nil]); first | done | rfl | (simp only [List.length_drop, List.length_take]; rfl)) ?_; (with_reducible refine (rewrite_Ask.calls _ _ y142 (⟨#[1, 88, 1, 66, 0]⟩ : ByteArray) 1 1 t145 t146 t147 false _ ?side1 ?side2 A1.out).mono ?_); (case side1 => repeat (first | exact (Kd.R_reads' HO144.out).2.2 | (with_reducible refine Kd.C_alloc ?_ _) | (with_reducible refine Kd.C_drewN ?_ _) | (with_reducible refine Kd.C_drew ?_))); (case side2 => exact (Kd.R_reads' HO144.out).2.1); rintro e w12 ⟨rfl, hb⟩; refine ⟨_, rfl, ?_⟩; have n0_ := Aside0.mk (Kd.R_below (by (with_reducible repeat (first | apply Kd.R_alloc | apply Kd.R_drewN | apply Kd.R_drew)); exact HO144.out) hb); have n1_ := Aside0.mk (below_step (by repeat (first | (with_reducible first | exact HB.out | apply below_alloc | apply pw_below_drewN | apply below_drew1) | exact HB.out)) hb); clear HO144; clear HB; have HO144 := n0_; have HB := n1_; clear n0_ n1_; (try clear hb); (try clear hb2); (try clear hk); (try clear hi)) | ((with_reducible refine gate_dst (N := 1) rfl ?_); refine box_event ?hg (N := 1) ?hd (cs := #[.string (⟨#[]⟩ : ByteArray), .int .u16 0, .int .u16 0]) (t := 32) ?hr ?_; (case hd => rfl); (case hg => rfl); (case hr => first | (go_simp; done) | (go_simp; rfl)); intro gb149 hg w13 hbox hb; have n0_ := Aside0.mk (Kd.R_below (by (with_reducible repeat (first | apply Kd.R_alloc | apply Kd.R_drewN | apply Kd.R_drew)); exact HO144.out) hb); have n1_ := Aside0.mk (below_step (by repeat (first | (with_reducible first | exact HB.out | apply below_alloc | apply pw_below_drewN | apply below_drew1) | exact HB.out)) hb); have n2_ := Aside0.mk (hbox); have n3_ := Aside0.mk ((by rw [hg]; exact (below_size (by repeat (first | (with_reducible first | exact HB.out | apply below_alloc | apply pw_below_drewN | apply below_drew1) | exact HB.out))) : w.heap.size ≤ gb149)); have n4_ := Aside0.mk ((by rw [hg]; exact (below_size (by repeat (first | (with_reducible first | exact HB.out | apply below_alloc | apply pw_below_drewN | apply below_drew1) | exact HB.out))) : w.heap.size ≤ gb149)); clear HO144; clear HB; have HO144 := n0_; have HB := n1_; have BK149 := n2_; have GW149 := n3_; have GE149 := n4_; clear n0_ n1_ n2_ n3_ n4_; clear hb hbox hg; have hcz14_0 : w13.cell? ⟨gb149, 0, none⟩ = some (.string (⟨#[]⟩ : ByteArray)) := (blk_cell BK149.out 0).trans rfl; have hcz14_1 : w13.cell? ⟨gb149, 1, none⟩ = some (.int .u16 0) := (blk_cell BK149.out 1).trans rfl; have hcz14_2 : w13.cell? ⟨gb149, 2, none⟩ = some (.int .u16 0) := (blk_cell BK149.out 2).trans rfl; have hfz14_0 := blk_frozen BK149.out 0; have hfz14_1 := blk_frozen BK149.out 1; have hfz14_2 := blk_frozen BK149.out 2))
    go_ret
    exact ⟨by first | rfl | (simp [errW_none, errW_some] <;> rfl) | (simp [*, errW_none, errW_some] <;> rfl), by repeat (first | (with_reducible first | exact HB.out | apply below_alloc | apply pw_below_drewN | apply below_drew1 | refine below_set ?_ GE149.out) | exact HB.out)⟩

end Go.Proofs.Ytfcmphigmfdceaa.Print
end
section
-- Written by a program of this session, built on the kit's print (it is not the print's own text).
namespace Go.Proofs.Ytfcmphigmfdceaa.Print
open Go.RowKit Go.Proofs.YtfcmphigmfdceaaW.PrintWords Go.Proofs.YtfcmphigmfdceaaW.PrintLast Go.Proofs.YtfcmphigmfdceaaW.PrintMore
set_option linter.unusedVariables false
set_option linter.unusedSimpArgs false

/-! ### hearsaylaw25_long: function 10 -/
def hearsaylaw25_long.l0 : Nat → List (S38) → Int → Option (Bool)
  | 0, _, _ => none
  | k + 1, x0, x3 => if x3 < (x0.length : Int) then (if 0 ≤ x3 then (if (((rd_T38 x0 x3).f1).size : Int) > 2000 then (some true) else (if (((rd_T38 x0 x3).f2).size : Int) > 2000 then (some true) else (hearsaylaw25_long.l0 k x0 (wrap64 (x3 + 1))))) else (none)) else (some false)
def hearsaylaw25_long.f (k : Nat) (l0 : List (S38)) : Option (Bool) := if (l0.length : Int) > 200 then (some true) else (hearsaylaw25_long.l0 k l0 0)
theorem hearsaylaw25_long.mono_l : ∀ k, (∀ y0 y1, LeO (hearsaylaw25_long.l0 k y0 y1) (hearsaylaw25_long.l0 (k + 1) y0 y1))
  | 0 => fun _ _ r h => by simp [hearsaylaw25_long.l0] at h
  | k + 1 => by
    have ih0 := hearsaylaw25_long.mono_l k
    · intro y0 y1
      unfold hearsaylaw25_long.l0
      repeat' first
      | (with_reducible exact ih0 _ _)
      | (with_reducible exact LeO.refl _)
      | (with_reducible exact LeO.none _)
      | (with_reducible refine LeO.ite ?_ ?_)
      | (with_reducible refine LeO.bind ?_ (fun _ => ?_))
      | exact ih0 _ _
      | exact LeO.none _
      | refine LeO.ite ?_ ?_
      | refine LeO.bind ?_ (fun _ => ?_)
theorem hearsaylaw25_long.mono : ∀ a0 k, LeO (hearsaylaw25_long.f k a0) (hearsaylaw25_long.f (k + 1) a0) := by
  intro a0 k
  have ih0 := hearsaylaw25_long.mono_l k
  unfold hearsaylaw25_long.f
  repeat' first
      | (with_reducible exact ih0 _ _)
      | (with_reducible exact LeO.refl _)
      | (with_reducible exact LeO.none _)
      | (with_reducible refine LeO.ite ?_ ?_)
      | (with_reducible refine LeO.bind ?_ (fun _ => ?_))
      | exact ih0 _ _
      | exact LeO.none _
      | refine LeO.ite ?_ ?_
      | refine LeO.bind ?_ (fun _ => ?_)
set_option maxHeartbeats 8000000 in
set_option maxRecDepth 100000 in
theorem hearsaylaw25_long.calls (k : Nat) (A0 : Option Addr) (c0 : Nat) (l0 : List (S38)) (r : Bool) (w : World) (hr0 : Kd.C k38 w A0 l0.length l0) (hc0 : l0.length ≤ c0) (h : hearsaylaw25_long.f k l0 = some r) :
    Calls Try.prog 10 #[.slice A0 l0.length c0] w fun e w' => e = .returned (.bool r) ∧ Drawn0 w w' := by
  have HR0 := Aside0.mk hr0
  have HC0 := Aside0.mk hc0
  clear hr0 hc0
  have H : (if (l0.length : Int) > 200 then (some true) else (hearsaylaw25_long.l0 k l0 0)) = some r := h
  clear h
  by_cases c2 : (l0.length : Int) > 200
  · rw [if_pos c2] at H
    have c2b0 : decide (200 < (l0.length : Int)) = true := decide_eq_true c2
    have c2b1 : decide (200 < l0.length) = true := decide_eq_true (by omega)
    clear c2
    obtain rfl := Option.some.inj H
    go_enter Try.func10, Try.ntmps10
    go_wp2
    go_ret
    exact ⟨by first | rfl | (simp; done) | (simp [*]; done), by repeat (first | exact Drawn0.refl _ | apply Drawn0.step)⟩
  · rw [if_neg c2] at H
    have c2b0 : decide (200 < (l0.length : Int)) = false := decide_eq_false c2
    have c2b1 : decide (200 < l0.length) = false := decide_eq_false (by omega)
    clear c2
    have H' := Aside0.mk H
    clear H
    go_enter Try.func10, Try.ntmps10
    go_wp2
    go_loopg [3] k (fun kq v3 w' => ∃ (x3_1 : Int), v3 = .int .i64 x3_1 ∧ Aside0 (hearsaylaw25_long.l0 kq l0 x3_1 = some r) ∧ Aside0 (kq ≤ k) ∧ Drawn0 w w')
    case atStart => exact ⟨(0), (by first | rfl | (simp; done) | (simp [*]; done)), H', ⟨Nat.le_refl _⟩, by repeat (first | exact Drawn0.refl _ | apply Drawn0.step)⟩
    case round =>
      clear H'
      try clear c1
      try clear c2
      try clear c2b0
      try clear c2b1
      try clear p2
      obtain ⟨x3_1, rfl, HA, HK1, ⟨m1, rfl⟩⟩ := hrel
      cases gk with
      | zero => exact absurd HA.out (by simp [hearsaylaw25_long.l0])
      | succ k1 =>
        have H := HA.out
        clear HA
        simp only [hearsaylaw25_long.l0] at H
        by_cases c3 : x3_1 < (l0.length : Int)
        · rw [if_pos c3] at H
          have c3b0 : decide (x3_1 < (l0.length : Int)) = true := decide_eq_true c3
          clear c3
          by_cases c4 : 0 ≤ x3_1
          · rw [if_pos c4] at H
            have c4b0 : decide (0 ≤ x3_1) = true := decide_eq_true c4
            clear c4
            by_cases c5 : (((rd_T38 l0 x3_1).f1).size : Int) > 2000
            · rw [if_pos c5] at H
              have c5b0 : decide (2000 < (((rd_T38 l0 x3_1).f1).size : Int)) = true := decide_eq_true c5
              have c5b1 : decide (2000 < ((rd_T38 l0 x3_1).f1).size) = true := decide_eq_true (by omega)
              clear c5
              obtain rfl := Option.some.inj H
              have p101 : 0 ≤ (x3_1 : Int) := of_decide_eq_true (by first | (with_reducible assumption) | assumption)
              have q101 : x3_1 < (l0.length : Int) := of_decide_eq_true (by first | (with_reducible assumption) | assumption)
              obtain ⟨ad101, e101, hx101_0, hx101_1, hx101_2, hx101_3, hx101_4⟩ := at_T38 HR0.out x3_1 p101 q101
              cases e101
              replace p101 := eq_true p101
              replace q101 := eq_true q101
              go_wp2
              go_ret
              exact ⟨by first | rfl | (simp; done) | (simp [*]; done), by repeat (first | exact Drawn0.refl _ | apply Drawn0.step)⟩
            · rw [if_neg c5] at H
              have c5b0 : decide (2000 < (((rd_T38 l0 x3_1).f1).size : Int)) = false := decide_eq_false c5
              have c5b1 : decide (2000 < ((rd_T38 l0 x3_1).f1).size) = false := decide_eq_false (by omega)
              clear c5
              by_cases c6 : (((rd_T38 l0 x3_1).f2).size : Int) > 2000
              · rw [if_pos c6] at H
                have c6b0 : decide (2000 < (((rd_T38 l0 x3_1).f2).size : Int)) = true := decide_eq_true c6
                have c6b1 : decide (2000 < ((rd_T38 l0 x3_1).f2).size) = true := decide_eq_true (by omega)
                clear c6
                obtain rfl := Option.some.inj H
                have p101 : 0 ≤ (x3_1 : Int) := of_decide_eq_true (by first | (with_reducible assumption) | assumption)
                have q101 : x3_1 < (l0.length : Int) := of_decide_eq_true (by first | (with_reducible assumption) | assumption)
                obtain ⟨ad101, e101, hx101_0, hx101_1, hx101_2, hx101_3, hx101_4⟩ := at_T38 HR0.out x3_1 p101 q101
                cases e101
                replace p101 := eq_true p101
                replace q101 := eq_true q101
                have p102 : 0 ≤ (x3_1 : Int) := of_decide_eq_true (by first | (with_reducible assumption) | assumption)
                have q102 : x3_1 < (l0.length : Int) := of_decide_eq_true (by first | (with_reducible assumption) | assumption)
                obtain ⟨ad102, e102, hx102_0, hx102_1, hx102_2, hx102_3, hx102_4⟩ := at_T38 HR0.out x3_1 p102 q102
                obtain rfl : ad101 = ad102 := (by injection e102)
                replace p102 := eq_true p102
                replace q102 := eq_true q102
                go_wp2
                go_ret
                exact ⟨by first | rfl | (simp; done) | (simp [*]; done), by repeat (first | exact Drawn0.refl _ | apply Drawn0.step)⟩
              · rw [if_neg c6] at H
                have c6b0 : decide (2000 < (((rd_T38 l0 x3_1).f2).size : Int)) = false := decide_eq_false c6
                have c6b1 : decide (2000 < ((rd_T38 l0 x3_1).f2).size) = false := decide_eq_false (by omega)
                clear c6
                have H' := Aside0.mk H
                clear H
                have p101 : 0 ≤ (x3_1 : Int) := of_decide_eq_true (by first | (with_reducible assumption) | assumption)
                have q101 : x3_1 < (l0.length : Int) := of_decide_eq_true (by first | (with_reducible assumption) | assumption)
                obtain ⟨ad101, e101, hx101_0, hx101_1, hx101_2, hx101_3, hx101_4⟩ := at_T38 HR0.out x3_1 p101 q101
                cases e101
                replace p101 := eq_true p101
                replace q101 := eq_true q101
                have p102 : 0 ≤ (x3_1 : Int) := of_decide_eq_true (by first | (with_reducible assumption) | assumption)
                have q102 : x3_1 < (l0.length : Int) := of_decide_eq_true (by first | (with_reducible assumption) | assumption)
                obtain ⟨ad102, e102, hx102_0, hx102_1, hx102_2, hx102_3, hx102_4⟩ := at_T38 HR0.out x3_1 p102 q102
                obtain rfl : ad101 = ad102 := (by injection e102)
                replace p102 := eq_true p102
                replace q102 := eq_true q102
                go_wp2
                go_roundg k1
                case measure => have := HK1.out; omega
                case rel => exact ⟨(wrap64 (x3_1 + 1)), (by first | rfl | (simp; done) | (simp [*]; done)), H', ⟨by have := HK1.out; omega⟩, by repeat (first | exact Drawn0.refl _ | apply Drawn0.step)⟩
          · rw [if_neg c4] at H
            exact absurd H (by simp)
        · rw [if_neg c3] at H
          have c3b0 : decide (x3_1 < (l0.length : Int)) = false := decide_eq_false c3
          clear c3
          obtain rfl := Option.some.inj H
          go_wp2
          go_ret
          exact ⟨by first | rfl | (simp; done) | (simp [*]; done), by repeat (first | exact Drawn0.refl _ | apply Drawn0.step)⟩

end Go.Proofs.Ytfcmphigmfdceaa.Print
end
section
/- Laws of what Ask tells, and of the statements' small functions. -/
namespace Go.Proofs.Ytfcmphigmfdceaa.Print
open Go.RowKit Go.Proofs.YtfcmphigmfdceaaW.PrintWords Go.Proofs.YtfcmphigmfdceaaW.PrintLast Go.Proofs.YtfcmphigmfdceaaW.PrintMore
set_option linter.unusedVariables false
set_option linter.unusedSimpArgs false
theorem asks_f : hearsaylaw25_asks.f = some true := by decide +kernel
theorem long_l0 (l : List S38) (hl : l.length ≤ 200) (d : Nat) : ∀ t : Nat, l.length - t ≤ d → t ≤ l.length →
    Ev (fun k => hearsaylaw25_long.l0 k l (t : Int)) ((l.drop t).any fun x => decide (2000 < x.f1.size) || decide (2000 < x.f2.size)) := by
  have fin : ∀ t : Nat, t ≤ l.length → ¬ t < l.length → Ev (fun k => hearsaylaw25_long.l0 k l (t : Int)) ((l.drop t).any fun x => decide (2000 < x.f1.size) || decide (2000 < x.f2.size)) := by
    intro t h1 h2
    rw [List.drop_of_length_le (by omega)]
    refine Ev.step (f := fun _ => some false) (fun k => ?_) (Ev.now _)
    simp only [hearsaylaw25_long.l0]
    rw [if_neg (by omega)]
  induction d with
  | zero => intro t hd h1; exact fin t h1 (by omega)
  | succ d ih =>
    intro t hd h1
    by_cases ht : t < l.length
    · have hx : l[t]? = some l[t] := List.getElem?_eq_getElem ht
      have hr := rd_T38_at hx
      have hdrop : l.drop t = l[t] :: l.drop (t + 1) := List.drop_eq_getElem_cons ht
      generalize hxe : l[t] = x at hr hdrop
      have hw : wrap64 ((t : Int) + 1) = ((t + 1 : Nat) : Int) := by rw [w64 (by omega) (by omega)]; rfl
      refine Ev.step (f := fun k => if (x.f1.size : Int) > 2000 then some true else if (x.f2.size : Int) > 2000 then some true else hearsaylaw25_long.l0 k l ((t + 1 : Nat) : Int)) (fun k => ?_) ?_
      · simp only [hearsaylaw25_long.l0]; rw [if_pos (by omega), if_pos (by omega), hr, hw]
      · rw [hdrop, List.any_cons]
        by_cases g1 : 2000 < x.f1.size
        · refine Ev.congr (fun k => by rw [if_pos (by omega)]) ?_
          simpa [g1] using Ev.now true
        · by_cases g2 : 2000 < x.f2.size
          · refine Ev.congr (fun k => by rw [if_neg (by omega), if_pos (by omega)]) ?_
            simpa [g2] using Ev.now true
          · refine Ev.congr (fun k => by rw [if_neg (by omega), if_neg (by omega)]) ?_
            simpa [g1, g2] using ih (t + 1) (by omega) (by omega)
    · exact fin t h1 ht
def longP (l : List S38) : Bool := decide (200 < l.length) || l.any fun x => decide (2000 < x.f1.size) || decide (2000 < x.f2.size)
theorem long_f (l : List S38) : Ev (fun k => hearsaylaw25_long.f k l) (longP l) := by
  unfold longP
  by_cases h : 200 < l.length
  · rw [decide_eq_true h, Bool.true_or]
    exact Ev.congr (fun k => by unfold hearsaylaw25_long.f; rw [if_pos (by omega)]) (Ev.now _)
  · rw [decide_eq_false h, Bool.false_or]
    exact Ev.congr (fun k => by unfold hearsaylaw25_long.f; rw [if_neg (by omega)]; rfl) (long_l0 l (by omega) l.length 0 (by omega) (by omega))
theorem firstP_append (D : S38 → S32 × Bool) (l m : List S38) : firstP D (l ++ m) = if (firstP D l).2 then firstP D l else firstP D m := by
  unfold firstP
  have e : mades D (l ++ m) = mades D l ++ mades D m := by unfold mades; exact List.filterMap_append
  rw [e]
  cases mades D l with
  | nil => rfl
  | cons y r => rfl
theorem firstP_fail {D : S38 → S32 × Bool} {l : List S38} (h : (firstP D l).2 = false) : firstP D l = (z32, false) := by
  unfold firstP at h ⊢
  cases hm : mades D l with
  | nil => rfl
  | cons y r => rw [hm] at h; simp at h
theorem askP_fail {l : List S38} {q : S32} (h : (askP l q).2 = false) : askP l q = (z32, false) := by
  rw [askP_first] at h ⊢
  split at h
  · rename_i h1
    split at h
    · rename_i h2; rw [if_pos h1, if_pos h2]; exact firstP_fail h
    · rename_i h2; rw [if_pos h1, if_neg h2]
  · rename_i h1; rw [if_neg h1]
theorem askP_yes {l : List S38} {q : S32} (h : (askP l q).2 = true) : checkP l = 0 ∧ (dec q.f0).isSome = true ∧ askP l q = firstP (doP q) l := by
  rw [askP_first] at h ⊢
  split at h
  · rename_i h1
    split at h
    · rename_i h2; exact ⟨h1, h2, by rw [if_pos h1, if_pos h2]⟩
    · simp at h
  · simp at h
theorem checkP_zero {l : List S38} (hl : l.length ≤ 32) (h : ∀ x ∈ l, ruleOk x = true) : checkP l = 0 := by
  unfold checkP
  rw [if_neg (by omega), if_pos (List.all_eq_true.2 h)]
theorem toList_beq (a : ByteArray) : (a.toList == a.toList) = true := by simp
theorem z32_eq : z32 = (⟨⟨#[]⟩, 0, 0⟩ : S32) := rfl
end Go.Proofs.Ytfcmphigmfdceaa.Print
end
section
/- What is asked in small letters, and what comes of a question: plain laws. -/
namespace Go.Proofs.Ytfcmphigmfdceaa.Print
open Go.RowKit Go.Proofs.YtfcmphigmfdceaaW.PrintWords Go.Proofs.YtfcmphigmfdceaaW.PrintLast Go.Proofs.YtfcmphigmfdceaaW.PrintMore
set_option linter.unusedVariables false
set_option linter.unusedSimpArgs false
theorem low1_idem (c : Int) : low1 (low1 c) = low1 c := by
  by_cases h : 65 ≤ c ∧ c ≤ 90
  · have e : low1 c = c + 32 := by unfold low1; rw [if_pos h]
    rw [e]; unfold low1; rw [if_neg (by omega)]
  · have e : low1 c = c := by unfold low1; rw [if_neg h]
    rw [e, e]
theorem lowS_idem (s : ByteArray) : lowS (lowS s) = lowS s := bytes_inj (by
  rw [bytes_lowS, bytes_lowS, List.map_map]; exact List.map_congr_left fun c _ => low1_idem c)
theorem low_map (L : List ByteArray) : (L.map lowS).map lowS = L.map lowS := by
  rw [List.map_map]; exact List.map_congr_left fun s _ => lowS_idem s
theorem cut_low : ∀ (d : Nat) (l : List Int), l.length ≤ d → (∀ x ∈ l, 0 ≤ x ∧ x < 256) → (cut (l.map low1)).isSome = (cut l).isSome
  | _, [], _, _ => rfl
  | 0, c :: r, h, _ => by simp at h
  | d + 1, c :: r, h, hr => by
    have hc := hr c (by simp)
    rw [List.map_cons, cut_cons, cut_cons]
    by_cases h0 : c = 0
    · have e : low1 c = 0 := by rw [h0]; rfl
      rw [if_pos e, if_pos h0]
      cases r <;> simp
    · by_cases h63 : 63 < c
      · have e : 63 < low1 c := by unfold low1; split <;> omega
        rw [if_neg (by omega), if_pos e, if_neg h0, if_pos h63]
      · have e : low1 c = c := low_small (by omega)
        rw [e, if_neg h0, if_neg h63, if_neg h0, if_neg h63, List.length_map]
        by_cases hl : r.length < c.toNat
        · rw [if_pos hl, if_pos hl]
        · rw [if_neg hl, if_neg hl, Option.isSome_map, Option.isSome_map, ← List.map_drop]
          exact cut_low d _ (by simp at h ⊢; omega) (fun x hx => hr x (List.mem_cons_of_mem _ (List.mem_of_mem_drop hx)))
theorem dec_lows (n : ByteArray) : (dec (lowS n)).isSome = (dec n).isSome := by
  unfold dec
  rw [lowS_size]
  split
  · rfl
  · rw [bytes_lowS]; exact cut_low _ _ (Nat.le_refl _) (bo_range n)
theorem bad_map (A : List ByteArray) : (A.map lowS).any badLab = A.any badLab := by
  rw [List.any_map]
  congr 1
  funext s
  simp only [Function.comp, badLab, lowS_size]
theorem bad_alike {A B : List ByteArray} (h : A.map lowS = B.map lowS) : A.any badLab = B.any badLab := by rw [← bad_map A, ← bad_map B, h]
theorem glue_alike' {A B : List ByteArray} (h : A.map lowS = B.map lowS) : (glue A).length = (glue B).length := by
  have e : ∀ Z : List ByteArray, (glue (Z.map lowS)).length = (glue Z).length := by
    intro Z
    induction Z with
    | nil => rfl
    | cons s Z ih =>
      have a1 : glue (s :: Z) = lab s ++ glue Z := rfl
      have a2 : glue ((s :: Z).map lowS) = lab (lowS s) ++ glue (Z.map lowS) := rfl
      rw [a1, a2, List.length_append, List.length_append, lab_length, lab_length, lowS_size, ih]
  rw [← e A, ← e B, h]
def lowQ (q : S32) : S32 := ⟨lowS q.f0, q.f1, q.f2⟩
def LowEq (a b : S32 × Bool) : Prop := a.2 = b.2 ∧ lowS a.1.f0 = lowS b.1.f0 ∧ a.1.f1 = b.1.f1 ∧ a.1.f2 = b.1.f2
theorem LowEq.refl (a : S32 × Bool) : LowEq a a := ⟨rfl, rfl, rfl, rfl⟩
theorem ofP_low {A B : List ByteArray} (h : A.map lowS = B.map lowS) (q q' : S32) (h1 : q.f1 = q'.f1) (h2 : q.f2 = q'.f2) : LowEq (ofP A q) (ofP B q') := by
  unfold ofP
  rw [of_def, of_def, bad_alike h, glue_alike' h]
  by_cases hb : B.any badLab = true
  · rw [if_pos hb, if_pos hb]; exact LowEq.refl _
  · rw [if_neg hb, if_neg hb]
    by_cases hg : 255 < (glue B).length + 1
    · rw [if_pos hg, if_pos hg]; exact LowEq.refl _
    · rw [if_neg hg, if_neg hg]
      have hB : B.any badLab = false := by simpa using hb
      have hA : A.any badLab = false := by rw [bad_alike h]; exact hB
      exact ⟨rfl, (alike_iff (dec_nameOf hA (by have := glue_alike' h; omega)) (dec_nameOf hB (by omega))).2 (keys_low.2 h), h1, h2⟩
theorem rAlike_low (A F : List ByteArray) : rAlike (A.map lowS) F = rAlike A F := by unfold rAlike; rw [low_map]
theorem do_low {q : S32} {x : S38} (hx : ruleOk x = true) (hq : (dec q.f0).isSome = true) : LowEq (doP q x) (doP (lowQ q) x) := by
  rw [← makes_do hx hq, ← makes_do (q := lowQ q) hx (by rw [show (lowQ q).f0 = lowS q.f0 from rfl, dec_lows]; exact hq)]
  obtain ⟨L, hL⟩ := Option.isSome_iff_exists.1 hq
  have hL' := dec_low hL
  unfold makesP
  simp only [lowQ, hL, hL', Option.getD_some, List.length_map]
  by_cases k4 : x.f0 = 4
  · rw [if_pos k4, if_pos k4]
    show LowEq (if q.f1 = x.f3 then ((⟨q.f0, x.f4, q.f2⟩ : S32), true) else (z32, false)) (if q.f1 = x.f3 then ((⟨lowS q.f0, x.f4, q.f2⟩ : S32), true) else (z32, false))
    by_cases ht : q.f1 = x.f3
    · rw [if_pos ht, if_pos ht]; exact ⟨rfl, (lowS_idem _).symm, rfl, rfl⟩
    · rw [if_neg ht, if_neg ht]; exact LowEq.refl _
  · rw [if_neg k4, if_neg k4]
    by_cases hc : L.length < ((dec x.f1).getD []).length ∨ (x.f0 = 1 ∧ ((dec x.f1).getD []).length < L.length)
    · rw [if_pos hc, if_pos hc]; exact LowEq.refl _
    · rw [if_neg hc, if_neg hc]
      by_cases k3 : x.f0 = 3
      · rw [if_pos k3, if_pos k3, ← List.map_take, rAlike_low, ← List.map_drop]
        split
        · exact ofP_low (by rw [List.map_append, List.map_append, low_map]) _ _ rfl rfl
        · exact LowEq.refl _
      · rw [if_neg k3, if_neg k3, ← List.map_take, ← List.map_drop, rAlike_low]
        split
        · exact ofP_low (by rw [List.map_append, List.map_append, low_map]) _ _ rfl rfl
        · exact LowEq.refl _
theorem first_low {q : S32} (hq : (dec q.f0).isSome = true) : ∀ l : List S38, (∀ x ∈ l, ruleOk x = true) → LowEq (firstP (doP q) l) (firstP (doP (lowQ q)) l)
  | [], _ => LowEq.refl _
  | x :: l, h => by
    have m := do_low (h x (by simp)) hq
    cases e : (doP q x).2 with
    | true => rw [firstP_yes e, firstP_yes (by rw [← m.1]; exact e)]; exact ⟨rfl, m.2⟩
    | false => rw [firstP_no e, firstP_no (by rw [← m.1]; exact e)]; exact first_low hq l (fun y hy => h y (by simp [hy]))
/-- the same is asked of the question in small letters -/
theorem ask_low (l : List S38) (q : S32) : LowEq (askP l q) (askP l (lowQ q)) := by
  rw [askP_first, askP_first]
  by_cases h1 : checkP l = 0
  · rw [if_pos h1, if_pos h1, show (lowQ q).f0 = lowS q.f0 from rfl, dec_lows]
    by_cases h2 : (dec q.f0).isSome = true
    · rw [if_pos h2, if_pos h2]; exact first_low h2 l (check_all h1).2
    · rw [if_neg h2, if_neg h2]; exact LowEq.refl _
  · rw [if_neg h1, if_neg h1]; exact LowEq.refl _
def Good (q y : S32) : Prop := (dec y.f0).isSome = true ∧ y.f2 = q.f2 ∧ (y.f1 = q.f1 ∨ y.f0 = q.f0)
theorem ofP_good {A : List ByteArray} {q : S32} (h : (ofP A q).2 = true) : Good q (ofP A q).1 := by
  unfold ofP at h ⊢
  rw [of_def] at h ⊢
  by_cases hb : A.any badLab = true
  · rw [if_pos hb] at h; simp at h
  · rw [if_neg hb] at h ⊢
    by_cases hg : 255 < (glue A).length + 1
    · rw [if_pos hg] at h; simp at h
    · rw [if_neg hg]
      exact ⟨by simp only [if_true]; rw [dec_nameOf (by simpa using hb) (by omega)]; rfl, rfl, Or.inl rfl⟩
theorem do_good {q : S32} {x : S38} (hx : ruleOk x = true) (hq : (dec q.f0).isSome = true) (h : (doP q x).2 = true) : Good q (doP q x).1 := by
  rw [← makes_do hx hq] at h ⊢
  unfold makesP at h ⊢
  by_cases k4 : x.f0 = 4
  · rw [if_pos k4] at h ⊢
    by_cases ht : q.f1 = x.f3
    · rw [if_pos ht]; exact ⟨hq, rfl, Or.inr rfl⟩
    · rw [if_neg ht] at h; simp at h
  · rw [if_neg k4] at h ⊢
    simp only at h ⊢
    split at h
    · simp at h
    · rename_i hc
      rw [if_neg hc]
      split at h
      · rename_i k3
        rw [if_pos k3]
        split at h
        · rename_i ha; rw [if_pos ha]; exact ofP_good h
        · simp at h
      · rename_i k3
        rw [if_neg k3]
        split at h
        · rename_i ha; rw [if_pos ha]; exact ofP_good h
        · simp at h
theorem first_good {q : S32} (hq : (dec q.f0).isSome = true) : ∀ l : List S38, (∀ x ∈ l, ruleOk x = true) → (firstP (doP q) l).2 = true → Good q (firstP (doP q) l).1
  | [], _, h => by simp [firstP, mades] at h
  | x :: l, ho, h => by
    cases e : (doP q x).2 with
    | true => rw [firstP_yes e]; exact do_good (ho x (by simp)) hq e
    | false => rw [firstP_no e] at h ⊢; exact first_good hq l (fun y hy => ho y (by simp [hy])) h
/-- what comes of a question is a question about a name -/
theorem ask_good {l : List S38} {q : S32} (h : (askP l q).2 = true) : Good q (askP l q).1 := by
  obtain ⟨h1, h2, h3⟩ := askP_yes h
  rw [h3] at h ⊢
  exact first_good h2 l (check_all h1).2 h
/-! ### the records handed in, and those that come back -/
def putP (n : ByteArray) (i : Nat) (r : S59) : S59 := if i % 2 = 0 then ⟨lowS n, r.f1, r.f2, r.f3, r.f4⟩ else r
def putsP (n : ByteArray) (l : List S59) : List S59 := l.mapIdx (putP n)
theorem puts_length (n : ByteArray) (l : List S59) : (putsP n l).length = l.length := by unfold putsP; simp
theorem puts_succ {n : ByteArray} {l : List S59} {k : Nat} {x : S59} (h : l[k]? = some x) : putsP n (l.take (k + 1)) = putsP n (l.take k) ++ [putP n k x] := by
  have hk : k < l.length := (List.getElem?_eq_some_iff.1 h).1
  unfold putsP
  rw [take_succ' h, List.mapIdx_concat, List.length_take, Nat.min_eq_left (by omega)]
theorem puts_get {n : ByteArray} {l : List S59} {k : Nat} {x : S59} (h : l[k]? = some x) : (putsP n l)[k]? = some (putP n k x) := by
  unfold putsP; rw [List.getElem?_mapIdx, h]; rfl
theorem puts_small {n : ByteArray} {l : List S59} {m : Nat} (hn : n.size ≤ m) (h : ∀ r ∈ l, r.f0.size ≤ m) : ∀ r ∈ putsP n l, r.f0.size ≤ m := by
  intro r hr
  obtain ⟨k, hk, e⟩ := List.mem_mapIdx.1 hr
  subst e
  unfold putP
  split
  · show (lowS n).size ≤ m; rw [lowS_size]; exact hn
  · exact h _ (List.getElem_mem hk)
theorem turn_even (qn n : ByteArray) {k : Nat} (hk : k % 2 = 0) (x : S59) : (if lowS (putP n k x).f0 = lowS n then (⟨qn, (putP n k x).f1, (putP n k x).f2, (putP n k x).f3, (putP n k x).f4⟩ : S59) else putP n k x) = ⟨qn, x.f1, x.f2, x.f3, x.f4⟩ := by
  unfold putP
  rw [if_pos hk]
  show (if lowS (lowS n) = lowS n then _ else _) = _
  rw [if_pos (lowS_idem n)]
theorem turn_odd (n : ByteArray) {k : Nat} (hk : ¬ k % 2 = 0) (x : S59) : putP n k x = x := by unfold putP; rw [if_neg hk]
end Go.Proofs.Ytfcmphigmfdceaa.Print
end
section
/- rewrite.Back alone: plain laws (for RewriteTurns). -/
namespace Go.Proofs.Ytfcmphigmfdceaa.Print
open Go.RowKit Go.Proofs.YtfcmphigmfdceaaW.PrintWords Go.Proofs.YtfcmphigmfdceaaW.PrintLast Go.Proofs.YtfcmphigmfdceaaW.PrintMore
set_option linter.unusedVariables false
set_option linter.unusedSimpArgs false
theorem rd_T59_at {l : List S59} {k : Nat} {x : S59} (h : l[k]? = some x) : rd_T59 l (k : Int) = x := by simp [rd_T59, List.getD_eq_getElem?_getD, h]
theorem lows_eq {a b : ByteArray} : (lowS a).toList = (lowS b).toList ↔ lowS a = lowS b :=
  ⟨fun h => by
    rw [Lib.toList_data, Lib.toList_data] at h
    exact ByteArray.ext (Array.ext' h), fun h => by rw [h]⟩
/-- an answer's record, turned back -/
def turnP (qn asked : ByteArray) (r : S59) : S59 := if lowS r.f0 = lowS asked then ⟨qn, r.f1, r.f2, r.f3, r.f4⟩ else r
theorem back_l0 (q asked : S32) (rc : Int) (aa : Bool) (l l3 l4 : List S59) (hl : l.length ≤ 1000) (h3 : l3.length ≤ 1000) (h4 : l4.length ≤ 1000) (hs : ∀ r ∈ l, r.f0.size ≤ 9223372036854775807) (d : Nat) : ∀ t : Nat, l.length - t ≤ d → t ≤ l.length →
    Ev (fun k => rewrite_Back.l0 k (lowS asked.f0) ((l.take t).map (turnP q.f0 asked.f0)) l (l.length : Int) (t : Int) q.f0 q.f1 q.f2 rc aa l l3 l4) (rc, aa, l.map (turnP q.f0 asked.f0), l3, l4) := by
  have fin : ∀ t : Nat, t ≤ l.length → ¬ t < l.length → Ev (fun k => rewrite_Back.l0 k (lowS asked.f0) ((l.take t).map (turnP q.f0 asked.f0)) l (l.length : Int) (t : Int) q.f0 q.f1 q.f2 rc aa l l3 l4) (rc, aa, l.map (turnP q.f0 asked.f0), l3, l4) := by
    intro t h1 h2
    rw [List.take_of_length_le (by omega)]
    refine Ev.step (f := fun _ => some (rc, aa, l.map (turnP q.f0 asked.f0), l3, l4)) (fun k => ?_) (Ev.now _)
    simp only [rewrite_Back.l0]
    rw [if_neg (by omega)]
    simp only [Option.bind_some, List.length_nil, Nat.zero_add, List.nil_append]
    rw [if_pos (by omega), if_pos (by omega)]
  induction d with
  | zero => intro t hd h1; exact fin t h1 (by omega)
  | succ d ih =>
    intro t hd h1
    by_cases ht : t < l.length
    · have hx := List.getElem?_eq_getElem ht
      have hr := rd_T59_at hx
      have hsz := hs _ (List.getElem_mem ht)
      have htk : (l.take (t + 1)).map (turnP q.f0 asked.f0) = (l.take t).map (turnP q.f0 asked.f0) ++ [turnP q.f0 asked.f0 l[t]] := by rw [take_succ' hx, List.map_append]; rfl
      have hll : ((l.take t).map (turnP q.f0 asked.f0)).length ≤ 1000 := by rw [List.length_map, List.length_take]; omega
      have ih' := ih (t + 1) (by omega) (by omega)
      rw [htk] at ih'
      generalize l[t] = x at hr hsz ih'
      have hw : wrap64 ((t : Int) + 1) = ((t + 1 : Nat) : Int) := by rw [w64 (by omega) (by omega)]; rfl
      refine Ev.step (fun k => ?_) ih'
      simp only [rewrite_Back.l0]
      rw [if_pos (by omega), if_pos (by omega), if_pos (by omega), hr, fold_f hsz, Option.bind_some, hw]
      have ht1 : turnP q.f0 asked.f0 x = if lowS x.f0 = lowS asked.f0 then ⟨q.f0, x.f1, x.f2, x.f3, x.f4⟩ else x := rfl
      rw [ht1]
      by_cases he : lowS x.f0 = lowS asked.f0
      · rw [if_pos (lows_eq.2 he), if_pos (by omega), if_pos he]
      · rw [if_neg (fun h => he (lows_eq.1 h)), if_pos (by omega), if_neg he]
    · exact fin t h1 ht
theorem back_f (q asked : S32) (rc : Int) (aa : Bool) (l l3 l4 : List S59) (hl : l.length ≤ 1000) (h3 : l3.length ≤ 1000) (h4 : l4.length ≤ 1000) (ha : asked.f0.size ≤ 9223372036854775807) (hs : ∀ r ∈ l, r.f0.size ≤ 9223372036854775807) :
    Ev (fun k => rewrite_Back.f k q.f0 q.f1 q.f2 asked.f0 asked.f1 asked.f2 rc aa l l3 l4) (rc, aa, l.map (turnP q.f0 asked.f0), l3, l4) := by
  refine Ev.congr (fun k => ?_) (back_l0 q asked rc aa l l3 l4 hl h3 h4 hs l.length 0 (by omega) (by omega))
  unfold rewrite_Back.f
  rw [fold_f ha]
  rfl
theorem Bx.blw {W W' : World} {n B : Nat} {cs : Array Value} {t : TypeId} (h : Bx W B cs t) (hb : Below n W W') (hn : B < n) : Bx W' B cs t := (hb.block B hn).trans h
theorem Bx.drew {W : World} {B : Nat} {cs : Array Value} {t : TypeId} (h : Bx W B cs t) : Bx W.drew B cs t := h
end Go.Proofs.Ytfcmphigmfdceaa.Print
end
section
/- Rows of truth values by a number; three laws under short names. -/
namespace Go.Proofs.Ytfcmphigmfdceaa.Print
def bm_ (n m : Nat) : Array Bool := ((List.range n).map fun i => m.testBit i).toArray
theorem sA_ {α : Type} (xs : List α) (i : Nat) (x : α) : xs.toArray.setIfInBounds i x = (xs.set i x).toArray := List.setIfInBounds_toArray ..
theorem s0_ {α : Type} (x y : α) (xs : List α) : (x :: xs).set 0 y = y :: xs := List.set_cons_zero ..
theorem sS_ {α : Type} (x y : α) (xs : List α) (n : Nat) : (x :: xs).set (n + 1) y = x :: xs.set n y := List.set_cons_succ ..
end Go.Proofs.Ytfcmphigmfdceaa.Print
end
section
/- Arrays of five whole numbers, compared. -/
namespace Go.Proofs.YtfcmphigmfdceaaW.PrintWords
open Go.RowKit
set_option linter.unusedSimpArgs false in
theorem arr_eq5 {P : Program} {T E : TypeId} {k : IntKind} {w : World} {d : Nat} {i0 : TypeInfo} (hu : P.underlying T = some (.array 5 E)) (he : P.underlying E = some (.int k)) (hi : P.info? E = some i0) (hc : P.cellsOf E = 1) (x0 y0 x1 y1 x2 y2 x3 y3 x4 y4 : Int) :
    (Op.equalIn (d + 2) T (.agg #[.int k x0, .int k x1, .int k x2, .int k x3, .int k x4]) (.agg #[.int k y0, .int k y1, .int k y2, .int k y3, .int k y4])).run P w = .ok (x0 == y0 && (x1 == y1 && (x2 == y2 && (x3 == y3 && (x4 == y4))))) w := by
  rw [run_equalIn_array (w := w) (d + 1) _ _ hu hi, hc]
  have hr : List.range 5 = [0, 1, 2, 3, 4] := by decide
  rw [hr]
  have hp : ∀ (xs : Array Value) (j : Nat) (v : Value), xs[j]? = some v → (part E xs j).run P w = .ok v w := by
    intro xs j v h
    simp [part, isAgg, run_underlying he, h]
  have hq : ∀ a b : Int, (Op.equalIn (d + 1) E (.int k a) (.int k b)).run P w = .ok (a == b) w := by
    intro a b
    simp [Op.equalIn, run_underlying he]
  have p0 : ∀ a b c d e : Value, (part E #[a, b, c, d, e] 0).run P w = .ok a w := fun _ _ _ _ _ => hp _ _ _ rfl
  have p1 : ∀ a b c d e : Value, (part E #[a, b, c, d, e] 1).run P w = .ok b w := fun _ _ _ _ _ => hp _ _ _ rfl
  have p2 : ∀ a b c d e : Value, (part E #[a, b, c, d, e] 2).run P w = .ok c w := fun _ _ _ _ _ => hp _ _ _ rfl
  have p3 : ∀ a b c d e : Value, (part E #[a, b, c, d, e] 3).run P w = .ok d w := fun _ _ _ _ _ => hp _ _ _ rfl
  have p4 : ∀ a b c d e : Value, (part E #[a, b, c, d, e] 4).run P w = .ok e w := fun _ _ _ _ _ => hp _ _ _ rfl
  simp only [Op.eqItems, Sem.run_bind, Nat.mul_one, p0, p1, p2, p3, p4, Result.andThen_ok, hq]
  cases h0 : (x0 == y0) <;> cases h1 : (x1 == y1) <;> cases h2 : (x2 == y2) <;> cases h3 : (x3 == y3) <;> cases h4 : (x4 == y4) <;> simp [p1, p2, p3, p4, hq, h0, h1, h2, h3, h4]
end Go.Proofs.YtfcmphigmfdceaaW.PrintWords
end
section
-- Written by a program of this session, built on the kit's print (it is not the print's own text).
namespace Go.Proofs.Ytfcmphigmfdceaa.Print
open Go.RowKit Go.Proofs.YtfcmphigmfdceaaW.PrintWords Go.Proofs.YtfcmphigmfdceaaW.PrintLast Go.Proofs.YtfcmphigmfdceaaW.PrintMore
set_option linter.unusedVariables false
set_option linter.unusedSimpArgs false

theorem eqA55 (d : Nat) (w : World) (x0 y0 x1 y1 x2 y2 x3 y3 x4 y4 : Int) :
    (Op.equalIn (d + 2) 55 (.agg #[.int .u32 x0, .int .u32 x1, .int .u32 x2, .int .u32 x3, .int .u32 x4]) (.agg #[.int .u32 y0, .int .u32 y1, .int .u32 y2, .int .u32 y3, .int .u32 y4])).run Try.prog w = .ok (x0 == y0 && (x1 == y1 && (x2 == y2 && (x3 == y3 && (x4 == y4))))) w := by
  obtain ⟨i0, hi, hz0, hz1, hz2⟩ := info_parts (show (Try.prog.info? 54).map (fun i => (i.zero, i.size, i.bytes)) = some (some (.int .u32 0), 1, 4) from by kernel_rfl)
  exact arr_eq5 Try.underlying55 Try.underlying54 hi (by kernel_rfl) x0 y0 x1 y1 x2 y2 x3 y3 x4 y4
theorem eqA57 (d : Nat) (w : World) (x0 y0 : ByteArray) (x1 y1 : ByteArray) (x2 y2 : ByteArray) (x3 y3 : Int) (x4 y4 : Int) (x5 y5 : Int) (x6 y6 : Int) (x7 y7 : Int) :
    (Op.equalIn (d + 3) 57 (.agg #[.string x0, .string x1, .string x2, .int .u32 x3, .int .u32 x4, .int .u32 x5, .int .u32 x6, .int .u32 x7]) (.agg #[.string y0, .string y1, .string y2, .int .u32 y3, .int .u32 y4, .int .u32 y5, .int .u32 y6, .int .u32 y7])).run Try.prog w = .ok (x0.toList == y0.toList && (x1.toList == y1.toList && (x2.toList == y2.toList && ((x3 == y3 && (x4 == y4 && (x5 == y5 && (x6 == y6 && (x7 == y7))))))))) w := by
  refine eqA_of Try.underlying57 (by kernel_rfl) ?_
  refine eqf_cons (by rfl) (by go_simp; rfl) (by go_simp; rfl) (by go_simp) ?_
  refine eqf_cons (by rfl) (by go_simp; rfl) (by go_simp; rfl) (by go_simp) ?_
  refine eqf_cons (by rfl) (by go_simp; rfl) (by go_simp; rfl) (by go_simp) ?_
  exact eqf_last (by rfl) (by go_simp) (by go_simp) (eqA55 (d + 0) w _ _ _ _ _ _ _ _ _ _)
theorem eqA59 (d : Nat) (w : World) (x0 y0 : ByteArray) (x1 y1 : Int) (x2 y2 : Int) (x3 y3 : Int) (x4 y4 : ByteArray) (x5 y5 : ByteArray) (x6 y6 : ByteArray) (x7 y7 : Int) (x8 y8 : Int) (x9 y9 : Int) (x10 y10 : Int) (x11 y11 : Int) :
    (Op.equalIn (d + 4) 59 (.agg #[.string x0, .int .u16 x1, .int .u16 x2, .int .u32 x3, .string x4, .string x5, .string x6, .int .u32 x7, .int .u32 x8, .int .u32 x9, .int .u32 x10, .int .u32 x11]) (.agg #[.string y0, .int .u16 y1, .int .u16 y2, .int .u32 y3, .string y4, .string y5, .string y6, .int .u32 y7, .int .u32 y8, .int .u32 y9, .int .u32 y10, .int .u32 y11])).run Try.prog w = .ok (x0.toList == y0.toList && (x1 == y1 && (x2 == y2 && (x3 == y3 && ((x4.toList == y4.toList && (x5.toList == y5.toList && (x6.toList == y6.toList && ((x7 == y7 && (x8 == y8 && (x9 == y9 && (x10 == y10 && (x11 == y11)))))))))))))) w := by
  refine eqA_of Try.underlying59 (by kernel_rfl) ?_
  refine eqf_cons (by rfl) (by go_simp; rfl) (by go_simp; rfl) (by go_simp) ?_
  refine eqf_cons (by rfl) (by go_simp; rfl) (by go_simp; rfl) (by go_simp) ?_
  refine eqf_cons (by rfl) (by go_simp; rfl) (by go_simp; rfl) (by go_simp) ?_
  refine eqf_cons (by rfl) (by go_simp; rfl) (by go_simp; rfl) (by go_simp) ?_
  exact eqf_last (by rfl) (by go_simp) (by go_simp) (eqA57 (d + 0) w _ _ _ _ _ _ _ _ _ _ _ _ _ _ _ _)
end Go.Proofs.Ytfcmphigmfdceaa.Print
end
section
/- The statement RewriteTurns, walked. -/
namespace Go.Proofs.Ytfcmphigmfdceaa.Print
open Go.RowKit Go.Proofs.YtfcmphigmfdceaaW.PrintWords Go.Proofs.YtfcmphigmfdceaaW.PrintLast Go.Proofs.YtfcmphigmfdceaaW.PrintMore
set_option linter.unusedVariables false
set_option linter.unusedSimpArgs false
theorem ask_calls2 (A0 : Option Addr) (c0 : Nat) (l0 : List S38) (a : ByteArray) (b c : Int) (y : ByteArray) (y1 y2 : Int) (is : Bool) (w : World) (hr0 : Kd.C k38 w A0 l0.length l0) (hc0 : l0.length ≤ c0) (h : askP l0 ⟨a, b, c⟩ = (⟨y, y1, y2⟩, is)) :
    Calls Try.prog 16 #[.slice A0 l0.length c0, .agg #[.string a, .int .u16 b, .int .u16 c]] w
      fun e w' => e = .returned (.tuple #[.agg #[.string y, .int .u16 y1, .int .u16 y2], .bool is]) ∧ Below w.heap.size w w' := by
  have h1 := ask_calls A0 c0 l0 ⟨a, b, c⟩ w hr0 hc0
  rw [h] at h1
  exact h1
theorem rfold_f {a r : ByteArray} (h : a.size ≤ 9223372036854775807) (hr : lowS a = r) : hearsayref01_Fold.f a = some r := by
  subst hr
  unfold hearsayref01_Fold.f
  rw [low_f h]; rfl
theorem long_false {l : List S38} (h : longP l = false) : l.length ≤ 200 := by
  unfold longP at h
  simp only [Bool.or_eq_false_iff, decide_eq_false_iff_not] at h
  omega
theorem back_calls2 (q0 : ByteArray) (q1 q2 : Int) (n : ByteArray) (t cl : Int) (A : Option Addr) (c : Nat) (l : List S59) (len : Nat) (hlen : l.length = len) (M : List S59) (hM : M = l.map (turnP q0 n)) (w : World) (hC : Kd.C k59 w A len l) (hc : len ≤ c) (hl : len ≤ 1000) (hn : n.size ≤ 9223372036854775807) (hs : ∀ r ∈ l, r.f0.size ≤ 9223372036854775807) :
    Calls Try.prog 22 #[.agg #[.string q0, .int .u16 q1, .int .u16 q2], .agg #[.string n, .int .u16 t, .int .u16 cl], .agg #[.int .u16 0, .bool false, .slice A len c, .slice none 0 0, .slice none 0 0]] w fun e w' =>
      ∃ (E2 : Option Addr) (e2 : Nat) (E3 : Option Addr) (e3 : Nat) (E4 : Option Addr) (e4 : Nat), e = .returned (.agg #[.int .u16 0, .bool false, .slice E2 len e2, .slice E3 0 e3, .slice E4 0 e4]) ∧ len ≤ e2 ∧ Kd.C k59 w' E2 len M ∧ Below w.heap.size w w' := by
  subst hlen hM
  obtain ⟨kb, hkb⟩ := (back_f ⟨q0, q1, q2⟩ ⟨n, t, cl⟩ 0 false l [] [] hl (by simp) (by simp) hn hs).rounds
  have hnil := (Kd.R_reads' (Kd.R_nil k59 59 w 0 (fun _ => True))).2.2
  refine (rewrite_Back.calls kb q0 q1 q2 n t cl 0 false A c l none 0 [] none 0 [] 0 false (l.map (turnP q0 n)) [] [] w hC hc hnil (Nat.le_refl _) hnil (Nat.le_refl _) hkb).mono ?_
  rintro e w' ⟨v2, v3, v4, rfl, h2, h3, h4, hb⟩
  obtain ⟨E2, e2, rfl, le2, hE2⟩ := Kd.R_reads h2
  obtain ⟨E3, e3, rfl, le3, hE3⟩ := Kd.R_reads h3
  obtain ⟨E4, e4, rfl, le4, hE4⟩ := Kd.R_reads h4
  rw [List.length_map] at le2 hE2
  exact ⟨E2, e2, E3, e3, E4, e4, by rw [List.length_map]; rfl, le2, hE2, hb⟩
def turns.T7 : Bool × List (List Nat × List Nat) := (true, [([], []), ([], []), ([0, 1], [0, 1]), ([2], [2]), ([3], [3]), ([4, 3], [3, 4]), ([5, 3, 3], [3, 5]), ([3], [3]), ([7, 3], [3, 7]), ([8, 6, 3], [3, 8]), ([6, 9, 3], [3, 6, 9]), ([3, 10], [3, 10]), ([11, 9], [11]), ([12], [12]), ([13, 12], [12, 13]), ([12], [12]), ([15, 12], [12, 15]), ([14, 16, 12], [12, 14, 16]), ([12, 17], [12, 17]), ([18, 12], [18]), ([19], [19]), ([20, 19], [19, 20]), ([19], [19]), ([22, 19], [19, 22]), ([21, 23, 19], [19, 21, 23]), ([19, 24], [19, 24])])
def turns.B7 : List Nat := [0, 0, 3, 7, 15, 31, 63, 15, 143, 511, 1023, 2047, 4095, 8191, 16383, 8191, 40959, 131071, 262143, 524287, 1048575, 2097151, 1048575, 5242879, 16777215, 33554431]
theorem turns.tab7 : rtab .any (opsOf Try.f8 7) = turns.T7 := by kernel_rfl
theorem turns.bits7 : waitsOk turns.T7.2 turns.B7 = true := by kernel_rfl
def turns.T29 : Bool × List (List Nat × List Nat) := (true, [([], []), ([0], [0]), ([1], [1]), ([2], [2]), ([3], [3]), ([4, 3, 3], [3, 4]), ([3], [3]), ([6, 3], [3, 6]), ([7, 5, 3], [3, 7]), ([5, 8, 3], [3, 5, 8]), ([3, 9], [3, 9])])
def turns.B29 : List Nat := [0, 1, 3, 7, 15, 31, 15, 79, 255, 511, 1023]
theorem turns.tab29 : rtab .any (opsOf Try.f8 29) = turns.T29 := by kernel_rfl
theorem turns.bits29 : waitsOk turns.T29.2 turns.B29 = true := by kernel_rfl
def turns.T31 : Bool × List (List Nat × List Nat) := (true, [([], []), ([0], [0]), ([], []), ([1, 2], [1, 2]), ([3], [3]), ([4], [4]), ([5, 4], [4, 5]), ([4], [4]), ([4], [4]), ([7, 8, 4], [4, 7, 8]), ([9, 4], [4, 9]), ([10, 4], [4, 10]), ([6, 11, 4], [4, 6, 11]), ([4, 12], [4, 12]), ([13, 4], [13]), ([14], [14]), ([15, 14], [14, 15]), ([14], [14]), ([14], [14]), ([17, 18, 14], [14, 17, 18]), ([19, 14], [14, 19]), ([20, 14], [14, 20]), ([16, 21, 14], [14, 16, 21]), ([14, 22], [14, 22]), ([23, 14], [23]), ([24], [24]), ([25, 24], [24, 25]), ([24], [24]), ([24], [24]), ([27, 28, 24], [24, 27, 28]), ([29, 24], [24, 29]), ([30, 24], [24, 30]), ([26, 31, 24], [24, 26, 31]), ([24, 32], [24, 32]), ([33, 24], [33]), ([34], [34]), ([35, 34], [34, 35]), ([34], [34]), ([34], [34]), ([37, 38, 34], [34, 37, 38]), ([39, 34], [34, 39]), ([40, 34], [34, 40]), ([36, 41, 34], [34, 36, 41]), ([34, 42], [34, 42])])
def turns.B31 : List Nat := [0, 1, 0, 7, 15, 31, 63, 31, 31, 415, 927, 1951, 4095, 8191, 16383, 32767, 65535, 32767, 32767, 425983, 950271, 1998847, 4194303, 8388607, 16777215, 33554431, 67108863, 33554431, 33554431, 436207615, 973078527, 2046820351, 4294967295, 8589934591, 17179869183, 34359738367, 68719476735, 34359738367, 34359738367, 446676598783, 996432412671, 2095944040447, 4398046511103, 8796093022207]
theorem turns.tab31 : rtab .any (opsOf Try.f8 31) = turns.T31 := by kernel_rfl
theorem turns.bits31 : waitsOk turns.T31.2 turns.B31 = true := by kernel_rfl
/-- the block of a box that is allocated next -/
theorem Bx.next {W : World} {n : Nat} (o : Obj) (cs : Array Value) (t : TypeId) (h : (W.alloc o).heap.size = n) : Bx ((W.alloc o).alloc (.cells cs t)) n cs t := by subst h; exact Bx.new _ _ _
end Go.Proofs.Ytfcmphigmfdceaa.Print
end
