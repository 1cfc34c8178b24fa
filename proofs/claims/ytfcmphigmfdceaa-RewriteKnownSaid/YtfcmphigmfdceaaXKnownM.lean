/- Some texts of the proof in one: XTurnsB, XRefP, F15, F10, F18, XAskLaws, F28. -/
import Derived.Test.YtfcmphigmfdceaaXAsk
import Derived.Test.YtfcmphigmfdceaaKindsR
import Derived.Test.YtfcmphigmfdceaaF22
import Derived.Test.YtfcmphigmfdceaaXAskP
import Derived.Test.YtfcmphigmfdceaaXOrder
import Derived.Test.YtfcmphigmfdceaaF27
import Derived.Test.YtfcmphigmfdceaaF19
import Derived.Test.YtfcmphigmfdceaaKinds
import Derived.Test.YtfcmphigmfdceaaEq32
import Derived.Test.YtfcmphigmfdceaaF26
import Derived.Test.YtfcmphigmfdceaaF37
section
/- rewrite.Back alone: plain laws (for RewriteTurns). -/
namespace Go.Proofs.Ytfcmphigmfdceaa.Print
open Go.RowKit Go.Proofs.YtfcmphigmfdceaaW.PrintWords Go.Proofs.YtfcmphigmfdceaaW.PrintLast Go.Proofs.YtfcmphigmfdceaaW.PrintMore
set_option linter.unusedVariables false
set_option linter.unusedSimpArgs false
theorem rd_T59_at {l : List S59} {k : Nat} {x : S59} (h : l[k]? = some x) : rd_T59 l (k : Int) = x := by simp [rd_T59, List.getD_eq_getElem?_getD, h]
theorem lows_eq {a b : ByteArray} : (lowS a).toList = (lowS b).toList ↔ lowS a = lowS b :=
  ⟨fun h => by
    rw [Lib.toList_data, Lib.toList_data] at h
    exact ByteArray.ext (Array.ext' h), fun h => by rw [h]⟩
/-- an answer's record, turned back -/
def turnP (qn asked : ByteArray) (r : S59) : S59 := if lowS r.f0 = lowS asked then ⟨qn, r.f1, r.f2, r.f3, r.f4⟩ else r
theorem back_l0 (q asked : S32) (rc : Int) (aa : Bool) (l l3 l4 : List S59) (hl : l.length ≤ 1000) (h3 : l3.length ≤ 1000) (h4 : l4.length ≤ 1000) (hs : ∀ r ∈ l, r.f0.size ≤ 9223372036854775807) (d : Nat) : ∀ t : Nat, l.length - t ≤ d → t ≤ l.length →
    Ev (fun k => rewrite_Back.l0 k (lowS asked.f0) ((l.take t).map (turnP q.f0 asked.f0)) l (l.length : Int) (t : Int) q.f0 q.f1 q.f2 rc aa l l3 l4) (rc, aa, l.map (turnP q.f0 asked.f0), l3, l4) := by
  have fin : ∀ t : Nat, t ≤ l.length → ¬ t < l.length → Ev (fun k => rewrite_Back.l0 k (lowS asked.f0) ((l.take t).map (turnP q.f0 asked.f0)) l (l.length : Int) (t : Int) q.f0 q.f1 q.f2 rc aa l l3 l4) (rc, aa, l.map (turnP q.f0 asked.f0), l3, l4) := by
    intro t h1 h2
    rw [List.take_of_length_le (by omega)]
    refine Ev.step (f := fun _ => some (rc, aa, l.map (turnP q.f0 asked.f0), l3, l4)) (fun k => ?_) (Ev.now _)
    simp only [rewrite_Back.l0]
    rw [if_neg (by omega)]
    simp only [Option.bind_some, List.length_nil, Nat.zero_add, List.nil_append]
    rw [if_pos (by omega), if_pos (by omega)]
  induction d with
  | zero => intro t hd h1; exact fin t h1 (by omega)
  | succ d ih =>
    intro t hd h1
    by_cases ht : t < l.length
    · have hx := List.getElem?_eq_getElem ht
      have hr := rd_T59_at hx
      have hsz := hs _ (List.getElem_mem ht)
      have htk : (l.take (t + 1)).map (turnP q.f0 asked.f0) = (l.take t).map (turnP q.f0 asked.f0) ++ [turnP q.f0 asked.f0 l[t]] := by rw [take_succ' hx, List.map_append]; rfl
      have hll : ((l.take t).map (turnP q.f0 asked.f0)).length ≤ 1000 := by rw [List.length_map, List.length_take]; omega
      have ih' := ih (t + 1) (by omega) (by omega)
      rw [htk] at ih'
      generalize l[t] = x at hr hsz ih'
      have hw : wrap64 ((t : Int) + 1) = ((t + 1 : Nat) : Int) := by rw [w64 (by omega) (by omega)]; rfl
      refine Ev.step (fun k => ?_) ih'
      simp only [rewrite_Back.l0]
      rw [if_pos (by omega), if_pos (by omega), if_pos (by omega), hr, fold_f hsz, Option.bind_some, hw]
      have ht1 : turnP q.f0 asked.f0 x = if lowS x.f0 = lowS asked.f0 then ⟨q.f0, x.f1, x.f2, x.f3, x.f4⟩ else x := rfl
      rw [ht1]
      by_cases he : lowS x.f0 = lowS asked.f0
      · rw [if_pos (lows_eq.2 he), if_pos (by omega), if_pos he]
      · rw [if_neg (fun h => he (lows_eq.1 h)), if_pos (by omega), if_neg he]
    · exact fin t h1 ht
theorem back_f (q asked : S32) (rc : Int) (aa : Bool) (l l3 l4 : List S59) (hl : l.length ≤ 1000) (h3 : l3.length ≤ 1000) (h4 : l4.length ≤ 1000) (ha : asked.f0.size ≤ 9223372036854775807) (hs : ∀ r ∈ l, r.f0.size ≤ 9223372036854775807) :
    Ev (fun k => rewrite_Back.f k q.f0 q.f1 q.f2 asked.f0 asked.f1 asked.f2 rc aa l l3 l4) (rc, aa, l.map (turnP q.f0 asked.f0), l3, l4) := by
  refine Ev.congr (fun k => ?_) (back_l0 q asked rc aa l l3 l4 hl h3 h4 hs l.length 0 (by omega) (by omega))
  unfold rewrite_Back.f
  rw [fold_f ha]
  rfl
theorem Bx.blw {W W' : World} {n B : Nat} {cs : Array Value} {t : TypeId} (h : Bx W B cs t) (hb : Below n W W') (hn : B < n) : Bx W' B cs t := (hb.block B hn).trans h
theorem Bx.drew {W : World} {B : Nat} {cs : Array Value} {t : TypeId} (h : Bx W B cs t) : Bx W.drew B cs t := h
end Go.Proofs.Ytfcmphigmfdceaa.Print
end
section
/- What a rule makes of a question, as the document puts it: plain laws without its functions. -/
namespace Go.Proofs.Ytfcmphigmfdceaa.Print
open Go.RowKit Go.Proofs.YtfcmphigmfdceaaW.PrintWords Go.Proofs.YtfcmphigmfdceaaW.PrintLast Go.Proofs.YtfcmphigmfdceaaW.PrintMore
set_option linter.unusedVariables false
set_option linter.unusedSimpArgs false
theorem is_f (n : ByteArray) : Ev (fun k => hearsayref01_Is.f k n) (dec n).isSome := by
  obtain ⟨l', hE, hL⟩ := split_f n
  exact Ev.bind (f := fun _ (x : List ByteArray × Bool) => some x.2) hE (Ev.now _)
theorem rlabels_f (n : ByteArray) : Ev (fun k => hearsayref01_Labels.f k n) ((dec n).getD []) := by
  obtain ⟨l', hE, hL⟩ := split_f n
  refine Ev.bind (f := fun _ (x : List ByteArray × Bool) => if x.2 = true then some x.1 else some []) hE ?_
  cases h : dec n with
  | none => exact Ev.now _
  | some L => rw [hL L h]; exact Ev.now _
def rAlike (A B : List ByteArray) : Bool := decide (A.map lowS = B.map lowS)
theorem dec_mem {n : ByteArray} {s : ByteArray} (hs : s ∈ (dec n).getD []) : s.size ≤ 9223372036854775807 := by
  cases h : dec n with
  | none => rw [h] at hs; simp at hs
  | some L => rw [h] at hs; have := label_small h (s := s) (by simpa using hs); omega
/-- what the document makes of a question -/
def makesP (q : S32) (x : S38) : S32 × Bool :=
  if x.f0 = 4 then (if q.f1 = x.f3 then (⟨q.f0, x.f4, q.f2⟩, true) else (z32, false))
  else
    let L := (dec q.f0).getD []
    let F := (dec x.f1).getD []
    let T := (dec x.f2).getD []
    if L.length < F.length ∨ (x.f0 = 1 ∧ F.length < L.length) then (z32, false)
    else if x.f0 = 3 then (if rAlike (L.take F.length) F then ofP (T ++ L.drop F.length) q else (z32, false))
    else (if rAlike (L.drop (L.length - F.length)) F then ofP (L.take (L.length - F.length) ++ T) q else (z32, false))
theorem rAlike_keys {L M : List ByteArray} : rAlike L M = true ↔ L.map keyB = M.map keyB := by
  unfold rAlike; rw [decide_eq_true_iff]; exact keys_low.symm
theorem cmp_alikeL {a b : ByteArray} {L M : List ByteArray} (ha : dec a = some L) (hb : dec b = some M) : cmpP a b = 0 ↔ rAlike L M = true := by
  rw [cmp_key, rAlike_keys]
  unfold keyN
  rw [ha, hb]
  simp only [cK]
  rw [lex_zero (lex_zero cI_zero), List.map_reverse, List.map_reverse, List.reverse_inj]
theorem of_fine {L : List ByteArray} (h : L.any badLab = false) (hl : (glue L).length + 1 ≤ 255) : (name_Of.f L).getD (⟨#[]⟩, 1) = (nameOf L, 0) := by
  rw [of_def, if_neg (by rw [h]; simp), if_neg (by omega)]
theorem ofP_dec {n : ByteArray} {L : List ByteArray} (h : dec n = some L) (q : S32) : ofP L q = (⟨n, q.f1, q.f2⟩, true) := by
  unfold ofP
  have h1 := dec_size h
  have h2 := dec_some h
  rw [of_fine h2.2.2 (by omega)]
  simp only [if_true]
  rw [nameOf_dec h]
theorem take_fine {L : List ByteArray} (h : L.any badLab = false) (j : Nat) : (L.take j).any badLab = false := by
  rw [List.any_eq_false] at h ⊢
  exact fun x hx => h x (List.mem_of_mem_take hx)
theorem makes_do {q : S32} {x : S38} (hx : ruleOk x = true) (hq : (dec q.f0).isSome = true) : makesP q x = doP q x := by
  obtain ⟨L, hL⟩ := Option.isSome_iff_exists.1 hq
  unfold ruleOk at hx
  by_cases kk : x.f0 = 1 ∨ x.f0 = 2 ∨ x.f0 = 3
  · rw [if_pos kk] at hx
    simp only [Bool.and_eq_true, decide_eq_true_eq] at hx
    obtain ⟨F, hF⟩ := Option.isSome_iff_exists.1 hx.1.1.1
    obtain ⟨T, hT⟩ := Option.isSome_iff_exists.1 hx.1.1.2
    unfold makesP doP
    rw [if_neg (show ¬ x.f0 = 4 by omega)]
    simp only [hL, hF, hT, Option.getD_some]
    have sL := dec_some hL
    have zL := dec_size hL
    rcases kk with k1 | k2 | k3
    · rw [if_pos k1, if_neg (show ¬ x.f0 = 3 by omega)]
      by_cases hl : L.length = F.length
      · rw [if_neg (by omega), hl, Nat.sub_self, List.drop_zero, List.take_zero, List.nil_append, ofP_dec hT]
        by_cases ha : rAlike L F = true
        · rw [if_pos ha, if_pos ((cmp_alikeL hL hF).2 ha)]
        · rw [if_neg ha, if_neg (fun h => ha ((cmp_alikeL hL hF).1 h))]
      · have hne : ¬ cmpP q.f0 x.f1 = 0 := fun h => hl (by
          have h1 := (cmp_alikeL hL hF).1 h
          have h2 := congrArg List.length (rAlike_keys.1 h1)
          simpa using h2)
        rw [if_pos (by omega), if_neg hne]
    · rw [if_neg (show ¬ x.f0 = 1 by omega), if_pos k2, if_neg (show ¬ x.f0 = 3 by omega)]
      by_cases hl : L.length < F.length
      · have hu : underP q.f0 x.f1 = false := by unfold underP; rw [hL, hF]; simp only; rw [if_pos hl]
        rw [if_pos (Or.inl hl), hu]
        rfl
      · rw [if_neg (by omega)]
        have hg := glue_drop hL (L.length - F.length)
        have hd : dec (nameOf (L.drop (L.length - F.length))) = some (L.drop (L.length - F.length)) := dec_nameOf (drop_fine sL.2.2 _) hg
        have hu : underP q.f0 x.f1 = rAlike (L.drop (L.length - F.length)) F := by
          unfold underP; rw [hL, hF]; simp only; rw [if_neg hl, Bool.eq_iff_iff, rAlike_keys, ← alike_iff hd hF, beq_iff_eq, toList_eq]
        rw [hu]
    · rw [if_neg (show ¬ x.f0 = 1 by omega), if_neg (show ¬ x.f0 = 2 by omega), if_pos k3, if_pos k3]
      by_cases hl : L.length < F.length
      · rw [if_pos (Or.inl hl), if_pos hl]
      · rw [if_neg (by omega), if_neg hl]
        have hg : (glue (L.take F.length)).length ≤ (glue L).length := glue_mono L F.length
        have hd : dec (nameOf (L.take F.length)) = some (L.take F.length) := dec_nameOf (take_fine sL.2.2 _) (by omega)
        rw [of_fine (take_fine sL.2.2 _) (by omega)]
        simp only [true_and]
        by_cases ha : rAlike (L.take F.length) F = true
        · rw [if_pos ha, if_pos ((cmp_alikeL hd hF).2 ha)]
        · rw [if_neg ha, if_neg (fun h => ha ((cmp_alikeL hd hF).1 h))]
  · rw [if_neg kk] at hx
    by_cases k4 : x.f0 = 4
    · unfold makesP doP
      rw [if_pos k4, if_neg (show ¬ x.f0 = 1 by omega), if_neg (show ¬ x.f0 = 2 by omega), if_neg (show ¬ x.f0 = 3 by omega)]
    · rw [if_neg k4] at hx; exact absurd hx (by simp)
def firstP (D : S38 → S32 × Bool) (l : List S38) : S32 × Bool := match mades D l with | y :: _ => (y, true) | [] => (z32, false)
theorem firstP_yes {D : S38 → S32 × Bool} {x : S38} {l : List S38} (h : (D x).2 = true) : firstP D (x :: l) = ((D x).1, true) := by unfold firstP mades; rw [List.filterMap_cons]; simp [h]
theorem firstP_no {D : S38 → S32 × Bool} {x : S38} {l : List S38} (h : (D x).2 = false) : firstP D (x :: l) = firstP D l := by unfold firstP mades; rw [List.filterMap_cons]; simp [h]
theorem askP_first (l : List S38) (q : S32) : askP l q = if checkP l = 0 then if (dec q.f0).isSome then firstP (doP q) l else (z32, false) else (z32, false) := rfl
theorem check_all {l : List S38} (h : checkP l = 0) : l.length ≤ 32 ∧ ∀ x ∈ l, ruleOk x = true := by
  unfold checkP at h
  split at h
  · omega
  · rename_i h1
    split at h
    · rename_i h2; exact ⟨by omega, List.all_eq_true.1 h2⟩
    · omega
end Go.Proofs.Ytfcmphigmfdceaa.Print
end
section
-- Written by a program of this session, built on the kit's print (it is not the print's own text).
namespace Go.Proofs.Ytfcmphigmfdceaa.Print
open Go.RowKit Go.Proofs.YtfcmphigmfdceaaW.PrintWords Go.Proofs.YtfcmphigmfdceaaW.PrintLast Go.Proofs.YtfcmphigmfdceaaW.PrintMore
set_option linter.unusedVariables false
set_option linter.unusedSimpArgs false

attribute [local go_sem high] eqA32
/-! ### hearsaylaw25_asks: function 15 -/
def hearsaylaw25_asks.f  : Option (Bool) := (rewrite_Ask.f (([(⟨2, (⟨#[1, 98, 0]⟩ : ByteArray), (⟨#[1, 99, 1, 100, 0]⟩ : ByteArray), 0, 0⟩ : S38)] : List (S38))) (⟨#[1, 88, 1, 66, 0]⟩ : ByteArray) 1 1).bind fun bt145 => (if bt145.2.2.2 = true then (some (bt145.1.toList == ([1, 88, 1, 99, 1, 100, 0] : List UInt8) && (bt145.2.1 == 1 && (bt145.2.2.1 == 1)))) else (some false))
set_option maxHeartbeats 8000000 in
set_option maxRecDepth 100000 in
theorem hearsaylaw25_asks.calls  (r : Bool) (w : World) (h : hearsaylaw25_asks.f  = some r) :
    Calls Try.prog 15 #[] w fun e w' => e = .returned (.bool r) ∧ Below w.heap.size w w' := by
  have hu38 := Try.underlying38
  have hu32 := Try.underlying32
  have HB := Aside0.mk (Below.refl w.heap.size w)
  have H : ((rewrite_Ask.f (([(⟨2, (⟨#[1, 98, 0]⟩ : ByteArray), (⟨#[1, 99, 1, 100, 0]⟩ : ByteArray), 0, 0⟩ : S38)] : List (S38))) (⟨#[1, 88, 1, 66, 0]⟩ : ByteArray) 1 1).bind fun bt145 => (if bt145.2.2.2 = true then (some (bt145.1.toList == ([1, 88, 1, 99, 1, 100, 0] : List UInt8) && (bt145.2.1 == 1 && (bt145.2.2.1 == 1)))) else (some false))) = some r := h
  clear h
  obtain ⟨y142, hy142⟩ : ∃ y_ : List (S38), y_ = (([(⟨2, (⟨#[1, 98, 0]⟩ : ByteArray), (⟨#[1, 99, 1, 100, 0]⟩ : ByteArray), 0, 0⟩ : S38)] : List (S38))) := ⟨_, rfl⟩
  replace H : ((rewrite_Ask.f y142 (⟨#[1, 88, 1, 66, 0]⟩ : ByteArray) 1 1).bind fun bt145 => (if bt145.2.2.2 = true then (some (bt145.1.toList == ([1, 88, 1, 99, 1, 100, 0] : List UInt8) && (bt145.2.1 == 1 && (bt145.2.2.1 == 1)))) else (some false))) = some r := by first | (rw [hy142]; with_reducible exact H) | (have H2_ := (Option.bind_some _ _).symm.trans H; rw [hy142]; with_reducible exact H2_) | (have H2_ := (Option.bind_some _ _).symm.trans H; with_reducible exact H2_) | with_reducible exact H | (rw [hy142]; exact H) | exact H
  have Ny142 := Aside0.mk hy142
  clear hy142
  replace H := Option.bind_eq_some_iff.mp H
  obtain ⟨⟨t145, t146, t147, t148⟩, A10, H⟩ := H
  replace H : (if t148 = true then (some (t145.toList == ([1, 88, 1, 99, 1, 100, 0] : List UInt8) && (t146 == 1 && (t147 == 1)))) else (some false)) = some r := H
  have A1 := Aside0.mk A10
  clear A10
  by_cases c2 : t148 = true
  · subst c2
    have H1 : (some (t145.toList == ([1, 88, 1, 99, 1, 100, 0] : List UInt8) && (t146 == 1 && (t147 == 1)))) = some r := by rw [if_pos rfl] at H; exact H
    clear H
    have H := H1
    clear H1
    obtain rfl := Option.some.inj H
    go_enter Try.func15, Try.ntmps15
    go_wp2_with (first | ((with_reducible refine gate_dst (N := 5) rfl ?_); refine Kd.R_lit k38 _ 38 ?hg (N := 5) ?hd (xs := ([(⟨2, (⟨#[1, 98, 0]⟩ : ByteArray), (⟨#[1, 99, 1, 100, 0]⟩ : ByteArray), 0, 0⟩ : S38)] : List (S38))) (inner := [.int .u8 2, .string (⟨#[1, 98, 0]⟩ : ByteArray), .string (⟨#[1, 99, 1, 100, 0]⟩ : ByteArray), .int .u16 0, .int .u16 0]) (ok := fun _ => True) (okp := fun _ => True) ?hr ?hp (fun _ hk => hk) trivial (Below.refl _ _) (Nat.le_refl _) (by simp) ?_; (case hd => rfl); (case hg => rfl); (case hr => first | (go_simp; done) | (go_simp; rfl)); (case hp => exact (Reps.c5 (show Kd.M k38 _ _ _ (⟨2, (⟨#[1, 98, 0]⟩ : ByteArray), (⟨#[1, 99, 1, 100, 0]⟩ : ByteArray), 0, 0⟩ : S38) [.int .u8 2, .string (⟨#[1, 98, 0]⟩ : ByteArray), .string (⟨#[1, 99, 1, 100, 0]⟩ : ByteArray), .int .u16 0, .int .u16 0] from (k38_mkM _ _ _ (⟨2, (⟨#[1, 98, 0]⟩ : ByteArray), (⟨#[1, 99, 1, 100, 0]⟩ : ByteArray), 0, 0⟩ : S38) )) (Reps.none _ _))); intro v143 w3 ho4 hb hg_ hnew_; clear hg_ hnew_; (first | rw [← Ny142.out] at ho4 | (simp only [Int.reduceToNat] at ho4; rw [← Ny142.out] at ho4)); have n0_ := Aside0.mk (Kd.R_lower ho4 (below_size (by repeat (first | (with_reducible first | exact HB.out | apply below_alloc | apply pw_below_drewN | apply below_drew1) | exact HB.out)))); have n1_ := Aside0.mk (below_step (by repeat (first | (with_reducible first | exact HB.out | apply below_alloc | apply pw_below_drewN | apply below_drew1) | exact HB.out)) hb); clear HB; have HO144 := n0_; have HB := n1_; clear n0_ n1_; clear hb ho4; obtain ⟨Ao5, co5, eo5⟩ := Kd.R_slice HO144.out; subst eo5) | ((with_reducible refine gate_callee (f := 16) rfl ?_); refine goesL_ (some 7) rfl rfl Try.func16 (by kernel_rfl) rfl #[.slice Ao5 y142.length co5, .agg #[.string (⟨#[1, 88, 1, 66, 0]⟩ : ByteArray), .int .u16 1, .int .u16 1]] rfl (by (try simp only [List.map_toArray, List.map_cons, List.map_nil]); first | done | rfl | (simp only [List.length_drop, List.length_take]; rfl)) ?_; (with_reducible refine (rewrite_Ask.calls _ _ y142 (⟨#[1, 88, 1, 66, 0]⟩ : ByteArray) 1 1 t145 t146 t147 true _ ?side1 ?side2 A1.out).mono ?_); (case side1 => repeat (first | exact (Kd.R_reads' HO144.out).2.2 | (with_reducible refine Kd.C_alloc ?_ _) | (with_reducible refine Kd.C_drewN ?_ _) | (with_reducible refine Kd.C_drew ?_))); (case side2 => exact (Kd.R_reads' HO144.out).2.1); rintro e w6 ⟨rfl, hb⟩; refine ⟨_, rfl, ?_⟩; have n0_ := Aside0.mk (Kd.R_below (by (with_reducible repeat (first | apply Kd.R_alloc | apply Kd.R_drewN | apply Kd.R_drew)); exact HO144.out) hb); have n1_ := Aside0.mk (below_step (by repeat (first | (with_reducible first | exact HB.out | apply below_alloc | apply pw_below_drewN | apply below_drew1) | exact HB.out)) hb); clear HO144; clear HB; have HO144 := n0_; have HB := n1_; clear n0_ n1_; (try clear hb); (try clear hb2); (try clear hk); (try clear hi)) | ((with_reducible refine gate_dst (N := 1) rfl ?_); refine box_event ?hg (N := 1) ?hd (cs := #[.string (⟨#[]⟩ : ByteArray), .int .u16 0, .int .u16 0]) (t := 32) ?hr ?_; (case hd => rfl); (case hg => rfl); (case hr => first | (go_simp; done) | (go_simp; rfl)); intro gb149 hg w7 hbox hb; have n0_ := Aside0.mk (Kd.R_below (by (with_reducible repeat (first | apply Kd.R_alloc | apply Kd.R_drewN | apply Kd.R_drew)); exact HO144.out) hb); have n1_ := Aside0.mk (below_step (by repeat (first | (with_reducible first | exact HB.out | apply below_alloc | apply pw_below_drewN | apply below_drew1) | exact HB.out)) hb); have n2_ := Aside0.mk (hbox); have n3_ := Aside0.mk ((by rw [hg]; exact (below_size (by repeat (first | (with_reducible first | exact HB.out | apply below_alloc | apply pw_below_drewN | apply below_drew1) | exact HB.out))) : w.heap.size ≤ gb149)); have n4_ := Aside0.mk ((by rw [hg]; exact (below_size (by repeat (first | (with_reducible first | exact HB.out | apply below_alloc | apply pw_below_drewN | apply below_drew1) | exact HB.out))) : w.heap.size ≤ gb149)); clear HO144; clear HB; have HO144 := n0_; have HB := n1_; have BK149 := n2_; have GW149 := n3_; have GE149 := n4_; clear n0_ n1_ n2_ n3_ n4_; clear hb hbox hg; have hcz8_0 : w7.cell? ⟨gb149, 0, none⟩ = some (.string (⟨#[]⟩ : ByteArray)) := (blk_cell BK149.out 0).trans rfl; have hcz8_1 : w7.cell? ⟨gb149, 1, none⟩ = some (.int .u16 0) := (blk_cell BK149.out 1).trans rfl; have hcz8_2 : w7.cell? ⟨gb149, 2, none⟩ = some (.int .u16 0) := (blk_cell BK149.out 2).trans rfl; have hfz8_0 := blk_frozen BK149.out 0; have hfz8_1 := blk_frozen BK149.out 1; have hfz8_2 := blk_frozen BK149.out 2))
    go_ret
    exact ⟨by first | rfl | (simp [errW_none, errW_some] <;> rfl) | (simp [*, errW_none, errW_some] <;> rfl), by repeat (first | (with_reducible first | exact HB.out | apply below_alloc | apply pw_below_drewN | apply below_drew1 | refine below_set ?_ GE149.out) | exact HB.out)⟩
  · replace c2 := Bool.eq_false_iff.mpr c2
    subst c2
    have H1 : (some false) = some r := by rw [if_neg (show ¬ (false = true) by decide)] at H; exact H
    clear H
    have H := H1
    clear H1
    obtain rfl := Option.some.inj H
    go_enter Try.func15, Try.ntmps15
    go_wp2_with (first | ((with_reducible refine gate_dst (N := 5) rfl ?_); refine Kd.R_lit k38 _ 38 ?hg (N := 5) ?hd (xs := ([(⟨2, (⟨#[1, 98, 0]⟩ : ByteArray), (⟨#[1, 99, 1, 100, 0]⟩ : ByteArray), 0, 0⟩ : S38)] : List (S38))) (inner := [.int .u8 2, .string (⟨#[1, 98, 0]⟩ : ByteArray), .string (⟨#[1, 99, 1, 100, 0]⟩ : ByteArray), .int .u16 0, .int .u16 0]) (ok := fun _ => True) (okp := fun _ => True) ?hr ?hp (fun _ hk => hk) trivial (Below.refl _ _) (Nat.le_refl _) (by simp) ?_; (case hd => rfl); (case hg => rfl); (case hr => first | (go_simp; done) | (go_simp; rfl)); (case hp => exact (Reps.c5 (show Kd.M k38 _ _ _ (⟨2, (⟨#[1, 98, 0]⟩ : ByteArray), (⟨#[1, 99, 1, 100, 0]⟩ : ByteArray), 0, 0⟩ : S38) [.int .u8 2, .string (⟨#[1, 98, 0]⟩ : ByteArray), .string (⟨#[1, 99, 1, 100, 0]⟩ : ByteArray), .int .u16 0, .int .u16 0] from (k38_mkM _ _ _ (⟨2, (⟨#[1, 98, 0]⟩ : ByteArray), (⟨#[1, 99, 1, 100, 0]⟩ : ByteArray), 0, 0⟩ : S38) )) (Reps.none _ _))); intro v143 w9 ho10 hb hg_ hnew_; clear hg_ hnew_; (first | rw [← Ny142.out] at ho10 | (simp only [Int.reduceToNat] at ho10; rw [← Ny142.out] at ho10)); have n0_ := Aside0.mk (Kd.R_lower ho10 (below_size (by repeat (first | (with_reducible first | exact HB.out | apply below_alloc | apply pw_below_drewN | apply below_drew1) | exact HB.out)))); have n1_ := Aside0.mk (below_step (by repeat (first | (with_reducible first | exact HB.out | apply below_alloc | apply pw_below_drewN | apply below_drew1) | exact HB.out)) hb); clear HB; have HO144 := n0_; have HB := n1_; clear n0_ n1_; clear hb ho10; obtain ⟨Ao11, co11, eo11⟩ := Kd.R_slice HO144.out; subst eo11) | ((with_reducible refine gate_callee (f := 16) rfl ?_); refine goesL_ (some 7) rfl rfl Try.func16 (by kernel_rfl) rfl #[.slice Ao11 y142.length co11, .agg #[.string (⟨#[1, 88, 1, 66, 0]⟩ : ByteArray), .int .u16 1, .int .u16 1]] rfl (by (try simp only [List.map_toArray, List.map_cons, List.map_nil]); first | done | rfl | (simp only [List.length_drop, List.length_take]; rfl)) ?_; (with_reducible refine (rewrite_Ask.calls _ _ y142 (⟨#[1, 88, 1, 66, 0]⟩ : ByteArray) 1 1 t145 t146 t147 false _ ?side1 ?side2 A1.out).mono ?_); (case side1 => repeat (first | exact (Kd.R_reads' HO144.out).2.2 | (with_reducible refine Kd.C_alloc ?_ _) | (with_reducible refine Kd.C_drewN ?_ _) | (with_reducible refine Kd.C_drew ?_))); (case side2 => exact (Kd.R_reads' HO144.out).2.1); rintro e w12 ⟨rfl, hb⟩; refine ⟨_, rfl, ?_⟩; have n0_ := Aside0.mk (Kd.R_below (by (with_reducible repeat (first | apply Kd.R_alloc | apply Kd.R_drewN | apply Kd.R_drew)); exact HO144.out) hb); have n1_ := Aside0.mk (below_step (by repeat (first | (with_reducible first | exact HB.out | apply below_alloc | apply pw_below_drewN | apply below_drew1) | exact HB.out)) hb); clear HO144; clear HB; have HO144 := n0_; have HB := n1_; clear n0_ n1_; (try clear hb); (try clear hb2); (try clear hk); (try clear hi)) | ((with_reducible refine gate_dst (N := 1) rfl ?_); refine box_event ?hg (N := 1) ?hd (cs := #[.string (⟨#[]⟩ : ByteArray), .int .u16 0, .int .u16 0]) (t := 32) ?hr ?_; (case hd => rfl); (case hg => rfl); (case hr => first | (go_simp; done) | (go_simp; rfl)); intro gb149 hg w13 hbox hb; have n0_ := Aside0.mk (Kd.R_below (by (with_reducible repeat (first | apply Kd.R_alloc | apply Kd.R_drewN | apply Kd.R_drew)); exact HO144.out) hb); have n1_ := Aside0.mk (below_step (by repeat (first | (with_reducible first | exact HB.out | apply below_alloc | apply pw_below_drewN | apply below_drew1) | exact HB.out)) hb); have n2_ := Aside0.mk (hbox); have n3_ := Aside0.mk ((by rw [hg]; exact (below_size (by repeat (first | (with_reducible first | exact HB.out | apply below_alloc | apply pw_below_drewN | apply below_drew1) | exact HB.out))) : w.heap.size ≤ gb149)); have n4_ := Aside0.mk ((by rw [hg]; exact (below_size (by repeat (first | (with_reducible first | exact HB.out | apply below_alloc | apply pw_below_drewN | apply below_drew1) | exact HB.out))) : w.heap.size ≤ gb149)); clear HO144; clear HB; have HO144 := n0_; have HB := n1_; have BK149 := n2_; have GW149 := n3_; have GE149 := n4_; clear n0_ n1_ n2_ n3_ n4_; clear hb hbox hg; have hcz14_0 : w13.cell? ⟨gb149, 0, none⟩ = some (.string (⟨#[]⟩ : ByteArray)) := (blk_cell BK149.out 0).trans rfl; have hcz14_1 : w13.cell? ⟨gb149, 1, none⟩ = some (.int .u16 0) := (blk_cell BK149.out 1).trans rfl; have hcz14_2 : w13.cell? ⟨gb149, 2, none⟩ = some (.int .u16 0) := (blk_cell BK149.out 2).trans rfl; have hfz14_0 := blk_frozen BK149.out 0; have hfz14_1 := blk_frozen BK149.out 1; have hfz14_2 := blk_frozen BK149.out 2))
    go_ret
    exact ⟨by first | rfl | (simp [errW_none, errW_some] <;> rfl) | (simp [*, errW_none, errW_some] <;> rfl), by repeat (first | (with_reducible first | exact HB.out | apply below_alloc | apply pw_below_drewN | apply below_drew1 | refine below_set ?_ GE149.out) | exact HB.out)⟩

end Go.Proofs.Ytfcmphigmfdceaa.Print
end
section
-- Written by a program of this session, built on the kit's print (it is not the print's own text).
namespace Go.Proofs.Ytfcmphigmfdceaa.Print
open Go.RowKit Go.Proofs.YtfcmphigmfdceaaW.PrintWords Go.Proofs.YtfcmphigmfdceaaW.PrintLast Go.Proofs.YtfcmphigmfdceaaW.PrintMore
set_option linter.unusedVariables false
set_option linter.unusedSimpArgs false

/-! ### hearsaylaw25_long: function 10 -/
def hearsaylaw25_long.l0 : Nat → List (S38) → Int → Option (Bool)
  | 0, _, _ => none
  | k + 1, x0, x3 => if x3 < (x0.length : Int) then (if 0 ≤ x3 then (if (((rd_T38 x0 x3).f1).size : Int) > 2000 then (some true) else (if (((rd_T38 x0 x3).f2).size : Int) > 2000 then (some true) else (hearsaylaw25_long.l0 k x0 (wrap64 (x3 + 1))))) else (none)) else (some false)
def hearsaylaw25_long.f (k : Nat) (l0 : List (S38)) : Option (Bool) := if (l0.length : Int) > 200 then (some true) else (hearsaylaw25_long.l0 k l0 0)
theorem hearsaylaw25_long.mono_l : ∀ k, (∀ y0 y1, LeO (hearsaylaw25_long.l0 k y0 y1) (hearsaylaw25_long.l0 (k + 1) y0 y1))
  | 0 => fun _ _ r h => by simp [hearsaylaw25_long.l0] at h
  | k + 1 => by
    have ih0 := hearsaylaw25_long.mono_l k
    · intro y0 y1
      unfold hearsaylaw25_long.l0
      repeat' first
      | (with_reducible exact ih0 _ _)
      | (with_reducible exact LeO.refl _)
      | (with_reducible exact LeO.none _)
      | (with_reducible refine LeO.ite ?_ ?_)
      | (with_reducible refine LeO.bind ?_ (fun _ => ?_))
      | exact ih0 _ _
      | exact LeO.none _
      | refine LeO.ite ?_ ?_
      | refine LeO.bind ?_ (fun _ => ?_)
theorem hearsaylaw25_long.mono : ∀ a0 k, LeO (hearsaylaw25_long.f k a0) (hearsaylaw25_long.f (k + 1) a0) := by
  intro a0 k
  have ih0 := hearsaylaw25_long.mono_l k
  unfold hearsaylaw25_long.f
  repeat' first
      | (with_reducible exact ih0 _ _)
      | (with_reducible exact LeO.refl _)
      | (with_reducible exact LeO.none _)
      | (with_reducible refine LeO.ite ?_ ?_)
      | (with_reducible refine LeO.bind ?_ (fun _ => ?_))
      | exact ih0 _ _
      | exact LeO.none _
      | refine LeO.ite ?_ ?_
      | refine LeO.bind ?_ (fun _ => ?_)
set_option maxHeartbeats 8000000 in
set_option maxRecDepth 100000 in
theorem hearsaylaw25_long.calls (k : Nat) (A0 : Option Addr) (c0 : Nat) (l0 : List (S38)) (r : Bool) (w : World) (hr0 : Kd.C k38 w A0 l0.length l0) (hc0 : l0.length ≤ c0) (h : hearsaylaw25_long.f k l0 = some r) :
    Calls Try.prog 10 #[.slice A0 l0.length c0] w fun e w' => e = .returned (.bool r) ∧ Drawn0 w w' := by
  have HR0 := Aside0.mk hr0
  have HC0 := Aside0.mk hc0
  clear hr0 hc0
  have H : (if (l0.length : Int) > 200 then (some true) else (hearsaylaw25_long.l0 k l0 0)) = some r := h
  clear h
  by_cases c2 : (l0.length : Int) > 200
  · rw [if_pos c2] at H
    have c2b0 : decide (200 < (l0.length : Int)) = true := decide_eq_true c2
    have c2b1 : decide (200 < l0.length) = true := decide_eq_true (by omega)
    clear c2
    obtain rfl := Option.some.inj H
    go_enter Try.func10, Try.ntmps10
    go_wp2
    go_ret
    exact ⟨by first | rfl | (simp; done) | (simp [*]; done), by repeat (first | exact Drawn0.refl _ | apply Drawn0.step)⟩
  · rw [if_neg c2] at H
    have c2b0 : decide (200 < (l0.length : Int)) = false := decide_eq_false c2
    have c2b1 : decide (200 < l0.length) = false := decide_eq_false (by omega)
    clear c2
    have H' := Aside0.mk H
    clear H
    go_enter Try.func10, Try.ntmps10
    go_wp2
    go_loopg [3] k (fun kq v3 w' => ∃ (x3_1 : Int), v3 = .int .i64 x3_1 ∧ Aside0 (hearsaylaw25_long.l0 kq l0 x3_1 = some r) ∧ Aside0 (kq ≤ k) ∧ Drawn0 w w')
    case atStart => exact ⟨(0), (by first | rfl | (simp; done) | (simp [*]; done)), H', ⟨Nat.le_refl _⟩, by repeat (first | exact Drawn0.refl _ | apply Drawn0.step)⟩
    case round =>
      clear H'
      try clear c1
      try clear c2
      try clear c2b0
      try clear c2b1
      try clear p2
      obtain ⟨x3_1, rfl, HA, HK1, ⟨m1, rfl⟩⟩ := hrel
      cases gk with
      | zero => exact absurd HA.out (by simp [hearsaylaw25_long.l0])
      | succ k1 =>
        have H := HA.out
        clear HA
        simp only [hearsaylaw25_long.l0] at H
        by_cases c3 : x3_1 < (l0.length : Int)
        · rw [if_pos c3] at H
          have c3b0 : decide (x3_1 < (l0.length : Int)) = true := decide_eq_true c3
          clear c3
          by_cases c4 : 0 ≤ x3_1
          · rw [if_pos c4] at H
            have c4b0 : decide (0 ≤ x3_1) = true := decide_eq_true c4
            clear c4
            by_cases c5 : (((rd_T38 l0 x3_1).f1).size : Int) > 2000
            · rw [if_pos c5] at H
              have c5b0 : decide (2000 < (((rd_T38 l0 x3_1).f1).size : Int)) = true := decide_eq_true c5
              have c5b1 : decide (2000 < ((rd_T38 l0 x3_1).f1).size) = true := decide_eq_true (by omega)
              clear c5
              obtain rfl := Option.some.inj H
              have p101 : 0 ≤ (x3_1 : Int) := of_decide_eq_true (by first | (with_reducible assumption) | assumption)
              have q101 : x3_1 < (l0.length : Int) := of_decide_eq_true (by first | (with_reducible assumption) | assumption)
              obtain ⟨ad101, e101, hx101_0, hx101_1, hx101_2, hx101_3, hx101_4⟩ := at_T38 HR0.out x3_1 p101 q101
              cases e101
              replace p101 := eq_true p101
              replace q101 := eq_true q101
              go_wp2
              go_ret
              exact ⟨by first | rfl | (simp; done) | (simp [*]; done), by repeat (first | exact Drawn0.refl _ | apply Drawn0.step)⟩
            · rw [if_neg c5] at H
              have c5b0 : decide (2000 < (((rd_T38 l0 x3_1).f1).size : Int)) = false := decide_eq_false c5
              have c5b1 : decide (2000 < ((rd_T38 l0 x3_1).f1).size) = false := decide_eq_false (by omega)
              clear c5
              by_cases c6 : (((rd_T38 l0 x3_1).f2).size : Int) > 2000
              · rw [if_pos c6] at H
                have c6b0 : decide (2000 < (((rd_T38 l0 x3_1).f2).size : Int)) = true := decide_eq_true c6
                have c6b1 : decide (2000 < ((rd_T38 l0 x3_1).f2).size) = true := decide_eq_true (by omega)
                clear c6
                obtain rfl := Option.some.inj H
                have p101 : 0 ≤ (x3_1 : Int) := of_decide_eq_true (by first | (with_reducible assumption) | assumption)
                have q101 : x3_1 < (l0.length : Int) := of_decide_eq_true (by first | (with_reducible assumption) | assumption)
                obtain ⟨ad101, e101, hx101_0, hx101_1, hx101_2, hx101_3, hx101_4⟩ := at_T38 HR0.out x3_1 p101 q101
                cases e101
                replace p101 := eq_true p101
                replace q101 := eq_true q101
                have p102 : 0 ≤ (x3_1 : Int) := of_decide_eq_true (by first | (with_reducible assumption) | assumption)
                have q102 : x3_1 < (l0.length : Int) := of_decide_eq_true (by first | (with_reducible assumption) | assumption)
                obtain ⟨ad102, e102, hx102_0, hx102_1, hx102_2, hx102_3, hx102_4⟩ := at_T38 HR0.out x3_1 p102 q102
                obtain rfl : ad101 = ad102 := (by injection e102)
                replace p102 := eq_true p102
                replace q102 := eq_true q102
                go_wp2
                go_ret
                exact ⟨by first | rfl | (simp; done) | (simp [*]; done), by repeat (first | exact Drawn0.refl _ | apply Drawn0.step)⟩
              · rw [if_neg c6] at H
                have c6b0 : decide (2000 < (((rd_T38 l0 x3_1).f2).size : Int)) = false := decide_eq_false c6
                have c6b1 : decide (2000 < ((rd_T38 l0 x3_1).f2).size) = false := decide_eq_false (by omega)
                clear c6
                have H' := Aside0.mk H
                clear H
                have p101 : 0 ≤ (x3_1 : Int) := of_decide_eq_true (by first | (with_reducible assumption) | assumption)
                have q101 : x3_1 < (l0.length : Int) := of_decide_eq_true (by first | (with_reducible assumption) | assumption)
                obtain ⟨ad101, e101, hx101_0, hx101_1, hx101_2, hx101_3, hx101_4⟩ := at_T38 HR0.out x3_1 p101 q101
                cases e101
                replace p101 := eq_true p101
                replace q101 := eq_true q101
                have p102 : 0 ≤ (x3_1 : Int) := of_decide_eq_true (by first | (with_reducible assumption) | assumption)
                have q102 : x3_1 < (l0.length : Int) := of_decide_eq_true (by first | (with_reducible assumption) | assumption)
                obtain ⟨ad102, e102, hx102_0, hx102_1, hx102_2, hx102_3, hx102_4⟩ := at_T38 HR0.out x3_1 p102 q102
                obtain rfl : ad101 = ad102 := (by injection e102)
                replace p102 := eq_true p102
                replace q102 := eq_true q102
                go_wp2
                go_roundg k1
                case measure => have := HK1.out; omega
                case rel => exact ⟨(wrap64 (x3_1 + 1)), (by first | rfl | (simp; done) | (simp [*]; done)), H', ⟨by have := HK1.out; omega⟩, by repeat (first | exact Drawn0.refl _ | apply Drawn0.step)⟩
          · rw [if_neg c4] at H
            exact absurd H (by simp)
        · rw [if_neg c3] at H
          have c3b0 : decide (x3_1 < (l0.length : Int)) = false := decide_eq_false c3
          clear c3
          obtain rfl := Option.some.inj H
          go_wp2
          go_ret
          exact ⟨by first | rfl | (simp; done) | (simp [*]; done), by repeat (first | exact Drawn0.refl _ | apply Drawn0.step)⟩

end Go.Proofs.Ytfcmphigmfdceaa.Print
end
section
-- Written by a program of this session, built on the kit's print (it is not the print's own text).
namespace Go.Proofs.Ytfcmphigmfdceaa.Print
open Go.RowKit Go.Proofs.YtfcmphigmfdceaaW.PrintWords Go.Proofs.YtfcmphigmfdceaaW.PrintLast Go.Proofs.YtfcmphigmfdceaaW.PrintMore
set_option linter.unusedVariables false
set_option linter.unusedSimpArgs false

/-! ### hearsayref01_Alike: function 18 -/
def hearsayref01_Alike.f (a0 : ByteArray) (a1 : ByteArray) : Option (Bool) := (hearsayref01_Fold.f a0).bind fun t273 => ((hearsayref01_Fold.f a1).bind fun t274 => (some (t273.toList == t274.toList)))
set_option maxHeartbeats 8000000 in
set_option maxRecDepth 100000 in
theorem hearsayref01_Alike.calls (a0 : ByteArray) (a1 : ByteArray) (r : Bool) (w : World) (h : hearsayref01_Alike.f a0 a1 = some r) :
    Calls Try.prog 18 #[.string a0, .string a1] w fun e w' => e = .returned (.bool r) ∧ Below w.heap.size w w' := by
  have HB := Aside0.mk (Below.refl w.heap.size w)
  have H : ((hearsayref01_Fold.f a0).bind fun t273 => ((hearsayref01_Fold.f a1).bind fun t274 => (some (t273.toList == t274.toList)))) = some r := h
  clear h
  replace H := Option.bind_eq_some_iff.mp H
  obtain ⟨t273, A30, H⟩ := H
  replace H : ((hearsayref01_Fold.f a1).bind fun t274 => (some (t273.toList == t274.toList))) = some r := H
  have A3 := Aside0.mk A30
  clear A30
  replace H := Option.bind_eq_some_iff.mp H
  obtain ⟨t274, A40, H⟩ := H
  replace H : (some (t273.toList == t274.toList)) = some r := H
  have A4 := Aside0.mk A40
  clear A40
  obtain rfl := Option.some.inj H
  go_enter Try.func18, Try.ntmps18
  go_wp2_with (first | ((with_reducible refine gate_callee (f := 26) rfl ?_); refine goesL_ (some 6) rfl rfl Try.func26 (by kernel_rfl) rfl #[.string a0] rfl (by (try simp only [List.map_toArray, List.map_cons, List.map_nil]); first | done | rfl | (simp only [List.length_drop, List.length_take]; rfl)) ?_; (with_reducible refine (hearsayref01_Fold.calls a0 t273 _ A3.out).mono ?_); rintro e w5 ⟨rfl, hb⟩; refine ⟨_, rfl, ?_⟩; have n0_ := Aside0.mk (below_step (by repeat (first | (with_reducible first | exact HB.out | apply below_alloc | apply pw_below_drewN | apply below_drew1) | exact HB.out)) hb); clear HB; have HB := n0_; clear n0_; (try clear hb); (try clear hb2); (try clear hk); (try clear hi)) | ((with_reducible refine gate_callee (f := 26) rfl ?_); refine goesL_ (some 8) rfl rfl Try.func26 (by kernel_rfl) rfl #[.string a1] rfl (by (try simp only [List.map_toArray, List.map_cons, List.map_nil]); first | done | rfl | (simp only [List.length_drop, List.length_take]; rfl)) ?_; (with_reducible refine (hearsayref01_Fold.calls a1 t274 _ A4.out).mono ?_); rintro e w6 ⟨rfl, hb⟩; refine ⟨_, rfl, ?_⟩; have n0_ := Aside0.mk (below_step (by repeat (first | (with_reducible first | exact HB.out | apply below_alloc | apply pw_below_drewN | apply below_drew1) | exact HB.out)) hb); clear HB; have HB := n0_; clear n0_; (try clear hb); (try clear hb2); (try clear hk); (try clear hi)))
  go_ret
  exact ⟨by first | rfl | (simp [errW_none, errW_some] <;> rfl) | (simp [*, errW_none, errW_some] <;> rfl), by repeat (first | (with_reducible first | exact HB.out | apply below_alloc | apply pw_below_drewN | apply below_drew1) | exact HB.out)⟩

end Go.Proofs.Ytfcmphigmfdceaa.Print
end
section
/- Laws of what Ask tells, and of the statements' small functions. -/
namespace Go.Proofs.Ytfcmphigmfdceaa.Print
open Go.RowKit Go.Proofs.YtfcmphigmfdceaaW.PrintWords Go.Proofs.YtfcmphigmfdceaaW.PrintLast Go.Proofs.YtfcmphigmfdceaaW.PrintMore
set_option linter.unusedVariables false
set_option linter.unusedSimpArgs false
theorem asks_f : hearsaylaw25_asks.f = some true := by decide +kernel
theorem long_l0 (l : List S38) (hl : l.length ≤ 200) (d : Nat) : ∀ t : Nat, l.length - t ≤ d → t ≤ l.length →
    Ev (fun k => hearsaylaw25_long.l0 k l (t : Int)) ((l.drop t).any fun x => decide (2000 < x.f1.size) || decide (2000 < x.f2.size)) := by
  have fin : ∀ t : Nat, t ≤ l.length → ¬ t < l.length → Ev (fun k => hearsaylaw25_long.l0 k l (t : Int)) ((l.drop t).any fun x => decide (2000 < x.f1.size) || decide (2000 < x.f2.size)) := by
    intro t h1 h2
    rw [List.drop_of_length_le (by omega)]
    refine Ev.step (f := fun _ => some false) (fun k => ?_) (Ev.now _)
    simp only [hearsaylaw25_long.l0]
    rw [if_neg (by omega)]
  induction d with
  | zero => intro t hd h1; exact fin t h1 (by omega)
  | succ d ih =>
    intro t hd h1
    by_cases ht : t < l.length
    · have hx : l[t]? = some l[t] := List.getElem?_eq_getElem ht
      have hr := rd_T38_at hx
      have hdrop : l.drop t = l[t] :: l.drop (t + 1) := List.drop_eq_getElem_cons ht
      generalize hxe : l[t] = x at hr hdrop
      have hw : wrap64 ((t : Int) + 1) = ((t + 1 : Nat) : Int) := by rw [w64 (by omega) (by omega)]; rfl
      refine Ev.step (f := fun k => if (x.f1.size : Int) > 2000 then some true else if (x.f2.size : Int) > 2000 then some true else hearsaylaw25_long.l0 k l ((t + 1 : Nat) : Int)) (fun k => ?_) ?_
      · simp only [hearsaylaw25_long.l0]; rw [if_pos (by omega), if_pos (by omega), hr, hw]
      · rw [hdrop, List.any_cons]
        by_cases g1 : 2000 < x.f1.size
        · refine Ev.congr (fun k => by rw [if_pos (by omega)]) ?_
          simpa [g1] using Ev.now true
        · by_cases g2 : 2000 < x.f2.size
          · refine Ev.congr (fun k => by rw [if_neg (by omega), if_pos (by omega)]) ?_
            simpa [g2] using Ev.now true
          · refine Ev.congr (fun k => by rw [if_neg (by omega), if_neg (by omega)]) ?_
            simpa [g1, g2] using ih (t + 1) (by omega) (by omega)
    · exact fin t h1 ht
def longP (l : List S38) : Bool := decide (200 < l.length) || l.any fun x => decide (2000 < x.f1.size) || decide (2000 < x.f2.size)
theorem long_f (l : List S38) : Ev (fun k => hearsaylaw25_long.f k l) (longP l) := by
  unfold longP
  by_cases h : 200 < l.length
  · rw [decide_eq_true h, Bool.true_or]
    exact Ev.congr (fun k => by unfold hearsaylaw25_long.f; rw [if_pos (by omega)]) (Ev.now _)
  · rw [decide_eq_false h, Bool.false_or]
    exact Ev.congr (fun k => by unfold hearsaylaw25_long.f; rw [if_neg (by omega)]; rfl) (long_l0 l (by omega) l.length 0 (by omega) (by omega))
theorem firstP_append (D : S38 → S32 × Bool) (l m : List S38) : firstP D (l ++ m) = if (firstP D l).2 then firstP D l else firstP D m := by
  unfold firstP
  have e : mades D (l ++ m) = mades D l ++ mades D m := by unfold mades; exact List.filterMap_append
  rw [e]
  cases mades D l with
  | nil => rfl
  | cons y r => rfl
theorem firstP_fail {D : S38 → S32 × Bool} {l : List S38} (h : (firstP D l).2 = false) : firstP D l = (z32, false) := by
  unfold firstP at h ⊢
  cases hm : mades D l with
  | nil => rfl
  | cons y r => rw [hm] at h; simp at h
theorem askP_fail {l : List S38} {q : S32} (h : (askP l q).2 = false) : askP l q = (z32, false) := by
  rw [askP_first] at h ⊢
  split at h
  · rename_i h1
    split at h
    · rename_i h2; rw [if_pos h1, if_pos h2]; exact firstP_fail h
    · rename_i h2; rw [if_pos h1, if_neg h2]
  · rename_i h1; rw [if_neg h1]
theorem askP_yes {l : List S38} {q : S32} (h : (askP l q).2 = true) : checkP l = 0 ∧ (dec q.f0).isSome = true ∧ askP l q = firstP (doP q) l := by
  rw [askP_first] at h ⊢
  split at h
  · rename_i h1
    split at h
    · rename_i h2; exact ⟨h1, h2, by rw [if_pos h1, if_pos h2]⟩
    · simp at h
  · simp at h
theorem checkP_zero {l : List S38} (hl : l.length ≤ 32) (h : ∀ x ∈ l, ruleOk x = true) : checkP l = 0 := by
  unfold checkP
  rw [if_neg (by omega), if_pos (List.all_eq_true.2 h)]
theorem toList_beq (a : ByteArray) : (a.toList == a.toList) = true := by simp
theorem z32_eq : z32 = (⟨⟨#[]⟩, 0, 0⟩ : S32) := rfl
end Go.Proofs.Ytfcmphigmfdceaa.Print
end
section
-- Written by a program of this session, built on the kit's print (it is not the print's own text).
namespace Go.Proofs.Ytfcmphigmfdceaa.Print
open Go.RowKit Go.Proofs.YtfcmphigmfdceaaW.PrintWords Go.Proofs.YtfcmphigmfdceaaW.PrintLast Go.Proofs.YtfcmphigmfdceaaW.PrintMore
set_option linter.unusedVariables false
set_option linter.unusedSimpArgs false

/-! ### hearsaylaw25_named: function 28 -/
def hearsaylaw25_named.f (k : Nat) (a0 : ByteArray) : Option (ByteArray) := (hearsayref01_Parse.f k a0 (⟨#[0]⟩ : ByteArray)).bind fun bt183 => (some bt183.1)
theorem hearsaylaw25_named.mono : ∀ a0 k, LeO (hearsaylaw25_named.f k a0) (hearsaylaw25_named.f (k + 1) a0) := by
  intro a0 k
  unfold hearsaylaw25_named.f
  repeat' first
      | (with_reducible exact hearsayref01_Parse.mono _ _ _)
      | (with_reducible exact LeO.refl _)
      | (with_reducible exact LeO.none _)
      | (with_reducible refine LeO.ite ?_ ?_)
      | (with_reducible refine LeO.bind ?_ (fun _ => ?_))
      | exact hearsayref01_Parse.mono _ _ _
      | exact LeO.none _
      | refine LeO.ite ?_ ?_
      | refine LeO.bind ?_ (fun _ => ?_)
set_option maxHeartbeats 8000000 in
set_option maxRecDepth 100000 in
theorem hearsaylaw25_named.calls (k : Nat) (a0 : ByteArray) (r : ByteArray) (w : World) (h : hearsaylaw25_named.f k a0 = some r) :
    Calls Try.prog 28 #[.string a0] w fun e w' => e = .returned (.string r) ∧ Below w.heap.size w w' := by
  have HB := Aside0.mk (Below.refl w.heap.size w)
  have H : ((hearsayref01_Parse.f k a0 (⟨#[0]⟩ : ByteArray)).bind fun bt183 => (some bt183.1)) = some r := h
  clear h
  replace H := Option.bind_eq_some_iff.mp H
  obtain ⟨⟨t183, t184⟩, A20, H⟩ := H
  replace H : (some t183) = some r := H
  have A2 := Aside0.mk A20
  clear A20
  obtain rfl := Option.some.inj H
  go_enter Try.func28, Try.ntmps28
  go_wp2_with (first | ((with_reducible refine gate_callee (f := 37) rfl ?_); refine goesL_ (some 7) rfl rfl Try.func37 (by kernel_rfl) rfl #[.string a0, .string (⟨#[0]⟩ : ByteArray)] rfl (by (try simp only [List.map_toArray, List.map_cons, List.map_nil]); first | done | rfl | (simp only [List.length_drop, List.length_take]; rfl)) ?_; (with_reducible refine (hearsayref01_Parse.calls k a0 (⟨#[0]⟩ : ByteArray) t183 t184 _ A2.out).mono ?_); rintro e w3 ⟨rfl, hb⟩; refine ⟨_, rfl, ?_⟩; have n0_ := Aside0.mk (below_step (by repeat (first | (with_reducible first | exact HB.out | apply below_alloc | apply pw_below_drewN | apply below_drew1) | exact HB.out)) hb); clear HB; have HB := n0_; clear n0_; (try clear hb); (try clear hb2); (try clear hk); (try clear hi)))
  go_ret
  exact ⟨by first | rfl | (simp [errW_none, errW_some] <;> rfl) | (simp [*, errW_none, errW_some] <;> rfl), by repeat (first | (with_reducible first | exact HB.out | apply below_alloc | apply pw_below_drewN | apply below_drew1) | exact HB.out)⟩

end Go.Proofs.Ytfcmphigmfdceaa.Print
end
