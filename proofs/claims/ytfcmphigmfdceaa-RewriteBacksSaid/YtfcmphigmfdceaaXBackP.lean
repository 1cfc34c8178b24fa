/- rewrite.Back, hearsayref25's Back and Same, many: plain laws. -/
import Derived.Test.YtfcmphigmfdceaaXRefs
import Derived.Test.YtfcmphigmfdceaaF20
import Derived.Test.YtfcmphigmfdceaaF22
import Derived.Test.YtfcmphigmfdceaaF24
import Derived.Test.YtfcmphigmfdceaaF23
namespace Go.Proofs.Ytfcmphigmfdceaa.Print
open Go.RowKit Go.Proofs.YtfcmphigmfdceaaW.PrintWords Go.Proofs.YtfcmphigmfdceaaW.PrintLast Go.Proofs.YtfcmphigmfdceaaW.PrintMore
set_option linter.unusedVariables false
set_option linter.unusedSimpArgs false
theorem rd_T59_at {l : List S59} {k : Nat} {x : S59} (h : l[k]? = some x) : rd_T59 l (k : Int) = x := by simp [rd_T59, List.getD_eq_getElem?_getD, h]
theorem lows_eq {a b : ByteArray} : (lowS a).toList = (lowS b).toList ↔ lowS a = lowS b :=
  ⟨fun h => by
    rw [Lib.toList_data, Lib.toList_data] at h
    exact ByteArray.ext (Array.ext' h), fun h => by rw [h]⟩
def manyP (l2 l3 l4 : List S59) : Bool := decide (300 < l2.length) || decide (300 < l3.length) || decide (300 < l4.length) || l2.any fun r => decide (2000 < r.f0.size)
theorem many_l0 (rc : Int) (aa : Bool) (l l3 l4 : List S59) (hl : l.length ≤ 300) (d : Nat) : ∀ t : Nat, l.length - t ≤ d → t ≤ l.length →
    Ev (fun k => hearsaylaw25_many.l0 k (t : Int) rc aa l l3 l4) ((l.drop t).any fun r => decide (2000 < r.f0.size)) := by
  have fin : ∀ t : Nat, t ≤ l.length → ¬ t < l.length → Ev (fun k => hearsaylaw25_many.l0 k (t : Int) rc aa l l3 l4) ((l.drop t).any fun r => decide (2000 < r.f0.size)) := by
    intro t h1 h2
    rw [List.drop_of_length_le (by omega)]
    refine Ev.step (f := fun _ => some false) (fun k => ?_) (Ev.now _)
    simp only [hearsaylaw25_many.l0]
    rw [if_neg (by omega)]
  induction d with
  | zero => intro t hd h1; exact fin t h1 (by omega)
  | succ d ih =>
    intro t hd h1
    by_cases ht : t < l.length
    · have hr := rd_T59_at (List.getElem?_eq_getElem ht)
      have hdrop : l.drop t = l[t] :: l.drop (t + 1) := List.drop_eq_getElem_cons ht
      generalize l[t] = x at hr hdrop
      have hw : wrap64 ((t : Int) + 1) = ((t + 1 : Nat) : Int) := by rw [w64 (by omega) (by omega)]; rfl
      refine Ev.step (f := fun k => if (x.f0.size : Int) > 2000 then some true else hearsaylaw25_many.l0 k ((t + 1 : Nat) : Int) rc aa l l3 l4) (fun k => ?_) ?_
      · simp only [hearsaylaw25_many.l0]; rw [if_pos (by omega), if_pos (by omega), hr, hw]
      · rw [hdrop, List.any_cons]
        by_cases g : 2000 < x.f0.size
        · refine Ev.congr (fun k => by rw [if_pos (by omega)]) ?_
          simpa [g] using Ev.now true
        · refine Ev.congr (fun k => by rw [if_neg (by omega)]) ?_
          simpa [g] using ih (t + 1) (by omega) (by omega)
    · exact fin t h1 ht
theorem many_f (rc : Int) (aa : Bool) (l2 l3 l4 : List S59) : Ev (fun k => hearsaylaw25_many.f k rc aa l2 l3 l4) (manyP l2 l3 l4) := by
  have yes : Ev (fun k => hearsaylaw25_many.j0 k true rc aa l2 l3 l4) true := by
    refine Ev.step (f := fun _ => some true) (fun k => ?_) (Ev.now _)
    simp only [hearsaylaw25_many.j0]; rw [if_pos trivial]
  unfold manyP
  by_cases g2 : 300 < l2.length
  · rw [decide_eq_true g2]
    simpa using Ev.congr (fun k => by unfold hearsaylaw25_many.f; rw [if_pos (by omega)]) yes
  · by_cases g3 : 300 < l3.length
    · rw [decide_eq_true g3]
      simpa using Ev.congr (fun k => by unfold hearsaylaw25_many.f; rw [if_neg (by omega), if_pos (by omega)]) yes
    · by_cases g4 : 300 < l4.length
      · rw [decide_eq_true g4]
        simpa using Ev.congr (fun k => by unfold hearsaylaw25_many.f; rw [if_neg (by omega), if_neg (by omega), decide_eq_true (by omega)]) yes
      · rw [decide_eq_false g2, decide_eq_false g3, decide_eq_false g4]
        simp only [Bool.false_or]
        refine Ev.congr (f := fun k => hearsaylaw25_many.j0 k false rc aa l2 l3 l4) (fun k => by unfold hearsaylaw25_many.f; rw [if_neg (by omega), if_neg (by omega), decide_eq_false (by omega)]) ?_
        refine Ev.step (fun k => ?_) (many_l0 rc aa l2 l3 l4 (by omega) l2.length 0 (by omega) (by omega))
        simp only [hearsaylaw25_many.j0]; rw [if_neg (by simp)]; rfl
/-- an answer's record, turned back -/
def turnP (qn asked : ByteArray) (r : S59) : S59 := if lowS r.f0 = lowS asked then ⟨qn, r.f1, r.f2, r.f3, r.f4⟩ else r
theorem back_l0 (q asked : S32) (rc : Int) (aa : Bool) (l l3 l4 : List S59) (hl : l.length ≤ 1000) (h3 : l3.length ≤ 1000) (h4 : l4.length ≤ 1000) (hs : ∀ r ∈ l, r.f0.size ≤ 9223372036854775807) (d : Nat) : ∀ t : Nat, l.length - t ≤ d → t ≤ l.length →
    Ev (fun k => rewrite_Back.l0 k (lowS asked.f0) ((l.take t).map (turnP q.f0 asked.f0)) l (l.length : Int) (t : Int) q.f0 q.f1 q.f2 rc aa l l3 l4) (rc, aa, l.map (turnP q.f0 asked.f0), l3, l4) := by
  have fin : ∀ t : Nat, t ≤ l.length → ¬ t < l.length → Ev (fun k => rewrite_Back.l0 k (lowS asked.f0) ((l.take t).map (turnP q.f0 asked.f0)) l (l.length : Int) (t : Int) q.f0 q.f1 q.f2 rc aa l l3 l4) (rc, aa, l.map (turnP q.f0 asked.f0), l3, l4) := by
    intro t h1 h2
    rw [List.take_of_length_le (by omega)]
    refine Ev.step (f := fun _ => some (rc, aa, l.map (turnP q.f0 asked.f0), l3, l4)) (fun k => ?_) (Ev.now _)
    simp only [rewrite_Back.l0]
    rw [if_neg (by omega)]
    simp only [Option.bind_some, List.length_nil, Nat.zero_add, List.nil_append]
    rw [if_pos (by omega), if_pos (by omega)]
  induction d with
  | zero => intro t hd h1; exact fin t h1 (by omega)
  | succ d ih =>
    intro t hd h1
    by_cases ht : t < l.length
    · have hx := List.getElem?_eq_getElem ht
      have hr := rd_T59_at hx
      have hsz := hs _ (List.getElem_mem ht)
      have htk : (l.take (t + 1)).map (turnP q.f0 asked.f0) = (l.take t).map (turnP q.f0 asked.f0) ++ [turnP q.f0 asked.f0 l[t]] := by rw [take_succ' hx, List.map_append]; rfl
      have hll : ((l.take t).map (turnP q.f0 asked.f0)).length ≤ 1000 := by rw [List.length_map, List.length_take]; omega
      have ih' := ih (t + 1) (by omega) (by omega)
      rw [htk] at ih'
      generalize l[t] = x at hr hsz ih'
      have hw : wrap64 ((t : Int) + 1) = ((t + 1 : Nat) : Int) := by rw [w64 (by omega) (by omega)]; rfl
      refine Ev.step (fun k => ?_) ih'
      simp only [rewrite_Back.l0]
      rw [if_pos (by omega), if_pos (by omega), if_pos (by omega), hr, fold_f hsz, Option.bind_some, hw]
      have ht1 : turnP q.f0 asked.f0 x = if lowS x.f0 = lowS asked.f0 then ⟨q.f0, x.f1, x.f2, x.f3, x.f4⟩ else x := rfl
      rw [ht1]
      by_cases he : lowS x.f0 = lowS asked.f0
      · rw [if_pos (lows_eq.2 he), if_pos (by omega), if_pos he]
      · rw [if_neg (fun h => he (lows_eq.1 h)), if_pos (by omega), if_neg he]
    · exact fin t h1 ht
theorem back_f (q asked : S32) (rc : Int) (aa : Bool) (l l3 l4 : List S59) (hl : l.length ≤ 1000) (h3 : l3.length ≤ 1000) (h4 : l4.length ≤ 1000) (ha : asked.f0.size ≤ 9223372036854775807) (hs : ∀ r ∈ l, r.f0.size ≤ 9223372036854775807) :
    Ev (fun k => rewrite_Back.f k q.f0 q.f1 q.f2 asked.f0 asked.f1 asked.f2 rc aa l l3 l4) (rc, aa, l.map (turnP q.f0 asked.f0), l3, l4) := by
  refine Ev.congr (fun k => ?_) (back_l0 q asked rc aa l l3 l4 hl h3 h4 hs l.length 0 (by omega) (by omega))
  unfold rewrite_Back.f
  rw [fold_f ha]
  rfl
theorem alike_f (a b : ByteArray) (ha : a.size ≤ 9223372036854775807) (hb : b.size ≤ 9223372036854775807) : hearsayref01_Alike.f a b = some (decide (lowS a = lowS b)) := by
  unfold hearsayref01_Alike.f hearsayref01_Fold.f
  rw [low_f ha, low_f hb]
  simp only [Option.bind_some, Option.some.injEq]
  rw [Bool.eq_iff_iff, beq_iff_eq, decide_eq_true_iff]
  exact lows_eq
theorem rback_l0 (q asked : S32) (rc : Int) (aa : Bool) (l l3 l4 : List S59) (hl : l.length ≤ 1000) (ha : asked.f0.size ≤ 9223372036854775807) (hs : ∀ r ∈ l, r.f0.size ≤ 9223372036854775807) (d : Nat) : ∀ t : Nat, l.length - t ≤ d → t ≤ l.length →
    Ev (fun k => hearsayref25_Back.l0 k ((l.take t).map (turnP q.f0 asked.f0)) (t : Int) q.f0 q.f1 q.f2 asked.f0 asked.f1 asked.f2 rc aa l l3 l4) (rc, aa, l.map (turnP q.f0 asked.f0), l3, l4) := by
  have fin : ∀ t : Nat, t ≤ l.length → ¬ t < l.length → Ev (fun k => hearsayref25_Back.l0 k ((l.take t).map (turnP q.f0 asked.f0)) (t : Int) q.f0 q.f1 q.f2 asked.f0 asked.f1 asked.f2 rc aa l l3 l4) (rc, aa, l.map (turnP q.f0 asked.f0), l3, l4) := by
    intro t h1 h2
    rw [List.take_of_length_le (by omega)]
    refine Ev.step (f := fun _ => some (rc, aa, l.map (turnP q.f0 asked.f0), l3, l4)) (fun k => ?_) (Ev.now _)
    simp only [hearsayref25_Back.l0]
    rw [if_neg (by omega)]
  induction d with
  | zero => intro t hd h1; exact fin t h1 (by omega)
  | succ d ih =>
    intro t hd h1
    by_cases ht : t < l.length
    · have hx := List.getElem?_eq_getElem ht
      have hr := rd_T59_at hx
      have hsz := hs _ (List.getElem_mem ht)
      have htk : (l.take (t + 1)).map (turnP q.f0 asked.f0) = (l.take t).map (turnP q.f0 asked.f0) ++ [turnP q.f0 asked.f0 l[t]] := by rw [take_succ' hx, List.map_append]; rfl
      have hll : ((l.take t).map (turnP q.f0 asked.f0)).length ≤ 1000 := by rw [List.length_map, List.length_take]; omega
      have ih' := ih (t + 1) (by omega) (by omega)
      rw [htk] at ih'
      generalize l[t] = x at hr hsz ih'
      have hw : wrap64 ((t : Int) + 1) = ((t + 1 : Nat) : Int) := by rw [w64 (by omega) (by omega)]; rfl
      refine Ev.step (fun k => ?_) ih'
      simp only [hearsayref25_Back.l0]
      rw [if_pos (by omega), if_pos (by omega), hr, alike_f _ _ hsz ha, Option.bind_some, hw]
      have ht1 : turnP q.f0 asked.f0 x = if lowS x.f0 = lowS asked.f0 then ⟨q.f0, x.f1, x.f2, x.f3, x.f4⟩ else x := rfl
      rw [ht1]
      by_cases he : lowS x.f0 = lowS asked.f0
      · rw [decide_eq_true he, if_pos rfl, if_pos (by omega), if_pos he]
      · rw [decide_eq_false he, if_neg (by simp), if_pos (by omega), if_neg he]
    · exact fin t h1 ht
theorem rback_f (q asked : S32) (rc : Int) (aa : Bool) (l l3 l4 : List S59) (hl : l.length ≤ 1000) (ha : asked.f0.size ≤ 9223372036854775807) (hs : ∀ r ∈ l, r.f0.size ≤ 9223372036854775807) :
    Ev (fun k => hearsayref25_Back.f k q.f0 q.f1 q.f2 asked.f0 asked.f1 asked.f2 rc aa l l3 l4) (rc, aa, l.map (turnP q.f0 asked.f0), l3, l4) := by
  exact rback_l0 q asked rc aa l l3 l4 hl ha hs l.length 0 (by omega) (by omega)
theorem samer_l0 (l : List S59) (hl : l.length ≤ 1000) (d : Nat) : ∀ t : Nat, l.length - t ≤ d → t ≤ l.length → Ev (fun k => hearsayref25_SameRecords.l0 k l l (t : Int)) true := by
  have fin : ∀ t : Nat, t ≤ l.length → ¬ t < l.length → Ev (fun k => hearsayref25_SameRecords.l0 k l l (t : Int)) true := by
    intro t h1 h2
    refine Ev.step (f := fun _ => some true) (fun k => ?_) (Ev.now _)
    simp only [hearsayref25_SameRecords.l0]
    rw [if_neg (by omega)]
  induction d with
  | zero => intro t hd h1; exact fin t h1 (by omega)
  | succ d ih =>
    intro t hd h1
    by_cases ht : t < l.length
    · have hw : wrap64 ((t : Int) + 1) = ((t + 1 : Nat) : Int) := by rw [w64 (by omega) (by omega)]; rfl
      refine Ev.step (fun k => ?_) (ih (t + 1) (by omega) (by omega))
      simp only [hearsayref25_SameRecords.l0]
      rw [if_pos (by omega), if_pos (by omega), if_pos (by omega), hw]
      simp
    · exact fin t h1 ht
theorem samer_f (l : List S59) (hl : l.length ≤ 1000) : Ev (fun k => hearsayref25_SameRecords.f k l l) true :=
  Ev.congr (fun k => by unfold hearsayref25_SameRecords.f; rw [if_pos rfl]; rfl) (samer_l0 l hl l.length 0 (by omega) (by omega))
theorem same_f (rc : Int) (aa : Bool) (l2 l3 l4 : List S59) (h2 : l2.length ≤ 1000) (h3 : l3.length ≤ 1000) (h4 : l4.length ≤ 1000) : Ev (fun k => hearsayref25_Same.f k rc aa l2 l3 l4 rc aa l2 l3 l4) true := by
  obtain ⟨K2, e2⟩ := samer_f l2 h2
  obtain ⟨K3, e3⟩ := samer_f l3 h3
  obtain ⟨K4, e4⟩ := samer_f l4 h4
  refine ⟨K2 + K3 + K4, fun k hk => ?_⟩
  dsimp only at e2 e3 e4 ⊢
  unfold hearsayref25_Same.f
  rw [if_pos rfl, if_pos (by simp), e2 k (by omega), Option.bind_some, if_pos rfl, e3 k (by omega), Option.bind_some, if_pos rfl, e4 k (by omega)]
  rfl
end Go.Proofs.Ytfcmphigmfdceaa.Print
