/- A row of members of a call's own, sorted by the library: what it holds then. -/
import Derived.Test.YtognmibankcefaaXApp
import Derived.Shelf.SlSortCmp.InsertionK
import Derived.Sort.OwnSorted
namespace Go.Proofs.Ytognmibankcefaa.Print
open Go.RowKit Go.Shelf Go.Sort Go.Maps Go.ChangeMaps Go.Proofs.YtognmibankcefaaW.PrintWords Go.Proofs.YtognmibankcefaaW.PrintLast Go.Proofs.YtognmibankcefaaW.PrintMore
set_option linter.unusedVariables false
set_option linter.unusedSimpArgs false
instance : Inhabited Mem := ⟨z25⟩
theorem flatM_length : ∀ l : List Mem, (flatM l).length = l.length * 4
  | [] => rfl
  | x :: l => by
    show (memC x ++ flatM l).length = _
    rw [List.length_append, flatM_length l, List.length_cons]
    show 4 + _ = _
    omega
theorem flatM_get : ∀ (l : List Mem) (t : Nat), t < l.length * 4 → (flatM l)[t]? = some ((memC (l[t / 4]!))[t % 4]!)
  | [], t, h => by simp at h
  | x :: l, t, h => by
    show (memC x ++ flatM l)[t]? = _
    rw [List.length_cons] at h
    have hl : (memC x).length = 4 := rfl
    rcases Nat.lt_or_ge t 4 with h4 | h4
    · rw [List.getElem?_append_left (by omega), Nat.div_eq_of_lt h4, Nat.mod_eq_of_lt h4]
      have e0 : (x :: l)[0]! = x := rfl
      rw [List.getElem?_eq_getElem (by omega), e0, getElem!_pos (memC x) t (by omega)]
    · obtain ⟨s, rfl⟩ : ∃ s, t = s + 4 := ⟨t - 4, by omega⟩
      rw [List.getElem?_append_right (by omega), hl, Nat.add_sub_cancel, flatM_get l s (by omega), Nat.add_mod_right, show (s + 4) / 4 = s / 4 + 1 by omega]
      rfl
theorem flatK_list (l : List Mem) : (flatK memC 4 l.toArray).toList = flatM l := by
  apply List.ext_getElem?
  intro t
  rcases Nat.lt_or_ge t (l.length * 4) with h | h
  · rw [flatM_get l t h, Array.getElem?_toList]
    have hs : t < (flatK memC 4 l.toArray).size := by rw [size_flatK]; simpa using h
    rw [Array.getElem?_eq_getElem hs, ← getElem!_pos (flatK memC 4 l.toArray) t hs, get_flatK _ _ _ _ (by simpa using h)]
    congr 3
    simp
  · rw [List.getElem?_eq_none (by rw [Array.length_toList, size_flatK]; simpa using h), List.getElem?_eq_none (by rw [flatM_length]; exact h)]
theorem holds_of_row {w : World} {g n : Nat} {cur : Array Value} {e : TypeId} {l : List Mem} (hb : w.heap[g]? = some (.cells cur e (0, 0))) (hn : l.length = n) (ht : cur.toList.take (n * 4) = flatM l) : HoldsK memC 4 w g 0 l.toArray := by
  intro j hj
  rw [size_flatK] at hj
  have hj' : j < n * 4 := by rw [← hn]; simpa using hj
  have h1 : (cur.toList.take (n * 4))[j]? = (flatK memC 4 l.toArray).toList[j]? := by rw [ht, flatK_list]
  rw [List.getElem?_take_of_lt hj'] at h1
  have hs : j < (flatK memC 4 l.toArray).size := by rw [size_flatK]; exact hj
  refine ⟨?_, by simp [World.frozen?, hb]⟩
  simp only [World.cell?, hb, Nat.zero_add]
  simp only [Option.isSome_none, Bool.false_eq_true, if_false]
  rw [← Array.getElem?_toList, h1, Array.getElem?_toList, Array.getElem?_eq_getElem hs, getElem!_pos (flatK memC 4 l.toArray) j hs]
  rfl
theorem heap_sortedK {w : World} {g n : Nat} {os : Array Obj} {cur : Array Value} {e : TypeId} {fr : Nat × Nat} (d : Array Mem) (hb : w.heap[g]? = some (.cells cur e fr)) :
    (sortWorldK memC 4 w g 0 n d os).heap[g]? = some (.cells (putCells id 0 (flatK memC 4 d) cur) e fr) := by
  have hg : g < w.heap.size := (Array.getElem?_eq_some_iff.1 hb).1
  unfold sortWorldK putRowK
  rw [heap_grow_old _ _ (by simpa using hg)]
  simp [putRow, mapBlock, Sort.ahead, Array.getElem?_modify, hb, onCells]
theorem grown_sortedK {w : World} {g n : Nat} {os : Array Obj} (d : Array Mem) : w.grownBy (sortWorldK memC 4 w g 0 n d os) (some g) := by
  unfold sortWorldK putRowK
  refine ⟨rfl, rfl, rfl, by simp, fun k hk hne => ?_⟩
  rw [heap_grow_old _ _ (by simpa using hk)]
  have : g ≠ k := fun e => hne (by rw [e])
  simp [putRow, mapBlock, Sort.ahead, Array.getElem?_modify, this]
theorem take_putK (cur : Array Value) (F : Array Value) (h : F.size ≤ cur.size) : (putCells id 0 F cur).toList.take F.size = F.toList := by
  apply List.ext_getElem?
  intro j
  by_cases hj : j < F.size
  · rw [List.getElem?_take_of_lt hj, Array.getElem?_toList, Array.getElem?_toList, Array.getElem?_eq_getElem hj]
    simp [putCells, hj, show j < cur.size by omega]
  · rw [List.getElem?_take_eq_none (by omega), List.getElem?_eq_none (by simp; omega)]
/-- Behind the sort the same slice owns the sorted list. -/
theorem ownsRow_sortedK {w : World} {base g cap n : Nat} {os : Array Obj} {ss ts : List Mem} (hl : ts.length = ss.length) (h : w.ownsRow base 25 4 (.slice (some ⟨g, 0, none⟩) ss.length cap) ss.length (flatM ss)) :
    (sortWorldK memC 4 w g 0 n ts.toArray os).ownsRow base 25 4 (.slice (some ⟨g, 0, none⟩) ss.length cap) ss.length (flatM ts) := by
  obtain ⟨h1, h2⟩ := h
  rcases h2 with ⟨h3, _⟩ | ⟨g', cp, cur, he, hb, hh, hn, hc, hs, ht⟩
  · cases h3
  · injection he with he1 he2 he3
    injection he1 with he1
    injection he1 with he1
    subst he1
    subst he3
    refine ⟨by rw [flatM_length, hl], .inr ⟨g, cap, _, rfl, hb, heap_sortedK ts.toArray hh, hn, hc, by simp [putCells, hs], ?_⟩⟩
    have hF : (flatK memC 4 ts.toArray).size = ss.length * 4 := by rw [size_flatK, ← hl]; simp
    rw [← hF, take_putK _ _ (by rw [hF, hs]; exact Nat.mul_le_mul_right 4 hn), flatK_list]
/-! the order by addresses -/
def cfM (x y : Mem) : Int := if x.f0 < y.f0 then -1 else if y.f0 < x.f0 then 1 else 0
theorem ltM (x y : Mem) : ltOf cfM x y = decide (x.f0 < y.f0) := by
  unfold ltOf cfM
  by_cases h1 : x.f0 < y.f0
  · simp [h1]
  · by_cases h2 : y.f0 < x.f0 <;> simp [h1, h2]
theorem swoM : SWO (ltOf cfM) where
  irrefl x := by rw [ltM]; simp
  trans x y z h1 h2 := by rw [ltM] at *; simp at *; omega
  ntrans x y z h1 h2 := by rw [ltM] at *; simp at *; omega
theorem rising_unique : ∀ {a b : List Mem}, Rises a → Rises b → a.Perm b → a = b
  | [], b, _, _, hp => (List.nil_perm.1 hp).symm
  | x :: a, [], _, _, hp => by simp at hp
  | x :: a, y :: b, ha, hb, hp => by
    obtain ⟨h1, h2⟩ := List.pairwise_cons.1 ha
    obtain ⟨h3, h4⟩ := List.pairwise_cons.1 hb
    have hxy : x = y := by
      have hx : x ∈ y :: b := hp.mem_iff.1 (by simp)
      have hy : y ∈ x :: a := hp.mem_iff.2 (by simp)
      rcases List.mem_cons.1 hx with h | h
      · exact h
      · rcases List.mem_cons.1 hy with h' | h'
        · exact h'.symm
        · have := h1 y h'
          have := h3 x h
          omega
    subst hxy
    rw [rising_unique h2 h4 (List.perm_cons x |>.1 hp)]
theorem sorted_rises {l : List Mem} {d d' : Array Mem} (hl : Rises l) (hd : d.toList.Perm l) (hp : PermIn 0 d.size d d') (hs : SortedIn (ltOf cfM) 0 d.size d') : d'.toList = l := by
  obtain ⟨h1, _, h3⟩ := hp
  have e1 : (d'.extract 0 d.size).toList = d'.toList := by rw [← h1]; simp
  have e2 : (d.extract 0 d.size).toList = d.toList := by simp
  rw [e1, e2] at h3
  have hpl := h3.trans hd
  refine rising_unique ?_ hl hpl
  have hnd : d'.toList.Pairwise (fun x y => x.f0 ≠ y.f0) := (hpl.pairwise_iff (fun h => Ne.symm h)).2 (hl.imp (fun h => by omega))
  unfold Rises
  rw [List.pairwise_iff_getElem] at hnd ⊢
  intro i j hi hj hij
  have h5 := hs i j (Nat.zero_le _) hij (by rw [← h1]; simpa using hj)
  have h6 := hnd i j hi hj hij
  rw [ltM] at h5
  have hi' : i < d'.size := by simpa using hi
  have hj' : j < d'.size := by simpa using hj
  rw [getElem!_pos d' i hi', getElem!_pos d' j hj'] at h5
  simp at h5 h6 ⊢
  omega
end Go.Proofs.Ytognmibankcefaa.Print
