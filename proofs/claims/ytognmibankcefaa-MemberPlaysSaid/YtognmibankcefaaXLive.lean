/- slices.DeleteFunc over a row of members of a call's own, walked; a view's Live. -/
import Derived.Test.YtognmibankcefaaXList
import Derived.Lib.SliceRun
namespace Go.Proofs.Ytognmibankcefaa.Print
open Go.RowKit Go.Shelf Go.Sort Go.Maps Go.ChangeMaps Go.Proofs.YtognmibankcefaaW.PrintWords Go.Proofs.YtognmibankcefaaW.PrintLast Go.Proofs.YtognmibankcefaaW.PrintMore
set_option linter.unusedVariables false
set_option linter.unusedSimpArgs false
/-- a row of members in memory -/
def RowAt (w : World) (g cap n : Nat) (xs : List Mem) : Prop := ∃ cur, w.heap[g]? = some (.cells cur 25 (0, 0)) ∧ cur.size = cap * 4 ∧ n ≤ cap ∧ cap ≤ maxLen ∧ cur.toList.take (n * 4) = flatM xs ∧ xs.length = n
theorem RowAt.below {w w' : World} {g cap n : Nat} {xs : List Mem} (h : RowAt w g cap n xs) (hb : Below w.heap.size w w') : RowAt w' g cap n xs := by
  obtain ⟨cur, h1, h2⟩ := h
  exact ⟨cur, blk_below h1 hb, h2⟩
theorem RowAt.lt {w : World} {g cap n : Nat} {xs : List Mem} (h : RowAt w g cap n xs) : g < w.heap.size := by
  obtain ⟨cur, h1, _⟩ := h
  exact blk_lt h1
theorem getBang {xs : List Mem} {i : Nat} {x : Mem} (h : xs[i]? = some x) : xs[i]! = x := by
  obtain ⟨hl, hx⟩ := List.getElem?_eq_some_iff.1 h
  rw [getElem!_pos xs i hl, hx]
theorem RowAt.at {w : World} {g cap n : Nat} {xs : List Mem} (h : RowAt w g cap n xs) {i : Nat} {x : Mem} (hx : xs[i]? = some x) (c : Nat) (hc : c < 4) (v : Value) (hv : (memC x)[c]! = v) : w.cell? ⟨g, i * 4 + c, none⟩ = some v := by
  obtain ⟨cur, h1, h2, h3, h4, h5, h6⟩ := h
  have hi := (List.getElem?_eq_some_iff.1 hx).1
  have ht : i * 4 + c < xs.length * 4 := by omega
  have hf := flatM_get xs (i * 4 + c) ht
  rw [show (i * 4 + c) / 4 = i by omega, show (i * 4 + c) % 4 = c by omega, getBang hx, hv, ← h5, List.getElem?_take_of_lt (by omega), Array.getElem?_toList] at hf
  exact (blk_cell h1 _).trans hf
theorem RowAt.frozen {w : World} {g cap n : Nat} {xs : List Mem} (h : RowAt w g cap n xs) (j : Nat) : w.frozen? ⟨g, j, none⟩ = false := by
  obtain ⟨cur, h1, _⟩ := h
  exact blk_frozen h1 j
theorem flatM_take : ∀ (xs : List Mem) (i : Nat), (flatM xs).take (i * 4) = flatM (xs.take i)
  | [], i => by simp [flatM]
  | x :: xs, 0 => by simp [flatM]
  | x :: xs, i + 1 => by
    show (memC x ++ flatM xs).take ((i + 1) * 4) = memC x ++ flatM (xs.take i)
    rw [List.take_append, show (i + 1) * 4 - (memC x).length = i * 4 by show (i + 1) * 4 - 4 = _; omega, flatM_take xs i, List.take_of_length_le (by show 4 ≤ _; omega)]
theorem flatM_drop : ∀ (xs : List Mem) (i : Nat), (flatM xs).drop (i * 4) = flatM (xs.drop i)
  | [], i => by simp [flatM]
  | x :: xs, 0 => by simp [flatM]
  | x :: xs, i + 1 => by
    show (memC x ++ flatM xs).drop ((i + 1) * 4) = flatM (xs.drop i)
    rw [List.drop_append, show (i + 1) * 4 - (memC x).length = i * 4 by show (i + 1) * 4 - 4 = _; omega, flatM_drop xs i, List.drop_of_length_le (by show 4 ≤ _; omega)]
    rfl
theorem flatM_app (a b : List Mem) : flatM (a ++ b) = flatM a ++ flatM b := by unfold flatM; rw [List.flatMap_append]
theorem flatM_set (xs : List Mem) (i : Nat) (x : Mem) (hi : i < xs.length) : flatM (xs.set i x) = (flatM xs).take (i * 4) ++ memC x ++ (flatM xs).drop (i * 4 + 4) := by
  rw [flatM_take, show i * 4 + 4 = (i + 1) * 4 by omega, flatM_drop, List.set_eq_take_append_cons_drop, if_pos hi, flatM_app, List.append_assoc]
  rfl
theorem RowAt.set {w : World} {g cap n : Nat} {xs : List Mem} (h : RowAt w g cap n xs) {i : Nat} (hi : i < n) (x : Mem) : RowAt (w.setCells g (i * 4) (memC x)) g cap n (xs.set i x) := by
  obtain ⟨cur, h1, h2, h3, h4, h5, h6⟩ := h
  have hl : (memC x).length = 4 := rfl
  obtain ⟨cur', k1, k2, k3⟩ := setCells_row (memC x) (i * 4) w cur h1 (by rw [hl, h2]; omega)
  refine ⟨cur', k1, k2.trans h2, h3, h4, ?_, by rw [List.length_set]; exact h6⟩
  rw [flatM_set xs i x (by omega), ← h5, k3, hl]
  have e1 : (cur.toList.take (i * 4) ++ memC x).length = i * 4 + 4 := by
    rw [List.length_append, List.length_take, Array.length_toList, h2, hl]
    omega
  rw [List.take_append, List.take_of_length_le (by rw [e1]; omega), e1, List.take_take, Nat.min_eq_left (by omega), List.drop_take, show n * 4 - (i * 4 + 4) = n * 4 - (i * 4 + 4) from rfl]
theorem RowAt.clear {w : World} {g cap n : Nat} {xs : List Mem} (h : RowAt w g cap n xs) {i : Nat} (hi : i ≤ n) (L : List Value) (hL : L.length = (n - i) * 4) : RowAt (w.setCells g (i * 4) L) g cap i (xs.take i) := by
  obtain ⟨cur, h1, h2, h3, h4, h5, h6⟩ := h
  obtain ⟨cur', k1, k2, k3⟩ := setCells_row L (i * 4) w cur h1 (by rw [hL, h2]; omega)
  refine ⟨cur', k1, k2.trans h2, by omega, h4, ?_, by rw [List.length_take]; omega⟩
  rw [← flatM_take, ← h5, k3, List.append_assoc, List.take_append, List.take_take, List.take_take, Nat.min_self]
  have e1 : (cur.toList.take (i * 4)).length = i * 4 := by rw [List.length_take, Array.length_toList, h2]; omega
  rw [e1, Nat.sub_self, List.take_zero, List.append_nil, Nat.min_eq_left (by omega)]
theorem setCells_grown (w : World) (g o : Nat) (L : List Value) : w.grownBy (w.setCells g o L) (some g) := by
  obtain ⟨h1, h2, h3, h4⟩ := setCells_same g L o w
  exact ⟨h1, h2, h3, by rw [h4]; exact Nat.le_refl _, fun k _ hk => setCells_far L o k (fun e => hk (by rw [e]))⟩
/-- 'clear(s)', s a slice of n > 0 members. -/
theorem clear_run (w : World) (b o n : Nat) (hn : 0 < n) (hc : ∀ j, j < n * 4 → (w.cell? ⟨b, o + j, none⟩).isSome = true) (hf : ∀ j, j < n * 4 → w.frozen? ⟨b, o + j, none⟩ = false) :
    ∃ L : List Value, L.length = n * 4 ∧ ∀ (ty : TypeId) (c : Nat), (Builtin.clear_ #[32] ty #[.slice (some ⟨b, o, none⟩) n c]).run Try.prog w = .ok (.tuple #[]) (w.setCells b o L) := by
  have hz : (memV z25).cells.size = 4 := rfl
  have hlen : (Builtin.zeroCells (memV z25).cells n).toList.length = n * 4 := by rw [Array.length_toList, size_zeroCells, hz]
  refine ⟨(Builtin.zeroCells (memV z25).cells n).toList, hlen, fun ty c => ?_⟩
  have hone : ∀ v ∈ (Builtin.zeroCells (memV z25).cells n).toList, v.oneCell' = true := by
    intro v hv
    simp only [Builtin.zeroCells, Array.toList_map, List.mem_map] at hv
    obtain ⟨a, _, rfl⟩ := hv
    rw [hz]
    have h4 : a % 4 = 0 ∨ a % 4 = 1 ∨ a % 4 = 2 ∨ a % 4 = 3 := by omega
    rcases h4 with h4 | h4 | h4 | h4 <;> rw [h4] <;> rfl
  have hst := run_storeCells_cells (P := Try.prog) b o (Builtin.zeroCells (memV z25).cells n).toList 0 w (by rw [hlen]; simpa using hc) (by rw [hlen]; simpa using hf) hone
  simp only [Nat.add_zero] at hst
  obtain ⟨m, rfl⟩ : ∃ m, n = m + 1 := ⟨n - 1, by omega⟩
  have hv := Try.zeroValue25
  have e : memV z25 = .agg #[.int .u32 0, .int .u32 0, .int .u8 0, .string ⟨#[]⟩] := rfl
  rw [e] at hst ⊢
  simp [Builtin.clear_, run_underlying Try.underlying32, hv, hst]
/-! the test: is a member no longer live? -/
def delM (x : Mem) : Bool := decide (2 ≤ x.f2)
theorem del_calls (x : Mem) (W : World) : Calls Try.prog 39 #[.agg #[.int .u32 x.f0, .int .u32 x.f1, .int .u8 x.f2, .string x.f3]] W fun e w' => e = .returned (.bool (delM x)) ∧ Below W.heap.size W w' := by
  have hu := Try.underlying25
  unfold delM
  cases hd : decide (2 ≤ x.f2)
  · go_enter Try.func39, Try.ntmps39
    go_wp2
    go_ret
    exact ⟨rfl, below_alloc (Below.refl _ _) _⟩
  · go_enter Try.func39, Try.ntmps39
    go_wp2
    go_ret
    exact ⟨rfl, below_alloc (Below.refl _ _) _⟩
/-- where the first one stands that is no longer live -/
def idxD : List Mem → Nat
  | [] => 0
  | x :: l => if delM x = true then 0 else idxD l + 1
theorem idxD_le : ∀ l : List Mem, idxD l ≤ l.length
  | [] => Nat.le_refl _
  | x :: l => by
    unfold idxD
    have := idxD_le l
    split <;> simp only [List.length_cons] <;> omega
theorem idxD_take : ∀ l : List Mem, (l.take (idxD l)).filter (fun x => !delM x) = l.take (idxD l)
  | [] => rfl
  | x :: l => by
    unfold idxD
    by_cases h : delM x = true
    · rw [if_pos h]; rfl
    · rw [if_neg h, List.take_succ_cons, List.filter_cons, if_pos (by simpa using h), idxD_take l]
theorem idxD_at : ∀ (l : List Mem) (k : Nat) (x : Mem), l[k]? = some x → k ≤ idxD l → (delM x = true → k = idxD l) ∧ (delM x = false → k < idxD l)
  | [], k, x, h, _ => by simp at h
  | y :: l, 0, x, h, _ => by
    simp at h
    subst h
    unfold idxD
    exact ⟨fun h => by rw [if_pos h], fun h => by rw [if_neg (by simp [h])]; omega⟩
  | y :: l, k + 1, x, h, hk => by
    unfold idxD at hk ⊢
    by_cases hy : delM y = true
    · rw [if_pos hy] at hk; omega
    · rw [if_neg hy] at hk ⊢
      have := idxD_at l k x (by simpa using h) (by omega)
      exact ⟨fun h => by rw [this.1 h], fun h => by have := this.2 h; omega⟩
set_option maxHeartbeats 4000000 in
set_option maxRecDepth 100000 in
theorem index_calls (w : World) (g cap n : Nat) (xs : List Mem) (hr : RowAt w g cap n xs) : Calls Try.prog 48 #[.slice (some ⟨g, 0, none⟩) n cap, .func (.func 39) #[] #[]] w
    fun e w' => e = .returned (.int .i64 (if idxD xs < n then (idxD xs : Int) else -1)) ∧ Below w.heap.size w w' := by
  have hl : xs.length = n := by obtain ⟨_, _, _, _, _, _, h⟩ := hr; exact h
  have hm : n ≤ 9223372036854775807 := by obtain ⟨_, _, _, h1, h2, _⟩ := hr; unfold maxLen at h2; omega
  have HR := Aside0.mk hr
  have hdl := idxD_le xs
  obtain ⟨r_, hr_⟩ : ∃ r : Int, r = (if idxD xs < n then (idxD xs : Int) else -1) := ⟨_, rfl⟩
  rw [← hr_]
  have HRR := Aside0.mk hr_
  clear hr hr_
  go_enter Try.func48, Try.ntmps48
  go_wp2
  go_loopw [8] (fun i wr => ∃ k : Nat, k ≤ n ∧ k ≤ idxD xs ∧ i = .int .i64 k ∧ Aside0 (Below w.heap.size w wr)) (fun i _ => n - (intOf i).toNat)
  case atStart => exact ⟨0, Nat.zero_le _, Nat.zero_le _, rfl, ⟨Below.refl _ _⟩⟩
  case round =>
    obtain ⟨k, hk, hkd, rfl, HB⟩ := hrel
    by_cases hlt : k < n
    · obtain ⟨x, hx⟩ : ∃ x, xs[k]? = some x := ⟨xs[k], List.getElem?_eq_getElem (by omega)⟩
      have hrw := HR.out.below HB.out
      have c0 : wr.cell? ⟨g, k * 4, none⟩ = some (.int .u32 x.f0) := hrw.at hx 0 (by omega) _ rfl
      have c1 : wr.cell? ⟨g, k * 4 + 1, none⟩ = some (.int .u32 x.f1) := hrw.at hx 1 (by omega) _ rfl
      have c2 : wr.cell? ⟨g, k * 4 + 2, none⟩ = some (.int .u8 x.f2) := hrw.at hx 2 (by omega) _ rfl
      have c3 : wr.cell? ⟨g, k * 4 + 3, none⟩ = some (.string x.f3) := hrw.at hx 3 (by omega) _ rfl
      have hk0 : (0 : Int) ≤ (k : Int) := by omega
      have hkl : (k : Int) < (n : Int) := by omega
      have hat := idxD_at xs k x hx hkd
      have HD := Aside0.mk (del_calls x)
      cases hd : delM x with
      | true =>
        have hki := hat.1 hd
        rw [hd] at HD
        have e1 : (if idxD xs < n then (idxD xs : Int) else -1) = (k : Int) := by rw [← hki, if_pos hlt]
        have HE1 := Aside0.mk e1
        clear e1 hki hat hx hrw
        go_wp2_with (first | (go_at_call 39; (with_reducible refine (HD.out _).mono ?_); rintro e w1 ⟨rfl, hb⟩; have HB1 := Aside0.mk (below_step HB.out hb); clear hb))
        go_ret
        exact ⟨by rw [HRR.out, HE1.out]; rfl, HB1.out⟩
      | false =>
        have hki := hat.2 hd
        rw [hd] at HD
        clear hat hx hrw
        go_wp2_with (first | (go_at_call 39; (with_reducible refine (HD.out _).mono ?_); rintro e w1 ⟨rfl, hb⟩; have HB1 := Aside0.mk (below_step HB.out hb); clear hb))
        go_roundw
        case rel => exact ⟨k + 1, by omega, by omega, by go_num, HB1⟩
        case measure => simp [intOf]; omega
    · have e1 : (if idxD xs < n then (idxD xs : Int) else -1) = -1 := if_neg (by omega)
      have HE1 := Aside0.mk e1
      clear e1
      have hkl : ¬ (k : Int) < (n : Int) := by omega
      go_wp2
      go_ret
      exact ⟨by rw [HRR.out, HE1.out]; rfl, HB.out⟩
theorem idxD_del : ∀ xs : List Mem, idxD xs < xs.length → ∃ x, xs[idxD xs]? = some x ∧ delM x = true
  | [], h => by simp [idxD] at h
  | y :: l, h => by
    unfold idxD at h ⊢
    by_cases hy : delM y = true
    · rw [if_pos hy]; exact ⟨y, rfl, hy⟩
    · rw [if_neg hy] at h ⊢
      obtain ⟨x, h1, h2⟩ := idxD_del l (by simpa using h)
      exact ⟨x, by simpa using h1, h2⟩
def keptN (xs : List Mem) (j : Nat) : Nat := ((xs.take j).filter (fun y => !delM y)).length
theorem filter_push {xs : List Mem} {j : Nat} {x : Mem} (h : xs[j]? = some x) : (xs.take (j + 1)).filter (fun y => !delM y) = (xs.take j).filter (fun y => !delM y) ++ (if delM x = true then [] else [x]) := by
  rw [List.take_add_one, h, List.filter_append]
  congr 1
  cases hd : delM x <;> simp [hd]
theorem filter_len (xs : List Mem) (j : Nat) : ((xs.take j).filter (fun y => !delM y)).length ≤ j := by
  have h1 := List.length_filter_le (fun y => !delM y) (xs.take j)
  have h2 := List.length_take_le j xs
  omega
/-- the row in the round at j: those kept so far, then what stood there -/
def rowD (xs : List Mem) (j : Nat) : List Mem := (xs.take j).filter (fun y => !delM y) ++ xs.drop ((xs.take j).filter (fun y => !delM y)).length
theorem rowD_at {xs : List Mem} {j : Nat} {x : Mem} (h : xs[j]? = some x) : (rowD xs j)[j]? = some x := by
  have hl := filter_len xs j
  unfold rowD
  rw [List.getElem?_append_right hl, List.getElem?_drop, Nat.add_sub_cancel' hl]
  exact h
theorem rowD_del {xs : List Mem} {j : Nat} {x : Mem} (h : xs[j]? = some x) (hd : delM x = true) : rowD xs (j + 1) = rowD xs j := by
  unfold rowD
  rw [filter_push h, if_pos hd, List.append_nil]
theorem rowD_keep {xs : List Mem} {j : Nat} {x : Mem} (h : xs[j]? = some x) (hd : delM x = false) : rowD xs (j + 1) = (rowD xs j).set ((xs.take j).filter (fun y => !delM y)).length x := by
  unfold rowD
  rw [filter_push h, if_neg (by simp [hd])]
  generalize hK : (xs.take j).filter (fun y => !delM y) = K
  have hKl : K.length ≤ j := by rw [← hK]; exact filter_len xs j
  have hj := (List.getElem?_eq_some_iff.1 h).1
  rw [List.set_append_right _ _ (Nat.le_refl _), Nat.sub_self, List.append_assoc, List.length_append]
  congr 1
  rw [List.drop_eq_getElem_cons (by omega : K.length < xs.length)]
  rfl
theorem rowD_first (xs : List Mem) : rowD xs (idxD xs) = xs := by
  unfold rowD
  rw [idxD_take, List.length_take, Nat.min_eq_left (idxD_le xs), List.take_append_drop]
def liveL (xs : List Mem) : List Mem := xs.filter (fun y => !delM y)
theorem rowD_end (xs : List Mem) : (rowD xs xs.length).take (liveL xs).length = liveL xs := by
  unfold rowD liveL
  rw [List.take_length, List.take_left' rfl]
set_option maxHeartbeats 8000000 in
set_option maxRecDepth 100000 in
theorem delete_calls (w : World) (g cap n : Nat) (xs : List Mem) (hr : RowAt w g cap n xs) : Calls Try.prog 38 #[.slice (some ⟨g, 0, none⟩) n cap, .func (.func 39) #[] #[]] w
    fun e w' => e = .returned (.slice (some ⟨g, 0, none⟩) (liveL xs).length cap) ∧ RowAt w' g cap (liveL xs).length (liveL xs) ∧ w.grownBy w' (some g) := by
  have hl : xs.length = n := by obtain ⟨_, _, _, _, _, _, h⟩ := hr; exact h
  have hm : n ≤ cap ∧ cap ≤ 9223372036854775807 := by obtain ⟨_, _, _, h1, h2, _⟩ := hr; unfold maxLen at h2; omega
  have HI := Aside0.mk (index_calls w g cap n xs hr)
  have HR := Aside0.mk hr
  have HLT := Aside0.mk hr.lt
  have hdl := idxD_le xs
  clear hr
  by_cases hin : idxD xs < n
  · rw [if_pos hin] at HI
    go_enter Try.func38, Try.ntmps38
    obtain ⟨x0, hx0, hd0⟩ := idxD_del xs (by omega)
    have hk0 : keptN xs (idxD xs + 1) = idxD xs := by
      unfold keptN
      rw [filter_push hx0, if_pos hd0, List.append_nil, idxD_take, List.length_take, Nat.min_eq_left hdl]
    have hr0 : rowD xs (idxD xs + 1) = xs := by rw [rowD_del hx0 hd0, rowD_first]
    have hkn : ∀ j, keptN xs j ≤ j := fun j => filter_len xs j
    have hkl : keptN xs n = (liveL xs).length := by unfold keptN liveL; rw [← hl, List.take_length]
    have hkx : keptN xs n < n := by
      rw [hkl]
      have h1 : (xs.filter (fun y => !delM y)).length < xs.length := List.length_filter_lt_length_iff_exists.2 ⟨x0, List.mem_of_getElem? hx0, by simp [hd0]⟩
      unfold liveL
      omega
    have HK0 := Aside0.mk hk0
    have HR0 := Aside0.mk hr0
    have HKN := Aside0.mk hkn
    have HKL := Aside0.mk hkl
    clear hk0 hr0 hkn hkl
    go_wp2_with (first | (go_at_call 48; (with_reducible refine HI.out.mono ?_); rintro e w1 ⟨rfl, hb⟩; have HB1 := Aside0.mk hb; clear hb))
    go_loopw [5, 6] (fun vi vj wr => ∃ j : Nat, idxD xs + 1 ≤ j ∧ j ≤ n ∧ vi = .int .i64 (keptN xs j) ∧ vj = .int .i64 j ∧ Aside0 (RowAt wr g cap n (rowD xs j)) ∧ Aside0 (w.grownBy wr (some g))) (fun _ vj _ => n - (intOf vj).toNat)
    case atStart => exact ⟨idxD xs + 1, Nat.le_refl _, by omega, by rw [HK0.out], by go_num, ⟨by rw [HR0.out]; exact HR.out.below HB1.out⟩, ⟨⟨HB1.out.os, HB1.out.tape, HB1.out.output, HB1.out.size, fun i hi _ => HB1.out.block i hi⟩⟩⟩
    case round =>
      obtain ⟨j, hj0, hj, rfl, rfl, HRj, HG⟩ := hrel
      by_cases hlt : j < n
      · obtain ⟨x, hx⟩ : ∃ x, xs[j]? = some x := ⟨xs[j], List.getElem?_eq_getElem (by omega)⟩
        have hxr := rowD_at hx
        have c0 : wr.cell? ⟨g, j * 4, none⟩ = some (.int .u32 x.f0) := HRj.out.at hxr 0 (by omega) _ rfl
        have c1 : wr.cell? ⟨g, j * 4 + 1, none⟩ = some (.int .u32 x.f1) := HRj.out.at hxr 1 (by omega) _ rfl
        have c2 : wr.cell? ⟨g, j * 4 + 2, none⟩ = some (.int .u8 x.f2) := HRj.out.at hxr 2 (by omega) _ rfl
        have c3 : wr.cell? ⟨g, j * 4 + 3, none⟩ = some (.string x.f3) := HRj.out.at hxr 3 (by omega) _ rfl
        have hjz : (0 : Int) ≤ (j : Int) := by omega
        have hjl : (j : Int) < (n : Int) := by omega
        have HX := Aside0.mk hx
        clear hx hxr
        go_upto_region 8 with (fail)
        have hba := below_alloc (Below.refl wr.heap.size wr) (.cells #[.int .u32 x.f0, .int .u32 x.f1, .int .u8 x.f2, .string x.f3] 25)
        have HX2 := Aside0.mk (blk_new wr (.cells #[.int .u32 x.f0, .int .u32 x.f1, .int .u8 x.f2, .string x.f3] 25))
        have HR2 := Aside0.mk (HRj.out.below hba)
        have HG2 := Aside0.mk (HG.out.andThen (World.grownBy_alloc wr (.cells #[.int .u32 x.f0, .int .u32 x.f1, .int .u8 x.f2, .string x.f3] 25) none) (fun k_ hk_ => by cases hk_))
        have hgx : g ≠ wr.heap.size := Nat.ne_of_lt HRj.out.lt
        clear hba HRj HG c0 c1 c2 c3
        generalize wr.alloc _ = w2 at HX2 HR2 HG2 ⊢
        generalize wr.heap.size = bx at HX2 hgx ⊢
        have x0_ : w2.cell? ⟨bx, 0, none⟩ = some (.int .u32 x.f0) := (blk_cell HX2.out 0).trans rfl
        have x1_ : w2.cell? ⟨bx, 1, none⟩ = some (.int .u32 x.f1) := (blk_cell HX2.out 1).trans rfl
        have x2_ : w2.cell? ⟨bx, 2, none⟩ = some (.int .u8 x.f2) := (blk_cell HX2.out 2).trans rfl
        have x3_ : w2.cell? ⟨bx, 3, none⟩ = some (.string x.f3) := (blk_cell HX2.out 3).trans rfl
        have HD := Aside0.mk (del_calls x)
        cases hd : delM x with
        | true =>
          rw [hd] at HD
          go_wp2_with (first | (go_at_call 39; (with_reducible refine (HD.out _).mono ?_); rintro e w3 ⟨rfl, hb⟩; have HR3 := Aside0.mk (HR2.out.below hb); have HG3 := Aside0.mk (HG2.out.andThen (row' := none) ⟨hb.os, hb.tape, hb.output, hb.size, fun i hi _ => hb.block i hi⟩ (fun k_ hk_ => by cases hk_)); clear hb))
          go_roundw
          case rel =>
            refine ⟨_, _, _, _, _, _, _, _, _, _, _, _, _, _, _, _, _, _, _, _, _, _, _, ?_, rfl⟩
            exact ⟨j + 1, by omega, by omega, by unfold keptN; rw [filter_push HX.out, if_pos hd, List.append_nil], by go_num, ⟨by rw [rowD_del HX.out hd]; exact HR3.out⟩, HG3⟩
          case measure => simp [intOf]; omega
        | false =>
          rw [hd] at HD
          go_upto_region 9 with (first | (go_at_call 39; (with_reducible refine (HD.out _).mono ?_); rintro e w3 ⟨rfl, hb⟩; have HR3 := Aside0.mk (HR2.out.below hb); have HX3 := Aside0.mk (blk_below HX2.out hb); have HG3 := Aside0.mk (HG2.out.andThen (row' := none) ⟨hb.os, hb.tape, hb.output, hb.size, fun i hi _ => hb.block i hi⟩ (fun k_ hk_ => by cases hk_)); clear hb x0_ x1_ x2_ x3_))
          obtain ⟨K, hK⟩ : ∃ K, K = keptN xs j := ⟨_, rfl⟩
          rw [← hK]
          have hKj : K ≤ j := by rw [hK]; exact HKN.out j
          have HK := Aside0.mk hK
          obtain ⟨y, hy⟩ : ∃ y, (rowD xs j)[K]? = some y := by
            obtain ⟨_, _, _, _, _, _, h⟩ := HR3.out
            exact ⟨(rowD xs j)[K], List.getElem?_eq_getElem (by omega)⟩
          have c0 : w3.cell? ⟨g, K * 4, none⟩ = some (.int .u32 y.f0) := HR3.out.at hy 0 (by omega) _ rfl
          have c1 : w3.cell? ⟨g, K * 4 + 1, none⟩ = some (.int .u32 y.f1) := HR3.out.at hy 1 (by omega) _ rfl
          have c2 : w3.cell? ⟨g, K * 4 + 2, none⟩ = some (.int .u8 y.f2) := HR3.out.at hy 2 (by omega) _ rfl
          have c3 : w3.cell? ⟨g, K * 4 + 3, none⟩ = some (.string y.f3) := HR3.out.at hy 3 (by omega) _ rfl
          have f0 := HR3.out.frozen (K * 4)
          have f1 := HR3.out.frozen (K * 4 + 1)
          have f2 := HR3.out.frozen (K * 4 + 2)
          have f3 := HR3.out.frozen (K * 4 + 3)
          have hg3 : g < w3.heap.size := HR3.out.lt
          have hKz : (0 : Int) ≤ (K : Int) := by omega
          have hKl : (K : Int) < (n : Int) := by omega
          have x0_ : w3.cell? ⟨bx, 0, none⟩ = some (.int .u32 x.f0) := (blk_cell HX3.out 0).trans rfl
          have x1_ : w3.cell? ⟨bx, 1, none⟩ = some (.int .u32 x.f1) := (blk_cell HX3.out 1).trans rfl
          have x2_ : w3.cell? ⟨bx, 2, none⟩ = some (.int .u8 x.f2) := (blk_cell HX3.out 2).trans rfl
          have x3_ : w3.cell? ⟨bx, 3, none⟩ = some (.string x.f3) := (blk_cell HX3.out 3).trans rfl
          clear hK hy
          go_wp2
          go_roundw
          case rel =>
            have hr4 := HR3.out.set (i := K) (by omega) x
            have hg4 := HG3.out.andThen (setCells_grown w3 g (K * 4) (memC x)) (fun k_ hk_ => Or.inr hk_)
            refine ⟨_, _, _, _, _, _, _, _, _, _, _, _, _, _, _, _, _, _, _, _, _, _, _, ?_, rfl⟩
            refine ⟨j + 1, by omega, by omega, ?_, by go_num, ⟨?_⟩, ⟨hg4⟩⟩
            · unfold keptN
              rw [filter_push HX.out, if_neg (by simp [hd]), List.length_append]
              have h1_ := HK.out
              unfold keptN at h1_
              rw [← h1_]
              go_num
            · rw [rowD_keep HX.out hd]
              have h1_ := HK.out
              unfold keptN at h1_
              rw [← h1_]
              exact hr4
          case measure => simp [intOf]; omega
      · obtain rfl : j = n := by omega
        obtain ⟨K, hK⟩ : ∃ K, K = keptN xs j := ⟨_, rfl⟩
        rw [← hK] at hkx HKL ⊢
        have hRw := HRj.out
        have hcp : j ≤ cap := hm.1
        have q1 : (0 : Int) ≤ (K : Int) := by omega
        have q2 : (K : Int) ≤ (j : Int) := by omega
        have q3 : (j : Int) ≤ (cap : Int) := by omega
        have q4 : ¬ (cap : Int) = (K : Int) := by omega
        have q5 : ¬ cap = K := by omega
        have q6 : (K : Int) ≤ (cap : Int) := by omega
        have hkj : ¬ (j : Int) < (j : Int) := by omega
        obtain ⟨L, hLl, hcl⟩ := clear_run wr g (K * 4) (j - K) (by omega) (fun t ht => by
          obtain ⟨cur, h1_, h2_, _⟩ := hRw
          rw [blk_cell h1_, Array.getElem?_eq_getElem (by rw [h2_]; omega)]
          rfl) (fun t ht => hRw.frozen _)
        have HLL := Aside0.mk hLl
        have HKK := Aside0.mk hK
        clear hRw hLl hK
        go_wp2
        go_ret
        have h1_ := HRj.out.clear (i := K) (by omega) L HLL.out
        have h2_ := HKL.out
        rw [HKK.out] at h2_
        have h3_ := rowD_end xs
        rw [hl] at h3_
        have h4_ : K = (liveL xs).length := by rw [HKL.out]
        rw [← h4_] at h3_ ⊢
        rw [h3_] at h1_
        exact ⟨rfl, h1_, HG.out.andThen (setCells_grown wr g (K * 4) L) (fun k_ hk_ => Or.inr hk_)⟩
  · rw [if_neg hin] at HI
    go_enter Try.func38, Try.ntmps38
    go_wp2_with (first | (go_at_call 48; (with_reducible refine HI.out.mono ?_); rintro e w1 ⟨rfl, hb⟩; have HB1 := Aside0.mk hb; clear hb))
    go_ret
    have e1 : liveL xs = xs := by
      have := idxD_take xs
      rw [List.take_of_length_le (by omega)] at this
      exact this
    rw [e1, hl]
    exact ⟨rfl, HR.out.below HB1.out, ⟨HB1.out.os, HB1.out.tape, HB1.out.output, HB1.out.size, fun i hi _ => HB1.out.block i hi⟩⟩
theorem index_nil_calls (w : World) (fv : Value) : Calls Try.prog 48 #[.slice none 0 0, fv] w fun e w' => e = .returned (.int .i64 (-1)) ∧ w' = w := by
  go_enter Try.func48, Try.ntmps48
  go_wp2
  refine wp_loop_rounds 1 ?_
  rw [rounds_succ]
  go_wp2
  go_ret
  exact ⟨rfl, rfl⟩
theorem delete_nil_calls (w : World) (fv : Value) : Calls Try.prog 38 #[.slice none 0 0, fv] w fun e w' => e = .returned (.slice none 0 0) ∧ w' = w := by
  go_enter Try.func38, Try.ntmps38
  go_wp2_with (first | (go_at_call 48; (with_reducible refine (index_nil_calls _ fv).mono ?_); rintro e w1 ⟨rfl, rfl⟩))
  go_ret
  exact ⟨rfl, rfl⟩
theorem row_of {w : World} {base g cap : Nat} {xs : List Mem} (h : w.ownsRow base 25 4 (.slice (some ⟨g, 0, none⟩) xs.length cap) xs.length (flatM xs)) : RowAt w g cap xs.length xs ∧ base ≤ g := by
  rcases h.2 with ⟨h3, _⟩ | ⟨g', cp, cur, he, hb, hh, hn, hc, hs, ht⟩
  · cases h3
  · injection he with he1 he2 he3
    injection he1 with he1
    injection he1 with he1
    subst he1
    subst he3
    exact ⟨⟨cur, hh, hs, hn, hc, ht, rfl⟩, hb⟩
theorem own_of {w : World} {base g cap n : Nat} {xs : List Mem} (h : RowAt w g cap n xs) (hb : base ≤ g) : w.ownsRow base 25 4 (.slice (some ⟨g, 0, none⟩) n cap) n (flatM xs) := by
  obtain ⟨cur, h1, h2, h3, h4, h5, h6⟩ := h
  exact ⟨by rw [flatM_length, h6], .inr ⟨g, cap, cur, rfl, hb, h1, h3, h4, h2, h5⟩⟩
set_option maxHeartbeats 4000000 in
set_option maxRecDepth 100000 in
theorem live_calls (w : World) (g b : Nat) (l : List Mem) (hV : Vw w g b l) (hll : l.length ≤ 100000) : Calls Try.prog 25 #[.pointer (some ⟨g, 0, none⟩)] w
      fun e w' => ∃ v, e = .returned v ∧ w'.ownsRow w.heap.size 25 4 v (liveL l).length (flatM (liveL l)) ∧ Below w.heap.size w w' := by
  have HL := Aside0.mk (list_calls w g b l hV hll)
  have HD : Aside0 (∀ (w1 : World) (v : Value), w1.ownsRow w.heap.size 25 4 v l.length (flatM l) → Below w.heap.size w w1 → Calls Try.prog 38 #[v, .func (.func 39) #[] #[]] w1
      fun e w' => ∃ v, e = .returned v ∧ w'.ownsRow w.heap.size 25 4 v (liveL l).length (flatM (liveL l)) ∧ Below w.heap.size w w') := ⟨by
    intro w1 v h1 hb
    rcases h1.2 with ⟨rfl, h0⟩ | ⟨g', cp, cur, rfl, hb', hh, hn, hc, hs, ht⟩
    · have e1 : l = [] := List.eq_nil_of_length_eq_zero h0
      subst e1
      refine (delete_nil_calls w1 _).mono ?_
      rintro e w' ⟨rfl, rfl⟩
      exact ⟨_, rfl, h1, hb⟩
    · obtain ⟨hr, hbg⟩ := row_of h1
      refine (delete_calls w1 g' cp l.length l hr).mono ?_
      rintro e w' ⟨rfl, h2, h3⟩
      exact ⟨_, rfl, own_of h2 hbg, hb.grown h3 hb.size (fun k hk => by cases hk; exact hbg)⟩⟩
  clear hV
  go_enter Try.func25, Try.ntmps25
  go_wp2_with (first
    | (go_at_call 16; (with_reducible refine HL.out.mono ?_); rintro e w1 ⟨v, rfl, h1_, h2_⟩; have H1 := Aside0.mk h1_; have HB := Aside0.mk h2_; clear h1_ h2_)
    | (go_at_call 38; (with_reducible refine (HD.out _ _ H1.out HB.out).mono ?_); rintro e w2 ⟨v2, rfl, h1_, h2_⟩; have H2 := Aside0.mk h1_; have HB2 := Aside0.mk h2_; clear h1_ h2_))
  go_ret
  exact ⟨v2, rfl, H2.out, HB2.out⟩
set_option maxHeartbeats 4000000 in
theorem live_nil_calls (w : World) : Calls Try.prog 25 #[.pointer none] w fun e w' => e = .returned (.slice none 0 0) ∧ w' = w := by
  go_enter Try.func25, Try.ntmps25
  go_wp2_with (first
    | (go_at_call 16; (with_reducible refine (list_nil_calls _).mono ?_); rintro e w1 ⟨rfl, rfl⟩)
    | (go_at_call 38; (with_reducible refine (delete_nil_calls _ _).mono ?_); rintro e w2 ⟨rfl, rfl⟩))
  go_ret
  exact ⟨rfl, rfl⟩
end Go.Proofs.Ytognmibankcefaa.Print
