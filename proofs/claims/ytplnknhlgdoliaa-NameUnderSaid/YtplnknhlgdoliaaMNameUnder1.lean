/- A part of the proof of NameUnderSaid: 10 texts in one. -/
import Derived.Test.YtplnknhlgdoliaaMNameUnder0
section
/- Plain laws of names: their labels, and what the printed functions starts, Check, Labels, Count, Split tell of them. -/
namespace Go.Proofs.Ytplnknhlgdoliaa.Print
set_option linter.unusedVariables false
set_option linter.unusedSimpArgs false
open Go.RowKit Go.Proofs.YtplnknhlgdoliaaW.PrintWords Go.Proofs.YtplnknhlgdoliaaW.PrintLast Go.Proofs.YtplnknhlgdoliaaW.PrintMore
theorem strOfNums_bytes' (s : ByteArray) : strOfNums (bytesOf s) = s := by
  apply ByteArray.ext
  apply Array.ext'
  rw [strOfNums_data]
  unfold bytesOf
  rw [List.map_map]
  conv => rhs; rw [← List.map_id s.data.toList]
  refine List.map_congr_left fun b _ => ?_
  simp
theorem bytes_inj {a b : ByteArray} (h : bytesOf a = bytesOf b) : a = b := by rw [← strOfNums_bytes' a, h, strOfNums_bytes']
theorem bytes_strOfNums (xs : List Int) (h : ∀ x ∈ xs, 0 ≤ x ∧ x < 256) : bytesOf (strOfNums xs) = xs := by
  unfold bytesOf
  rw [strOfNums_data, List.map_map]
  conv => rhs; rw [← List.map_id xs]
  refine List.map_congr_left fun x hx => ?_
  obtain ⟨h0, h1⟩ := h x hx
  simp only [Function.comp_apply, UInt8.toNat_ofNat', id_eq]
  omega
theorem bytes_extract (s : ByteArray) (a b : Nat) : bytesOf (s.extract a b) = ((bytesOf s).drop a).take (b - a) := by
  unfold bytesOf
  rw [Lib.extract_data, List.map_take, List.map_drop]
theorem w64 {n : Int} (h0 : -9223372036854775808 ≤ n) (h1 : n ≤ 9223372036854775807) : wrap64 n = n := by unfold wrap64; omega
/-! ### labels -/
def cutF : Nat → List Int → Option (List ByteArray)
  | 0, _ => none
  | _ + 1, [] => none
  | k + 1, c :: r => if c = 0 then (if r = [] then some [] else none) else if 63 < c then none else if r.length < c.toNat then none else (cutF k (r.drop c.toNat)).map (strOfNums (r.take c.toNat) :: ·)
def cut (l : List Int) : Option (List ByteArray) := cutF (l.length + 1) l
theorem cutF_enough : ∀ (k : Nat) (l : List Int), l.length < k → cutF k l = cut l := by
  intro k
  induction k with
  | zero => intro l h; omega
  | succ k ih =>
    intro l h
    cases l with
    | nil => rfl
    | cons c r =>
      simp only [cut, cutF, List.length_cons]
      rw [ih (r.drop c.toNat) (by simp at h ⊢; omega)]
      have e : cutF (r.length + 1) (r.drop c.toNat) = cut (r.drop c.toNat) := by
        unfold cut
        rcases Nat.lt_or_ge (r.drop c.toNat).length k with h1 | h1
        · have h2 := ih (r.drop c.toNat) h1
          rcases Nat.lt_or_ge r.length k with h3 | h3
          · by_cases h4 : (r.drop c.toNat).length = r.length
            · rw [h4]
            · have h5 : (r.drop c.toNat).length < r.length := by simp at h4 ⊢; omega
              clear h2
              exact cutF_mono _ _ _ (by omega) (by omega)
          · simp at h; omega
        · simp at h h1; omega
      rw [e]
where cutF_mono : ∀ (a b : Nat) (l : List Int), l.length < a → l.length < b → cutF a l = cutF b l
  | 0, _, _, h, _ => by omega
  | _ + 1, 0, _, _, h => by omega
  | a + 1, b + 1, [], _, _ => rfl
  | a + 1, b + 1, c :: r, h1, h2 => by
    simp only [cutF]
    rw [cutF_mono a b (r.drop c.toNat) (by simp at h1 ⊢; omega) (by simp at h2 ⊢; omega)]
theorem cut_nil : cut [] = none := rfl
theorem cut_cons (c : Int) (r : List Int) : cut (c :: r) = if c = 0 then (if r = [] then some [] else none) else if 63 < c then none else if r.length < c.toNat then none else (cut (r.drop c.toNat)).map (strOfNums (r.take c.toNat) :: ·) := by
  show cutF (r.length + 1 + 1) (c :: r) = _
  simp only [cutF]
  rw [cutF_enough (r.length + 1) (r.drop c.toNat) (by simp; omega)]
theorem cut_some : ∀ (L : List ByteArray) (l : List Int), (∀ x ∈ l, 0 ≤ x ∧ x < 256) → cut l = some L → l = glue L ++ [0] ∧ L.any badLab = false
  | L, [], _, h => by rw [cut_nil] at h; cases h
  | L, c :: r, hr, h => by
    rw [cut_cons] at h
    have hc := hr c (by simp)
    split at h
    · split at h
      · rename_i h0 h1; cases h; subst h0 h1; exact ⟨rfl, rfl⟩
      · cases h
    · split at h
      · cases h
      · split at h
        · cases h
        · rename_i h0 h63 hlen
          obtain ⟨L', hL', rfl⟩ := Option.map_eq_some_iff.1 h
          have hrg : ∀ x ∈ r.take c.toNat, 0 ≤ x ∧ x < 256 := fun x hx => hr x (List.mem_cons_of_mem _ (List.mem_of_mem_take hx))
          obtain ⟨h1, h2⟩ := cut_some L' (r.drop c.toNat) (fun x hx => hr x (List.mem_cons_of_mem _ (List.mem_of_mem_drop hx))) hL'
          have hsz : (strOfNums (r.take c.toNat)).size = c.toNat := by rw [strOfNums_size, List.length_take]; omega
          refine ⟨?_, ?_⟩
          · show c :: r = lab _ ++ glue L' ++ [0]
            rw [List.append_assoc, ← h1]
            unfold lab
            rw [bytes_strOfNums _ hrg, hsz, List.cons_append, List.take_append_drop]
            congr 1; omega
          · rw [List.any_cons, h2, Bool.or_false]
            unfold badLab
            rw [hsz]; simp; omega
  termination_by _ l => l.length
  decreasing_by simp; omega
theorem cut_glue : ∀ (L : List ByteArray), L.any badLab = false → cut (glue L ++ [0]) = some L
  | [], _ => by simp [glue, cut_cons]
  | s :: L, h => by
    rw [List.any_cons, Bool.or_eq_false_iff] at h
    have hs := bad_false h.1
    have ih := cut_glue L h.2
    have e : glue (s :: L) ++ [0] = (s.size : Int) :: (bytesOf s ++ (glue L ++ [0])) := by simp [glue, lab]
    rw [e, cut_cons, if_neg (by omega), if_neg (by omega), if_neg (by simp [bytesOf_length])]
    have e1 : ((s.size : Int)).toNat = (bytesOf s).length := by rw [bytesOf_length]; omega
    rw [e1, List.drop_left, List.take_left, ih, strOfNums_bytes']
    rfl
/-- a name's labels; none: it is no name -/
def dec (n : ByteArray) : Option (List ByteArray) := if 255 < n.size then none else cut (bytesOf n)
theorem dec_some {n : ByteArray} {L : List ByteArray} (h : dec n = some L) : n.size ≤ 255 ∧ bytesOf n = glue L ++ [0] ∧ L.any badLab = false := by
  unfold dec at h
  split at h
  · cases h
  · exact ⟨by omega, cut_some L _ (bo_range n) h⟩
theorem dec_size {n : ByteArray} {L : List ByteArray} (h : dec n = some L) : n.size = (glue L).length + 1 := by
  have h1 := (dec_some h).2.1
  have h2 := congrArg List.length h1
  rw [bytesOf_length] at h2
  simpa using h2
theorem dec_inj {a b : ByteArray} {L : List ByteArray} (ha : dec a = some L) (hb : dec b = some L) : a = b := bytes_inj (by rw [(dec_some ha).2.1, (dec_some hb).2.1])
/-- the name of labels -/
def nameOf (L : List ByteArray) : ByteArray := strOfNums (glue L ++ [0])
theorem bytes_nameOf {L : List ByteArray} (h : L.any badLab = false) : bytesOf (nameOf L) = glue L ++ [0] := bytes_strOfNums _ (glue_range L h)
theorem dec_nameOf {L : List ByteArray} (h : L.any badLab = false) (hl : (glue L).length + 1 ≤ 255) : dec (nameOf L) = some L := by
  unfold dec nameOf
  rw [strOfNums_size, if_neg (by simp; omega)]
  have := bytes_nameOf h
  unfold nameOf at this
  rw [this]
  exact cut_glue L h
theorem nameOf_dec {n : ByteArray} {L : List ByteArray} (h : dec n = some L) : nameOf L = n := by
  have h1 := dec_some h
  exact bytes_inj (by rw [bytes_nameOf h1.2.2, h1.2.1])
/-- where labels begin -/
def offs : Nat → List ByteArray → List Int
  | _, [] => []
  | p, s :: L => (p : Int) :: offs (p + 1 + s.size) L
theorem offs_length : ∀ (p : Nat) (L : List ByteArray), (offs p L).length = L.length
  | _, [] => rfl
  | p, s :: L => by simp [offs, offs_length]
theorem offs_at : ∀ (L1 : List ByteArray) (p : Nat) (s : ByteArray) (L2 : List ByteArray), (offs p (L1 ++ s :: L2))[L1.length]? = some ((p + (glue L1).length : Nat) : Int)
  | [], p, s, L2 => by simp [offs, glue]
  | t :: L1, p, s, L2 => by
    simp only [List.cons_append, offs, List.length_cons, List.getElem?_cons_succ]
    rw [offs_at L1]
    simp [glue, lab_length]; omega
/-! ### starts -/
theorem starts_ev (n : ByteArray) (hn : n.size ≤ 255) (d : Nat) : ∀ (p : Nat) (acc : List Int), n.size + 64 - p ≤ d → acc.length ≤ p → p ≤ 400 →
    ∃ l', Ev (fun k => name_starts.l0 k n acc (p : Int)) (l', (cut ((bytesOf n).drop p)).isSome) ∧ ∀ L, cut ((bytesOf n).drop p) = some L → l' = acc ++ offs p L := by
  induction d with
  | zero =>
    intro p acc hd ha hp
    refine ⟨acc, ?_, ?_⟩
    · rw [bo_end n p (by omega), cut_nil]
      refine Ev.step (f := fun k => name_starts.j1 k n acc p false) (fun k => by simp only [name_starts.l0]; rw [if_neg (by omega)]) ?_
      refine Ev.step (f := fun _ => some (acc, false)) (fun k => ?_) (Ev.now _)
      simp only [name_starts.j1]
      rw [if_neg (by simp), w64 (by omega) (by omega)]
      congr 2
      exact beq_eq_false_iff_ne.2 (by omega)
    · intro L hL; rw [bo_end n p (by omega), cut_nil] at hL; cases hL
  | succ d ih =>
    intro p acc hd ha hp
    by_cases hlt : p < n.size
    · have hb := bt_range n (p : Int)
      rw [bo_drop n p hlt, cut_cons]
      by_cases hc : bt n (p : Int) = 0
      · rw [if_pos hc]
        refine ⟨acc, ?_, ?_⟩
        · refine Ev.step (f := fun k => name_starts.j1 k n acc p false) (fun k => by simp only [name_starts.l0]; rw [if_pos (by omega), if_pos (by omega)]; congr 1; simp [hc]) ?_
          refine Ev.step (f := fun _ => some (acc, _)) (fun k => ?_) (Ev.now _)
          simp only [name_starts.j1]
          rw [if_neg (by simp), w64 (by omega) (by omega)]
          congr 2
          by_cases hl : p + 1 = n.size
          · rw [bo_end n (p + 1) (by omega), if_pos rfl]
            exact beq_iff_eq.2 (by omega)
          · have : (bytesOf n).drop (p + 1) ≠ [] := by
              intro h0; have := congrArg List.length h0; simp [bytesOf_length] at this; omega
            rw [if_neg this]
            exact beq_eq_false_iff_ne.2 (by omega)
        · intro L hL
          split at hL
          · cases hL; simp [offs]
          · cases hL
      · rw [if_neg hc]
        have hj : ∀ k, name_starts.l0 (k + 1) n acc (p : Int) = name_starts.j1 k n acc p true := fun k => by
          simp only [name_starts.l0]; rw [if_pos (by omega), if_pos (by omega)]; congr 1; simp [hc]
        by_cases h63 : 63 < bt n (p : Int)
        · rw [if_pos h63]
          refine ⟨[], ?_, by intro L hL; cases hL⟩
          refine Ev.step hj (Ev.step (f := fun _ => some ([], false)) (fun k => ?_) (Ev.now _))
          simp only [name_starts.j1]
          rw [if_pos trivial, if_pos (by omega), if_pos (by omega), if_pos (by omega)]
        · rw [if_neg h63]
          have hstep : ∀ k, name_starts.j1 (k + 1) n acc p true = name_starts.l0 k n (acc ++ [(p : Int)]) ((p + 1 + (bt n (p : Int)).toNat : Nat) : Int) := fun k => by
            simp only [name_starts.j1]
            rw [if_pos trivial, if_pos (by omega), if_pos (by omega), if_neg (by omega), if_pos (by omega)]
            rw [w64 (n := bt n (p : Int)) (by omega) (by omega), w64 (n := 1 + bt n (p : Int)) (by omega) (by omega), w64 (by omega) (by omega)]
            congr 1; omega
          obtain ⟨l', hE, hL'⟩ := ih (p + 1 + (bt n (p : Int)).toNat) (acc ++ [(p : Int)]) (by omega) (by simp; omega) (by omega)
          refine ⟨l', ?_, ?_⟩
          · have e : (if ((bytesOf n).drop (p + 1)).length < (bt n (p : Int)).toNat then none else (cut (((bytesOf n).drop (p + 1)).drop (bt n (p : Int)).toNat)).map (strOfNums (((bytesOf n).drop (p + 1)).take (bt n (p : Int)).toNat) :: ·)).isSome = (cut ((bytesOf n).drop (p + 1 + (bt n (p : Int)).toNat))).isSome := by
              split
              · rename_i hh
                simp only [List.length_drop, bytesOf_length] at hh
                rw [bo_end n (p + 1 + (bt n (p : Int)).toNat) (by omega), cut_nil]
              · rw [List.drop_drop, Option.isSome_map]
            rw [e]
            exact Ev.step hj (Ev.step hstep hE)
          · intro L hL
            split at hL
            · cases hL
            · rename_i hh
              rw [List.drop_drop] at hL
              obtain ⟨L2, h2, rfl⟩ := Option.map_eq_some_iff.1 hL
              rw [hL' L2 h2]
              have hsz : (strOfNums (((bytesOf n).drop (p + 1)).take (bt n (p : Int)).toNat)).size = (bt n (p : Int)).toNat := by
                rw [strOfNums_size, List.length_take]; omega
              simp [offs, hsz]
    · refine ⟨acc, ?_, ?_⟩
      · rw [bo_end n p (by omega), cut_nil]
        refine Ev.step (f := fun k => name_starts.j1 k n acc p false) (fun k => by simp only [name_starts.l0]; rw [if_neg (by omega)]) ?_
        refine Ev.step (f := fun _ => some (acc, false)) (fun k => ?_) (Ev.now _)
        simp only [name_starts.j1]
        rw [if_neg (by simp), w64 (by omega) (by omega)]
        congr 2
        exact beq_eq_false_iff_ne.2 (by omega)
      · intro L hL; rw [bo_end n p (by omega), cut_nil] at hL; cases hL
/-- what starts tells -/
theorem starts_f (n : ByteArray) : ∃ l', Ev (fun k => name_starts.f k n) (l', (dec n).isSome) ∧ ∀ L, dec n = some L → l' = offs 0 L := by
  unfold dec
  by_cases h : 255 < n.size
  · rw [if_pos h]
    refine ⟨[], Ev.congr (f := fun _ => some ([], false)) (fun k => ?_) (Ev.now _), by intro L hL; cases hL⟩
    unfold name_starts.f; rw [if_pos (by omega)]
  · rw [if_neg h]
    obtain ⟨l', hE, hL⟩ := starts_ev n (by omega) (n.size + 64) 0 [] (by omega) (by simp) (by omega)
    refine ⟨l', Ev.congr (fun k => ?_) hE, fun L h => by simpa using hL L (by simpa using h)⟩
    unfold name_starts.f; rw [if_neg (by omega)]; rfl
theorem check_f (n : ByteArray) : Ev (fun k => name_Check.f k n) (if (dec n).isSome then 0 else 11) := by
  obtain ⟨l', hE, _⟩ := starts_f n
  refine Ev.bind (f := fun _ (b : List Int × Bool) => if b.2 = true then some (0 : Int) else some 11) hE (Ev.congr (f := fun _ => some (if (dec n).isSome then (0 : Int) else 11)) (fun k => ?_) (Ev.now _))
  dsimp only
  cases (dec n).isSome <;> rfl
theorem count_f (n : ByteArray) : Ev (fun k => name_Count.f k n) (((dec n).getD []).length : Int) := by
  obtain ⟨l', hE, hL⟩ := starts_f n
  refine Ev.bind (f := fun _ (b : List Int × Bool) => if b.2 = true then some (b.1.length : Int) else some 0) hE (Ev.congr (f := fun _ => some (((dec n).getD []).length : Int)) (fun k => ?_) (Ev.now _))
  dsimp only
  cases h : dec n with
  | none => rfl
  | some L => rw [hL L h, offs_length]; rfl
theorem label_at {n : ByteArray} {L1 L2 : List ByteArray} {s : ByteArray} (h : dec n = some (L1 ++ s :: L2)) :
    bt n ((glue L1).length : Int) = s.size ∧ (glue L1).length + 1 + s.size + 1 ≤ n.size ∧ n.extract ((glue L1).length + 1) ((glue L1).length + 1 + s.size) = s := by
  obtain ⟨h1, h2, h3⟩ := dec_some h
  have hsz := dec_size h
  have e : bytesOf n = glue L1 ++ ((s.size : Int) :: (bytesOf s ++ (glue L2 ++ [0]))) := by rw [h2]; simp [glue, lab]
  have hlen : (glue (L1 ++ s :: L2)).length = (glue L1).length + (s.size + 1) + (glue L2).length := by simp [glue, lab, bytesOf_length]; omega
  refine ⟨?_, by omega, ?_⟩
  · rw [← rd_bytesOf]
    simp [rd, e, List.getD_eq_getElem?_getD]
  · refine bytes_inj ?_
    rw [bytes_extract, e]
    rw [List.drop_append]
    have e1 : (glue L1).drop ((glue L1).length + 1) = [] := List.drop_of_length_le (by omega)
    rw [e1, List.nil_append, show (glue L1).length + 1 - (glue L1).length = 1 from by omega, List.drop_succ_cons, List.drop_zero]
    rw [List.take_append_of_le_length (by rw [bytesOf_length]; omega), List.take_of_length_le (by rw [bytesOf_length]; omega)]
theorem labels_length {n : ByteArray} {L : List ByteArray} (h : dec n = some L) : L.length ≤ 127 := by
  have h1 := dec_size h
  have h2 := (dec_some h).1
  have h3 := (dec_some h).2.2
  have : ∀ (L : List ByteArray), L.any badLab = false → L.length * 2 ≤ (glue L).length := by
    intro L
    induction L with
    | nil => intro _; simp
    | cons s L ih =>
      intro h
      rw [List.any_cons, Bool.or_eq_false_iff] at h
      have hs := bad_false h.1
      have := ih h.2
      simp [glue, lab, bytesOf_length] at this ⊢; omega
  have := this L h3
  omega
theorem labels_l0 {n : ByteArray} {L : List ByteArray} (h : dec n = some L) : ∀ (L2 L1 : List ByteArray), L = L1 ++ L2 →
    Ev (fun k => name_Labels.l0 k n L1 (offs 0 L) (L.length : Int) (L1.length : Int)) L := by
  have hm := labels_length h
  intro L2
  induction L2 with
  | nil =>
    intro L1 e
    rw [List.append_nil] at e
    subst e
    refine Ev.step (f := fun _ => some L) (fun k => ?_) (Ev.now _)
    simp only [name_Labels.l0]
    rw [if_neg (by omega)]
  | cons s L2 ih =>
    intro L1 e
    have hn := (dec_some h).1
    subst e
    obtain ⟨h1, h2, h3⟩ := label_at h
    have ho := offs_at L1 0 s L2
    rw [Nat.zero_add] at ho
    have hr : rd (offs 0 (L1 ++ s :: L2)) (L1.length : Int) = ((glue L1).length : Int) := by simp [rd, List.getD_eq_getElem?_getD, ho]
    have hlen : (L1 ++ s :: L2).length = L1.length + 1 + L2.length := by simp; omega
    have ih' := ih (L1 ++ [s]) (by simp)
    refine Ev.step (fun k => ?_) ih'
    simp only [name_Labels.l0]
    rw [if_pos (by omega), if_pos (by omega), if_pos (by rw [offs_length]; omega), hr, h1]
    rw [w64 (n := ((glue L1).length : Int) + 1) (by omega) (by omega), w64 (n := (s.size : Int)) (by omega) (by omega), w64 (n := ((glue L1).length : Int) + 1 + (s.size : Int)) (by omega) (by omega), w64 (n := (L1.length : Int) + 1) (by omega) (by omega)]
    rw [if_pos (by omega), if_pos (by omega), if_pos (by omega), if_pos (by omega), if_pos (by omega), if_pos (by omega)]
    have e1 : (((glue L1).length : Int) + 1).toNat = (glue L1).length + 1 := by omega
    have e2 : (((glue L1).length : Int) + 1 + (s.size : Int)).toNat = (glue L1).length + 1 + s.size := by omega
    rw [e1, e2, h3]
    simp
theorem labels_f (n : ByteArray) : Ev (fun k => name_Labels.f k n) ((dec n).getD []) := by
  obtain ⟨l', hE, hL⟩ := starts_f n
  refine Ev.bind (f := fun k (b : List Int × Bool) => if b.2 = true then name_Labels.l0 k n [] b.1 (b.1.length : Int) 0 else some []) hE ?_
  cases h : dec n with
  | none => exact Ev.now _
  | some L =>
    have := labels_l0 h L [] rfl
    rw [hL L h, offs_length]
    exact this
/-! ### Split -/
theorem split_l0 (d : Nat) : ∀ (s : ByteArray) (acc : List ByteArray), s.size ≤ d → s.size ≤ 255 → acc.length ≤ 255 - s.size →
    ∃ l', Ev (fun k => hearsayref01_Split.l0 k acc s) (l', (cut (bytesOf s)).isSome) ∧ ∀ L, cut (bytesOf s) = some L → l' = acc ++ L := by
  induction d with
  | zero =>
    intro s acc hd h1 ha
    have e : bytesOf s = [] := List.length_eq_zero_iff.1 (by rw [bytesOf_length]; omega)
    rw [e, cut_nil]
    refine ⟨[], Ev.step (f := fun _ => some ([], false)) (fun k => ?_) (Ev.now _), by intro L h; cases h⟩
    simp only [hearsayref01_Split.l0]
    rw [if_neg (by omega)]
  | succ d ih =>
    intro s acc hd h1 ha
    by_cases h0 : s.size = 0
    · have e : bytesOf s = [] := List.length_eq_zero_iff.1 (by rw [bytesOf_length]; omega)
      rw [e, cut_nil]
      refine ⟨[], Ev.step (f := fun _ => some ([], false)) (fun k => ?_) (Ev.now _), by intro L h; cases h⟩
      simp only [hearsayref01_Split.l0]
      rw [if_neg (by omega)]
    · have hb := bt_range s 0
      have e := bo_drop s 0 (by omega)
      rw [List.drop_zero] at e
      have e0 : ((0 : Nat) : Int) = 0 := rfl
      rw [e0] at e
      rw [e, cut_cons]
      have hlen : ((bytesOf s).drop (0 + 1)).length = s.size - 1 := by simp [bytesOf_length]
      by_cases hc : bt s 0 = 0
      · rw [if_pos hc]
        refine ⟨acc, Ev.step (f := fun _ => some (acc, _)) (fun k => ?_) (Ev.now _), ?_⟩
        · simp only [hearsayref01_Split.l0]
          rw [if_pos (by omega), if_pos (by omega), w64 (by omega) (by omega), if_pos hc]
          congr 2
          by_cases hl : s.size = 1
          · have : (bytesOf s).drop (0 + 1) = [] := List.length_eq_zero_iff.1 (by omega)
            rw [if_pos this]; exact beq_iff_eq.2 (by omega)
          · have : (bytesOf s).drop (0 + 1) ≠ [] := fun h => by rw [h] at hlen; simp at hlen; omega
            rw [if_neg this]; exact beq_eq_false_iff_ne.2 (by omega)
        · intro L hL
          split at hL
          · cases hL; simp
          · cases hL
      · rw [if_neg hc]
        by_cases h63 : 63 < bt s 0
        · rw [if_pos h63]
          refine ⟨[], Ev.step (f := fun _ => some ([], false)) (fun k => ?_) (Ev.now _), by intro L h; cases h⟩
          simp only [hearsayref01_Split.l0]
          rw [if_pos (by omega), if_pos (by omega), w64 (by omega) (by omega), if_neg hc, if_pos (by omega)]
        · rw [if_neg h63, hlen]
          by_cases hs : s.size - 1 < (bt s 0).toNat
          · rw [if_pos hs]
            refine ⟨[], Ev.step (f := fun _ => some ([], false)) (fun k => ?_) (Ev.now _), by intro L h; cases h⟩
            simp only [hearsayref01_Split.l0]
            rw [if_pos (by omega), if_pos (by omega), w64 (n := bt s 0) (by omega) (by omega), if_neg hc, if_neg (by omega), w64 (by omega) (by omega), if_pos (by omega)]
          · rw [if_neg hs]
            have hlab : s.extract 1 (bt s 0 + 1).toNat = strOfNums (((bytesOf s).drop (0 + 1)).take (bt s 0).toNat) := by
              refine bytes_inj ?_
              rw [bytes_extract, bytes_strOfNums _ (fun x hx => bo_range s x (List.mem_of_mem_drop (List.mem_of_mem_take hx)))]
              congr 1; omega
            have hrest : bytesOf (s.extract (bt s 0 + 1).toNat s.size) = ((bytesOf s).drop (0 + 1)).drop (bt s 0).toNat := by
              rw [bytes_extract, List.drop_drop, List.take_of_length_le (by simp [bytesOf_length])]
              congr 1; omega
            have hsz : (s.extract (bt s 0 + 1).toNat s.size).size = s.size - (bt s 0 + 1).toNat := by simp
            obtain ⟨l', hE, hL⟩ := ih (s.extract (bt s 0 + 1).toNat s.size) (acc ++ [s.extract 1 (bt s 0 + 1).toNat]) (by omega) (by omega) (by simp; omega)
            rw [hrest] at hE hL
            refine ⟨l', ?_, ?_⟩
            · rw [Option.isSome_map]
              refine Ev.step (fun k => ?_) hE
              simp only [hearsayref01_Split.l0]
              rw [if_pos (by omega), if_pos (by omega), w64 (n := bt s 0) (by omega) (by omega), if_neg hc, if_neg (by omega), w64 (by omega) (by omega), if_neg (by omega), if_pos (by omega), if_pos (by omega), if_pos (by omega), if_pos (by omega)]
            · intro L h
              obtain ⟨L2, h2, rfl⟩ := Option.map_eq_some_iff.1 h
              rw [hL L2 h2, hlab]; simp
theorem split_f (n : ByteArray) : ∃ l', Ev (fun k => hearsayref01_Split.f k n) (l', (dec n).isSome) ∧ ∀ L, dec n = some L → l' = L := by
  unfold dec
  by_cases h : 255 < n.size
  · rw [if_pos h]
    refine ⟨[], Ev.congr (f := fun _ => some ([], false)) (fun k => ?_) (Ev.now _), by intro L hL; cases hL⟩
    unfold hearsayref01_Split.f; rw [if_pos (by omega)]
  · rw [if_neg h]
    obtain ⟨l', hE, hL⟩ := split_l0 n.size n [] (by omega) (by omega) (by simp)
    refine ⟨l', Ev.congr (fun k => ?_) hE, fun L h => by simpa using hL L h⟩
    unfold hearsayref01_Split.f; rw [if_neg (by omega)]
end Go.Proofs.Ytplnknhlgdoliaa.Print
end
section
/- name.Parse's closure 'piece', walked. -/
namespace Go.Proofs.Ytplnknhlgdoliaa.Print
set_option linter.unusedVariables false
set_option linter.unusedSimpArgs false
open Go.RowKit Go.Proofs.YtplnknhlgdoliaaW.PrintWords Go.Proofs.YtplnknhlgdoliaaW.PrintLast Go.Proofs.YtplnknhlgdoliaaW.PrintMore
theorem infoStr : (Try.prog.info? 9).map (fun i => (i.zero, i.size, i.bytes)) = some (some (.string ⟨#[]⟩), 1, 16) := by kernel_rfl
theorem Kd.R_ne' {α : Type} {d : Kd α} {e : Nat} {w : World} {base : Nat} {ok : Nat → Prop} {v : Value} {xs : List α} (h : d.R e w base ok v xs) {b : Nat} (hb : b < base) : some b ≠ v.ownBlock := fun h1 => by have := Kd.R_base h b h1.symm; omega
theorem below_to {A B : Nat} {w w' : World} (h : Below A w w') (hB : B ≤ A) : Below B w w' := ⟨h.os, h.tape, h.output, h.size, fun i hi => h.block i (Nat.lt_of_lt_of_le hi hB)⟩
/-- what the text of a piece means -/
def bytesP (t : ByteArray) : ByteArray × Int := match unesc (bytesOf t) with | some l => (strOfNums l, 0) | none => (⟨#[]⟩, 12)
theorem bytesP_f (t : ByteArray) (h : t.size < 140737488355328) : name_Bytes.f t = some (bytesP t) := by
  unfold name_Bytes.f bytesP
  rw [if_pos h]
  cases unesc (bytesOf t) <;> rfl
theorem unesc_len : ∀ (n : Nat) (l m : List Int), l.length ≤ n → unesc l = some m → m.length ≤ l.length
  | n, [], m, _, h => by simp [unesc] at h; subst h; simp
  | 0, c :: r, m, hn, h => by simp at hn
  | n + 1, c :: r, m, hn, h => by
    have hn' : r.length ≤ n := by simpa using hn
    by_cases hc : c = 92
    · subst hc
      match r, hn' with
      | [], _ => rw [unesc_last] at h; cases h
      | d :: r1, hn' =>
        by_cases hd : isDig d = false
        · rw [unesc_one _ _ hd] at h
          obtain ⟨m1, h1, rfl⟩ := Option.map_eq_some_iff.1 h
          have := unesc_len n r1 m1 (by simp at hn'; omega) h1
          simp; omega
        · have hd' : isDig d = true := by simpa using hd
          match r1, hn' with
          | [], _ => rw [unesc_two _ _ hd' (by simp)] at h; cases h
          | [e], _ => rw [unesc_two _ _ hd' (by simp)] at h; cases h
          | e :: f :: r2, hn' =>
            rw [unesc_three _ _ _ _ hd'] at h
            split at h
            · split at h
              · cases h
              · obtain ⟨m1, h1, rfl⟩ := Option.map_eq_some_iff.1 h
                have := unesc_len n r2 m1 (by simp at hn'; omega) h1
                simp; omega
            · cases h
    · rw [unesc_plain _ _ hc] at h
      obtain ⟨m1, h1, rfl⟩ := Option.map_eq_some_iff.1 h
      have := unesc_len n r m1 hn' h1
      simp; omega
theorem bytesP_size {t s : ByteArray} {er : Int} (h : bytesP t = (s, er)) (ht : t.size ≤ 1099511627776) : s.size ≤ 1099511627776 := by
  unfold bytesP at h
  cases hu : unesc (bytesOf t) with
  | none => rw [hu] at h; cases h; exact Nat.zero_le _
  | some l =>
    rw [hu] at h
    cases h
    rw [strOfNums_size]
    have := unesc_len _ _ _ (Nat.le_refl _) hu
    rw [bytesOf_length] at this
    omega
def pieceP (t : ByteArray) (a b : Nat) : ByteArray × Int := let p := bytesP (t.extract a b); if p.2 = 0 ∧ (p.1.size = 0 ∨ 63 < p.1.size) then (p.1, 10) else p
/-- Parse's boxes: the text, where the piece begins, the labels -/
structure PState (W : World) (tb fb lb base : Nat) (t : ByteArray) (frm : Nat) (L : List ByteArray) : Prop where
  tbox : W.heap[tb]? = some (.cells #[.string t] 9 (0, 0))
  fbox : W.heap[fb]? = some (.cells #[.int .i64 (frm : Int)] 3 (0, 0))
  lbox : ∃ vl, W.heap[lb]? = some (.cells #[vl] 23 (0, 0)) ∧ Kd.R Kd.string 9 W base (fun k_ => base ≤ k_) vl L
  tb_lt : tb < base
  fb_lt : fb < base
  lb_lt : lb < base
  size : base ≤ W.heap.size
theorem PState.below {W W' : World} {tb fb lb base : Nat} {t : ByteArray} {frm : Nat} {L : List ByteArray} (h : PState W tb fb lb base t frm L) (hb : Below W.heap.size W W') : PState W' tb fb lb base t frm L := by
  obtain ⟨vl, h1, h2⟩ := h.lbox
  exact ⟨blk_below h.tbox hb, blk_below h.fbox hb, ⟨vl, blk_below h1 hb, Kd.R_below h2 hb⟩, h.tb_lt, h.fb_lt, h.lb_lt, Nat.le_trans h.size hb.size⟩
theorem PState.after {w0 W : World} {tb fb lb base : Nat} {t : ByteArray} {frm : Nat} {vl v : Value} {L : List ByteArray} {k : Int} {upt : Nat} (hk : k = (upt : Int)) (hT : W.heap[tb]? = some (.cells #[.string t] 9 (0, 0))) (hF : W.heap[fb]? = some (.cells #[.int .i64 (frm : Int)] 3 (0, 0))) (hL : W.heap[lb]? = some (.cells #[vl] 23 (0, 0)))
    (hR : Kd.R Kd.string 9 W base (fun k_ => base ≤ k_) v L) (htb : tb < base) (hfb : fb < base) (hlb : lb < base) (n1 : tb ≠ fb) (n2 : tb ≠ lb) (n3 : fb ≠ lb) (hb : Below base w0 W) (hs : base ≤ w0.heap.size) :
    PState ((W.setCell ⟨lb, 0, none⟩ v).setCell ⟨fb, 0, none⟩ (.int .i64 k)) tb fb lb base t upt L ∧ ∀ B, B ≤ tb → B ≤ fb → B ≤ lb → B ≤ base → Below B w0 ((W.setCell ⟨lb, 0, none⟩ v).setCell ⟨fb, 0, none⟩ (.int .i64 k)) := by
  subst hk
  have hsz : base ≤ W.heap.size := Nat.le_trans hs hb.size
  refine ⟨⟨?_, ?_, ⟨v, ?_, ?_⟩, htb, hfb, hlb, by simpa only [World.size_setCell] using hsz⟩, fun B h1 h2 h3 h4 => ((below_to hb h4).setCell h3 _).setCell h2 _⟩
  · exact blk_far (blk_far hT n2 _) n1 _
  · exact blk_set (blk_far hF n3 _) 0 _
  · exact blk_far (blk_set hL 0 v) (Ne.symm n3) _
  · exact Kd.R_far (Kd.R_far hR (fun k hk => by show k ≠ lb; omega) _) (fun k hk => by show k ≠ fb; omega) _
set_option maxHeartbeats 4000000 in
set_option maxRecDepth 100000 in
theorem piece_calls (t : ByteArray) (frm upt : Nat) (L : List ByteArray) (tb fb lb base : Nat) (w : World) (hS : PState w tb fb lb base t frm L) (hft : frm ≤ upt) (hto : upt ≤ t.size) (hsz : t.size ≤ 1099511627776) (hLl : L.length ≤ 1099511627776) (hne : tb ≠ fb ∧ tb ≠ lb ∧ fb ≠ lb) :
    Calls Try.prog 55 #[.int .i64 (upt : Int), .pointer (some ⟨tb, 0, none⟩), .pointer (some ⟨fb, 0, none⟩), .pointer (some ⟨lb, 0, none⟩)] w fun e w' =>
      e = .returned (.int .i64 (pieceP t frm upt).2) ∧ PState w' tb fb lb base t (upt + 1) (L ++ [(pieceP t frm upt).1]) ∧ ∀ B, B ≤ tb → B ≤ fb → B ≤ lb → B ≤ base → Below B w w' := by
  obtain ⟨hbox, hfbox, ⟨vl, hlbox, hR⟩, htb, hfb, hlb, hbs⟩ := hS
  obtain ⟨n1, n2, n3⟩ := hne
  have hext : (t.extract frm upt).size = upt - frm := by simp; omega
  obtain ⟨u, hu⟩ : ∃ u, t.extract frm upt = u := ⟨_, rfl⟩
  rw [hu] at hext
  obtain ⟨⟨s, er⟩, hp⟩ : ∃ p, bytesP u = p := ⟨_, rfl⟩
  have hbf := bytesP_f u (by omega)
  rw [hp] at hbf
  have hP : pieceP t frm upt = if er = 0 ∧ (s.size = 0 ∨ 63 < s.size) then (s, 10) else (s, er) := by unfold pieceP; rw [hu, hp]
  have hsl : s.size ≤ 1099511627776 := bytesP_size hp (by omega)
  have HBF := Aside0.mk hbf
  have HP := Aside0.mk hP
  have HT := Aside0.mk hbox
  have HF := Aside0.mk hfbox
  have HL := Aside0.mk hlbox
  have HR := Aside0.mk hR
  have ct : w.cell? ⟨tb, 0, none⟩ = some (.string t) := (blk_cell hbox 0).trans rfl
  have cf : w.cell? ⟨fb, 0, none⟩ = some (.int .i64 (frm : Int)) := (blk_cell hfbox 0).trans rfl
  replace htb := Aside0.mk htb
  replace hfb := Aside0.mk hfb
  replace hlb := Aside0.mk hlb
  have hbs0 := Aside0.mk hbs
  replace hbs := Aside0.mk hbs
  clear hbf hP hbox hfbox hlbox hR hp
  have h0 : (0 : Int) ≤ (frm : Int) := by omega
  have h1 : (frm : Int) ≤ (upt : Int) := by omega
  have h2 : (upt : Int) ≤ (t.size : Int) := by omega
  have hu' := Aside0.mk hu
  by_cases hz : er = 0
  · by_cases hs0 : s.size = 0
    · have hsb := empty_true hs0
      have HP2 : Aside0 (pieceP t frm upt = (s, 10)) := ⟨by rw [HP.out, if_pos ⟨hz, Or.inl hs0⟩]⟩
      have hzb : (er == 0) = true := beq_iff_eq.2 hz
      clear hs0 hz
      clear hu
      go_enter Try.func55, Try.ntmps55
      go_wp2_with (first | (go_at_call 23; (rw [hu'.out]; (with_reducible refine (name_Bytes.calls u s er _ HBF.out).mono ?_); rintro e w1 ⟨rfl, hb1⟩; have HT1 := Aside0.mk (blk_below HT.out hb1); have HF1 := Aside0.mk (blk_below HF.out hb1); have HL1 := Aside0.mk (blk_below HL.out hb1); have HR1 := Aside0.mk (Kd.R_below HR.out hb1); have HB1 := Aside0.mk hb1; have hbs := Aside0.mk (Nat.le_trans hbs.out hb1.size); have HBb := Aside0.mk (below_to hb1 hbs0.out); have cl1 : w1.cell? ⟨lb, 0, none⟩ = some vl := (blk_cell HL1.out 0).trans rfl; clear hb1)) | ((with_reducible refine gate_builtin (b := .append) (xs := #[.tmp 27, .tmp 29]) rfl ?_); at_builtin; refine Kd.R_append Kd.string (w0 := w) base rfl (.tmp 27) (.tmp 29) 23 9 (.string ⟨#[]⟩) 16 rfl Try.underlying23 infoStr rfl (by decide) (by omega) _ L s [.string s] (fun k_ => base ≤ k_) (fun _ => False) rfl rfl ?aP (fun _ hk => hk.elim) ?aF ?aO ?aB ?aS ?aL ?_; (case aP => exact rfl); (case aB => exact (by repeat (first | (with_reducible first | exact HBb.out | apply below_alloc | apply pw_below_drewN | apply below_drew1) | exact HBb.out))); (case aF => exact (fun k_ hk_ => Nat.le_trans hbs.out hk_)); (case aO => exact (by (with_reducible repeat (first | apply Kd.R_alloc | apply Kd.R_drewN | apply Kd.R_drew)); exact HR1.out)); (case aS => exact hbs.out); (case aL => exact (by have := hLl; omega)); intro v1_ w1_ ho hb hg hat; obtain ⟨A3, c3, rfl, hle3, hC3⟩ := Kd.R_reads ho; clear hle3 hC3; have hl3 := blk_grown HL1.out hg (Kd.R_ne' HR1.out hlb.out); have ht3 := blk_grown HT1.out hg (Kd.R_ne' HR1.out htb.out); have hf3 := blk_grown HF1.out hg (Kd.R_ne' HR1.out hfb.out); have HL3 := Aside0.mk hl3; have HT3 := Aside0.mk ht3; have HF3 := Aside0.mk hf3; have cl3 : w1_.cell? ⟨lb, 0, none⟩ = some vl := (blk_cell hl3 0).trans rfl; have fl3 := blk_frozen hl3 0; have cf3 : w1_.cell? ⟨fb, 0, none⟩ = some (.int .i64 (frm : Int)) := (blk_cell hf3 0).trans rfl; have ff3 := blk_frozen hf3 0; clear hl3 ht3 hf3; have n0_ := Aside0.mk hb; have n1_ := Aside0.mk ho; clear HBb HR1; have HBb := n0_; have HR1 := n1_; clear n0_ n1_; clear ho hb hg hat))
      go_ret
      rw [HP2.out]
      have hR9 := HR1.out
      rw [show (L ++ [s]).length = L.length + 1 by simp] at hR9
      exact ⟨rfl, PState.after (by first | rfl | omega) HT3.out HF3.out HL3.out hR9 htb.out hfb.out hlb.out n1 n2 n3 HBb.out hbs0.out⟩
    · have hsb := empty_false hs0
      by_cases h63 : 63 < s.size
      · have HP2 : Aside0 (pieceP t frm upt = (s, 10)) := ⟨by rw [HP.out, if_pos ⟨hz, Or.inr h63⟩]⟩
        have hzb : (er == 0) = true := beq_iff_eq.2 hz
        clear hs0 hz
        clear hu
        go_enter Try.func55, Try.ntmps55
        go_wp2_with (first | (go_at_call 23; (rw [hu'.out]; (with_reducible refine (name_Bytes.calls u s er _ HBF.out).mono ?_); rintro e w1 ⟨rfl, hb1⟩; have HT1 := Aside0.mk (blk_below HT.out hb1); have HF1 := Aside0.mk (blk_below HF.out hb1); have HL1 := Aside0.mk (blk_below HL.out hb1); have HR1 := Aside0.mk (Kd.R_below HR.out hb1); have HB1 := Aside0.mk hb1; have hbs := Aside0.mk (Nat.le_trans hbs.out hb1.size); have HBb := Aside0.mk (below_to hb1 hbs0.out); have cl1 : w1.cell? ⟨lb, 0, none⟩ = some vl := (blk_cell HL1.out 0).trans rfl; clear hb1)) | ((with_reducible refine gate_builtin (b := .append) (xs := #[.tmp 27, .tmp 29]) rfl ?_); at_builtin; refine Kd.R_append Kd.string (w0 := w) base rfl (.tmp 27) (.tmp 29) 23 9 (.string ⟨#[]⟩) 16 rfl Try.underlying23 infoStr rfl (by decide) (by omega) _ L s [.string s] (fun k_ => base ≤ k_) (fun _ => False) rfl rfl ?aP (fun _ hk => hk.elim) ?aF ?aO ?aB ?aS ?aL ?_; (case aP => exact rfl); (case aB => exact (by repeat (first | (with_reducible first | exact HBb.out | apply below_alloc | apply pw_below_drewN | apply below_drew1) | exact HBb.out))); (case aF => exact (fun k_ hk_ => Nat.le_trans hbs.out hk_)); (case aO => exact (by (with_reducible repeat (first | apply Kd.R_alloc | apply Kd.R_drewN | apply Kd.R_drew)); exact HR1.out)); (case aS => exact hbs.out); (case aL => exact (by have := hLl; omega)); intro v1_ w1_ ho hb hg hat; obtain ⟨A3, c3, rfl, hle3, hC3⟩ := Kd.R_reads ho; clear hle3 hC3; have hl3 := blk_grown HL1.out hg (Kd.R_ne' HR1.out hlb.out); have ht3 := blk_grown HT1.out hg (Kd.R_ne' HR1.out htb.out); have hf3 := blk_grown HF1.out hg (Kd.R_ne' HR1.out hfb.out); have HL3 := Aside0.mk hl3; have HT3 := Aside0.mk ht3; have HF3 := Aside0.mk hf3; have cl3 : w1_.cell? ⟨lb, 0, none⟩ = some vl := (blk_cell hl3 0).trans rfl; have fl3 := blk_frozen hl3 0; have cf3 : w1_.cell? ⟨fb, 0, none⟩ = some (.int .i64 (frm : Int)) := (blk_cell hf3 0).trans rfl; have ff3 := blk_frozen hf3 0; clear hl3 ht3 hf3; have n0_ := Aside0.mk hb; have n1_ := Aside0.mk ho; clear HBb HR1; have HBb := n0_; have HR1 := n1_; clear n0_ n1_; clear ho hb hg hat))
        go_ret
        rw [HP2.out]
        have hR9 := HR1.out
        rw [show (L ++ [s]).length = L.length + 1 by simp] at hR9
        exact ⟨rfl, PState.after (by first | rfl | omega) HT3.out HF3.out HL3.out hR9 htb.out hfb.out hlb.out n1 n2 n3 HBb.out hbs0.out⟩
      · have HP2 : Aside0 (pieceP t frm upt = (s, er)) := ⟨by rw [HP.out, if_neg (by omega)]⟩
        have hzb : (er == 0) = true := beq_iff_eq.2 hz
        clear hs0 hz
        clear hu
        go_enter Try.func55, Try.ntmps55
        go_wp2_with (first | (go_at_call 23; (rw [hu'.out]; (with_reducible refine (name_Bytes.calls u s er _ HBF.out).mono ?_); rintro e w1 ⟨rfl, hb1⟩; have HT1 := Aside0.mk (blk_below HT.out hb1); have HF1 := Aside0.mk (blk_below HF.out hb1); have HL1 := Aside0.mk (blk_below HL.out hb1); have HR1 := Aside0.mk (Kd.R_below HR.out hb1); have HB1 := Aside0.mk hb1; have hbs := Aside0.mk (Nat.le_trans hbs.out hb1.size); have HBb := Aside0.mk (below_to hb1 hbs0.out); have cl1 : w1.cell? ⟨lb, 0, none⟩ = some vl := (blk_cell HL1.out 0).trans rfl; clear hb1)) | ((with_reducible refine gate_builtin (b := .append) (xs := #[.tmp 27, .tmp 29]) rfl ?_); at_builtin; refine Kd.R_append Kd.string (w0 := w) base rfl (.tmp 27) (.tmp 29) 23 9 (.string ⟨#[]⟩) 16 rfl Try.underlying23 infoStr rfl (by decide) (by omega) _ L s [.string s] (fun k_ => base ≤ k_) (fun _ => False) rfl rfl ?aP (fun _ hk => hk.elim) ?aF ?aO ?aB ?aS ?aL ?_; (case aP => exact rfl); (case aB => exact (by repeat (first | (with_reducible first | exact HBb.out | apply below_alloc | apply pw_below_drewN | apply below_drew1) | exact HBb.out))); (case aF => exact (fun k_ hk_ => Nat.le_trans hbs.out hk_)); (case aO => exact (by (with_reducible repeat (first | apply Kd.R_alloc | apply Kd.R_drewN | apply Kd.R_drew)); exact HR1.out)); (case aS => exact hbs.out); (case aL => exact (by have := hLl; omega)); intro v1_ w1_ ho hb hg hat; obtain ⟨A3, c3, rfl, hle3, hC3⟩ := Kd.R_reads ho; clear hle3 hC3; have hl3 := blk_grown HL1.out hg (Kd.R_ne' HR1.out hlb.out); have ht3 := blk_grown HT1.out hg (Kd.R_ne' HR1.out htb.out); have hf3 := blk_grown HF1.out hg (Kd.R_ne' HR1.out hfb.out); have HL3 := Aside0.mk hl3; have HT3 := Aside0.mk ht3; have HF3 := Aside0.mk hf3; have cl3 : w1_.cell? ⟨lb, 0, none⟩ = some vl := (blk_cell hl3 0).trans rfl; have fl3 := blk_frozen hl3 0; have cf3 : w1_.cell? ⟨fb, 0, none⟩ = some (.int .i64 (frm : Int)) := (blk_cell hf3 0).trans rfl; have ff3 := blk_frozen hf3 0; clear hl3 ht3 hf3; have n0_ := Aside0.mk hb; have n1_ := Aside0.mk ho; clear HBb HR1; have HBb := n0_; have HR1 := n1_; clear n0_ n1_; clear ho hb hg hat))
        go_ret
        rw [HP2.out]
        have hR9 := HR1.out
        rw [show (L ++ [s]).length = L.length + 1 by simp] at hR9
        exact ⟨rfl, PState.after (by first | rfl | omega) HT3.out HF3.out HL3.out hR9 htb.out hfb.out hlb.out n1 n2 n3 HBb.out hbs0.out⟩
  · have HP2 : Aside0 (pieceP t frm upt = (s, er)) := ⟨by rw [HP.out, if_neg (fun h => hz h.1)]⟩
    have hzb : (er == 0) = false := beq_eq_false_iff_ne.2 hz
    clear hz
    clear hu
    go_enter Try.func55, Try.ntmps55
    go_wp2_with (first | (go_at_call 23; (rw [hu'.out]; (with_reducible refine (name_Bytes.calls u s er _ HBF.out).mono ?_); rintro e w1 ⟨rfl, hb1⟩; have HT1 := Aside0.mk (blk_below HT.out hb1); have HF1 := Aside0.mk (blk_below HF.out hb1); have HL1 := Aside0.mk (blk_below HL.out hb1); have HR1 := Aside0.mk (Kd.R_below HR.out hb1); have HB1 := Aside0.mk hb1; have hbs := Aside0.mk (Nat.le_trans hbs.out hb1.size); have HBb := Aside0.mk (below_to hb1 hbs0.out); have cl1 : w1.cell? ⟨lb, 0, none⟩ = some vl := (blk_cell HL1.out 0).trans rfl; clear hb1)) | ((with_reducible refine gate_builtin (b := .append) (xs := #[.tmp 27, .tmp 29]) rfl ?_); at_builtin; refine Kd.R_append Kd.string (w0 := w) base rfl (.tmp 27) (.tmp 29) 23 9 (.string ⟨#[]⟩) 16 rfl Try.underlying23 infoStr rfl (by decide) (by omega) _ L s [.string s] (fun k_ => base ≤ k_) (fun _ => False) rfl rfl ?aP (fun _ hk => hk.elim) ?aF ?aO ?aB ?aS ?aL ?_; (case aP => exact rfl); (case aB => exact (by repeat (first | (with_reducible first | exact HBb.out | apply below_alloc | apply pw_below_drewN | apply below_drew1) | exact HBb.out))); (case aF => exact (fun k_ hk_ => Nat.le_trans hbs.out hk_)); (case aO => exact (by (with_reducible repeat (first | apply Kd.R_alloc | apply Kd.R_drewN | apply Kd.R_drew)); exact HR1.out)); (case aS => exact hbs.out); (case aL => exact (by have := hLl; omega)); intro v1_ w1_ ho hb hg hat; obtain ⟨A3, c3, rfl, hle3, hC3⟩ := Kd.R_reads ho; clear hle3 hC3; have hl3 := blk_grown HL1.out hg (Kd.R_ne' HR1.out hlb.out); have ht3 := blk_grown HT1.out hg (Kd.R_ne' HR1.out htb.out); have hf3 := blk_grown HF1.out hg (Kd.R_ne' HR1.out hfb.out); have HL3 := Aside0.mk hl3; have HT3 := Aside0.mk ht3; have HF3 := Aside0.mk hf3; have cl3 : w1_.cell? ⟨lb, 0, none⟩ = some vl := (blk_cell hl3 0).trans rfl; have fl3 := blk_frozen hl3 0; have cf3 : w1_.cell? ⟨fb, 0, none⟩ = some (.int .i64 (frm : Int)) := (blk_cell hf3 0).trans rfl; have ff3 := blk_frozen hf3 0; clear hl3 ht3 hf3; have n0_ := Aside0.mk hb; have n1_ := Aside0.mk ho; clear HBb HR1; have HBb := n0_; have HR1 := n1_; clear n0_ n1_; clear ho hb hg hat))
    go_ret
    rw [HP2.out]
    have hR9 := HR1.out
    rw [show (L ++ [s]).length = L.length + 1 by simp] at hR9
    exact ⟨rfl, PState.after (by first | rfl | omega) HT3.out HF3.out HL3.out hR9 htb.out hfb.out hlb.out n1 n2 n3 HBb.out hbs0.out⟩
end Go.Proofs.Ytplnknhlgdoliaa.Print
end
section
/- name.Parse, walked: a text's name. -/
namespace Go.Proofs.Ytplnknhlgdoliaa.Print
set_option linter.unusedVariables false
set_option linter.unusedSimpArgs false
open Go.RowKit Go.Proofs.YtplnknhlgdoliaaW.PrintWords Go.Proofs.YtplnknhlgdoliaaW.PrintLast Go.Proofs.YtplnknhlgdoliaaW.PrintMore
/-- the pieces of a text that end with a dot, from byte i on: an error, where the last piece begins, the labels -/
def scanL (t : ByteArray) : List Int → Nat → Nat → List ByteArray → Int × Nat × List ByteArray
  | [], _, frm, L => (0, frm, L)
  | c :: r, i, frm, L => if c = 92 then (match r with | [] => (0, frm, L) | _ :: r2 => scanL t r2 (i + 2) frm L)
    else if c = 46 then (if (pieceP t frm i).2 = 0 then scanL t r (i + 1) (i + 1) (L ++ [(pieceP t frm i).1]) else ((pieceP t frm i).2, frm, L))
    else scanL t r (i + 1) frm L
def scan (t : ByteArray) (i frm : Nat) (L : List ByteArray) : Int × Nat × List ByteArray := scanL t ((bytesOf t).drop i) i frm L
theorem scan_end (t : ByteArray) (i frm : Nat) (L : List ByteArray) (h : ¬ i < t.size) : scan t i frm L = (0, frm, L) := by
  unfold scan; rw [bo_end t i (by omega)]; rfl
theorem scan_esc (t : ByteArray) (i frm : Nat) (L : List ByteArray) (h : i < t.size) (hc : bt t (i : Int) = 92) : scan t i frm L = scan t (i + 2) frm L := by
  unfold scan
  rw [bo_drop t i h, hc]
  by_cases h2 : i + 1 < t.size
  · rw [bo_drop t (i + 1) h2]; simp [scanL]
  · rw [bo_end t (i + 1) (by omega), bo_end t (i + 2) (by omega)]; simp [scanL]
theorem scan_dot (t : ByteArray) (i frm : Nat) (L : List ByteArray) (h : i < t.size) (hc : bt t (i : Int) = 46) : scan t i frm L = if (pieceP t frm i).2 = 0 then scan t (i + 1) (i + 1) (L ++ [(pieceP t frm i).1]) else ((pieceP t frm i).2, frm, L) := by
  unfold scan
  rw [bo_drop t i h, hc, scanL.eq_def]
  simp
theorem scan_plain (t : ByteArray) (i frm : Nat) (L : List ByteArray) (h : i < t.size) (hc : bt t (i : Int) ≠ 92) (hd : bt t (i : Int) ≠ 46) : scan t i frm L = scan t (i + 1) frm L := by
  unfold scan
  rw [bo_drop t i h, scanL.eq_def]; simp only []; rw [if_neg hc, if_neg hd]
def parseP (t o : ByteArray) : ByteArray × Int :=
  match dec o with
  | none => (⟨#[]⟩, 11)
  | some B => if t.toList = [46] then (⟨#[0]⟩, 0) else
    let s := scan t 0 0 []
    if s.1 ≠ 0 then (⟨#[]⟩, s.1) else
    if s.2.1 < t.size ∨ s.2.1 = 0 then
      let p := pieceP t s.2.1 t.size
      if p.2 ≠ 0 then (⟨#[]⟩, p.2) else (name_Of.f (s.2.2 ++ [p.1] ++ B)).getD (⟨#[]⟩, 0)
    else (name_Of.f s.2.2).getD (⟨#[]⟩, 0)
theorem name_Of.some_ (l : List ByteArray) : name_Of.f l = some ((name_Of.f l).getD (⟨#[]⟩, 0)) := by
  unfold name_Of.f
  split
  · rfl
  · split <;> rfl
def name_Parse.f (t o : ByteArray) : Option (ByteArray × Int) := if t.size ≤ 1099511627775 then some (parseP t o) else none
def ParseInv (t : ByteArray) (k frm : Nat) (L : List ByteArray) : Prop := frm ≤ k ∧ frm ≤ t.size ∧ k ≤ t.size + 1 ∧ L.length ≤ frm ∧ scan t k frm L = scan t 0 0 []
theorem parse0 (t : ByteArray) : ParseInv t 0 0 [] := ⟨Nat.le_refl _, Nat.zero_le _, by omega, Nat.le_refl _, rfl⟩
theorem parse_esc {t : ByteArray} {k frm : Nat} {L : List ByteArray} (h : ParseInv t k frm L) (hk : k < t.size) (hc : bt t (k : Int) = 92) : ParseInv t (k + 2) frm L := by
  obtain ⟨h1, h2, h3, h4, h5⟩ := h
  exact ⟨by omega, h2, by omega, h4, by rw [← h5, scan_esc t k frm L hk hc]⟩
theorem parse_dot {t : ByteArray} {k frm : Nat} {L : List ByteArray} {s : ByteArray} (h : ParseInv t k frm L) (hk : k < t.size) (hc : bt t (k : Int) = 46) (hp : pieceP t frm k = (s, 0)) : ParseInv t (k + 1) (k + 1) (L ++ [s]) := by
  obtain ⟨h1, h2, h3, h4, h5⟩ := h
  exact ⟨by omega, by omega, by omega, by rw [List.length_append, List.length_singleton]; omega, by rw [← h5, scan_dot t k frm L hk hc, hp, if_pos rfl]⟩
theorem parse_plain {t : ByteArray} {k frm : Nat} {L : List ByteArray} (h : ParseInv t k frm L) (hk : k < t.size) (hc : bt t (k : Int) ≠ 92) (hd : bt t (k : Int) ≠ 46) : ParseInv t (k + 1) frm L := by
  obtain ⟨h1, h2, h3, h4, h5⟩ := h
  exact ⟨by omega, h2, by omega, h4, by rw [← h5, scan_plain t k frm L hk hc hd]⟩
theorem parse_of {o t : ByteArray} {B : List ByteArray} (ho : dec o = some B) (ht : (t.toList == [46]) = false) : parseP t o = if (scan t 0 0 []).1 ≠ 0 then (⟨#[]⟩, (scan t 0 0 []).1) else
    if (scan t 0 0 []).2.1 < t.size ∨ (scan t 0 0 []).2.1 = 0 then
      if (pieceP t (scan t 0 0 []).2.1 t.size).2 ≠ 0 then (⟨#[]⟩, (pieceP t (scan t 0 0 []).2.1 t.size).2) else (name_Of.f ((scan t 0 0 []).2.2 ++ [(pieceP t (scan t 0 0 []).2.1 t.size).1] ++ B)).getD (⟨#[]⟩, 0)
    else (name_Of.f (scan t 0 0 []).2.2).getD (⟨#[]⟩, 0) := by
  unfold parseP
  rw [ho]
  simp only []
  rw [if_neg (by simpa using ht)]
set_option maxHeartbeats 4000000 in
set_option maxRecDepth 100000 in
theorem name_Parse.calls (t o : ByteArray) (r1 : ByteArray) (r2 : Int) (w : World) (h : name_Parse.f t o = some (r1, r2)) :
    Calls Try.prog 27 #[.string t, .string o] w fun e w' => e = .returned (.tuple #[.string r1, .int .i64 r2]) ∧ Below w.heap.size w w' := by
  unfold name_Parse.f at h
  by_cases hsz : t.size ≤ 1099511627775
  case neg => rw [if_neg hsz] at h; cases h
  rw [if_pos hsz] at h
  simp only [Option.some.injEq] at h
  obtain ⟨kc, hkc⟩ := (check_f o).rounds
  have HB0 := Aside0.mk (below_alloc (Below.refl w.heap.size w) (.cells #[.string t] 9 (0, 0)))
  have HT0 := Aside0.mk (blk_new w (.cells #[.string t] 9 (0, 0)))
  cases hd : dec o with
  | none =>
    rw [hd] at hkc
    have h2 : parseP t o = (⟨#[]⟩, 11) := by unfold parseP; rw [hd]
    rw [h2] at h
    cases h
    have hkc' : name_Check.f kc o = some 11 := hkc
    have HKC := Aside0.mk hkc'
    clear hkc hkc' hd h2
    go_enter Try.func27, Try.ntmps27
    go_wp2_with (first | (go_at_call 14; (with_reducible refine (name_Check.calls kc o 11 _ HKC.out).mono ?_); rintro e w1 ⟨rfl, hb1⟩; have HB1 := Aside0.mk (below_then HB0.out (by simp) hb1); clear hb1))
    go_ret2
    exact ⟨rfl, HB1.out⟩
  | some B =>
    rw [hd] at hkc
    have hkc' : name_Check.f kc o = some 0 := hkc
    have HKC := Aside0.mk hkc'
    clear hkc hkc'
    by_cases ht : (t.toList == [46]) = true
    · have h2 : parseP t o = (⟨#[0]⟩, 0) := by unfold parseP; rw [hd]; simp only []; rw [if_pos (by simpa using ht)]
      rw [h2] at h
      cases h
      clear h2 hd
      go_enter Try.func27, Try.ntmps27
      go_wp2_with (first | (go_at_call 14; (with_reducible refine (name_Check.calls kc o 0 _ HKC.out).mono ?_); rintro e w1 ⟨rfl, hb1⟩; have HB1 := Aside0.mk (below_then HB0.out (by simp) hb1); have ct1 : w1.cell? ⟨w.heap.size, 0, none⟩ = some (.string t) := (blk_cell (blk_below HT0.out hb1) 0).trans rfl; clear hb1))
      go_ret2
      exact ⟨rfl, HB1.out⟩
    · replace ht : (t.toList == [46]) = false := by simpa using ht
      rw [parse_of hd ht] at h
      obtain ⟨kl, hkl⟩ := (labels_f o).rounds
      rw [hd, Option.getD_some] at hkl
      have hlB : B.length ≤ 127 := labels_length hd
      have HKL := Aside0.mk hkl
      have HH := Aside0.mk h
      clear h hd hkl
      have hmf : ∀ (fn : Fn) (first cap : Array Value) (w : World), (Instr.makeFunc fn first cap).run Try.prog w = .ok (.func fn first cap) w := fun _ _ _ _ => rfl
      go_enter Try.func27, Try.ntmps27
      go_wp2_with (first | (go_at_call 14; (with_reducible refine (name_Check.calls kc o 0 _ HKC.out).mono ?_); rintro e w1 ⟨rfl, hb1⟩; have HB1 := Aside0.mk (below_then HB0.out (by simp) hb1); have HT1 := Aside0.mk (blk_below HT0.out hb1); have ct1 : w1.cell? ⟨w.heap.size, 0, none⟩ = some (.string t) := (blk_cell HT1.out 0).trans rfl; clear hb1))
      obtain ⟨tx, htx⟩ : ∃ x, x = w1.heap.size := ⟨_, rfl⟩
      have hw0 : w.heap.size + 1 ≤ w1.heap.size := by have := HB1.out.size; have := blk_lt HT1.out; omega
      have hw1 : w.heap.size ≤ w1.heap.size := by omega
      have hw1' : w.heap.size ≤ w1.heap.size + 1 := by omega
      have hw2 : w.heap.size ≤ w1.heap.size + 2 := by omega
      have hne : w.heap.size ≠ w1.heap.size + 1 ∧ w.heap.size ≠ w1.heap.size ∧ w1.heap.size + 1 ≠ w1.heap.size := by omega
      have hsz' : t.size ≤ 1099511627776 := by omega
      go_loopw [9] (fun i wr => ∃ (k frm : Nat) (L : List ByteArray), i = .int .i64 k ∧ Aside0 (ParseInv t k frm L) ∧ Aside0 (PState wr w.heap.size (w1.heap.size + 1) w1.heap.size (w1.heap.size + 2) t frm L) ∧ Aside0 (Below w.heap.size w wr)) (fun i _ => t.size - (intOf i).toNat)
      case atStart =>
        refine ⟨0, 0, [], rfl, ⟨parse0 t⟩, ⟨⟨?_, ?_, ⟨_, ?_, Kd.R_nil _ _ _ _ _⟩, by omega, by omega, by omega, by simp only [World.size_alloc]; omega⟩⟩, ⟨below_alloc (below_alloc HB1.out _) _⟩⟩
        · exact blk_alloc (blk_alloc HT1.out _) _
        · have := blk_new (w1.alloc (.cells #[.slice none 0 0] 23 (0, 0))) (.cells #[.int .i64 0] 3 (0, 0)); rw [World.size_alloc] at this; exact this
        · exact blk_alloc (blk_new w1 _) _
      case round =>
        clear HB0 HT0 HB1 HT1 ct1
        obtain ⟨k, frm, L, rfl, HI, HS, HB⟩ := hrel
        have ct : wr.cell? ⟨w.heap.size, 0, none⟩ = some (.string t) := (blk_cell HS.out.tbox 0).trans rfl
        have cf : wr.cell? ⟨w1.heap.size + 1, 0, none⟩ = some (.int .i64 (frm : Int)) := (blk_cell HS.out.fbox 0).trans rfl
        have hLl : L.length ≤ 1099511627776 := by have := HI.out; unfold ParseInv at this; omega
        have hk1 : k ≤ t.size + 1 := HI.out.2.2.1
        by_cases hk : k < t.size
        · have hx0 := bt_nat t k hk
          obtain ⟨c, hc⟩ : ∃ c, bt t (k : Int) = c := ⟨_, rfl⟩
          rw [hc] at hx0
          by_cases h92 : c = 92
          · subst h92
            have HI' := Aside0.mk (parse_esc HI.out hk hc)
            clear hc
            go_wp2
            go_roundw
            case rel => exact ⟨k + 2, frm, L, by go_num, HI', HS, HB⟩
            case measure => simp [intOf]; omega
          · by_cases h46 : c = 46
            · subst h46
              have hfk : frm ≤ k := HI.out.1
              have hks : k ≤ t.size := by omega
              obtain ⟨⟨s, er⟩, hpc⟩ : ∃ p, pieceP t frm k = p := ⟨_, rfl⟩
              by_cases hz : er = 0
              · subst hz
                have HI' := Aside0.mk (parse_dot HI.out hk hc hpc)
                clear hc
                go_wp2_with (first | (go_at_call 55; (with_reducible refine (piece_calls t frm k L w.heap.size (w1.heap.size + 1) w1.heap.size (w1.heap.size + 2) _ HS.out hfk hks hsz' hLl hne).mono ?_); rw [hpc]; rintro e w2 ⟨rfl, hs2, hb2⟩; have HS2 := Aside0.mk hs2; have HB2 := Aside0.mk (HB.out.trans (hb2 _ (Nat.le_refl _) hw1' hw1 hw2)); clear hs2 hb2))
                go_roundw
                case rel => exact ⟨k + 1, k + 1, _, by go_num, HI', HS2, HB2⟩
                case measure => simp [intOf]; omega
              · have hh := HH.out
                rw [← HI.out.2.2.2.2, scan_dot t k frm L hk hc, hpc, if_neg hz] at hh
                rw [if_pos hz] at hh
                cases hh
                have hzb : (er != 0) = true := bne_iff_ne.2 hz
                clear hc hz
                go_wp2_with (first | (go_at_call 55; (with_reducible refine (piece_calls t frm k L w.heap.size (w1.heap.size + 1) w1.heap.size (w1.heap.size + 2) _ HS.out hfk hks hsz' hLl hne).mono ?_); rw [hpc]; rintro e w2 ⟨rfl, hs2, hb2⟩; have HS2 := Aside0.mk hs2; have HB2 := Aside0.mk (HB.out.trans (hb2 _ (Nat.le_refl _) hw1' hw1 hw2)); clear hs2 hb2))
                go_ret2
                exact ⟨rfl, HB2.out⟩
            · have HI' := Aside0.mk (parse_plain HI.out hk (by rw [hc]; exact h92) (by rw [hc]; exact h46))
              have hb92 : (c == 92) = false := beq_eq_false_iff_ne.2 h92
              have hb46 : (c == 46) = false := beq_eq_false_iff_ne.2 h46
              clear hc h92 h46
              go_wp2
              go_roundw
              case rel => exact ⟨k + 1, frm, L, by go_num, HI', HS, HB⟩
              case measure => simp [intOf]; omega
        · have hh := HH.out
          rw [← HI.out.2.2.2.2, scan_end t k frm L hk, if_neg (by simp)] at hh
          simp only [] at hh
          by_cases hf : frm < t.size
          · have hfd : decide (frm < t.size) = true := decide_eq_true hf
            rw [if_pos (Or.inl hf)] at hh
            clear hf
            obtain ⟨⟨s, er⟩, hpc⟩ : ∃ p, pieceP t frm t.size = p := ⟨_, rfl⟩
            rw [hpc] at hh
            have hfk : frm ≤ t.size := HI.out.2.1
            have hks : t.size ≤ t.size := Nat.le_refl _
            by_cases hz : er = 0
            · subst hz
              have hh' : name_Of.f (L ++ [s] ++ B) = some (r1, r2) := by rw [name_Of.some_, ← hh]; simp
              have HH' := Aside0.mk hh'
              clear hh hh'
              go_wp2_with (first | (go_at_call 55; (with_reducible refine (piece_calls t frm t.size L w.heap.size (w1.heap.size + 1) w1.heap.size (w1.heap.size + 2) _ HS.out hfk hks hsz' hLl hne).mono ?_); rw [hpc]; rintro e w2 ⟨rfl, hs2, hb2⟩; have HS2 := Aside0.mk hs2; have HB2 := Aside0.mk (HB.out.trans (hb2 _ (Nat.le_refl _) hw1' hw1 hw2)); clear hs2 hb2))
              obtain ⟨vl, hlb2, hRl⟩ := HS2.out.lbox
              have HBd := Aside0.mk (below_drew HB2.out)
              have HSd := Aside0.mk (HS2.out.below (below_drew (Below.refl _ _)))
              have HLd := Aside0.mk (blk_drew hlb2)
              have HRd := Aside0.mk (Kd.R_drew hRl)
              have hcd : w2.drew.cell? ⟨w1.heap.size, 0, none⟩ = some vl := (blk_cell HLd.out 0).trans rfl
              clear hlb2 hRl
              refine start_ (n := 5) (S := (fun w' => w'.cell? ⟨w1.heap.size, 0, none⟩ = some vl)) (ds := [4]) #[false, false, false, false, false] (by kernel_rfl) rfl rfl hcd (fun hHeld => ?_)
              generalize w2.drew = wd at HBd HSd HLd HRd hcd hHeld ⊢
              refine take_ (i := 0) (N := some 54) (v := ?_) (a' := ?_) #[true, false, false, false, false] rfl rfl (by kernel_rfl) (fun _ _ _ h => h) (Or.inl ⟨by rfl, ?_⟩) hHeld ?_ ?_
              rotate_left
              · rintro w' hs0
                go_simp
                with_reducible rfl
              rotate_left
              · simp only [Act.put, List.setIfInBounds_toArray, List.set_cons_zero, List.set_cons_succ, i64_w, i32_w]
                rfl
              refine pure_ (i := 1) (N := some 55) (v := ?_) (a' := ?_) #[true, true, false, false, false] rfl rfl (by kernel_rfl) (fun _ _ _ h => h) (Or.inl ⟨by rfl, ?_⟩) ?_ ?_
              rotate_left
              · intro w'
                go_simp
                with_reducible rfl
              rotate_left
              · simp only [Act.put, List.setIfInBounds_toArray, List.set_cons_zero, List.set_cons_succ, i64_w, i32_w]
                rfl
              refine one_ (i := 2) (N := some 56) #[true, true, true, false, false] rfl rfl (by kernel_rfl) (by decide) (fun K hK => ?_)
              refine goes_ Try.func17 (by kernel_rfl) rfl #[.string o] (by rfl) rfl rfl (by (try simp only [List.map_toArray, List.map_cons, List.map_nil]); first | done | rfl) ?_
              (with_reducible refine (name_Labels.calls kl o B _ HKL.out).mono ?_)
              rintro e w4 ⟨v2, rfl, hR2, hb2⟩
              obtain ⟨A2, c2, rfl, hle2, hC2⟩ := Kd.R_reads hR2
              have HS4 := Aside0.mk (HSd.out.below hb2)
              have HL4 := Aside0.mk (blk_below HLd.out hb2)
              have HB4 := Aside0.mk (HBd.out.trans (below_to hb2 HBd.out.size))
              have HC4 := Aside0.mk hC2
              have hc4 : w4.cell? ⟨w1.heap.size, 0, none⟩ = some vl := pw_cell_below hb2 hHeld
              have HR4 := Aside0.mk (Kd.R_below HRd.out hb2)
              clear hR2 hb2 hle2 hC2
              refine ⟨_, rfl, ?_⟩
              refine hK.out _ _ hc4 (fun hHeld => ?_)
              clear hK K
              refine norm_ (a' := ?_) ?_ ?_
              rotate_left
              · show Act.put _ (some 56) _ = _
                simp only [Act.put, List.setIfInBounds_toArray, List.set_cons_zero, List.set_cons_succ, i64_w, i32_w]
                rfl
              refine one_ (i := 3) (N := some 57) #[true, true, true, true, false] rfl rfl (by kernel_rfl) (by decide) (fun K hK => ?_)
              refine Kd.R_append_rows_step Kd.string (w0 := w4) (w1.heap.size + 2) (by rfl) (.tmp 54) (.tmp 56) 23 9 (.string ⟨#[]⟩) 16 rfl Try.underlying23 infoStr rfl (by decide) (by omega) _ (L ++ [s]) B A2 B.length c2 (fun k_ => w1.heap.size + 2 ≤ k_) (fun _ => False) rfl rfl HR4.out HC4.out ?aK (fun _ hk => hk.elim) (fun k_ hk_ => Nat.le_trans HS4.out.size hk_) (Below.refl _ _) HS4.out.size (by rw [List.length_append, List.length_singleton]; omega) ?_
              (case aK => exact fun _ _ hk => hk)
              intro v1_ w5 ho hb hg hat
              generalize L ++ [s] ++ B = L6 at ho HH'
              obtain ⟨A3, c3, rfl, hle3, hC3⟩ := Kd.R_reads ho
              have hl5 := (hb.block w1.heap.size (by omega)).trans HL4.out
              have hc5 : w5.cell? ⟨w1.heap.size, 0, none⟩ = some vl := (blk_cell hl5 0).trans rfl
              have hf5 : w5.frozen? ⟨w1.heap.size, 0, none⟩ = false := blk_frozen hl5 0
              have HR5 := Aside0.mk (Kd.R_far ho (p := ⟨w1.heap.size, 0, none⟩) (fun k_ hk_ => by show k_ ≠ w1.heap.size; omega) (.slice A3 L6.length c3))
              have HB5 := Aside0.mk ((HB4.out.trans (below_to hb (by omega))).setCell (p := ⟨w1.heap.size, 0, none⟩) hw1 (.slice A3 L6.length c3))
              have HL5 := Aside0.mk (blk_set hl5 0 (.slice A3 L6.length c3))
              clear ho hb hg hat hle3 hC3 hl5
              refine hK.out _ _ hc5 (fun hHeld => ?_)
              clear hK K
              refine norm_ (a' := ?_) ?_ ?_
              rotate_left
              · show Act.put _ (some 57) _ = _
                simp only [Act.put, List.setIfInBounds_toArray, List.set_cons_zero, List.set_cons_succ, i64_w, i32_w]
                rfl
              refine last_ (i := 4) (N := none) #[true, true, true, true, true] rfl rfl (by kernel_rfl) (by decide) (fun K hK => ?_)
              refine skip_ (w1 := w5.setCell ⟨w1.heap.size, 0, none⟩ (.slice A3 L6.length c3)) (by rfl) rfl ?_ ?_
              · go_simp
                try with_reducible rfl
              refine hK.out _ _ ?_
              clear hK K
              refine done_ (by kernel_rfl) ?_
              have hc6 : (w5.setCell ⟨w1.heap.size, 0, none⟩ (.slice A3 L6.length c3)).cell? ⟨w1.heap.size, 0, none⟩ = some (.slice A3 L6.length c3) := (blk_cell HL5.out 0).trans rfl
              generalize w5.setCell ⟨w1.heap.size, 0, none⟩ (.slice A3 L6.length c3) = w6 at HR5 HB5 HL5 hc6 ⊢
              obtain ⟨_, hle6, hC6⟩ := Kd.R_reads' HR5.out
              have HC6 := Aside0.mk hC6
              clear hC6
              go_wp2_with (first | (go_at_call 21; (with_reducible refine (name_Of.calls A3 c3 L6 r1 r2 _ HC6.out hle6 HH'.out).mono ?_); rintro e w7 ⟨rfl, hb7⟩; have HB7 := Aside0.mk (HB5.out.trans (below_to hb7 HB5.out.size)); clear hb7))
              go_ret2
              exact ⟨rfl, HB7.out⟩
            · have hzb : (er != 0) = true := bne_iff_ne.2 hz
              rw [if_pos hz] at hh
              cases hh
              clear hz
              go_wp2_with (first | (go_at_call 55; (with_reducible refine (piece_calls t frm t.size L w.heap.size (w1.heap.size + 1) w1.heap.size (w1.heap.size + 2) _ HS.out hfk hks hsz' hLl hne).mono ?_); rw [hpc]; rintro e w2 ⟨rfl, hs2, hb2⟩; have HS2 := Aside0.mk hs2; have HB2 := Aside0.mk (HB.out.trans (hb2 _ (Nat.le_refl _) hw1' hw1 hw2)); clear hs2 hb2))
              go_ret2
              exact ⟨rfl, HB2.out⟩
          · have hfd : decide (frm < t.size) = false := decide_eq_false hf
            by_cases hf0 : frm = 0
            · rw [if_pos (Or.inr hf0)] at hh
              have hf0b : ((frm : Int) == 0) = true := beq_iff_eq.2 (by omega)
              clear hf hf0
              obtain ⟨⟨s, er⟩, hpc⟩ : ∃ p, pieceP t frm t.size = p := ⟨_, rfl⟩
              rw [hpc] at hh
              have hfk : frm ≤ t.size := HI.out.2.1
              have hks : t.size ≤ t.size := Nat.le_refl _
              by_cases hz : er = 0
              · subst hz
                have hh' : name_Of.f (L ++ [s] ++ B) = some (r1, r2) := by rw [name_Of.some_, ← hh]; simp
                have HH' := Aside0.mk hh'
                clear hh hh'
                go_wp2_with (first | (go_at_call 55; (with_reducible refine (piece_calls t frm t.size L w.heap.size (w1.heap.size + 1) w1.heap.size (w1.heap.size + 2) _ HS.out hfk hks hsz' hLl hne).mono ?_); rw [hpc]; rintro e w2 ⟨rfl, hs2, hb2⟩; have HS2 := Aside0.mk hs2; have HB2 := Aside0.mk (HB.out.trans (hb2 _ (Nat.le_refl _) hw1' hw1 hw2)); clear hs2 hb2))
                obtain ⟨vl, hlb2, hRl⟩ := HS2.out.lbox
                have HBd := Aside0.mk (below_drew HB2.out)
                have HSd := Aside0.mk (HS2.out.below (below_drew (Below.refl _ _)))
                have HLd := Aside0.mk (blk_drew hlb2)
                have HRd := Aside0.mk (Kd.R_drew hRl)
                have hcd : w2.drew.cell? ⟨w1.heap.size, 0, none⟩ = some vl := (blk_cell HLd.out 0).trans rfl
                clear hlb2 hRl
                refine start_ (n := 5) (S := (fun w' => w'.cell? ⟨w1.heap.size, 0, none⟩ = some vl)) (ds := [4]) #[false, false, false, false, false] (by kernel_rfl) rfl rfl hcd (fun hHeld => ?_)
                generalize w2.drew = wd at HBd HSd HLd HRd hcd hHeld ⊢
                refine take_ (i := 0) (N := some 54) (v := ?_) (a' := ?_) #[true, false, false, false, false] rfl rfl (by kernel_rfl) (fun _ _ _ h => h) (Or.inl ⟨by rfl, ?_⟩) hHeld ?_ ?_
                rotate_left
                · rintro w' hs0
                  go_simp
                  with_reducible rfl
                rotate_left
                · simp only [Act.put, List.setIfInBounds_toArray, List.set_cons_zero, List.set_cons_succ, i64_w, i32_w]
                  rfl
                refine pure_ (i := 1) (N := some 55) (v := ?_) (a' := ?_) #[true, true, false, false, false] rfl rfl (by kernel_rfl) (fun _ _ _ h => h) (Or.inl ⟨by rfl, ?_⟩) ?_ ?_
                rotate_left
                · intro w'
                  go_simp
                  with_reducible rfl
                rotate_left
                · simp only [Act.put, List.setIfInBounds_toArray, List.set_cons_zero, List.set_cons_succ, i64_w, i32_w]
                  rfl
                refine one_ (i := 2) (N := some 56) #[true, true, true, false, false] rfl rfl (by kernel_rfl) (by decide) (fun K hK => ?_)
                refine goes_ Try.func17 (by kernel_rfl) rfl #[.string o] (by rfl) rfl rfl (by (try simp only [List.map_toArray, List.map_cons, List.map_nil]); first | done | rfl) ?_
                (with_reducible refine (name_Labels.calls kl o B _ HKL.out).mono ?_)
                rintro e w4 ⟨v2, rfl, hR2, hb2⟩
                obtain ⟨A2, c2, rfl, hle2, hC2⟩ := Kd.R_reads hR2
                have HS4 := Aside0.mk (HSd.out.below hb2)
                have HL4 := Aside0.mk (blk_below HLd.out hb2)
                have HB4 := Aside0.mk (HBd.out.trans (below_to hb2 HBd.out.size))
                have HC4 := Aside0.mk hC2
                have hc4 : w4.cell? ⟨w1.heap.size, 0, none⟩ = some vl := pw_cell_below hb2 hHeld
                have HR4 := Aside0.mk (Kd.R_below HRd.out hb2)
                clear hR2 hb2 hle2 hC2
                refine ⟨_, rfl, ?_⟩
                refine hK.out _ _ hc4 (fun hHeld => ?_)
                clear hK K
                refine norm_ (a' := ?_) ?_ ?_
                rotate_left
                · show Act.put _ (some 56) _ = _
                  simp only [Act.put, List.setIfInBounds_toArray, List.set_cons_zero, List.set_cons_succ, i64_w, i32_w]
                  rfl
                refine one_ (i := 3) (N := some 57) #[true, true, true, true, false] rfl rfl (by kernel_rfl) (by decide) (fun K hK => ?_)
                refine Kd.R_append_rows_step Kd.string (w0 := w4) (w1.heap.size + 2) (by rfl) (.tmp 54) (.tmp 56) 23 9 (.string ⟨#[]⟩) 16 rfl Try.underlying23 infoStr rfl (by decide) (by omega) _ (L ++ [s]) B A2 B.length c2 (fun k_ => w1.heap.size + 2 ≤ k_) (fun _ => False) rfl rfl HR4.out HC4.out ?aK (fun _ hk => hk.elim) (fun k_ hk_ => Nat.le_trans HS4.out.size hk_) (Below.refl _ _) HS4.out.size (by rw [List.length_append, List.length_singleton]; omega) ?_
                (case aK => exact fun _ _ hk => hk)
                intro v1_ w5 ho hb hg hat
                generalize L ++ [s] ++ B = L6 at ho HH'
                obtain ⟨A3, c3, rfl, hle3, hC3⟩ := Kd.R_reads ho
                have hl5 := (hb.block w1.heap.size (by omega)).trans HL4.out
                have hc5 : w5.cell? ⟨w1.heap.size, 0, none⟩ = some vl := (blk_cell hl5 0).trans rfl
                have hf5 : w5.frozen? ⟨w1.heap.size, 0, none⟩ = false := blk_frozen hl5 0
                have HR5 := Aside0.mk (Kd.R_far ho (p := ⟨w1.heap.size, 0, none⟩) (fun k_ hk_ => by show k_ ≠ w1.heap.size; omega) (.slice A3 L6.length c3))
                have HB5 := Aside0.mk ((HB4.out.trans (below_to hb (by omega))).setCell (p := ⟨w1.heap.size, 0, none⟩) hw1 (.slice A3 L6.length c3))
                have HL5 := Aside0.mk (blk_set hl5 0 (.slice A3 L6.length c3))
                clear ho hb hg hat hle3 hC3 hl5
                refine hK.out _ _ hc5 (fun hHeld => ?_)
                clear hK K
                refine norm_ (a' := ?_) ?_ ?_
                rotate_left
                · show Act.put _ (some 57) _ = _
                  simp only [Act.put, List.setIfInBounds_toArray, List.set_cons_zero, List.set_cons_succ, i64_w, i32_w]
                  rfl
                refine last_ (i := 4) (N := none) #[true, true, true, true, true] rfl rfl (by kernel_rfl) (by decide) (fun K hK => ?_)
                refine skip_ (w1 := w5.setCell ⟨w1.heap.size, 0, none⟩ (.slice A3 L6.length c3)) (by rfl) rfl ?_ ?_
                · go_simp
                  try with_reducible rfl
                refine hK.out _ _ ?_
                clear hK K
                refine done_ (by kernel_rfl) ?_
                have hc6 : (w5.setCell ⟨w1.heap.size, 0, none⟩ (.slice A3 L6.length c3)).cell? ⟨w1.heap.size, 0, none⟩ = some (.slice A3 L6.length c3) := (blk_cell HL5.out 0).trans rfl
                generalize w5.setCell ⟨w1.heap.size, 0, none⟩ (.slice A3 L6.length c3) = w6 at HR5 HB5 HL5 hc6 ⊢
                obtain ⟨_, hle6, hC6⟩ := Kd.R_reads' HR5.out
                have HC6 := Aside0.mk hC6
                clear hC6
                go_wp2_with (first | (go_at_call 21; (with_reducible refine (name_Of.calls A3 c3 L6 r1 r2 _ HC6.out hle6 HH'.out).mono ?_); rintro e w7 ⟨rfl, hb7⟩; have HB7 := Aside0.mk (HB5.out.trans (below_to hb7 HB5.out.size)); clear hb7))
                go_ret2
                exact ⟨rfl, HB7.out⟩
              · have hzb : (er != 0) = true := bne_iff_ne.2 hz
                rw [if_pos hz] at hh
                cases hh
                clear hz
                go_wp2_with (first | (go_at_call 55; (with_reducible refine (piece_calls t frm t.size L w.heap.size (w1.heap.size + 1) w1.heap.size (w1.heap.size + 2) _ HS.out hfk hks hsz' hLl hne).mono ?_); rw [hpc]; rintro e w2 ⟨rfl, hs2, hb2⟩; have HS2 := Aside0.mk hs2; have HB2 := Aside0.mk (HB.out.trans (hb2 _ (Nat.le_refl _) hw1' hw1 hw2)); clear hs2 hb2))
                go_ret2
                exact ⟨rfl, HB2.out⟩
            · rw [if_neg (by omega)] at hh
              have hf0b : ((frm : Int) == 0) = false := beq_eq_false_iff_ne.2 (by omega)
              have hh' : name_Of.f L = some (r1, r2) := by rw [name_Of.some_, ← hh]
              have HH' := Aside0.mk hh'
              obtain ⟨vl, hlb2, hRl⟩ := HS.out.lbox
              obtain ⟨A3, c3, rfl, hle6, hC6⟩ := Kd.R_reads hRl
              have hc6 : wr.cell? ⟨w1.heap.size, 0, none⟩ = some (.slice A3 L.length c3) := (blk_cell hlb2 0).trans rfl
              have HC6 := Aside0.mk hC6
              clear hf hf0 hh hh' hlb2 hRl hC6
              go_wp2_with (first | (go_at_call 21; (with_reducible refine (name_Of.calls A3 c3 L r1 r2 _ HC6.out hle6 HH'.out).mono ?_); rintro e w7 ⟨rfl, hb7⟩; have HB7 := Aside0.mk (HB.out.trans (below_to hb7 HB.out.size)); clear hb7))
              go_ret2
              exact ⟨rfl, HB7.out⟩
end Go.Proofs.Ytplnknhlgdoliaa.Print
end
section
/- name.Escape, walked: a text of the bytes. -/
namespace Go.Proofs.Ytplnknhlgdoliaa.Print
set_option linter.unusedVariables false
set_option linter.unusedSimpArgs false
open Go.RowKit Go.Proofs.YtplnknhlgdoliaaW.PrintWords Go.Proofs.YtplnknhlgdoliaaW.PrintLast Go.Proofs.YtplnknhlgdoliaaW.PrintMore
/-- the bytes that tell a byte -/
def escB (q : Bool) (c : Int) : List Int :=
  if c = 46 ∨ c = 59 ∨ c = 40 ∨ c = 41 ∨ c = 64 ∨ c = 36 then (if q then [c] else [92, c])
  else if c = 34 ∨ c = 92 then [92, c]
  else if (32 < c ∧ c < 127) ∨ (c = 32 ∧ q = true) then [c]
  else [92, 48 + c / 100, 48 + c / 10 % 10, 48 + c % 10]
def esc (q : Bool) (l : List Int) : List Int := l.flatMap (escB q)
def name_Escape.f (s : ByteArray) (q : Bool) : Option ByteArray := if s.size * 4 ≤ 140737488355328 then some (strOfNums (esc q (bytesOf s))) else none
theorem escB_length (q : Bool) (c : Int) : (escB q c).length ≤ 4 := by unfold escB; split <;> (try split) <;> (try split) <;> simp
theorem escB_range (q : Bool) (c : Int) (h0 : 0 ≤ c) (h1 : c < 256) : ∀ x ∈ escB q c, 0 ≤ x ∧ x < 256 := by
  intro x hx
  unfold escB at hx
  split at hx
  · split at hx <;> simp at hx <;> omega
  · split at hx
    · simp at hx; omega
    · split at hx
      · simp at hx; omega
      · simp at hx; omega
theorem esc_range (q : Bool) (s : ByteArray) : ∀ x ∈ esc q (bytesOf s), 0 ≤ x ∧ x < 256 := by
  intro x hx
  obtain ⟨c, hc, hx⟩ := List.mem_flatMap.1 hx
  have := bo_range s c hc
  exact escB_range q c this.1 this.2 x hx
def EscInv (q : Bool) (s : ByteArray) (k : Nat) (bs : List Value) : Prop := k ≤ s.size ∧ bs = nums .u8 (esc q ((bytesOf s).take k)) ∧ bs.length ≤ 4 * k
theorem esc0 (q : Bool) (s : ByteArray) : EscInv q s 0 [] := ⟨Nat.zero_le _, by simp [esc, nums], by simp⟩
theorem esc_step {q : Bool} {s : ByteArray} {k : Nat} {bs : List Value} (h : EscInv q s k bs) (hk : k < s.size) {c : Int} (hc : bt s (k : Int) = c) {l : List Value} (hl : l = nums .u8 (escB q c)) : EscInv q s (k + 1) (bs ++ l) := by
  obtain ⟨h1, h2, h3⟩ := h
  have hkl : k < (bytesOf s).length := by rw [bytesOf_length]; exact hk
  have he : (bytesOf s)[k] = c := by
    rw [← hc, ← rd_bytesOf]; simp [rd, List.getD_eq_getElem?_getD, List.getElem?_eq_getElem hkl]
  refine ⟨hk, ?_, ?_⟩
  · rw [List.take_add_one, List.getElem?_eq_getElem hkl, he, hl, h2]
    simp [esc, nums_append]
  · have := escB_length q c
    rw [hl, List.length_append, nums_length]; omega
theorem esc_end {q : Bool} {s : ByteArray} {k : Nat} {bs : List Value} (h : EscInv q s k bs) (hk : ¬ k < s.size) : bs = nums .u8 (esc q (bytesOf s)) := by
  rw [h.2.1, List.take_of_length_le (by rw [bytesOf_length]; omega)]
set_option maxHeartbeats 8000000 in
set_option maxRecDepth 100000 in
theorem name_Escape.calls (a0 : ByteArray) (a1 : Bool) (r : ByteArray) (w : World) (h : name_Escape.f a0 a1 = some r) :
    Calls Try.prog 25 #[.string a0, .bool a1] w fun e w' => e = .returned (.string r) ∧ Below w.heap.size w w' := by
  unfold name_Escape.f at h
  by_cases hs : a0.size * 4 ≤ 140737488355328
  · rw [if_pos hs] at h
    simp only [Option.some.injEq] at h
    subst h
    have HI0 := Aside0.mk (Lib.fresh_isBuilder 63 5 w)
    have HB0 := Aside0.mk (below_alloc (Below.refl w.heap.size w) (.cells #[.pointer none, .slice none 0 0] 63))
    go_enter Try.func25, Try.ntmps25
    go_wp2
    go_loopw [11] (fun i wr => ∃ (k : Nat) (bs : List Value), i = .int .i64 k ∧ Aside0 (EscInv a1 a0 k bs) ∧ Aside0 (Lib.IsBuilder 63 5 w.heap.size w.heap.size bs wr) ∧ Aside0 (Below w.heap.size w wr)) (fun i _ => a0.size - (intOf i).toNat)
    case atStart => exact ⟨0, [], rfl, ⟨esc0 a1 a0⟩, HI0, HB0⟩
    case round =>
      clear HI0 HB0
      obtain ⟨k, bs, rfl, HV, HI, HB⟩ := hrel
      have hb1 := HV.out.1
      have hb2 := HV.out.2.2
      by_cases hk : k < a0.size
      · have hx0 := bt_nat a0 k hk
        obtain ⟨hc0, hc1⟩ := bt_range a0 (k : Int)
        obtain ⟨c, hc⟩ : ∃ c, bt a0 (k : Int) = c := ⟨_, rfl⟩
        rw [hc] at hx0 hc0 hc1
        have q1 : bs.length + 1 ≤ 140737488355328 := by omega
        have q2 : w.heap.size ≤ wr.heap.size := HB.out.size
        have q3 : (bs ++ [Value.int .u8 92]).length + 1 ≤ 140737488355328 := by simp; omega
        by_cases hS : c = 46 ∨ c = 59 ∨ c = 40 ∨ c = 41 ∨ c = 64 ∨ c = 36
        · cases a1 with
          | true =>
            have HV' : Aside0 (EscInv true a0 (k + 1) (bs ++ [.int .u8 c])) := ⟨esc_step HV.out hk hc (by unfold escB; rw [if_pos hS]; rfl)⟩
            clear hc
            rcases hS with rfl | rfl | rfl | rfl | rfl | rfl
            all_goals
              go_wp2_with (first | (go_at_call 47; (with_reducible refine (WriteByte_any w.heap.size w.heap.size bs _ _ HI.out q1 q2).mono ?_); rintro e w2 ⟨rfl, hat, hb2⟩; have HA := Aside0.mk (builder_used hat); have HB2 := Aside0.mk (HB.out.trans hb2); clear hat hb2))
              go_roundw
              case rel => exact ⟨k + 1, _, by go_num, HV', HA, HB2⟩
              case measure => simp [intOf]; omega
          | false =>
            have HV' : Aside0 (EscInv false a0 (k + 1) (bs ++ [.int .u8 92] ++ [.int .u8 c])) := ⟨by rw [List.append_assoc]; exact esc_step HV.out hk hc (by unfold escB; rw [if_pos hS]; rfl)⟩
            clear hc
            rcases hS with rfl | rfl | rfl | rfl | rfl | rfl
            all_goals
              go_wp2_with (first | (go_at_call 47; (with_reducible refine (WriteByte_any w.heap.size w.heap.size bs 92 _ HI.out q1 q2).mono ?_); rintro e w2 ⟨rfl, hat, hb2⟩; have HA := Aside0.mk (builder_used hat); have HB2 := Aside0.mk (HB.out.trans hb2); clear hat hb2; have q4 : w.heap.size ≤ w2.heap.size := HB2.out.size) | (go_at_call 47; (with_reducible refine (WriteByte_any w.heap.size w.heap.size (bs ++ [.int .u8 92]) _ _ HA.out q3 q4).mono ?_); rintro e w2 ⟨rfl, hat, hb2⟩; have HA2 := Aside0.mk (builder_used hat); have HB3 := Aside0.mk (HB2.out.trans hb2); clear hat hb2))
              go_roundw
              case rel => exact ⟨k + 1, _, by go_num, HV', HA2, HB3⟩
              case measure => simp [intOf]; omega
        · by_cases hQ : c = 34 ∨ c = 92
          · have HV' : Aside0 (EscInv a1 a0 (k + 1) (bs ++ [.int .u8 92] ++ [.int .u8 c])) := ⟨by rw [List.append_assoc]; exact esc_step HV.out hk hc (by unfold escB; rw [if_neg hS, if_pos hQ]; rfl)⟩
            clear hc hS
            rcases hQ with rfl | rfl
            all_goals
              go_wp2_with (first | (go_at_call 47; (with_reducible refine (WriteByte_any w.heap.size w.heap.size bs 92 _ HI.out q1 q2).mono ?_); rintro e w2 ⟨rfl, hat, hb2⟩; have HA := Aside0.mk (builder_used hat); have HB2 := Aside0.mk (HB.out.trans hb2); clear hat hb2; have q4 : w.heap.size ≤ w2.heap.size := HB2.out.size) | (go_at_call 47; (with_reducible refine (WriteByte_any w.heap.size w.heap.size (bs ++ [.int .u8 92]) _ _ HA.out q3 q4).mono ?_); rintro e w2 ⟨rfl, hat, hb2⟩; have HA2 := Aside0.mk (builder_used hat); have HB3 := Aside0.mk (HB2.out.trans hb2); clear hat hb2))
              go_roundw
              case rel => exact ⟨k + 1, _, by go_num, HV', HA2, HB3⟩
              case measure => simp [intOf]; omega
          · have e1 : (c == 46) = false := beq_eq_false_iff_ne.2 (by omega)
            have e2 : (c == 59) = false := beq_eq_false_iff_ne.2 (by omega)
            have e3 : (c == 40) = false := beq_eq_false_iff_ne.2 (by omega)
            have e4 : (c == 41) = false := beq_eq_false_iff_ne.2 (by omega)
            have e5 : (c == 64) = false := beq_eq_false_iff_ne.2 (by omega)
            have e6 : (c == 36) = false := beq_eq_false_iff_ne.2 (by omega)
            have e7 : (c == 34) = false := beq_eq_false_iff_ne.2 (by omega)
            have e8 : (c == 92) = false := beq_eq_false_iff_ne.2 (by omega)
            by_cases hP : (32 < c ∧ c < 127) ∨ (c = 32 ∧ a1 = true)
            · have HV' : Aside0 (EscInv a1 a0 (k + 1) (bs ++ [.int .u8 c])) := ⟨esc_step HV.out hk hc (by unfold escB; rw [if_neg hS, if_neg hQ, if_pos hP]; rfl)⟩
              clear hc hS hQ
              rcases hP with ⟨hp1, hp2⟩ | ⟨hp1, hp2⟩
              · go_wp2_with (first | (go_at_call 47; (with_reducible refine (WriteByte_any w.heap.size w.heap.size bs _ _ HI.out q1 q2).mono ?_); rintro e w2 ⟨rfl, hat, hb2⟩; have HA := Aside0.mk (builder_used hat); have HB2 := Aside0.mk (HB.out.trans hb2); clear hat hb2))
                go_roundw
                case rel => exact ⟨k + 1, _, by go_num, HV', HA, HB2⟩
                case measure => simp [intOf]; omega
              · subst hp1 hp2
                clear e1 e2 e3 e4 e5 e6 e7 e8
                go_wp2_with (first | (go_at_call 47; (with_reducible refine (WriteByte_any w.heap.size w.heap.size bs _ _ HI.out q1 q2).mono ?_); rintro e w2 ⟨rfl, hat, hb2⟩; have HA := Aside0.mk (builder_used hat); have HB2 := Aside0.mk (HB.out.trans hb2); clear hat hb2))
                go_roundw
                case rel => exact ⟨k + 1, _, by go_num, HV', HA, HB2⟩
                case measure => simp [intOf]; omega
            · have HV' : Aside0 (EscInv a1 a0 (k + 1) (bs ++ [.int .u8 92, .int .u8 (48 + c / 100), .int .u8 (48 + c / 10 % 10), .int .u8 (48 + c % 10)])) := ⟨esc_step HV.out hk hc (by unfold escB; rw [if_neg hS, if_neg hQ, if_neg hP]; rfl)⟩
              clear hc hS hQ
              have hne : wr.heap.size ≠ w.heap.size := by have := builder_lt HI.out; omega
              have q5 : bs.length + 4 ≤ 140737488355328 := by omega
              have q6 : w.heap.size ≤ (wr.alloc (.cells #[.int .u8 92, .int .u8 (48 + c / 100), .int .u8 (48 + c / 10 % 10), .int .u8 (48 + c % 10)] 5)).heap.size := by rw [World.size_alloc]; omega
              have HI1 := Aside0.mk (builder_alloc HI.out (.cells #[.int .u8 92, .int .u8 (48 + c / 100), .int .u8 (48 + c / 10 % 10), .int .u8 (48 + c % 10)] 5))
              have HB1 := Aside0.mk (below_alloc HB.out (.cells #[.int .u8 92, .int .u8 (48 + c / 100), .int .u8 (48 + c / 10 % 10), .int .u8 (48 + c % 10)] 5))
              have HN := Aside0.mk (cells_new wr [.int .u8 92, .int .u8 (48 + c / 100), .int .u8 (48 + c / 10 % 10), .int .u8 (48 + c % 10)] 5)
              rcases (show c < 32 ∨ (127 ≤ c) ∨ (c = 32 ∧ a1 = false) from by cases a1 <;> simp at hP ⊢ <;> omega) with hp | hp | ⟨hp, hp2⟩
              · have e9 : (c == 32) = false := beq_eq_false_iff_ne.2 (by omega)
                clear hP
                go_wp2_with (first | (go_at_call 53; (with_reducible refine (Write_any w.heap.size w.heap.size bs wr.heap.size 4 4 [.int .u8 92, .int .u8 (48 + c / 100), .int .u8 (48 + c / 10 % 10), .int .u8 (48 + c % 10)] _ HI1.out hne rfl HN.out (by simp [Value.oneCell']) q5 q6).mono ?_); rintro e w2 ⟨rfl, hat, hb2⟩; have HA := Aside0.mk (builder_used hat); have HB2 := Aside0.mk (HB1.out.trans hb2); clear hat hb2))
                go_roundw
                case rel => exact ⟨k + 1, _, by go_num, HV', HA, HB2⟩
                case measure => simp [intOf]; omega
              · have e9 : (c == 32) = false := beq_eq_false_iff_ne.2 (by omega)
                clear hP
                go_wp2_with (first | (go_at_call 53; (with_reducible refine (Write_any w.heap.size w.heap.size bs wr.heap.size 4 4 [.int .u8 92, .int .u8 (48 + c / 100), .int .u8 (48 + c / 10 % 10), .int .u8 (48 + c % 10)] _ HI1.out hne rfl HN.out (by simp [Value.oneCell']) q5 q6).mono ?_); rintro e w2 ⟨rfl, hat, hb2⟩; have HA := Aside0.mk (builder_used hat); have HB2 := Aside0.mk (HB1.out.trans hb2); clear hat hb2))
                go_roundw
                case rel => exact ⟨k + 1, _, by go_num, HV', HA, HB2⟩
                case measure => simp [intOf]; omega
              · subst hp2
                have e9 : (c == 32) = true := beq_iff_eq.2 hp
                have hp0 : ¬ 32 < c := by omega
                clear hP hp
                go_wp2_with (first | (go_at_call 53; (with_reducible refine (Write_any w.heap.size w.heap.size bs wr.heap.size 4 4 [.int .u8 92, .int .u8 (48 + c / 100), .int .u8 (48 + c / 10 % 10), .int .u8 (48 + c % 10)] _ HI1.out hne rfl HN.out (by simp [Value.oneCell']) q5 q6).mono ?_); rintro e w2 ⟨rfl, hat, hb2⟩; have HA := Aside0.mk (builder_used hat); have HB2 := Aside0.mk (HB1.out.trans hb2); clear hat hb2))
                go_roundw
                case rel => exact ⟨k + 1, _, by go_num, HV', HA, HB2⟩
                case measure => simp [intOf]; omega
      · have hfin : Lib.IsBuilder 63 5 w.heap.size w.heap.size (Lib.byteCells (strOfNums (esc a1 (bytesOf a0))).data.toList) wr := by
          rw [← nums_cells _ (esc_range a1 a0), ← esc_end HV.out hk]; exact HI.out
        have q2 : w.heap.size ≤ wr.heap.size := HB.out.size
        have HF := Aside0.mk hfin
        clear hfin
        go_wp2_with (first | (go_at_call 49; refine (Try.Builder_String_any w.heap.size w.heap.size _ _ HF.out q2).mono ?_; rintro e w3 ⟨rfl, hb3⟩; have HB3 := Aside0.mk (HB.out.trans hb3); clear hb3))
        go_ret
        exact ⟨by first | rfl | (rw [str_eta]; done) | (simp; done), HB3.out⟩
  · rw [if_neg hs] at h; exact absurd h (by simp)
end Go.Proofs.Ytplnknhlgdoliaa.Print
end
section
/- name.Text, walked: a name's text. -/
namespace Go.Proofs.Ytplnknhlgdoliaa.Print
set_option linter.unusedVariables false
set_option linter.unusedSimpArgs false
open Go.RowKit Go.Proofs.YtplnknhlgdoliaaW.PrintWords Go.Proofs.YtplnknhlgdoliaaW.PrintLast Go.Proofs.YtplnknhlgdoliaaW.PrintMore
def textL (L : List ByteArray) : List Int := L.flatMap fun s => esc false (bytesOf s) ++ [46]
def name_Text.f (n : ByteArray) : Option ByteArray := some (if n.toList = [0] then ⟨#[46]⟩ else strOfNums (textL ((dec n).getD [])))
theorem esc_length (q : Bool) : ∀ l : List Int, (esc q l).length ≤ 4 * l.length
  | [] => by simp [esc]
  | c :: l => by
    have := esc_length q l
    have h2 := escB_length q c
    simp only [esc, List.flatMap_cons, List.length_append, List.length_cons] at this ⊢
    omega
theorem row_kept {e base b : Nat} {w w' : World} {v : Value} {xs : List ByteArray} (h : Kd.R Kd.string e w base (fun _ => True) v xs) (hk : Lib.OthersKept 5 (some b) w w') (hb : b < base) (he : e ≠ 5) : Kd.R Kd.string e w' base (fun _ => True) v xs := by
  refine Kd.R_mono (Kd.R_move (Kd.R_bound h) (fun k hk2 => ?_)) (fun _ h => h.1)
  obtain ⟨_, h1, h2, q, hq, cells, hc⟩ := hk2
  rw [hc]
  refine hk k _ hc (fun h => by cases h; omega) (fun c fz hh => ?_)
  have hq' : q = e := by simpa [Kd.string, Kd.scalar] using hq
  cases hh
  exact he hq'.symm
def TextInv (L : List ByteArray) (k : Nat) (bs : List Value) : Prop := k ≤ L.length ∧ bs = nums .u8 (textL (L.take k)) ∧ bs.length ≤ 300 * k
theorem text0 (L : List ByteArray) : TextInv L 0 [] := ⟨Nat.zero_le _, by simp [textL, nums], by simp⟩
theorem text_step {L : List ByteArray} {k : Nat} {bs : List Value} {s : ByteArray} (h : TextInv L k bs) (hs : L[k]? = some s) (hz : s.size ≤ 63) : TextInv L (k + 1) (bs ++ Lib.strCells (strOfNums (esc false (bytesOf s))) ++ [.int .u8 46]) := by
  obtain ⟨h1, h2, h3⟩ := h
  have hk : k < L.length := (List.getElem?_eq_some_iff.1 hs).1
  have he := esc_length false (bytesOf s)
  rw [bytesOf_length] at he
  have hc : Lib.strCells (strOfNums (esc false (bytesOf s))) = nums .u8 (esc false (bytesOf s)) := by rw [Lib.strCells_eq, nums_cells _ (esc_range false s)]
  refine ⟨hk, ?_, ?_⟩
  · rw [take_succ' hs, h2, hc]
    simp [textL, nums_append, nums]
  · rw [List.length_append, List.length_append, hc, nums_length]; simp; omega
theorem text_end {L : List ByteArray} {k : Nat} {bs : List Value} (h : TextInv L k bs) (hk : ¬ k < L.length) : bs = nums .u8 (textL L) := by rw [h.2.1, List.take_of_length_le (by omega)]
theorem textL_range (L : List ByteArray) : ∀ x ∈ textL L, 0 ≤ x ∧ x < 256 := by
  intro x hx
  obtain ⟨s, _, hx⟩ := List.mem_flatMap.1 hx
  rcases List.mem_append.1 hx with hx | hx
  · exact esc_range false s x hx
  · simp at hx; omega
theorem dec_labels (n : ByteArray) : ((dec n).getD []).length ≤ 127 ∧ ∀ s ∈ (dec n).getD [], s.size ≤ 63 := by
  cases h : dec n with
  | none => simp
  | some L =>
    refine ⟨labels_length h, fun s hs => ?_⟩
    have h3 := (dec_some h).2.2
    rw [List.any_eq_false] at h3
    have := h3 s hs
    exact (bad_false (by simpa using this)).2
set_option maxHeartbeats 4000000 in
set_option maxRecDepth 100000 in
theorem name_Text.calls (a0 : ByteArray) (r : ByteArray) (w : World) (h : name_Text.f a0 = some r) :
    Calls Try.prog 29 #[.string a0] w fun e w' => e = .returned (.string r) ∧ Below w.heap.size w w' := by
  unfold name_Text.f at h
  by_cases h0 : a0.toList = [0]
  · rw [if_pos h0] at h
    simp only [Option.some.injEq] at h
    subst h
    have hb0 : (a0.toList == [0]) = true := by rw [h0]; rfl
    clear h0
    go_enter Try.func29, Try.ntmps29
    go_wp2
    go_ret
    exact ⟨rfl, Below.refl _ _⟩
  · rw [if_neg h0] at h
    simp only [Option.some.injEq] at h
    subst h
    have hb0 : (a0.toList == [0]) = false := by simpa using h0
    clear h0
    obtain ⟨kk, hkk⟩ := (labels_f a0).rounds
    have hdl := dec_labels a0
    obtain ⟨L, hL⟩ : ∃ L, (dec a0).getD [] = L := ⟨_, rfl⟩
    rw [hL] at hkk hdl ⊢
    have HKK := Aside0.mk hkk
    have HDL := Aside0.mk hdl
    clear hkk hdl hL
    have HI0 := Aside0.mk (Lib.fresh_isBuilder 63 5 w)
    have HB0 := Aside0.mk (below_alloc (Below.refl w.heap.size w) (.cells #[.pointer none, .slice none 0 0] 63))
    go_enter Try.func29, Try.ntmps29
    go_wp2_with (go_at_call 17; (with_reducible refine (name_Labels.calls kk a0 L _ HKK.out).mono ?_); rintro e w1 ⟨v0, rfl, hR, hb1⟩; rw [World.size_alloc] at hR; obtain ⟨A, c, rfl, hle, hC⟩ := Kd.R_reads hR; have HR := Aside0.mk hR; have HI1 := Aside0.mk (builder_below HI0.out hb1); have HB1 := Aside0.mk (below_then HB0.out (by simp) hb1); clear hR hb1 hC hle)
    go_loopw [11] (fun i wr => ∃ (k : Nat) (bs : List Value), i = .int .i64 k ∧ Aside0 (TextInv L k bs) ∧ Aside0 (Lib.IsBuilder 63 5 w.heap.size w.heap.size bs wr) ∧ Aside0 (Kd.R Kd.string 9 wr (w.heap.size + 1) (fun _ => True) (.slice A L.length c) L) ∧ Aside0 (Below w.heap.size w wr)) (fun i _ => L.length - (intOf i).toNat)
    case atStart => exact ⟨0, [], rfl, ⟨text0 L⟩, HI1, HR, HB1⟩
    case round =>
      clear HI0 HB0 HI1 HB1 HR
      obtain ⟨k, bs, rfl, HV, HI, HR, HB⟩ := hrel
      have hll := HDL.out.1
      have hbl := HV.out.2.2
      have q2 : w.heap.size ≤ wr.heap.size := HB.out.size
      by_cases hk : k < L.length
      · obtain ⟨_, _, hC⟩ := Kd.R_reads' HR.out
        obtain ⟨ad, hA, hcell⟩ := Kd.at_string hC (k : Int) (by omega) (by omega)
        obtain ⟨s, hs⟩ : ∃ s, L[k]? = some s := ⟨L[k], List.getElem?_eq_getElem hk⟩
        have hrd : rdOf ByteArray.empty L (k : Int) = s := by simp [rdOf, List.getD_eq_getElem?_getD, hs]
        rw [hrd] at hcell
        simp only [Int.toNat_natCast] at hcell
        subst hA
        have hsz := HDL.out.2 s (List.mem_of_getElem? hs)
        have HV' := Aside0.mk (text_step HV.out hs hsz)
        have hef : name_Escape.f s false = some (strOfNums (esc false (bytesOf s))) := by unfold name_Escape.f; rw [if_pos (by omega)]
        have hel : (strOfNums (esc false (bytesOf s))).size ≤ 252 := by have := esc_length false (bytesOf s); rw [bytesOf_length] at this; rw [strOfNums_size]; omega
        obtain ⟨t, ht⟩ : ∃ t, strOfNums (esc false (bytesOf s)) = t := ⟨_, rfl⟩
        rw [ht] at hef hel HV'
        have HEF := Aside0.mk hef
        have q1 : bs.length + t.size ≤ 140737488355328 := by omega
        have q3 : (bs ++ Lib.strCells t).length + 1 ≤ 140737488355328 := by rw [List.length_append, Lib.strCells_length]; omega
        clear hef hs hrd hC ht
        go_wp2_with (first | (go_at_call 25; (with_reducible refine (name_Escape.calls s false t _ HEF.out).mono ?_); rintro e w2 ⟨rfl, hb2⟩; have HI2 := Aside0.mk (builder_below HI.out hb2); have HR2 := Aside0.mk (Kd.R_below HR.out hb2); have HB2 := Aside0.mk (below_then HB.out q2 hb2); have q4 : w.heap.size ≤ w2.heap.size := HB2.out.size; clear hb2) | (go_at_call 48; (with_reducible refine (WriteString_k w.heap.size w.heap.size bs t _ HI2.out q1 q4).mono ?_); rintro e w3 ⟨rfl, hat, hb3, hk3⟩; have HI3 := Aside0.mk (builder_used hat); have HR3 := Aside0.mk (row_kept HR2.out hk3 (Nat.lt_succ_self _) (by decide)); have HB3 := Aside0.mk (HB2.out.trans hb3); have q5 : w.heap.size ≤ w3.heap.size := HB3.out.size; clear hat hb3 hk3) | (go_at_call 47; (with_reducible refine (WriteByte_k w.heap.size w.heap.size (bs ++ Lib.strCells t) _ _ HI3.out q3 q5).mono ?_); rintro e w4 ⟨rfl, hat, hb4, hk4⟩; have HI4 := Aside0.mk (builder_used hat); have HR4 := Aside0.mk (row_kept HR3.out hk4 (Nat.lt_succ_self _) (by decide)); have HB4 := Aside0.mk (HB3.out.trans hb4); clear hat hb4 hk4))
        go_roundw
        case rel => exact ⟨k + 1, _, by go_num, HV', HI4, HR4, HB4⟩
        case measure => simp [intOf]; omega
      · have hfin : Lib.IsBuilder 63 5 w.heap.size w.heap.size (Lib.byteCells (strOfNums (textL L)).data.toList) wr := by
          rw [← nums_cells _ (textL_range L), ← text_end HV.out hk]; exact HI.out
        have HF := Aside0.mk hfin
        clear hfin
        go_wp2_with (first | (go_at_call 49; refine (Try.Builder_String_any w.heap.size w.heap.size _ _ HF.out q2).mono ?_; rintro e w3 ⟨rfl, hb3⟩; have HB3 := Aside0.mk (HB.out.trans hb3); clear hb3))
        go_ret
        exact ⟨by first | rfl | (rw [str_eta]; done) | (simp; done), HB3.out⟩
end Go.Proofs.Ytplnknhlgdoliaa.Print
end
section
-- Written by a program of this session, built on the kit's print (it is not the print's own text).
namespace Go.Proofs.Ytplnknhlgdoliaa.Print
open Go.RowKit Go.Proofs.YtplnknhlgdoliaaW.PrintWords Go.Proofs.YtplnknhlgdoliaaW.PrintLast Go.Proofs.YtplnknhlgdoliaaW.PrintMore
attribute [local go_sem] max2_int min2_int max_two min_two max_three min_three max_four min_four   -- for this text's walks alone
set_option linter.unusedVariables false
set_option linter.unusedSimpArgs false

/-! ### hearsaylaw01_wakes: function 19 -/
def hearsaylaw01_wakes.f (k : Nat)  : Option (Bool) := (name_Parse.f (⟨#[65, 98, 46, 99]⟩ : ByteArray) (⟨#[0]⟩ : ByteArray)).bind fun bt124 => (if bt124.2 = 0 then (if bt124.1.toList = ([2, 65, 98, 1, 99, 0] : List UInt8) then ((name_Count.f k bt124.1).bind fun t126 => (if t126 = 2 then ((name_Fold.f bt124.1).bind fun t127 => ((name_Text.f t127).bind fun t128 => (if t128.toList = ([97, 98, 46, 99, 46] : List UInt8) then ((name_Check.f k bt124.1).bind fun t129 => (some (t129 == 0))) else (some false)))) else (some false))) else (some false)) else (some false))
theorem hearsaylaw01_wakes.mono : ∀ k, LeO (hearsaylaw01_wakes.f k ) (hearsaylaw01_wakes.f (k + 1) ) := by
  intro  k
  unfold hearsaylaw01_wakes.f
  repeat' first
      | (with_reducible exact name_Check.mono _ _)
      | (with_reducible exact name_Count.mono _ _)
      | (with_reducible exact LeO.refl _)
      | (with_reducible exact LeO.none _)
      | (with_reducible refine LeO.ite ?_ ?_)
      | (with_reducible refine LeO.bind ?_ (fun _ => ?_))
      | exact name_Check.mono _ _
      | exact name_Count.mono _ _
      | exact LeO.none _
      | refine LeO.ite ?_ ?_
      | refine LeO.bind ?_ (fun _ => ?_)
set_option maxHeartbeats 8000000 in
set_option maxRecDepth 100000 in
theorem hearsaylaw01_wakes.calls (k : Nat)  (r : Bool) (w : World) (h : hearsaylaw01_wakes.f k  = some r) :
    Calls Try.prog 19 #[] w fun e w' => e = .returned (.bool r) ∧ Below w.heap.size w w' := by
  have HB := Aside0.mk (Below.refl w.heap.size w)
  have H : ((name_Parse.f (⟨#[65, 98, 46, 99]⟩ : ByteArray) (⟨#[0]⟩ : ByteArray)).bind fun bt124 => (if bt124.2 = 0 then (if bt124.1.toList = ([2, 65, 98, 1, 99, 0] : List UInt8) then ((name_Count.f k bt124.1).bind fun t126 => (if t126 = 2 then ((name_Fold.f bt124.1).bind fun t127 => ((name_Text.f t127).bind fun t128 => (if t128.toList = ([97, 98, 46, 99, 46] : List UInt8) then ((name_Check.f k bt124.1).bind fun t129 => (some (t129 == 0))) else (some false)))) else (some false))) else (some false)) else (some false))) = some r := h
  clear h
  replace H := Option.bind_eq_some_iff.mp H
  obtain ⟨⟨t124, t125⟩, A10, H⟩ := H
  replace H : (if t125 = 0 then (if t124.toList = ([2, 65, 98, 1, 99, 0] : List UInt8) then ((name_Count.f k t124).bind fun t126 => (if t126 = 2 then ((name_Fold.f t124).bind fun t127 => ((name_Text.f t127).bind fun t128 => (if t128.toList = ([97, 98, 46, 99, 46] : List UInt8) then ((name_Check.f k t124).bind fun t129 => (some (t129 == 0))) else (some false)))) else (some false))) else (some false)) else (some false)) = some r := H
  have A1 := Aside0.mk A10
  clear A10
  by_cases c2 : t125 = 0
  · rw [if_pos c2] at H
    have c2b0 : (t125 == 0) = true := beq_iff_eq.mpr c2
    have c2b1 : (t125 != 0) = false := bne_eq_false_iff_eq.mpr c2
    clear c2
    by_cases c3 : t124.toList = ([2, 65, 98, 1, 99, 0] : List UInt8)
    · rw [if_pos c3] at H
      have c3b0 : (t124.toList == ([2, 65, 98, 1, 99, 0] : List UInt8)) = true := beq_iff_eq.mpr c3
      have c3b1 : (t124.toList != ([2, 65, 98, 1, 99, 0] : List UInt8)) = false := bne_eq_false_iff_eq.mpr c3
      clear c3
      replace H := Option.bind_eq_some_iff.mp H
      obtain ⟨t126, A40, H⟩ := H
      replace H : (if t126 = 2 then ((name_Fold.f t124).bind fun t127 => ((name_Text.f t127).bind fun t128 => (if t128.toList = ([97, 98, 46, 99, 46] : List UInt8) then ((name_Check.f k t124).bind fun t129 => (some (t129 == 0))) else (some false)))) else (some false)) = some r := H
      have A4 := Aside0.mk A40
      clear A40
      by_cases c5 : t126 = 2
      · rw [if_pos c5] at H
        have c5b0 : (t126 == 2) = true := beq_iff_eq.mpr c5
        have c5b1 : (t126 != 2) = false := bne_eq_false_iff_eq.mpr c5
        clear c5
        replace H := Option.bind_eq_some_iff.mp H
        obtain ⟨t127, A60, H⟩ := H
        replace H : ((name_Text.f t127).bind fun t128 => (if t128.toList = ([97, 98, 46, 99, 46] : List UInt8) then ((name_Check.f k t124).bind fun t129 => (some (t129 == 0))) else (some false))) = some r := H
        have A6 := Aside0.mk A60
        clear A60
        replace H := Option.bind_eq_some_iff.mp H
        obtain ⟨t128, A70, H⟩ := H
        replace H : (if t128.toList = ([97, 98, 46, 99, 46] : List UInt8) then ((name_Check.f k t124).bind fun t129 => (some (t129 == 0))) else (some false)) = some r := H
        have A7 := Aside0.mk A70
        clear A70
        by_cases c8 : t128.toList = ([97, 98, 46, 99, 46] : List UInt8)
        · rw [if_pos c8] at H
          have c8b0 : (t128.toList == ([97, 98, 46, 99, 46] : List UInt8)) = true := beq_iff_eq.mpr c8
          have c8b1 : (t128.toList != ([97, 98, 46, 99, 46] : List UInt8)) = false := bne_eq_false_iff_eq.mpr c8
          clear c8
          replace H := Option.bind_eq_some_iff.mp H
          obtain ⟨t129, A90, H⟩ := H
          replace H : (some (t129 == 0)) = some r := H
          have A9 := Aside0.mk A90
          clear A90
          obtain rfl := Option.some.inj H
          go_enter Try.func19, Try.ntmps19
          go_wp2_with (first | ((with_reducible refine gate_callee (f := 27) rfl ?_); refine goesL_ (some 4) rfl rfl Try.func27 (by kernel_rfl) rfl #[.string (⟨#[65, 98, 46, 99]⟩ : ByteArray), .string (⟨#[0]⟩ : ByteArray)] rfl (by (try simp only [List.map_toArray, List.map_cons, List.map_nil]); first | done | rfl | (simp only [List.length_drop, List.length_take]; rfl)) ?_; (with_reducible refine (name_Parse.calls (⟨#[65, 98, 46, 99]⟩ : ByteArray) (⟨#[0]⟩ : ByteArray) t124 t125 _ A1.out).mono ?_); rintro e w10 ⟨rfl, hb⟩; refine ⟨_, rfl, ?_⟩; have n0_ := Aside0.mk (below_step (by repeat (first | (with_reducible first | exact HB.out | apply below_alloc | apply pw_below_drewN | apply below_drew1) | exact HB.out)) hb); clear HB; have HB := n0_; clear n0_; (try clear hb); (try clear hb2); (try clear hk); (try clear hi)) | (go_at_call 18; (with_reducible refine (name_Count.calls k t124 t126 _ A4.out).mono ?_); rintro e w11 ⟨rfl, hb⟩; have n0_ := Aside0.mk (below_step (by repeat (first | (with_reducible first | exact HB.out | apply below_alloc | apply pw_below_drewN | apply below_drew1) | exact HB.out)) hb); clear HB; have HB := n0_; clear n0_; (try clear hb); (try clear hb2); (try clear hk); (try clear hi)) | (go_at_call 15; (with_reducible refine (name_Fold.calls t124 t127 _ A6.out).mono ?_); rintro e w12 ⟨rfl, hb⟩; have n0_ := Aside0.mk (below_step (by repeat (first | (with_reducible first | exact HB.out | apply below_alloc | apply pw_below_drewN | apply below_drew1) | exact HB.out)) hb); clear HB; have HB := n0_; clear n0_; (try clear hb); (try clear hb2); (try clear hk); (try clear hi)) | (go_at_call 29; (with_reducible refine (name_Text.calls t127 t128 _ A7.out).mono ?_); rintro e w13 ⟨rfl, hb⟩; have n0_ := Aside0.mk (below_step (by repeat (first | (with_reducible first | exact HB.out | apply below_alloc | apply pw_below_drewN | apply below_drew1) | exact HB.out)) hb); clear HB; have HB := n0_; clear n0_; (try clear hb); (try clear hb2); (try clear hk); (try clear hi)) | (go_at_call 14; (with_reducible refine (name_Check.calls k t124 t129 _ A9.out).mono ?_); rintro e w14 ⟨rfl, hb⟩; have n0_ := Aside0.mk (below_step (by repeat (first | (with_reducible first | exact HB.out | apply below_alloc | apply pw_below_drewN | apply below_drew1) | exact HB.out)) hb); clear HB; have HB := n0_; clear n0_; (try clear hb); (try clear hb2); (try clear hk); (try clear hi)))
          go_ret
          exact ⟨by first | rfl | (simp [errW_none, errW_some] <;> rfl) | (simp [*, errW_none, errW_some] <;> rfl), by repeat (first | (with_reducible first | exact HB.out | apply below_alloc | apply pw_below_drewN | apply below_drew1) | exact HB.out)⟩
        · rw [if_neg c8] at H
          have c8b0 : (t128.toList == ([97, 98, 46, 99, 46] : List UInt8)) = false := beq_eq_false_iff_ne.mpr c8
          have c8b1 : (t128.toList != ([97, 98, 46, 99, 46] : List UInt8)) = true := bne_iff_ne.mpr c8
          obtain rfl := Option.some.inj H
          go_enter Try.func19, Try.ntmps19
          go_wp2_with (first | ((with_reducible refine gate_callee (f := 27) rfl ?_); refine goesL_ (some 4) rfl rfl Try.func27 (by kernel_rfl) rfl #[.string (⟨#[65, 98, 46, 99]⟩ : ByteArray), .string (⟨#[0]⟩ : ByteArray)] rfl (by (try simp only [List.map_toArray, List.map_cons, List.map_nil]); first | done | rfl | (simp only [List.length_drop, List.length_take]; rfl)) ?_; (with_reducible refine (name_Parse.calls (⟨#[65, 98, 46, 99]⟩ : ByteArray) (⟨#[0]⟩ : ByteArray) t124 t125 _ A1.out).mono ?_); rintro e w15 ⟨rfl, hb⟩; refine ⟨_, rfl, ?_⟩; have n0_ := Aside0.mk (below_step (by repeat (first | (with_reducible first | exact HB.out | apply below_alloc | apply pw_below_drewN | apply below_drew1) | exact HB.out)) hb); clear HB; have HB := n0_; clear n0_; (try clear hb); (try clear hb2); (try clear hk); (try clear hi)) | (go_at_call 18; (with_reducible refine (name_Count.calls k t124 t126 _ A4.out).mono ?_); rintro e w16 ⟨rfl, hb⟩; have n0_ := Aside0.mk (below_step (by repeat (first | (with_reducible first | exact HB.out | apply below_alloc | apply pw_below_drewN | apply below_drew1) | exact HB.out)) hb); clear HB; have HB := n0_; clear n0_; (try clear hb); (try clear hb2); (try clear hk); (try clear hi)) | (go_at_call 15; (with_reducible refine (name_Fold.calls t124 t127 _ A6.out).mono ?_); rintro e w17 ⟨rfl, hb⟩; have n0_ := Aside0.mk (below_step (by repeat (first | (with_reducible first | exact HB.out | apply below_alloc | apply pw_below_drewN | apply below_drew1) | exact HB.out)) hb); clear HB; have HB := n0_; clear n0_; (try clear hb); (try clear hb2); (try clear hk); (try clear hi)) | (go_at_call 29; (with_reducible refine (name_Text.calls t127 t128 _ A7.out).mono ?_); rintro e w18 ⟨rfl, hb⟩; have n0_ := Aside0.mk (below_step (by repeat (first | (with_reducible first | exact HB.out | apply below_alloc | apply pw_below_drewN | apply below_drew1) | exact HB.out)) hb); clear HB; have HB := n0_; clear n0_; (try clear hb); (try clear hb2); (try clear hk); (try clear hi)))
          go_ret
          exact ⟨by first | rfl | (simp [errW_none, errW_some] <;> rfl) | (simp [*, errW_none, errW_some] <;> rfl), by repeat (first | (with_reducible first | exact HB.out | apply below_alloc | apply pw_below_drewN | apply below_drew1) | exact HB.out)⟩
      · rw [if_neg c5] at H
        have c5b0 : (t126 == 2) = false := beq_eq_false_iff_ne.mpr c5
        have c5b1 : (t126 != 2) = true := bne_iff_ne.mpr c5
        obtain rfl := Option.some.inj H
        go_enter Try.func19, Try.ntmps19
        go_wp2_with (first | ((with_reducible refine gate_callee (f := 27) rfl ?_); refine goesL_ (some 4) rfl rfl Try.func27 (by kernel_rfl) rfl #[.string (⟨#[65, 98, 46, 99]⟩ : ByteArray), .string (⟨#[0]⟩ : ByteArray)] rfl (by (try simp only [List.map_toArray, List.map_cons, List.map_nil]); first | done | rfl | (simp only [List.length_drop, List.length_take]; rfl)) ?_; (with_reducible refine (name_Parse.calls (⟨#[65, 98, 46, 99]⟩ : ByteArray) (⟨#[0]⟩ : ByteArray) t124 t125 _ A1.out).mono ?_); rintro e w19 ⟨rfl, hb⟩; refine ⟨_, rfl, ?_⟩; have n0_ := Aside0.mk (below_step (by repeat (first | (with_reducible first | exact HB.out | apply below_alloc | apply pw_below_drewN | apply below_drew1) | exact HB.out)) hb); clear HB; have HB := n0_; clear n0_; (try clear hb); (try clear hb2); (try clear hk); (try clear hi)) | (go_at_call 18; (with_reducible refine (name_Count.calls k t124 t126 _ A4.out).mono ?_); rintro e w20 ⟨rfl, hb⟩; have n0_ := Aside0.mk (below_step (by repeat (first | (with_reducible first | exact HB.out | apply below_alloc | apply pw_below_drewN | apply below_drew1) | exact HB.out)) hb); clear HB; have HB := n0_; clear n0_; (try clear hb); (try clear hb2); (try clear hk); (try clear hi)))
        go_ret
        exact ⟨by first | rfl | (simp [errW_none, errW_some] <;> rfl) | (simp [*, errW_none, errW_some] <;> rfl), by repeat (first | (with_reducible first | exact HB.out | apply below_alloc | apply pw_below_drewN | apply below_drew1) | exact HB.out)⟩
    · rw [if_neg c3] at H
      have c3b0 : (t124.toList == ([2, 65, 98, 1, 99, 0] : List UInt8)) = false := beq_eq_false_iff_ne.mpr c3
      have c3b1 : (t124.toList != ([2, 65, 98, 1, 99, 0] : List UInt8)) = true := bne_iff_ne.mpr c3
      obtain rfl := Option.some.inj H
      go_enter Try.func19, Try.ntmps19
      go_wp2_with (first | ((with_reducible refine gate_callee (f := 27) rfl ?_); refine goesL_ (some 4) rfl rfl Try.func27 (by kernel_rfl) rfl #[.string (⟨#[65, 98, 46, 99]⟩ : ByteArray), .string (⟨#[0]⟩ : ByteArray)] rfl (by (try simp only [List.map_toArray, List.map_cons, List.map_nil]); first | done | rfl | (simp only [List.length_drop, List.length_take]; rfl)) ?_; (with_reducible refine (name_Parse.calls (⟨#[65, 98, 46, 99]⟩ : ByteArray) (⟨#[0]⟩ : ByteArray) t124 t125 _ A1.out).mono ?_); rintro e w21 ⟨rfl, hb⟩; refine ⟨_, rfl, ?_⟩; have n0_ := Aside0.mk (below_step (by repeat (first | (with_reducible first | exact HB.out | apply below_alloc | apply pw_below_drewN | apply below_drew1) | exact HB.out)) hb); clear HB; have HB := n0_; clear n0_; (try clear hb); (try clear hb2); (try clear hk); (try clear hi)))
      go_ret
      exact ⟨by first | rfl | (simp [errW_none, errW_some] <;> rfl) | (simp [*, errW_none, errW_some] <;> rfl), by repeat (first | (with_reducible first | exact HB.out | apply below_alloc | apply pw_below_drewN | apply below_drew1) | exact HB.out)⟩
  · rw [if_neg c2] at H
    have c2b0 : (t125 == 0) = false := beq_eq_false_iff_ne.mpr c2
    have c2b1 : (t125 != 0) = true := bne_iff_ne.mpr c2
    obtain rfl := Option.some.inj H
    go_enter Try.func19, Try.ntmps19
    go_wp2_with (first | ((with_reducible refine gate_callee (f := 27) rfl ?_); refine goesL_ (some 4) rfl rfl Try.func27 (by kernel_rfl) rfl #[.string (⟨#[65, 98, 46, 99]⟩ : ByteArray), .string (⟨#[0]⟩ : ByteArray)] rfl (by (try simp only [List.map_toArray, List.map_cons, List.map_nil]); first | done | rfl | (simp only [List.length_drop, List.length_take]; rfl)) ?_; (with_reducible refine (name_Parse.calls (⟨#[65, 98, 46, 99]⟩ : ByteArray) (⟨#[0]⟩ : ByteArray) t124 t125 _ A1.out).mono ?_); rintro e w22 ⟨rfl, hb⟩; refine ⟨_, rfl, ?_⟩; have n0_ := Aside0.mk (below_step (by repeat (first | (with_reducible first | exact HB.out | apply below_alloc | apply pw_below_drewN | apply below_drew1) | exact HB.out)) hb); clear HB; have HB := n0_; clear n0_; (try clear hb); (try clear hb2); (try clear hk); (try clear hi)))
    go_ret
    exact ⟨by first | rfl | (simp [errW_none, errW_some] <;> rfl) | (simp [*, errW_none, errW_some] <;> rfl), by repeat (first | (with_reducible first | exact HB.out | apply below_alloc | apply pw_below_drewN | apply below_drew1) | exact HB.out)⟩

end Go.Proofs.Ytplnknhlgdoliaa.Print
end
section
-- Written by a program of this session, built on the kit's print (it is not the print's own text).
namespace Go.Proofs.Ytplnknhlgdoliaa.Print
open Go.RowKit Go.Proofs.YtplnknhlgdoliaaW.PrintWords Go.Proofs.YtplnknhlgdoliaaW.PrintLast Go.Proofs.YtplnknhlgdoliaaW.PrintMore
attribute [local go_sem] max2_int min2_int max_two min_two max_three min_three max_four min_four   -- for this text's walks alone
set_option linter.unusedVariables false
set_option linter.unusedSimpArgs false

/-! ### name_Parent: function 35 -/
def name_Parent.f (k : Nat) (a0 : ByteArray) : Option (ByteArray × Bool) := (name_starts.f k a0).bind fun bt309 => (if bt309.2 = true then (if (bt309.1.length : Int) = 0 then (some ((⟨#[]⟩ : ByteArray), false)) else (if 0 < (a0.size : Int) then (if 0 ≤ (wrap64 (1 + (wrap64 (bt a0 0)))) then (if (wrap64 (1 + (wrap64 (bt a0 0)))) ≤ (a0.size : Int) then (some (a0.extract ((wrap64 (1 + (wrap64 (bt a0 0)))) : Int).toNat a0.size, true)) else (none)) else (none)) else (none))) else (some ((⟨#[]⟩ : ByteArray), false)))
theorem name_Parent.mono : ∀ a0 k, LeO (name_Parent.f k a0) (name_Parent.f (k + 1) a0) := by
  intro a0 k
  unfold name_Parent.f
  repeat' first
      | (with_reducible exact name_starts.mono _ _)
      | (with_reducible exact LeO.refl _)
      | (with_reducible exact LeO.none _)
      | (with_reducible refine LeO.ite ?_ ?_)
      | (with_reducible refine LeO.bind ?_ (fun _ => ?_))
      | exact name_starts.mono _ _
      | exact LeO.none _
      | refine LeO.ite ?_ ?_
      | refine LeO.bind ?_ (fun _ => ?_)
set_option maxHeartbeats 8000000 in
set_option maxRecDepth 100000 in
theorem name_Parent.calls (k : Nat) (a0 : ByteArray) (r1 : ByteArray) (r2 : Bool) (w : World) (h : name_Parent.f k a0 = some (r1, r2)) :
    Calls Try.prog 35 #[.string a0] w fun e w' => e = .returned (.tuple #[.string r1, .bool r2]) ∧ Below w.heap.size w w' := by
  have HB := Aside0.mk (Below.refl w.heap.size w)
  have H : ((name_starts.f k a0).bind fun bt309 => (if bt309.2 = true then (if (bt309.1.length : Int) = 0 then (some ((⟨#[]⟩ : ByteArray), false)) else (if 0 < (a0.size : Int) then (if 0 ≤ (wrap64 (1 + (wrap64 (bt a0 0)))) then (if (wrap64 (1 + (wrap64 (bt a0 0)))) ≤ (a0.size : Int) then (some (a0.extract ((wrap64 (1 + (wrap64 (bt a0 0)))) : Int).toNat a0.size, true)) else (none)) else (none)) else (none))) else (some ((⟨#[]⟩ : ByteArray), false)))) = some (r1, r2) := h
  clear h
  replace H := Option.bind_eq_some_iff.mp H
  obtain ⟨⟨t309, t310⟩, A20, H⟩ := H
  replace H : (if t310 = true then (if (t309.length : Int) = 0 then (some ((⟨#[]⟩ : ByteArray), false)) else (if 0 < (a0.size : Int) then (if 0 ≤ (wrap64 (1 + (wrap64 (bt a0 0)))) then (if (wrap64 (1 + (wrap64 (bt a0 0)))) ≤ (a0.size : Int) then (some (a0.extract ((wrap64 (1 + (wrap64 (bt a0 0)))) : Int).toNat a0.size, true)) else (none)) else (none)) else (none))) else (some ((⟨#[]⟩ : ByteArray), false))) = some (r1, r2) := H
  have A2 := Aside0.mk A20
  clear A20
  by_cases c3 : t310 = true
  · subst c3
    have H1 : (if (t309.length : Int) = 0 then (some ((⟨#[]⟩ : ByteArray), false)) else (if 0 < (a0.size : Int) then (if 0 ≤ (wrap64 (1 + (wrap64 (bt a0 0)))) then (if (wrap64 (1 + (wrap64 (bt a0 0)))) ≤ (a0.size : Int) then (some (a0.extract ((wrap64 (1 + (wrap64 (bt a0 0)))) : Int).toNat a0.size, true)) else (none)) else (none)) else (none))) = some (r1, r2) := by rw [if_pos rfl] at H; exact H
    clear H
    have H := H1
    clear H1
    by_cases c4 : (t309.length : Int) = 0
    · rw [if_pos c4] at H
      have c4b0 : ((t309.length : Int) == 0) = true := beq_iff_eq.mpr c4
      have c4b1 : ((t309.length : Int) != 0) = false := bne_eq_false_iff_eq.mpr c4
      clear c4
      simp only [Option.some.injEq, Prod.mk.injEq] at H
      obtain ⟨rfl, rfl⟩ := H
      go_enter Try.func35, Try.ntmps35
      go_wp2_with (first | ((with_reducible refine gate_callee (f := 43) rfl ?_); refine goesL_ (some 8) rfl rfl Try.func43 (by kernel_rfl) rfl #[.string a0] rfl (by (try simp only [List.map_toArray, List.map_cons, List.map_nil]); first | done | rfl | (simp only [List.length_drop, List.length_take]; rfl)) ?_; (with_reducible refine (name_starts.calls k a0 t309 true _ A2.out).mono ?_); rintro e w5 ⟨v311, rfl, ho0, hb⟩; refine ⟨_, rfl, ?_⟩; have n0_ := Aside0.mk (Kd.R_lower ho0 (below_size (by repeat (first | (with_reducible first | exact HB.out | apply below_alloc | apply pw_below_drewN | apply below_drew1) | exact HB.out)))); have n1_ := Aside0.mk (below_step (by repeat (first | (with_reducible first | exact HB.out | apply below_alloc | apply pw_below_drewN | apply below_drew1) | exact HB.out)) hb); clear HB; have HO312 := n0_; have HB := n1_; clear n0_ n1_; (try clear hb); (try clear hb2); (try clear hk); (try clear hi); (try clear ho0); obtain ⟨Ao6, co6, eo6⟩ := Kd.R_slice HO312.out; subst eo6))
      go_ret2
      exact ⟨by first | rfl | (simp [errW_none, errW_some] <;> rfl) | (simp [*, errW_none, errW_some] <;> rfl), by repeat (first | (with_reducible first | exact HB.out | apply below_alloc | apply pw_below_drewN | apply below_drew1) | exact HB.out)⟩
    · rw [if_neg c4] at H
      have c4b0 : ((t309.length : Int) == 0) = false := beq_eq_false_iff_ne.mpr c4
      have c4b1 : ((t309.length : Int) != 0) = true := bne_iff_ne.mpr c4
      have c4b2 : ¬ (t309 = []) := fun h_ => c4 (by rw [h_]; rfl)
      by_cases c7 : 0 < (a0.size : Int)
      · rw [if_pos c7] at H
        have c7b0 : decide (0 < (a0.size : Int)) = true := decide_eq_true c7
        have c7b1 : decide (0 < a0.size) = true := decide_eq_true (by omega)
        clear c7
        obtain ⟨ji9, hji9⟩ : ∃ j_ : Int, (wrap64 (1 + (wrap64 (bt a0 0)))) = j_ := ⟨_, rfl⟩
        replace H : (if 0 ≤ (ji9) then (if (ji9) ≤ (a0.size : Int) then (some (a0.extract ((ji9) : Int).toNat a0.size, true)) else (none)) else (none)) = some (r1, r2) := by first | (rw [hji9] at H; exact H) | (simp only [hji9] at H ⊢; exact H)
        (try rw [hji9] at A2)
        have hji9w : (IntKind.i64.wrap (1 + (wrap64 (bt a0 0)))) = ji9 := (i64_w _).trans hji9
        by_cases c10 : 0 ≤ (ji9)
        · rw [if_pos c10] at H
          have c10b0 := eq_true c10
          have c10b1 : decide (0 ≤ (ji9)) = true := decide_eq_true c10
          clear c10
          by_cases c11 : (ji9) ≤ (a0.size : Int)
          · rw [if_pos c11] at H
            have c11b0 := eq_true c11
            have c11b1 : decide ((ji9) ≤ (a0.size : Int)) = true := decide_eq_true c11
            clear c11
            simp only [Option.some.injEq, Prod.mk.injEq] at H
            obtain ⟨rfl, rfl⟩ := H
            go_enter Try.func35, Try.ntmps35
            go_wp2_with (first | ((with_reducible refine gate_callee (f := 43) rfl ?_); refine goesL_ (some 8) rfl rfl Try.func43 (by kernel_rfl) rfl #[.string a0] rfl (by (try simp only [List.map_toArray, List.map_cons, List.map_nil]); first | done | rfl | (simp only [List.length_drop, List.length_take]; rfl)) ?_; (with_reducible refine (name_starts.calls k a0 t309 true _ A2.out).mono ?_); rintro e w12 ⟨v311, rfl, ho0, hb⟩; refine ⟨_, rfl, ?_⟩; have n0_ := Aside0.mk (Kd.R_lower ho0 (below_size (by repeat (first | (with_reducible first | exact HB.out | apply below_alloc | apply pw_below_drewN | apply below_drew1) | exact HB.out)))); have n1_ := Aside0.mk (below_step (by repeat (first | (with_reducible first | exact HB.out | apply below_alloc | apply pw_below_drewN | apply below_drew1) | exact HB.out)) hb); clear HB; have HO312 := n0_; have HB := n1_; clear n0_ n1_; (try clear hb); (try clear hb2); (try clear hk); (try clear hi); (try clear ho0); obtain ⟨Ao13, co13, eo13⟩ := Kd.R_slice HO312.out; subst eo13; have p8 : 0 ≤ (0 : Int) := (by omega); have q8 : 0 < a0.size := (by have : (0 : Int) < (a0.size : Int) := of_decide_eq_true (by first | (with_reducible assumption) | assumption); omega); have hx8 : ∀ h : 0 < a0.size, ((a0[0]'h).toNat : Int) = bt a0 0 := bt_at a0 0; clear p8; have qi8 : (0 < (a0.size : Int)) = True := eq_true (of_decide_eq_true (by first | (with_reducible assumption) | assumption)); replace q8 := eq_true q8))
            go_ret2
            exact ⟨by first | rfl | (simp [errW_none, errW_some] <;> rfl) | (simp only [← hji9]; first | rfl | (simp [errW_none, errW_some] <;> rfl)) | (simp [*, errW_none, errW_some] <;> rfl), by repeat (first | (with_reducible first | exact HB.out | apply below_alloc | apply pw_below_drewN | apply below_drew1) | exact HB.out)⟩
          · rw [if_neg c11] at H
            exact absurd H (by simp)
        · rw [if_neg c10] at H
          exact absurd H (by simp)
      · rw [if_neg c7] at H
        exact absurd H (by simp)
  · replace c3 := Bool.eq_false_iff.mpr c3
    subst c3
    have H1 : (some ((⟨#[]⟩ : ByteArray), false)) = some (r1, r2) := by rw [if_neg (show ¬ (false = true) by decide)] at H; exact H
    clear H
    have H := H1
    clear H1
    simp only [Option.some.injEq, Prod.mk.injEq] at H
    obtain ⟨rfl, rfl⟩ := H
    go_enter Try.func35, Try.ntmps35
    go_wp2_with (first | ((with_reducible refine gate_callee (f := 43) rfl ?_); refine goesL_ (some 8) rfl rfl Try.func43 (by kernel_rfl) rfl #[.string a0] rfl (by (try simp only [List.map_toArray, List.map_cons, List.map_nil]); first | done | rfl | (simp only [List.length_drop, List.length_take]; rfl)) ?_; (with_reducible refine (name_starts.calls k a0 t309 false _ A2.out).mono ?_); rintro e w14 ⟨v311, rfl, ho0, hb⟩; refine ⟨_, rfl, ?_⟩; have n0_ := Aside0.mk (Kd.R_lower ho0 (below_size (by repeat (first | (with_reducible first | exact HB.out | apply below_alloc | apply pw_below_drewN | apply below_drew1) | exact HB.out)))); have n1_ := Aside0.mk (below_step (by repeat (first | (with_reducible first | exact HB.out | apply below_alloc | apply pw_below_drewN | apply below_drew1) | exact HB.out)) hb); clear HB; have HO312 := n0_; have HB := n1_; clear n0_ n1_; (try clear hb); (try clear hb2); (try clear hk); (try clear hi); (try clear ho0)))
    go_ret2
    exact ⟨by first | rfl | (simp [errW_none, errW_some] <;> rfl) | (simp [*, errW_none, errW_some] <;> rfl), by repeat (first | (with_reducible first | exact HB.out | apply below_alloc | apply pw_below_drewN | apply below_drew1) | exact HB.out)⟩

end Go.Proofs.Ytplnknhlgdoliaa.Print
end
section
-- Written by a program of this session, built on the kit's print (it is not the print's own text).
namespace Go.Proofs.Ytplnknhlgdoliaa.Print
open Go.RowKit Go.Proofs.YtplnknhlgdoliaaW.PrintWords Go.Proofs.YtplnknhlgdoliaaW.PrintLast Go.Proofs.YtplnknhlgdoliaaW.PrintMore
attribute [local go_sem] max2_int min2_int max_two min_two max_three min_three max_four min_four   -- for this text's walks alone
set_option linter.unusedVariables false
set_option linter.unusedSimpArgs false

/-! ### hearsayref01_Labels: function 57 -/
def hearsayref01_Labels.f (k : Nat) (a0 : ByteArray) : Option (List ByteArray) := (hearsayref01_Split.f k a0).bind fun bt313 => (if bt313.2 = true then (some bt313.1) else (some ([] : List ByteArray)))
theorem hearsayref01_Labels.mono : ∀ a0 k, LeO (hearsayref01_Labels.f k a0) (hearsayref01_Labels.f (k + 1) a0) := by
  intro a0 k
  unfold hearsayref01_Labels.f
  repeat' first
      | (with_reducible exact hearsayref01_Split.mono _ _)
      | (with_reducible exact LeO.refl _)
      | (with_reducible exact LeO.none _)
      | (with_reducible refine LeO.ite ?_ ?_)
      | (with_reducible refine LeO.bind ?_ (fun _ => ?_))
      | exact hearsayref01_Split.mono _ _
      | exact LeO.none _
      | refine LeO.ite ?_ ?_
      | refine LeO.bind ?_ (fun _ => ?_)
set_option maxHeartbeats 8000000 in
set_option maxRecDepth 100000 in
theorem hearsayref01_Labels.calls (k : Nat) (a0 : ByteArray) (r : List ByteArray) (w : World) (h : hearsayref01_Labels.f k a0 = some r) :
    Calls Try.prog 57 #[.string a0] w fun e w' => ∃ v0_ : Value, e = .returned (v0_) ∧ Kd.R Kd.string 9 w' w.heap.size (fun _ => True) v0_ r ∧ Below w.heap.size w w' := by
  have HB := Aside0.mk (Below.refl w.heap.size w)
  have H : ((hearsayref01_Split.f k a0).bind fun bt313 => (if bt313.2 = true then (some bt313.1) else (some ([] : List ByteArray)))) = some r := h
  clear h
  replace H := Option.bind_eq_some_iff.mp H
  obtain ⟨⟨t313, t314⟩, A20, H⟩ := H
  replace H : (if t314 = true then (some t313) else (some ([] : List ByteArray))) = some r := H
  have A2 := Aside0.mk A20
  clear A20
  by_cases c3 : t314 = true
  · subst c3
    have H1 : (some t313) = some r := by rw [if_pos rfl] at H; exact H
    clear H
    have H := H1
    clear H1
    obtain rfl := Option.some.inj H
    go_enter Try.func57, Try.ntmps57
    go_wp2_with (first | ((with_reducible refine gate_callee (f := 13) rfl ?_); refine goesL_ (some 7) rfl rfl Try.func13 (by kernel_rfl) rfl #[.string a0] rfl (by (try simp only [List.map_toArray, List.map_cons, List.map_nil]); first | done | rfl | (simp only [List.length_drop, List.length_take]; rfl)) ?_; (with_reducible refine (hearsayref01_Split.calls k a0 t313 true _ A2.out).mono ?_); rintro e w4 ⟨v315, rfl, ho0, hb⟩; refine ⟨_, rfl, ?_⟩; have n0_ := Aside0.mk (Kd.R_lower ho0 (below_size (by repeat (first | (with_reducible first | exact HB.out | apply below_alloc | apply pw_below_drewN | apply below_drew1) | exact HB.out)))); have n1_ := Aside0.mk (below_step (by repeat (first | (with_reducible first | exact HB.out | apply below_alloc | apply pw_below_drewN | apply below_drew1) | exact HB.out)) hb); clear HB; have HO316 := n0_; have HB := n1_; clear n0_ n1_; (try clear hb); (try clear hb2); (try clear hk); (try clear hi); (try clear ho0)))
    go_ret
    exact ⟨_, by first | rfl | (simp [errW_none, errW_some] <;> rfl) | (simp [*, errW_none, errW_some] <;> rfl), by (with_reducible repeat (first | apply Kd.R_alloc | apply Kd.R_drewN | apply Kd.R_drew)); exact HO316.out, by repeat (first | (with_reducible first | exact HB.out | apply below_alloc | apply pw_below_drewN | apply below_drew1) | exact HB.out)⟩
  · replace c3 := Bool.eq_false_iff.mpr c3
    subst c3
    have H1 : (some ([] : List ByteArray)) = some r := by rw [if_neg (show ¬ (false = true) by decide)] at H; exact H
    clear H
    have H := H1
    clear H1
    obtain rfl := Option.some.inj H
    go_enter Try.func57, Try.ntmps57
    go_wp2_with (first | ((with_reducible refine gate_callee (f := 13) rfl ?_); refine goesL_ (some 7) rfl rfl Try.func13 (by kernel_rfl) rfl #[.string a0] rfl (by (try simp only [List.map_toArray, List.map_cons, List.map_nil]); first | done | rfl | (simp only [List.length_drop, List.length_take]; rfl)) ?_; (with_reducible refine (hearsayref01_Split.calls k a0 t313 false _ A2.out).mono ?_); rintro e w5 ⟨v315, rfl, ho0, hb⟩; refine ⟨_, rfl, ?_⟩; have n0_ := Aside0.mk (Kd.R_lower ho0 (below_size (by repeat (first | (with_reducible first | exact HB.out | apply below_alloc | apply pw_below_drewN | apply below_drew1) | exact HB.out)))); have n1_ := Aside0.mk (below_step (by repeat (first | (with_reducible first | exact HB.out | apply below_alloc | apply pw_below_drewN | apply below_drew1) | exact HB.out)) hb); clear HB; have HO316 := n0_; have HB := n1_; clear n0_ n1_; (try clear hb); (try clear hb2); (try clear hk); (try clear hi); (try clear ho0)))
    go_ret
    exact ⟨_, by first | rfl | (simp [errW_none, errW_some] <;> rfl) | (simp [*, errW_none, errW_some] <;> rfl), by first | exact Kd.R_nil _ _ _ _ _ | exact Kd.N_nil _ _ _ _ _ | exact Kd.V_nil _ _ _ _ _ | exact Kd.Q_nil _ _ _ _ _ | exact Kd.S_nil _ _ _ _ _, by repeat (first | (with_reducible first | exact HB.out | apply below_alloc | apply pw_below_drewN | apply below_drew1) | exact HB.out)⟩

end Go.Proofs.Ytplnknhlgdoliaa.Print
end
section
/- hearsayref01.Glue, walked: labels as a name. -/
namespace Go.Proofs.Ytplnknhlgdoliaa.Print
set_option linter.unusedVariables false
set_option linter.unusedSimpArgs false
open Go.RowKit Go.Proofs.YtplnknhlgdoliaaW.PrintWords Go.Proofs.YtplnknhlgdoliaaW.PrintLast Go.Proofs.YtplnknhlgdoliaaW.PrintMore
/-- a label with its length ahead, the length as one byte -/
def labw (s : ByteArray) : List Int := ((s.size : Int) % 256) :: bytesOf s
def gluew (l : List ByteArray) : List Int := l.flatMap labw
def hearsayref01_Glue.f (l : List ByteArray) : Option ByteArray := if (gluew l).length + 1 ≤ 9223372036854775807 then some (strOfNums (gluew l ++ [0])) else none
theorem strOfNums_append (a b : List Int) : strOfNums a ++ strOfNums b = strOfNums (a ++ b) := by
  apply ByteArray.ext
  apply Array.ext'
  simp [strOfNums]
theorem strOfNums_bytes (s : ByteArray) : strOfNums (bytesOf s) = s := by
  apply ByteArray.ext
  apply Array.ext'
  rw [strOfNums_data]
  unfold bytesOf
  rw [List.map_map]
  conv => rhs; rw [← List.map_id s.data.toList]
  refine List.map_congr_left fun b _ => ?_
  simp
theorem gluew_snoc (l : List ByteArray) (s : ByteArray) : gluew (l ++ [s]) = gluew l ++ labw s := by simp [gluew]
theorem labw_length (s : ByteArray) : (labw s).length = s.size + 1 := by simp [labw, bytesOf_length]
theorem gluew_mono (l : List ByteArray) (k : Nat) : (gluew (l.take k)).length ≤ (gluew l).length := by
  conv => rhs; rw [← List.take_append_drop k l]
  simp only [gluew, List.flatMap_append, List.length_append]
  omega
theorem one_string (W : World) (x : Int) : (convert 58 9 (.slice (some ⟨W.heap.size, 0, none⟩) 1 1)).run Try.prog (W.alloc (.cells #[.int .u8 x] 5)) = .ok (.string (strOfNums [x])) (W.alloc (.cells #[.int .u8 x] 5)) := by
  refine string_of_reads Try.underlying58 Try.underlying5 Try.underlying9 ⟨rfl, by decide, fun _ => ⟨_, rfl, fun j hj => ?_⟩⟩
  obtain rfl : j = 0 := by omega
  rw [add_plain]
  exact cell_fresh W (.int .u8 x) 5
theorem one_string_drew (W : World) (x : Int) : (convert 58 9 (.slice (some ⟨W.heap.size, 0, none⟩) 1 1)).run Try.prog (W.alloc (.cells #[.int .u8 x] 5)).drew = .ok (.string (strOfNums [x])) (W.alloc (.cells #[.int .u8 x] 5)).drew := by
  refine string_of_reads Try.underlying58 Try.underlying5 Try.underlying9 ⟨rfl, by decide, fun _ => ⟨_, rfl, fun j hj => ?_⟩⟩
  obtain rfl : j = 0 := by omega
  rw [add_plain]
  exact cell_fresh W (.int .u8 x) 5
set_option maxHeartbeats 4000000 in
set_option maxRecDepth 100000 in
theorem hearsayref01_Glue.calls (A0 : Option Addr) (c0 : Nat) (l0 : List ByteArray) (r : ByteArray) (w : World) (hr0 : Kd.C Kd.string w A0 l0.length l0) (hc0 : l0.length ≤ c0) (h : hearsayref01_Glue.f l0 = some r) :
    Calls Try.prog 50 #[.slice A0 l0.length c0] w fun e w' => e = .returned (.string r) ∧ Below w.heap.size w w' := by
  unfold hearsayref01_Glue.f at h
  by_cases hsz : (gluew l0).length + 1 ≤ 9223372036854775807
  · rw [if_pos hsz] at h
    simp only [Option.some.injEq] at h
    subst h
    have HR := Aside0.mk hr0
    have hml : l0.length ≤ 9223372036854775807 := Kd.C_max hr0
    clear hr0 hc0
    have HB0 := Aside0.mk (Below.refl w.heap.size w)
    go_enter Try.func50, Try.ntmps50
    go_wp2
    go_loopw [3, 4] (fun sv i wr => ∃ (k : Nat), k ≤ l0.length ∧ sv = .string (strOfNums (gluew (l0.take k))) ∧ i = .int .i64 k ∧ Aside0 (Below w.heap.size w wr)) (fun _ i _ => l0.length - (intOf i).toNat)
    case atStart => exact ⟨0, Nat.zero_le _, rfl, rfl, HB0⟩
    case round =>
      clear HB0
      obtain ⟨k, hk, rfl, rfl, HB⟩ := hrel
      have hgk := gluew_mono l0 k
      obtain ⟨acc, hacc⟩ : ∃ acc, acc = strOfNums (gluew (l0.take k)) := ⟨_, rfl⟩
      have hal : acc.size = (gluew (l0.take k)).length := by rw [hacc, strOfNums_size]
      by_cases hlt : k < l0.length
      · obtain ⟨ad, hA, hcell⟩ := Kd.at_string (Kd.C_below HR.out HB.out) (k : Int) (by omega) (by omega)
        obtain ⟨s, hs⟩ : ∃ s, l0[k]? = some s := ⟨l0[k], List.getElem?_eq_getElem hlt⟩
        have hrd : rdOf ByteArray.empty l0 (k : Int) = s := by simp [rdOf, List.getD_eq_getElem?_getD, hs]
        rw [hrd] at hcell
        simp only [Int.toNat_natCast] at hcell
        subst hA
        have hg1 : gluew (l0.take (k + 1)) = gluew (l0.take k) ++ labw s := by rw [take_succ' hs, gluew_snoc]
        have hgk1 := gluew_mono l0 (k + 1)
        rw [hg1, List.length_append, labw_length] at hgk1
        have hw8 : IntKind.u8.wrap (s.size : Int) = (s.size : Int) % 256 := by simp [IntKind.wrap, IntKind.bits, IntKind.signed]
        have hnew : acc ++ strOfNums [(s.size : Int) % 256] ++ s = strOfNums (gluew (l0.take (k + 1))) := by
          rw [hg1, hacc, strOfNums_append]
          conv => lhs; rhs; rw [← strOfNums_bytes s]
          rw [strOfNums_append]
          simp [labw]
        obtain ⟨t1, ht1⟩ : ∃ t1, t1 = strOfNums [IntKind.u8.wrap (s.size : Int)] := ⟨_, rfl⟩
        rw [← hw8, ← ht1] at hnew
        have ht1s : t1.size = 1 := by rw [ht1, strOfNums_size]; rfl
        have hsum1 : (9223372036854775807 < acc.size + t1.size) = False := eq_false (by omega)
        have hsum2 : (9223372036854775807 < (acc ++ t1).size + s.size) = False := eq_false (by rw [ByteArray.size_append]; omega)
        have hsum3 : (9223372036854775807 < acc.size + t1.size + s.size) = False := eq_false (by omega)
        have HN := Aside0.mk hnew
        have HT1 := Aside0.mk ht1
        rw [← hacc]
        clear hnew hg1 hs hrd hacc hw8 ht1 ht1s hal
        have h0k : (0 : Int) ≤ (k : Int) := by omega
        have h1k : (k : Int) < (l0.length : Int) := by omega
        have HBd := Aside0.mk (below_drew HB.out)
        have hcelld : wr.drew.cell? (ad.add k) = some (.string s) := pw_cell_below (below_drew (Below.refl _ _)) hcell
        go_wp2
        refine start_ (n := 16) (S := (fun w' => w'.cell? (ad.add k) = some (.string s))) (ds := []) #[false, false, false, false, false, false, false, false, false, false, false, false, false, false, false, false] (by kernel_rfl) rfl rfl hcelld (fun hHeld => ?_)
        generalize wr.drew = wd at HBd hcelld hHeld ⊢
        refine pure_ (i := 0) (N := some 11) (v := ?_) (a' := ?_) #[true, false, false, false, false, false, false, false, false, false, false, false, false, false, false, false] rfl rfl (by kernel_rfl) (fun _ _ _ h => h) (Or.inl ⟨by rfl, ?_⟩) ?_ ?_
        rotate_left
        · intro w'
          go_simp
          with_reducible rfl
        rotate_left
        · simp only [Act.put, List.setIfInBounds_toArray, List.set_cons_zero, List.set_cons_succ, i64_w, i32_w]
          rfl
        refine pure_ (i := 1) (N := some 12) (v := ?_) (a' := ?_) #[true, true, false, false, false, false, false, false, false, false, false, false, false, false, false, false] rfl rfl (by kernel_rfl) (fun _ _ _ h => h) (Or.inl ⟨by rfl, ?_⟩) ?_ ?_
        rotate_left
        · intro w'
          go_simp
          with_reducible rfl
        rotate_left
        · simp only [Act.put, List.setIfInBounds_toArray, List.set_cons_zero, List.set_cons_succ, i64_w, i32_w]
          rfl
        refine pure_ (i := 2) (N := some 13) (v := ?_) (a' := ?_) #[true, true, true, false, false, false, false, false, false, false, false, false, false, false, false, false] rfl rfl (by kernel_rfl) (fun _ _ _ h => h) (Or.inl ⟨by rfl, ?_⟩) ?_ ?_
        rotate_left
        · intro w'
          go_simp
          with_reducible rfl
        rotate_left
        · simp only [Act.put, List.setIfInBounds_toArray, List.set_cons_zero, List.set_cons_succ, i64_w, i32_w]
          rfl
        refine pure_ (i := 3) (N := some 14) (v := ?_) (a' := ?_) #[true, true, true, true, false, false, false, false, false, false, false, false, false, false, false, false] rfl rfl (by kernel_rfl) (fun _ _ _ h => h) (Or.inl ⟨by rfl, ?_⟩) ?_ ?_
        rotate_left
        · intro w'
          go_simp
          with_reducible rfl
        rotate_left
        · simp only [Act.put, List.setIfInBounds_toArray, List.set_cons_zero, List.set_cons_succ, i64_w, i32_w]
          rfl
        refine take_ (i := 4) (N := some 15) (v := ?_) (a' := ?_) #[true, true, true, true, true, false, false, false, false, false, false, false, false, false, false, false] rfl rfl (by kernel_rfl) (fun _ _ _ h => h) (Or.inl ⟨by rfl, ?_⟩) hHeld ?_ ?_
        rotate_left
        · rintro w' hs0
          go_simp
          with_reducible rfl
        rotate_left
        · simp only [Act.put, List.setIfInBounds_toArray, List.set_cons_zero, List.set_cons_succ, i64_w, i32_w]
          rfl
        refine pure_ (i := 5) (N := some 16) (v := ?_) (a' := ?_) #[true, true, true, true, true, true, false, false, false, false, false, false, false, false, false, false] rfl rfl (by kernel_rfl) (fun _ _ _ h => h) (Or.inl ⟨by rfl, ?_⟩) ?_ ?_
        rotate_left
        · intro w'
          go_simp
          with_reducible rfl
        rotate_left
        · simp only [Act.put, List.setIfInBounds_toArray, List.set_cons_zero, List.set_cons_succ, i64_w, i32_w]
          rfl
        refine pure_ (i := 6) (N := some 17) (v := ?_) (a' := ?_) #[true, true, true, true, true, true, true, false, false, false, false, false, false, false, false, false] rfl rfl (by kernel_rfl) (fun _ _ _ h => h) (Or.inl ⟨by rfl, ?_⟩) ?_ ?_
        rotate_left
        · intro w'
          go_simp
          with_reducible rfl
        rotate_left
        · simp only [Act.put, List.setIfInBounds_toArray, List.set_cons_zero, List.set_cons_succ, i64_w, i32_w]
          rfl
        refine pure_ (i := 10) (N := some 21) (v := ?_) (a' := ?_) #[true, true, true, true, true, true, true, false, false, false, true, false, false, false, false, false] rfl rfl (by kernel_rfl) (fun _ _ _ h => h) (Or.inl ⟨by rfl, ?_⟩) ?_ ?_
        rotate_left
        · intro w'
          go_simp
          with_reducible rfl
        rotate_left
        · simp only [Act.put, List.setIfInBounds_toArray, List.set_cons_zero, List.set_cons_succ, i64_w, i32_w]
          rfl
        refine pure_ (i := 11) (N := some 22) (v := ?_) (a' := ?_) #[true, true, true, true, true, true, true, false, false, false, true, true, false, false, false, false] rfl rfl (by kernel_rfl) (fun _ _ _ h => h) (Or.inl ⟨by rfl, ?_⟩) ?_ ?_
        rotate_left
        · intro w'
          go_simp
          with_reducible rfl
        rotate_left
        · simp only [Act.put, List.setIfInBounds_toArray, List.set_cons_zero, List.set_cons_succ, i64_w, i32_w]
          rfl
        refine pure_ (i := 12) (N := some 23) (v := ?_) (a' := ?_) #[true, true, true, true, true, true, true, false, false, false, true, true, true, false, false, false] rfl rfl (by kernel_rfl) (fun _ _ _ h => h) (Or.inl ⟨by rfl, ?_⟩) ?_ ?_
        rotate_left
        · intro w'
          go_simp
          with_reducible rfl
        rotate_left
        · simp only [Act.put, List.setIfInBounds_toArray, List.set_cons_zero, List.set_cons_succ, i64_w, i32_w]
          rfl
        refine take_ (i := 13) (N := some 24) (v := ?_) (a' := ?_) #[true, true, true, true, true, true, true, false, false, false, true, true, true, true, false, false] rfl rfl (by kernel_rfl) (fun _ _ _ h => h) (Or.inl ⟨by rfl, ?_⟩) hHeld ?_ ?_
        rotate_left
        · rintro w' hs0
          go_simp
          with_reducible rfl
        rotate_left
        · simp only [Act.put, List.setIfInBounds_toArray, List.set_cons_zero, List.set_cons_succ, i64_w, i32_w]
          rfl
        refine one_ (i := 7) (N := some 18) #[true, true, true, true, true, true, true, true, false, false, true, true, true, true, false, false] rfl rfl (by kernel_rfl) (by decide) (fun K hK => ?_)
        refine value_ (v := .slice (some ⟨wd.heap.size, 0, none⟩) 1 1) (w1 := wd.alloc (.cells #[.int .u8 (IntKind.u8.wrap (s.size : Int))] 5)) (by rfl) rfl ?_ ?_
        · go_simp
          try with_reducible rfl
        refine hK.out _ _ (pw_cell_below (below_alloc (Below.refl _ _) _) hHeld) (fun hHeld => ?_)
        clear hK K
        refine norm_ (a' := ?_) ?_ ?_
        rotate_left
        · show Act.put _ (some 18) _ = _
          simp only [Act.put, List.setIfInBounds_toArray, List.set_cons_zero, List.set_cons_succ, i64_w, i32_w]
          rfl
        have hone := one_string wd (IntKind.u8.wrap (s.size : Int))
        rw [← HT1.out] at hone
        refine one_ (i := 8) (N := some 19) #[true, true, true, true, true, true, true, true, true, false, true, true, true, true, false, false] rfl rfl (by kernel_rfl) (by decide) (fun K hK => ?_)
        refine value_ (v := .string t1) (w1 := wd.alloc (.cells #[.int .u8 (IntKind.u8.wrap (s.size : Int))] 5)) (by rfl) rfl ?_ ?_
        · go_simp
          try with_reducible rfl
        refine hK.out _ _ hHeld (fun hHeld => ?_)
        clear hK K
        refine norm_ (a' := ?_) ?_ ?_
        rotate_left
        · show Act.put _ (some 19) _ = _
          simp only [Act.put, List.setIfInBounds_toArray, List.set_cons_zero, List.set_cons_succ, i64_w, i32_w]
          rfl
        refine pure_ (i := 9) (N := some 20) (v := ?_) (a' := ?_) #[true, true, true, true, true, true, true, true, true, true, true, true, true, true, false, false] rfl rfl (by kernel_rfl) (fun _ _ _ h => h) (Or.inl ⟨by rfl, ?_⟩) ?_ ?_
        rotate_left
        · intro w'
          go_simp
          with_reducible rfl
        rotate_left
        · simp only [Act.put, List.setIfInBounds_toArray, List.set_cons_zero, List.set_cons_succ, i64_w, i32_w]
          rfl
        refine pure_ (i := 14) (N := some 25) (v := ?_) (a' := ?_) #[true, true, true, true, true, true, true, true, true, true, true, true, true, true, true, false] rfl rfl (by kernel_rfl) (fun _ _ _ h => h) (Or.inl ⟨by rfl, ?_⟩) ?_ ?_
        rotate_left
        · intro w'
          go_simp
          with_reducible rfl
        rotate_left
        · simp only [Act.put, List.setIfInBounds_toArray, List.set_cons_zero, List.set_cons_succ, i64_w, i32_w]
          rfl
        refine pure_ (i := 15) (N := some 3) (v := ?_) (a' := ?_) #[true, true, true, true, true, true, true, true, true, true, true, true, true, true, true, true] rfl rfl (by kernel_rfl) (fun _ _ _ h => h) (Or.inl ⟨by rfl, ?_⟩) ?_ ?_
        rotate_left
        · intro w'
          go_simp
          with_reducible rfl
        rotate_left
        · simp only [Act.put, List.setIfInBounds_toArray, List.set_cons_zero, List.set_cons_succ, i64_w, i32_w]
          rfl
        refine done_ (by kernel_rfl) ?_
        go_wp2
        go_roundw
        case rel => exact ⟨k + 1, by omega, by first | (rw [← HN.out]; done) | (rw [← HN.out]; simp; done), by go_num, ⟨by repeat (first | (with_reducible first | exact HBd.out | apply below_alloc | apply pw_below_drewN | apply below_drew1) | exact HBd.out)⟩⟩
        case measure => simp [intOf]; omega
      · have hge : (l0.take k) = l0 := List.take_of_length_le (by omega)
        have hfin : acc ++ (⟨#[0]⟩ : ByteArray) = strOfNums (gluew l0 ++ [0]) := by
          rw [← strOfNums_append, hacc, hge]; rfl
        have hsum : acc.size + 1 ≤ 9223372036854775807 := by rw [hal, hge]; omega
        have HF := Aside0.mk hfin
        rw [← hacc]
        clear hfin hge hacc hal hgk
        go_wp2
        go_ret
        exact ⟨by first | (rw [← HF.out]; done) | (rw [← HF.out]; simp; done), HB.out⟩
  · rw [if_neg hsz] at h; exact absurd h (by simp)
end Go.Proofs.Ytplnknhlgdoliaa.Print
end
section
-- Written by a program of this session, built on the kit's print (it is not the print's own text).
namespace Go.Proofs.Ytplnknhlgdoliaa.Print
open Go.RowKit Go.Proofs.YtplnknhlgdoliaaW.PrintWords Go.Proofs.YtplnknhlgdoliaaW.PrintLast Go.Proofs.YtplnknhlgdoliaaW.PrintMore
attribute [local go_sem] max2_int min2_int max_two min_two max_three min_three max_four min_four   -- for this text's walks alone
set_option linter.unusedVariables false
set_option linter.unusedSimpArgs false

/-! ### hearsayref01_Parent: function 36 -/
def hearsayref01_Parent.f (k : Nat) (a0 : ByteArray) : Option (ByteArray × Bool) := (hearsayref01_Labels.f k a0).bind fun t317 => (if (t317.length : Int) = 0 then (some ((⟨#[]⟩ : ByteArray), false)) else (if 1 ≤ (t317.length : Int) then ((hearsayref01_Glue.f (t317.drop 1)).bind fun t324 => (some (t324, true))) else (none)))
theorem hearsayref01_Parent.mono : ∀ a0 k, LeO (hearsayref01_Parent.f k a0) (hearsayref01_Parent.f (k + 1) a0) := by
  intro a0 k
  unfold hearsayref01_Parent.f
  repeat' first
      | (with_reducible exact hearsayref01_Labels.mono _ _)
      | (with_reducible exact LeO.refl _)
      | (with_reducible exact LeO.none _)
      | (with_reducible refine LeO.ite ?_ ?_)
      | (with_reducible refine LeO.bind ?_ (fun _ => ?_))
      | exact hearsayref01_Labels.mono _ _
      | exact LeO.none _
      | refine LeO.ite ?_ ?_
      | refine LeO.bind ?_ (fun _ => ?_)
set_option maxHeartbeats 8000000 in
set_option maxRecDepth 100000 in
theorem hearsayref01_Parent.calls (k : Nat) (a0 : ByteArray) (r1 : ByteArray) (r2 : Bool) (w : World) (h : hearsayref01_Parent.f k a0 = some (r1, r2)) :
    Calls Try.prog 36 #[.string a0] w fun e w' => e = .returned (.tuple #[.string r1, .bool r2]) ∧ Below w.heap.size w w' := by
  have HB := Aside0.mk (Below.refl w.heap.size w)
  have H : ((hearsayref01_Labels.f k a0).bind fun t317 => (if (t317.length : Int) = 0 then (some ((⟨#[]⟩ : ByteArray), false)) else (if 1 ≤ (t317.length : Int) then ((hearsayref01_Glue.f (t317.drop 1)).bind fun t324 => (some (t324, true))) else (none)))) = some (r1, r2) := h
  clear h
  replace H := Option.bind_eq_some_iff.mp H
  obtain ⟨t317, A20, H⟩ := H
  replace H : (if (t317.length : Int) = 0 then (some ((⟨#[]⟩ : ByteArray), false)) else (if 1 ≤ (t317.length : Int) then ((hearsayref01_Glue.f (t317.drop 1)).bind fun t324 => (some (t324, true))) else (none))) = some (r1, r2) := H
  have A2 := Aside0.mk A20
  clear A20
  by_cases c3 : (t317.length : Int) = 0
  · rw [if_pos c3] at H
    have c3b0 : ((t317.length : Int) == 0) = true := beq_iff_eq.mpr c3
    have c3b1 : ((t317.length : Int) != 0) = false := bne_eq_false_iff_eq.mpr c3
    clear c3
    simp only [Option.some.injEq, Prod.mk.injEq] at H
    obtain ⟨rfl, rfl⟩ := H
    go_enter Try.func36, Try.ntmps36
    go_wp2_with (first | ((with_reducible refine gate_callee (f := 57) rfl ?_); refine goesL_ (some 6) rfl rfl Try.func57 (by kernel_rfl) rfl #[.string a0] rfl (by (try simp only [List.map_toArray, List.map_cons, List.map_nil]); first | done | rfl | (simp only [List.length_drop, List.length_take]; rfl)) ?_; (with_reducible refine (hearsayref01_Labels.calls k a0 t317 _ A2.out).mono ?_); rintro e w4 ⟨v318, rfl, ho0, hb⟩; refine ⟨_, rfl, ?_⟩; have n0_ := Aside0.mk (Kd.R_lower ho0 (below_size (by repeat (first | (with_reducible first | exact HB.out | apply below_alloc | apply pw_below_drewN | apply below_drew1) | exact HB.out)))); have n1_ := Aside0.mk (below_step (by repeat (first | (with_reducible first | exact HB.out | apply below_alloc | apply pw_below_drewN | apply below_drew1) | exact HB.out)) hb); clear HB; have HO319 := n0_; have HB := n1_; clear n0_ n1_; (try clear hb); (try clear hb2); (try clear hk); (try clear hi); (try clear ho0); obtain ⟨Ao5, co5, eo5⟩ := Kd.R_slice HO319.out; subst eo5))
    go_ret2
    exact ⟨by first | rfl | (simp [errW_none, errW_some] <;> rfl) | (simp [*, errW_none, errW_some] <;> rfl), by repeat (first | (with_reducible first | exact HB.out | apply below_alloc | apply pw_below_drewN | apply below_drew1) | exact HB.out)⟩
  · rw [if_neg c3] at H
    have c3b0 : ((t317.length : Int) == 0) = false := beq_eq_false_iff_ne.mpr c3
    have c3b1 : ((t317.length : Int) != 0) = true := bne_iff_ne.mpr c3
    have c3b2 : ¬ (t317 = []) := fun h_ => c3 (by rw [h_]; rfl)
    by_cases c6 : 1 ≤ (t317.length : Int)
    · rw [if_pos c6] at H
      have c6b0 := eq_true c6
      have c6b1 : decide (1 ≤ (t317.length : Int)) = true := decide_eq_true c6
      clear c6
      obtain ⟨y320, hy320⟩ : ∃ y_ : List ByteArray, y_ = (t317.drop 1) := ⟨_, rfl⟩
      replace H : ((hearsayref01_Glue.f y320).bind fun t324 => (some (t324, true))) = some (r1, r2) := by first | (rw [hy320]; with_reducible exact H) | (have H2_ := (Option.bind_some _ _).symm.trans H; rw [hy320]; with_reducible exact H2_) | (have H2_ := (Option.bind_some _ _).symm.trans H; with_reducible exact H2_) | with_reducible exact H | (rw [hy320]; exact H) | exact H
      have Ny320 := Aside0.mk hy320
      clear hy320
      replace H := Option.bind_eq_some_iff.mp H
      obtain ⟨t324, A70, H⟩ := H
      replace H : (some (t324, true)) = some (r1, r2) := H
      have A7 := Aside0.mk A70
      clear A70
      simp only [Option.some.injEq, Prod.mk.injEq] at H
      obtain ⟨rfl, rfl⟩ := H
      go_enter Try.func36, Try.ntmps36
      go_wp2_with (first | ((with_reducible refine gate_callee (f := 57) rfl ?_); refine goesL_ (some 6) rfl rfl Try.func57 (by kernel_rfl) rfl #[.string a0] rfl (by (try simp only [List.map_toArray, List.map_cons, List.map_nil]); first | done | rfl | (simp only [List.length_drop, List.length_take]; rfl)) ?_; (with_reducible refine (hearsayref01_Labels.calls k a0 t317 _ A2.out).mono ?_); rintro e w8 ⟨v318, rfl, ho0, hb⟩; refine ⟨_, rfl, ?_⟩; have n0_ := Aside0.mk (Kd.R_lower ho0 (below_size (by repeat (first | (with_reducible first | exact HB.out | apply below_alloc | apply pw_below_drewN | apply below_drew1) | exact HB.out)))); have n1_ := Aside0.mk (below_step (by repeat (first | (with_reducible first | exact HB.out | apply below_alloc | apply pw_below_drewN | apply below_drew1) | exact HB.out)) hb); clear HB; have HO319 := n0_; have HB := n1_; clear n0_ n1_; (try clear hb); (try clear hb2); (try clear hk); (try clear hi); (try clear ho0); obtain ⟨Ao9, co9, eo9⟩ := Kd.R_slice HO319.out; subst eo9; have q10 : (1 : Int) ≤ ((t317.length : Int) : Int) := of_decide_eq_true (by first | (with_reducible assumption) | assumption); obtain ⟨i010, hi010, _, hsz10, _⟩ := info_parts info9; have hroom10 : t317.length ≤ co9 := (Kd.R_reads' HO319.out).2.1; have hC10 : Kd.C Kd.string _ Ao9 t317.length t317 := (Kd.R_reads' HO319.out).2.2; have hcut10 := cut_from (P := Try.prog) 23 9 .i64 Try.underlying23 hi010 1 hsz10 Ao9 t317.length co9 1 (by omega) q10; have hr10 := Kd.C_drop (m := (1 : Int).toNat) (c := co9) hC10 (by omega) hroom10; obtain ⟨A10, hA10⟩ : ∃ A1, A1 = (if co9 = (1 : Int).toNat then Ao9 else (Ao9 : Option Addr).map (·.add ((1 : Int).toNat * 1))) := ⟨_, rfl⟩; obtain ⟨c10, hc10⟩ : ∃ c1, c1 = co9 - (1 : Int).toNat := ⟨_, rfl⟩; have hy10 : y320.length = t317.length - (1 : Int).toNat := (by rw [Ny320.out, List.length_drop] <;> omega); rw [show (t317).drop (1 : Int).toNat = y320 from Ny320.out.symm] at hr10; replace hr10 : Kd.C Kd.string _ A10 y320.length y320 := (by rw [hA10]; exact hr10); rw [← hy10, ← hA10, ← hc10] at hcut10; have HR323 := Aside0.mk hr10; have HC323 := Aside0.mk (show y320.length ≤ c10 from by rw [hy10, hc10]; exact Nat.sub_le_sub_right hroom10 _); clear hr10 hC10 hroom10 hi010 hsz10 hc10; have KY10 := Aside0.mk hy10; have KA10 := Aside0.mk hA10; clear hy10 hA10; have KL10 := Aside0.mk (show 1 ≤ t317.length from by omega); replace q10 := eq_true q10) | ((with_reducible refine gate_callee (f := 50) rfl ?_); refine goesL_ (some 12) rfl rfl Try.func50 (by kernel_rfl) rfl #[.slice A10 y320.length c10] rfl (by (try simp only [List.map_toArray, List.map_cons, List.map_nil]); first | done | rfl | (simp only [List.length_drop, List.length_take]; rfl)) ?_; (with_reducible refine (hearsayref01_Glue.calls _ _ y320 t324 _ ?side1 ?side2 A7.out).mono ?_); (case side1 => repeat (first | exact (by repeat (first | (with_reducible exact HR323.out) | (with_reducible refine Kd.C_alloc ?_ _) | (with_reducible refine Kd.C_drewN ?_ _) | (with_reducible refine Kd.C_drew ?_) | exact HR323.out)) | (with_reducible refine Kd.C_alloc ?_ _) | (with_reducible refine Kd.C_drewN ?_ _) | (with_reducible refine Kd.C_drew ?_))); (case side2 => exact HC323.out); rintro e w11 ⟨rfl, hb⟩; refine ⟨_, rfl, ?_⟩; have n0_ := Aside0.mk (Kd.R_below (by (with_reducible repeat (first | apply Kd.R_alloc | apply Kd.R_drewN | apply Kd.R_drew)); exact HO319.out) hb); have n1_ := Aside0.mk (Kd.C_below (by repeat (first | (with_reducible exact HR323.out) | (with_reducible refine Kd.C_alloc ?_ _) | (with_reducible refine Kd.C_drewN ?_ _) | (with_reducible refine Kd.C_drew ?_) | exact HR323.out)) hb); have n2_ := Aside0.mk (below_step (by repeat (first | (with_reducible first | exact HB.out | apply below_alloc | apply pw_below_drewN | apply below_drew1) | exact HB.out)) hb); clear HO319; clear HR323; clear HB; have HO319 := n0_; have HR323 := n1_; have HB := n2_; clear n0_ n1_ n2_; (try clear hb); (try clear hb2); (try clear hk); (try clear hi)))
      go_ret2
      exact ⟨by first | rfl | (simp [errW_none, errW_some] <;> rfl) | (simp [*, errW_none, errW_some] <;> rfl), by repeat (first | (with_reducible first | exact HB.out | apply below_alloc | apply pw_below_drewN | apply below_drew1) | exact HB.out)⟩
    · rw [if_neg c6] at H
      exact absurd H (by simp)

end Go.Proofs.Ytplnknhlgdoliaa.Print
end
