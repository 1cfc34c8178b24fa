/- Plain laws of names: their labels, and what the printed functions starts, Check, Labels, Count, Split tell of them. -/
import Derived.Test.YtfcmphigmfdceaaXOf
import Derived.Test.YtfcmphigmfdceaaF38
import Derived.Test.YtfcmphigmfdceaaF29
import Derived.Test.YtfcmphigmfdceaaF52
import Derived.Test.YtfcmphigmfdceaaF54
import Derived.Test.YtfcmphigmfdceaaF33
namespace Go.Proofs.Ytfcmphigmfdceaa.Print
set_option linter.unusedVariables false
set_option linter.unusedSimpArgs false
open Go.RowKit Go.Proofs.YtfcmphigmfdceaaW.PrintWords Go.Proofs.YtfcmphigmfdceaaW.PrintLast Go.Proofs.YtfcmphigmfdceaaW.PrintMore
theorem strOfNums_bytes' (s : ByteArray) : strOfNums (bytesOf s) = s := by
  apply ByteArray.ext
  apply Array.ext'
  rw [strOfNums_data]
  unfold bytesOf
  rw [List.map_map]
  conv => rhs; rw [← List.map_id s.data.toList]
  refine List.map_congr_left fun b _ => ?_
  simp
theorem bytes_inj {a b : ByteArray} (h : bytesOf a = bytesOf b) : a = b := by rw [← strOfNums_bytes' a, h, strOfNums_bytes']
theorem bytes_strOfNums (xs : List Int) (h : ∀ x ∈ xs, 0 ≤ x ∧ x < 256) : bytesOf (strOfNums xs) = xs := by
  unfold bytesOf
  rw [strOfNums_data, List.map_map]
  conv => rhs; rw [← List.map_id xs]
  refine List.map_congr_left fun x hx => ?_
  obtain ⟨h0, h1⟩ := h x hx
  simp only [Function.comp_apply, UInt8.toNat_ofNat', id_eq]
  omega
theorem bytes_extract (s : ByteArray) (a b : Nat) : bytesOf (s.extract a b) = ((bytesOf s).drop a).take (b - a) := by
  unfold bytesOf
  rw [Lib.extract_data, List.map_take, List.map_drop]
theorem w64 {n : Int} (h0 : -9223372036854775808 ≤ n) (h1 : n ≤ 9223372036854775807) : wrap64 n = n := by unfold wrap64; omega
/-! ### labels -/
def cutF : Nat → List Int → Option (List ByteArray)
  | 0, _ => none
  | _ + 1, [] => none
  | k + 1, c :: r => if c = 0 then (if r = [] then some [] else none) else if 63 < c then none else if r.length < c.toNat then none else (cutF k (r.drop c.toNat)).map (strOfNums (r.take c.toNat) :: ·)
def cut (l : List Int) : Option (List ByteArray) := cutF (l.length + 1) l
theorem cutF_enough : ∀ (k : Nat) (l : List Int), l.length < k → cutF k l = cut l := by
  intro k
  induction k with
  | zero => intro l h; omega
  | succ k ih =>
    intro l h
    cases l with
    | nil => rfl
    | cons c r =>
      simp only [cut, cutF, List.length_cons]
      rw [ih (r.drop c.toNat) (by simp at h ⊢; omega)]
      have e : cutF (r.length + 1) (r.drop c.toNat) = cut (r.drop c.toNat) := by
        unfold cut
        rcases Nat.lt_or_ge (r.drop c.toNat).length k with h1 | h1
        · have h2 := ih (r.drop c.toNat) h1
          rcases Nat.lt_or_ge r.length k with h3 | h3
          · by_cases h4 : (r.drop c.toNat).length = r.length
            · rw [h4]
            · have h5 : (r.drop c.toNat).length < r.length := by simp at h4 ⊢; omega
              clear h2
              exact cutF_mono _ _ _ (by omega) (by omega)
          · simp at h; omega
        · simp at h h1; omega
      rw [e]
where cutF_mono : ∀ (a b : Nat) (l : List Int), l.length < a → l.length < b → cutF a l = cutF b l
  | 0, _, _, h, _ => by omega
  | _ + 1, 0, _, _, h => by omega
  | a + 1, b + 1, [], _, _ => rfl
  | a + 1, b + 1, c :: r, h1, h2 => by
    simp only [cutF]
    rw [cutF_mono a b (r.drop c.toNat) (by simp at h1 ⊢; omega) (by simp at h2 ⊢; omega)]
theorem cut_nil : cut [] = none := rfl
theorem cut_cons (c : Int) (r : List Int) : cut (c :: r) = if c = 0 then (if r = [] then some [] else none) else if 63 < c then none else if r.length < c.toNat then none else (cut (r.drop c.toNat)).map (strOfNums (r.take c.toNat) :: ·) := by
  show cutF (r.length + 1 + 1) (c :: r) = _
  simp only [cutF]
  rw [cutF_enough (r.length + 1) (r.drop c.toNat) (by simp; omega)]
theorem cut_some : ∀ (L : List ByteArray) (l : List Int), (∀ x ∈ l, 0 ≤ x ∧ x < 256) → cut l = some L → l = glue L ++ [0] ∧ L.any badLab = false
  | L, [], _, h => by rw [cut_nil] at h; cases h
  | L, c :: r, hr, h => by
    rw [cut_cons] at h
    have hc := hr c (by simp)
    split at h
    · split at h
      · rename_i h0 h1; cases h; subst h0 h1; exact ⟨rfl, rfl⟩
      · cases h
    · split at h
      · cases h
      · split at h
        · cases h
        · rename_i h0 h63 hlen
          obtain ⟨L', hL', rfl⟩ := Option.map_eq_some_iff.1 h
          have hrg : ∀ x ∈ r.take c.toNat, 0 ≤ x ∧ x < 256 := fun x hx => hr x (List.mem_cons_of_mem _ (List.mem_of_mem_take hx))
          obtain ⟨h1, h2⟩ := cut_some L' (r.drop c.toNat) (fun x hx => hr x (List.mem_cons_of_mem _ (List.mem_of_mem_drop hx))) hL'
          have hsz : (strOfNums (r.take c.toNat)).size = c.toNat := by rw [strOfNums_size, List.length_take]; omega
          refine ⟨?_, ?_⟩
          · show c :: r = lab _ ++ glue L' ++ [0]
            rw [List.append_assoc, ← h1]
            unfold lab
            rw [bytes_strOfNums _ hrg, hsz, List.cons_append, List.take_append_drop]
            congr 1; omega
          · rw [List.any_cons, h2, Bool.or_false]
            unfold badLab
            rw [hsz]; simp; omega
  termination_by _ l => l.length
  decreasing_by simp; omega
theorem cut_glue : ∀ (L : List ByteArray), L.any badLab = false → cut (glue L ++ [0]) = some L
  | [], _ => by simp [glue, cut_cons]
  | s :: L, h => by
    rw [List.any_cons, Bool.or_eq_false_iff] at h
    have hs := bad_false h.1
    have ih := cut_glue L h.2
    have e : glue (s :: L) ++ [0] = (s.size : Int) :: (bytesOf s ++ (glue L ++ [0])) := by simp [glue, lab]
    rw [e, cut_cons, if_neg (by omega), if_neg (by omega), if_neg (by simp [bytesOf_length])]
    have e1 : ((s.size : Int)).toNat = (bytesOf s).length := by rw [bytesOf_length]; omega
    rw [e1, List.drop_left, List.take_left, ih, strOfNums_bytes']
    rfl
/-- a name's labels; none: it is no name -/
def dec (n : ByteArray) : Option (List ByteArray) := if 255 < n.size then none else cut (bytesOf n)
theorem dec_some {n : ByteArray} {L : List ByteArray} (h : dec n = some L) : n.size ≤ 255 ∧ bytesOf n = glue L ++ [0] ∧ L.any badLab = false := by
  unfold dec at h
  split at h
  · cases h
  · exact ⟨by omega, cut_some L _ (bo_range n) h⟩
theorem dec_size {n : ByteArray} {L : List ByteArray} (h : dec n = some L) : n.size = (glue L).length + 1 := by
  have h1 := (dec_some h).2.1
  have h2 := congrArg List.length h1
  rw [bytesOf_length] at h2
  simpa using h2
theorem dec_inj {a b : ByteArray} {L : List ByteArray} (ha : dec a = some L) (hb : dec b = some L) : a = b := bytes_inj (by rw [(dec_some ha).2.1, (dec_some hb).2.1])
/-- the name of labels -/
def nameOf (L : List ByteArray) : ByteArray := strOfNums (glue L ++ [0])
theorem bytes_nameOf {L : List ByteArray} (h : L.any badLab = false) : bytesOf (nameOf L) = glue L ++ [0] := bytes_strOfNums _ (glue_range L h)
theorem dec_nameOf {L : List ByteArray} (h : L.any badLab = false) (hl : (glue L).length + 1 ≤ 255) : dec (nameOf L) = some L := by
  unfold dec nameOf
  rw [strOfNums_size, if_neg (by simp; omega)]
  have := bytes_nameOf h
  unfold nameOf at this
  rw [this]
  exact cut_glue L h
theorem nameOf_dec {n : ByteArray} {L : List ByteArray} (h : dec n = some L) : nameOf L = n := by
  have h1 := dec_some h
  exact bytes_inj (by rw [bytes_nameOf h1.2.2, h1.2.1])
/-- where labels begin -/
def offs : Nat → List ByteArray → List Int
  | _, [] => []
  | p, s :: L => (p : Int) :: offs (p + 1 + s.size) L
theorem offs_length : ∀ (p : Nat) (L : List ByteArray), (offs p L).length = L.length
  | _, [] => rfl
  | p, s :: L => by simp [offs, offs_length]
theorem offs_at : ∀ (L1 : List ByteArray) (p : Nat) (s : ByteArray) (L2 : List ByteArray), (offs p (L1 ++ s :: L2))[L1.length]? = some ((p + (glue L1).length : Nat) : Int)
  | [], p, s, L2 => by simp [offs, glue]
  | t :: L1, p, s, L2 => by
    simp only [List.cons_append, offs, List.length_cons, List.getElem?_cons_succ]
    rw [offs_at L1]
    simp [glue, lab_length]; omega
/-! ### starts -/
theorem starts_ev (n : ByteArray) (hn : n.size ≤ 255) (d : Nat) : ∀ (p : Nat) (acc : List Int), n.size + 64 - p ≤ d → acc.length ≤ p → p ≤ 400 →
    ∃ l', Ev (fun k => name_starts.l0 k n acc (p : Int)) (l', (cut ((bytesOf n).drop p)).isSome) ∧ ∀ L, cut ((bytesOf n).drop p) = some L → l' = acc ++ offs p L := by
  induction d with
  | zero =>
    intro p acc hd ha hp
    refine ⟨acc, ?_, ?_⟩
    · rw [bo_end n p (by omega), cut_nil]
      refine Ev.step (f := fun k => name_starts.j1 k n acc p false) (fun k => by simp only [name_starts.l0]; rw [if_neg (by omega)]) ?_
      refine Ev.step (f := fun _ => some (acc, false)) (fun k => ?_) (Ev.now _)
      simp only [name_starts.j1]
      rw [if_neg (by simp), w64 (by omega) (by omega)]
      congr 2
      exact beq_eq_false_iff_ne.2 (by omega)
    · intro L hL; rw [bo_end n p (by omega), cut_nil] at hL; cases hL
  | succ d ih =>
    intro p acc hd ha hp
    by_cases hlt : p < n.size
    · have hb := bt_range n (p : Int)
      rw [bo_drop n p hlt, cut_cons]
      by_cases hc : bt n (p : Int) = 0
      · rw [if_pos hc]
        refine ⟨acc, ?_, ?_⟩
        · refine Ev.step (f := fun k => name_starts.j1 k n acc p false) (fun k => by simp only [name_starts.l0]; rw [if_pos (by omega), if_pos (by omega)]; congr 1; simp [hc]) ?_
          refine Ev.step (f := fun _ => some (acc, _)) (fun k => ?_) (Ev.now _)
          simp only [name_starts.j1]
          rw [if_neg (by simp), w64 (by omega) (by omega)]
          congr 2
          by_cases hl : p + 1 = n.size
          · rw [bo_end n (p + 1) (by omega), if_pos rfl]
            exact beq_iff_eq.2 (by omega)
          · have : (bytesOf n).drop (p + 1) ≠ [] := by
              intro h0; have := congrArg List.length h0; simp [bytesOf_length] at this; omega
            rw [if_neg this]
            exact beq_eq_false_iff_ne.2 (by omega)
        · intro L hL
          split at hL
          · cases hL; simp [offs]
          · cases hL
      · rw [if_neg hc]
        have hj : ∀ k, name_starts.l0 (k + 1) n acc (p : Int) = name_starts.j1 k n acc p true := fun k => by
          simp only [name_starts.l0]; rw [if_pos (by omega), if_pos (by omega)]; congr 1; simp [hc]
        by_cases h63 : 63 < bt n (p : Int)
        · rw [if_pos h63]
          refine ⟨[], ?_, by intro L hL; cases hL⟩
          refine Ev.step hj (Ev.step (f := fun _ => some ([], false)) (fun k => ?_) (Ev.now _))
          simp only [name_starts.j1]
          rw [if_pos trivial, if_pos (by omega), if_pos (by omega), if_pos (by omega)]
        · rw [if_neg h63]
          have hstep : ∀ k, name_starts.j1 (k + 1) n acc p true = name_starts.l0 k n (acc ++ [(p : Int)]) ((p + 1 + (bt n (p : Int)).toNat : Nat) : Int) := fun k => by
            simp only [name_starts.j1]
            rw [if_pos trivial, if_pos (by omega), if_pos (by omega), if_neg (by omega), if_pos (by omega)]
            rw [w64 (n := bt n (p : Int)) (by omega) (by omega), w64 (n := 1 + bt n (p : Int)) (by omega) (by omega), w64 (by omega) (by omega)]
            congr 1; omega
          obtain ⟨l', hE, hL'⟩ := ih (p + 1 + (bt n (p : Int)).toNat) (acc ++ [(p : Int)]) (by omega) (by simp; omega) (by omega)
          refine ⟨l', ?_, ?_⟩
          · have e : (if ((bytesOf n).drop (p + 1)).length < (bt n (p : Int)).toNat then none else (cut (((bytesOf n).drop (p + 1)).drop (bt n (p : Int)).toNat)).map (strOfNums (((bytesOf n).drop (p + 1)).take (bt n (p : Int)).toNat) :: ·)).isSome = (cut ((bytesOf n).drop (p + 1 + (bt n (p : Int)).toNat))).isSome := by
              split
              · rename_i hh
                simp only [List.length_drop, bytesOf_length] at hh
                rw [bo_end n (p + 1 + (bt n (p : Int)).toNat) (by omega), cut_nil]
              · rw [List.drop_drop, Option.isSome_map]
            rw [e]
            exact Ev.step hj (Ev.step hstep hE)
          · intro L hL
            split at hL
            · cases hL
            · rename_i hh
              rw [List.drop_drop] at hL
              obtain ⟨L2, h2, rfl⟩ := Option.map_eq_some_iff.1 hL
              rw [hL' L2 h2]
              have hsz : (strOfNums (((bytesOf n).drop (p + 1)).take (bt n (p : Int)).toNat)).size = (bt n (p : Int)).toNat := by
                rw [strOfNums_size, List.length_take]; omega
              simp [offs, hsz]
    · refine ⟨acc, ?_, ?_⟩
      · rw [bo_end n p (by omega), cut_nil]
        refine Ev.step (f := fun k => name_starts.j1 k n acc p false) (fun k => by simp only [name_starts.l0]; rw [if_neg (by omega)]) ?_
        refine Ev.step (f := fun _ => some (acc, false)) (fun k => ?_) (Ev.now _)
        simp only [name_starts.j1]
        rw [if_neg (by simp), w64 (by omega) (by omega)]
        congr 2
        exact beq_eq_false_iff_ne.2 (by omega)
      · intro L hL; rw [bo_end n p (by omega), cut_nil] at hL; cases hL
/-- what starts tells -/
theorem starts_f (n : ByteArray) : ∃ l', Ev (fun k => name_starts.f k n) (l', (dec n).isSome) ∧ ∀ L, dec n = some L → l' = offs 0 L := by
  unfold dec
  by_cases h : 255 < n.size
  · rw [if_pos h]
    refine ⟨[], Ev.congr (f := fun _ => some ([], false)) (fun k => ?_) (Ev.now _), by intro L hL; cases hL⟩
    unfold name_starts.f; rw [if_pos (by omega)]
  · rw [if_neg h]
    obtain ⟨l', hE, hL⟩ := starts_ev n (by omega) (n.size + 64) 0 [] (by omega) (by simp) (by omega)
    refine ⟨l', Ev.congr (fun k => ?_) hE, fun L h => by simpa using hL L (by simpa using h)⟩
    unfold name_starts.f; rw [if_neg (by omega)]; rfl
theorem check_f (n : ByteArray) : Ev (fun k => name_Check.f k n) (if (dec n).isSome then 0 else 11) := by
  obtain ⟨l', hE, _⟩ := starts_f n
  refine Ev.bind (f := fun _ (b : List Int × Bool) => if b.2 = true then some (0 : Int) else some 11) hE (Ev.congr (f := fun _ => some (if (dec n).isSome then (0 : Int) else 11)) (fun k => ?_) (Ev.now _))
  dsimp only
  cases (dec n).isSome <;> rfl
theorem count_f (n : ByteArray) : Ev (fun k => name_Count.f k n) (((dec n).getD []).length : Int) := by
  obtain ⟨l', hE, hL⟩ := starts_f n
  refine Ev.bind (f := fun _ (b : List Int × Bool) => if b.2 = true then some (b.1.length : Int) else some 0) hE (Ev.congr (f := fun _ => some (((dec n).getD []).length : Int)) (fun k => ?_) (Ev.now _))
  dsimp only
  cases h : dec n with
  | none => rfl
  | some L => rw [hL L h, offs_length]; rfl
theorem label_at {n : ByteArray} {L1 L2 : List ByteArray} {s : ByteArray} (h : dec n = some (L1 ++ s :: L2)) :
    bt n ((glue L1).length : Int) = s.size ∧ (glue L1).length + 1 + s.size + 1 ≤ n.size ∧ n.extract ((glue L1).length + 1) ((glue L1).length + 1 + s.size) = s := by
  obtain ⟨h1, h2, h3⟩ := dec_some h
  have hsz := dec_size h
  have e : bytesOf n = glue L1 ++ ((s.size : Int) :: (bytesOf s ++ (glue L2 ++ [0]))) := by rw [h2]; simp [glue, lab]
  have hlen : (glue (L1 ++ s :: L2)).length = (glue L1).length + (s.size + 1) + (glue L2).length := by simp [glue, lab, bytesOf_length]; omega
  refine ⟨?_, by omega, ?_⟩
  · rw [← rd_bytesOf]
    simp [rd, e, List.getD_eq_getElem?_getD]
  · refine bytes_inj ?_
    rw [bytes_extract, e]
    rw [List.drop_append]
    have e1 : (glue L1).drop ((glue L1).length + 1) = [] := List.drop_of_length_le (by omega)
    rw [e1, List.nil_append, show (glue L1).length + 1 - (glue L1).length = 1 from by omega, List.drop_succ_cons, List.drop_zero]
    rw [List.take_append_of_le_length (by rw [bytesOf_length]; omega), List.take_of_length_le (by rw [bytesOf_length]; omega)]
theorem labels_length {n : ByteArray} {L : List ByteArray} (h : dec n = some L) : L.length ≤ 127 := by
  have h1 := dec_size h
  have h2 := (dec_some h).1
  have h3 := (dec_some h).2.2
  have : ∀ (L : List ByteArray), L.any badLab = false → L.length * 2 ≤ (glue L).length := by
    intro L
    induction L with
    | nil => intro _; simp
    | cons s L ih =>
      intro h
      rw [List.any_cons, Bool.or_eq_false_iff] at h
      have hs := bad_false h.1
      have := ih h.2
      simp [glue, lab, bytesOf_length] at this ⊢; omega
  have := this L h3
  omega
theorem labels_l0 {n : ByteArray} {L : List ByteArray} (h : dec n = some L) : ∀ (L2 L1 : List ByteArray), L = L1 ++ L2 →
    Ev (fun k => name_Labels.l0 k n L1 (offs 0 L) (L.length : Int) (L1.length : Int)) L := by
  have hm := labels_length h
  intro L2
  induction L2 with
  | nil =>
    intro L1 e
    rw [List.append_nil] at e
    subst e
    refine Ev.step (f := fun _ => some L) (fun k => ?_) (Ev.now _)
    simp only [name_Labels.l0]
    rw [if_neg (by omega)]
  | cons s L2 ih =>
    intro L1 e
    have hn := (dec_some h).1
    subst e
    obtain ⟨h1, h2, h3⟩ := label_at h
    have ho := offs_at L1 0 s L2
    rw [Nat.zero_add] at ho
    have hr : rd (offs 0 (L1 ++ s :: L2)) (L1.length : Int) = ((glue L1).length : Int) := by simp [rd, List.getD_eq_getElem?_getD, ho]
    have hlen : (L1 ++ s :: L2).length = L1.length + 1 + L2.length := by simp; omega
    have ih' := ih (L1 ++ [s]) (by simp)
    refine Ev.step (fun k => ?_) ih'
    simp only [name_Labels.l0]
    rw [if_pos (by omega), if_pos (by omega), if_pos (by rw [offs_length]; omega), hr, h1]
    rw [w64 (n := ((glue L1).length : Int) + 1) (by omega) (by omega), w64 (n := (s.size : Int)) (by omega) (by omega), w64 (n := ((glue L1).length : Int) + 1 + (s.size : Int)) (by omega) (by omega), w64 (n := (L1.length : Int) + 1) (by omega) (by omega)]
    rw [if_pos (by omega), if_pos (by omega), if_pos (by omega), if_pos (by omega), if_pos (by omega), if_pos (by omega)]
    have e1 : (((glue L1).length : Int) + 1).toNat = (glue L1).length + 1 := by omega
    have e2 : (((glue L1).length : Int) + 1 + (s.size : Int)).toNat = (glue L1).length + 1 + s.size := by omega
    rw [e1, e2, h3]
    simp
theorem labels_f (n : ByteArray) : Ev (fun k => name_Labels.f k n) ((dec n).getD []) := by
  obtain ⟨l', hE, hL⟩ := starts_f n
  refine Ev.bind (f := fun k (b : List Int × Bool) => if b.2 = true then name_Labels.l0 k n [] b.1 (b.1.length : Int) 0 else some []) hE ?_
  cases h : dec n with
  | none => exact Ev.now _
  | some L =>
    have := labels_l0 h L [] rfl
    rw [hL L h, offs_length]
    exact this
/-! ### Split -/
theorem split_l0 (d : Nat) : ∀ (s : ByteArray) (acc : List ByteArray), s.size ≤ d → s.size ≤ 255 → acc.length ≤ 255 - s.size →
    ∃ l', Ev (fun k => hearsayref01_Split.l0 k acc s) (l', (cut (bytesOf s)).isSome) ∧ ∀ L, cut (bytesOf s) = some L → l' = acc ++ L := by
  induction d with
  | zero =>
    intro s acc hd h1 ha
    have e : bytesOf s = [] := List.length_eq_zero_iff.1 (by rw [bytesOf_length]; omega)
    rw [e, cut_nil]
    refine ⟨[], Ev.step (f := fun _ => some ([], false)) (fun k => ?_) (Ev.now _), by intro L h; cases h⟩
    simp only [hearsayref01_Split.l0]
    rw [if_neg (by omega)]
  | succ d ih =>
    intro s acc hd h1 ha
    by_cases h0 : s.size = 0
    · have e : bytesOf s = [] := List.length_eq_zero_iff.1 (by rw [bytesOf_length]; omega)
      rw [e, cut_nil]
      refine ⟨[], Ev.step (f := fun _ => some ([], false)) (fun k => ?_) (Ev.now _), by intro L h; cases h⟩
      simp only [hearsayref01_Split.l0]
      rw [if_neg (by omega)]
    · have hb := bt_range s 0
      have e := bo_drop s 0 (by omega)
      rw [List.drop_zero] at e
      have e0 : ((0 : Nat) : Int) = 0 := rfl
      rw [e0] at e
      rw [e, cut_cons]
      have hlen : ((bytesOf s).drop (0 + 1)).length = s.size - 1 := by simp [bytesOf_length]
      by_cases hc : bt s 0 = 0
      · rw [if_pos hc]
        refine ⟨acc, Ev.step (f := fun _ => some (acc, _)) (fun k => ?_) (Ev.now _), ?_⟩
        · simp only [hearsayref01_Split.l0]
          rw [if_pos (by omega), if_pos (by omega), w64 (by omega) (by omega), if_pos hc]
          congr 2
          by_cases hl : s.size = 1
          · have : (bytesOf s).drop (0 + 1) = [] := List.length_eq_zero_iff.1 (by omega)
            rw [if_pos this]; exact beq_iff_eq.2 (by omega)
          · have : (bytesOf s).drop (0 + 1) ≠ [] := fun h => by rw [h] at hlen; simp at hlen; omega
            rw [if_neg this]; exact beq_eq_false_iff_ne.2 (by omega)
        · intro L hL
          split at hL
          · cases hL; simp
          · cases hL
      · rw [if_neg hc]
        by_cases h63 : 63 < bt s 0
        · rw [if_pos h63]
          refine ⟨[], Ev.step (f := fun _ => some ([], false)) (fun k => ?_) (Ev.now _), by intro L h; cases h⟩
          simp only [hearsayref01_Split.l0]
          rw [if_pos (by omega), if_pos (by omega), w64 (by omega) (by omega), if_neg hc, if_pos (by omega)]
        · rw [if_neg h63, hlen]
          by_cases hs : s.size - 1 < (bt s 0).toNat
          · rw [if_pos hs]
            refine ⟨[], Ev.step (f := fun _ => some ([], false)) (fun k => ?_) (Ev.now _), by intro L h; cases h⟩
            simp only [hearsayref01_Split.l0]
            rw [if_pos (by omega), if_pos (by omega), w64 (n := bt s 0) (by omega) (by omega), if_neg hc, if_neg (by omega), w64 (by omega) (by omega), if_pos (by omega)]
          · rw [if_neg hs]
            have hlab : s.extract 1 (bt s 0 + 1).toNat = strOfNums (((bytesOf s).drop (0 + 1)).take (bt s 0).toNat) := by
              refine bytes_inj ?_
              rw [bytes_extract, bytes_strOfNums _ (fun x hx => bo_range s x (List.mem_of_mem_drop (List.mem_of_mem_take hx)))]
              congr 1; omega
            have hrest : bytesOf (s.extract (bt s 0 + 1).toNat s.size) = ((bytesOf s).drop (0 + 1)).drop (bt s 0).toNat := by
              rw [bytes_extract, List.drop_drop, List.take_of_length_le (by simp [bytesOf_length])]
              congr 1; omega
            have hsz : (s.extract (bt s 0 + 1).toNat s.size).size = s.size - (bt s 0 + 1).toNat := by simp
            obtain ⟨l', hE, hL⟩ := ih (s.extract (bt s 0 + 1).toNat s.size) (acc ++ [s.extract 1 (bt s 0 + 1).toNat]) (by omega) (by omega) (by simp; omega)
            rw [hrest] at hE hL
            refine ⟨l', ?_, ?_⟩
            · rw [Option.isSome_map]
              refine Ev.step (fun k => ?_) hE
              simp only [hearsayref01_Split.l0]
              rw [if_pos (by omega), if_pos (by omega), w64 (n := bt s 0) (by omega) (by omega), if_neg hc, if_neg (by omega), w64 (by omega) (by omega), if_neg (by omega), if_pos (by omega), if_pos (by omega), if_pos (by omega), if_pos (by omega)]
            · intro L h
              obtain ⟨L2, h2, rfl⟩ := Option.map_eq_some_iff.1 h
              rw [hL L2 h2, hlab]; simp
theorem split_f (n : ByteArray) : ∃ l', Ev (fun k => hearsayref01_Split.f k n) (l', (dec n).isSome) ∧ ∀ L, dec n = some L → l' = L := by
  unfold dec
  by_cases h : 255 < n.size
  · rw [if_pos h]
    refine ⟨[], Ev.congr (f := fun _ => some ([], false)) (fun k => ?_) (Ev.now _), by intro L hL; cases hL⟩
    unfold hearsayref01_Split.f; rw [if_pos (by omega)]
  · rw [if_neg h]
    obtain ⟨l', hE, hL⟩ := split_l0 n.size n [] (by omega) (by omega) (by simp)
    refine ⟨l', Ev.congr (fun k => ?_) hE, fun L h => by simpa using hL L h⟩
    unfold hearsayref01_Split.f; rw [if_neg (by omega)]
end Go.Proofs.Ytfcmphigmfdceaa.Print
