/- The reference's Entries, in plain words: it is what token.Entries is said to answer. -/
import Derived.Test.YtafminohaofjnaaXEnt
import Derived.Test.YtafminohaofjnaaXBytes
import Derived.Test.YtafminohaofjnaaF13D
import Derived.Test.YtafminohaofjnaaF27
import Derived.Test.YtafminohaofjnaaF21
namespace Go.Proofs.Ytafminohaofjnaa.Print
open Go.RowKit Go.Proofs.YtafminohaofjnaaW.PrintWords Go.Proofs.YtafminohaofjnaaW.PrintLast Go.Proofs.YtafminohaofjnaaW.PrintMore
set_option linter.unusedVariables false
set_option linter.unusedSimpArgs false
theorem w64 {n : Int} (h0 : -9223372036854775808 ≤ n) (h1 : n ≤ 9223372036854775807) : wrap64 n = n := by unfold wrap64; omega
theorem bt_get {s : ByteArray} {i : Nat} (h : i < s.size) : (bytesOf s)[i]? = some (bt s (i : Int)) := by
  have := bo_drop s i h
  have h2 : ((bytesOf s).drop i)[0]? = some (bt s (i : Int)) := by rw [this]; rfl
  simpa using h2
theorem blank_f (c : Int) : hearsayref08_Blank.f c = some (blankB c) := by
  unfold hearsayref08_Blank.f blankB
  by_cases h1 : c = 32
  · subst h1; rfl
  · by_cases h2 : c = 9
    · subst h2; rfl
    · rw [if_neg h1, if_neg h2]
      simp [h1, h2]
/-! ### places -/
theorem spot_l0 (s : ByteArray) (at_ : Nat) (ha : at_ ≤ s.size) (hs : s.size ≤ 262144) (d : Nat) : ∀ i : Nat, at_ - i ≤ d → i ≤ at_ →
    Ev (fun k => hearsayref08_SpotOf.l0 k s (at_ : Int) (i : Int) (pl (bytesOf s) i).1 (pl (bytesOf s) i).2) (pl (bytesOf s) at_) := by
  induction d with
  | zero =>
    intro i hd hi
    obtain rfl : i = at_ := by omega
    refine Ev.step (f := fun _ => some _) (fun k => ?_) (Ev.now _)
    simp only [hearsayref08_SpotOf.l0]
    rw [if_neg (by omega)]
  | succ d ih =>
    intro i hd hi
    by_cases hlt : i < at_
    · have hb := pl_bound (bytesOf s) i
      have hp := pl_succ (bt_get (s := s) (i := i) (by omega))
      have ih := ih (i + 1) (by omega) (by omega)
      refine Ev.step (fun k => ?_) ih
      simp only [hearsayref08_SpotOf.l0]
      rw [if_pos (by omega), if_pos (by omega), if_pos (by omega), hp]
      have e1 : wrap64 ((i : Int) + 1) = ((i + 1 : Nat) : Int) := by rw [w64 (by omega) (by omega)]; omega
      rw [e1]
      by_cases hc : bt s (i : Int) = 10
      · rw [if_pos hc, w64 (by omega) (by omega)]; simp [stepP, hc]
      · rw [if_neg hc, w64 (n := (pl (bytesOf s) i).2 + 1) (by omega) (by omega)]; simp [stepP, hc]
    · obtain rfl : i = at_ := by omega
      refine Ev.step (f := fun _ => some _) (fun k => ?_) (Ev.now _)
      simp only [hearsayref08_SpotOf.l0]
      rw [if_neg (by omega)]
theorem spot_f (s : ByteArray) (at_ : Nat) (ha : at_ ≤ s.size) (hs : s.size ≤ 262144) : Ev (fun k => hearsayref08_SpotOf.f k s (at_ : Int)) (pl (bytesOf s) at_) := by
  have := spot_l0 s at_ ha hs at_ 0 (by omega) (by omega)
  exact Ev.congr (fun k => rfl) this
/-! ### what kinds tell -/
theorem kindF_mono : ∀ (a b : Nat) (l : List Int) (op : List Nat), l.length < a → l.length < b → kindF a l op = kindF b l op
  | 0, _, _, _, h, _ => by omega
  | _ + 1, 0, _, _, _, h => by omega
  | a + 1, b + 1, [], _, _, _ => rfl
  | a + 1, b + 1, c :: r, op, h1, h2 => by
    simp only [List.length_cons] at h1 h2
    have key : ∀ (m : Nat) (o : List Nat), kindF a (r.drop m) o = kindF b (r.drop m) o := fun m o => kindF_mono a b _ _ (by simp; omega) (by simp; omega)
    have k0 : ∀ (o : List Nat), kindF a r o = kindF b r o := fun o => by simpa using key 0 o
    simp only [kindF, k0, key]
theorem kindL_nil (op : List Nat) : kindL [] op = [] := rfl
theorem kindL_cons (c : Int) (r : List Int) (op : List Nat) : kindL (c :: r) op =
    if blankB c = true then 1 :: kindL r op
    else if c = 10 then (if op = [] then 2 :: kindL r [] else 1 :: kindL r op)
    else if c = 59 then 1 :: (List.replicate (rLen r) 1 ++ kindL (r.drop (rLen r)) op)
    else if c = 40 then 1 :: kindL r (op ++ [0])
    else if c = 41 then 1 :: kindL r op.dropLast
    else if c = 34 then (match qEnd r with
      | none => []
      | some m => 5 :: (List.replicate m 4 ++ kindL (r.drop m) op))
    else 3 :: (List.replicate (bLen (c :: r) - 1) 4 ++ kindL (r.drop (bLen (c :: r) - 1)) op) := by
  have key : ∀ (m : Nat) (o : List Nat), kindF (r.length + 1) (r.drop m) o = kindL (r.drop m) o := fun m o => kindF_mono _ _ _ _ (by simp; omega) (by omega)
  have k0 : ∀ (o : List Nat), kindF (r.length + 1) r o = kindL r o := fun o => by simpa using key 0 o
  show kindF (r.length + 1 + 1) (c :: r) op = _
  simp only [kindF, k0, key]
  rfl
/-- the kinds hang on how many are open alone -/
theorem kindL_len : ∀ (n : Nat) (l : List Int) (o1 o2 : List Nat), l.length ≤ n → o1.length = o2.length → kindL l o1 = kindL l o2
  | _, [], o1, o2, _, _ => by rw [kindL_nil, kindL_nil]
  | 0, c :: r, o1, o2, hn, _ => by simp at hn
  | n + 1, c :: r, o1, o2, hn, h => by
    simp only [List.length_cons] at hn
    have key : ∀ (m : Nat) (p1 p2 : List Nat), p1.length = p2.length → kindL (r.drop m) p1 = kindL (r.drop m) p2 := fun m p1 p2 hp => kindL_len n _ _ _ (by simp; omega) hp
    have k0 : ∀ (p1 p2 : List Nat), p1.length = p2.length → kindL r p1 = kindL r p2 := fun p1 p2 hp => by simpa using key 0 p1 p2 hp
    rw [kindL_cons, kindL_cons]
    have hnil : o1 = [] ↔ o2 = [] := by rw [← List.length_eq_zero_iff, ← List.length_eq_zero_iff, h]
    rw [k0 o1 o2 h, k0 (o1 ++ [0]) (o2 ++ [0]) (by simp [h]), k0 o1.dropLast o2.dropLast (by simp [h]), key (rLen r) o1 o2 h, key (bLen (c :: r) - 1) o1 o2 h]
    have hq : (match qEnd r with
      | none => []
      | some m => 5 :: (List.replicate m 4 ++ kindL (r.drop m) o1)) = (match qEnd r with
      | none => ([] : List Int)
      | some m => 5 :: (List.replicate m 4 ++ kindL (r.drop m) o2)) := by
      cases qEnd r with
      | none => rfl
      | some m => simp only [key m o1 o2 h]
    rw [hq]
    by_cases hc : o1 = []
    · have h2 := hnil.1 hc
      subst hc h2
      rfl
    · have h2 : ¬ o2 = [] := fun x => hc (hnil.2 x)
      rw [if_neg hc, if_neg h2]
theorem kindL_head {l : List Int} {op : List Nat} {x : Int} (h : (kindL l op)[0]? = some x) : x ≠ 4 := by
  cases l with
  | nil => simp [kindL_nil] at h
  | cons c r =>
    rw [kindL_cons] at h
    repeat' split at h
    all_goals first
      | (simp at h; done)
      | (simp at h; omega)
/-- as many kinds as bytes -/
theorem kindL_length : ∀ (n : Nat) (l : List Int) (p : Nat) (op : List Nat), l.length ≤ n → (lex l p op).2 = none → (kindL l op).length = l.length
  | _, [], _, op, _, _ => by rw [kindL_nil]
  | 0, c :: r, _, op, hn, _ => by simp at hn
  | n + 1, c :: r, p, op, hn, h => by
    simp only [List.length_cons] at hn
    have key : ∀ (m q : Nat) (o : List Nat), (lex (r.drop m) q o).2 = none → (kindL (r.drop m) o).length = r.length - m := fun m q o ho => by
      rw [kindL_length n _ q o (by simp; omega) ho, List.length_drop]
    have k0 : ∀ (q : Nat) (o : List Nat), (lex r q o).2 = none → (kindL r o).length = r.length := fun q o ho => by simpa using key 0 q o (by simpa using ho)
    rw [lex_cons] at h
    rw [kindL_cons]
    have hr := rLen_le r
    have hb := bLen_le (c :: r)
    simp only [List.length_cons] at hb
    split at h
    · rename_i h1; rw [if_pos h1, List.length_cons, List.length_cons, k0 _ _ h]
    rename_i h1; rw [if_neg h1]
    split at h
    · rename_i h2; rw [if_pos h2]
      split at h
      · rename_i h3; rw [if_pos h3, List.length_cons, List.length_cons, k0 _ _ h]
      · rename_i h3; rw [if_neg h3, List.length_cons, List.length_cons, k0 _ _ h]
    rename_i h2; rw [if_neg h2]
    split at h
    · rename_i h3; rw [if_pos h3, List.length_cons, List.length_append, List.length_replicate, key _ _ _ h, List.length_cons]; omega
    rename_i h3; rw [if_neg h3]
    split at h
    · rename_i h4
      rw [if_pos h4, List.length_cons, kindL_len r.length r (op ++ [0]) (op ++ [p]) (Nat.le_refl _) (by simp), k0 _ _ h, List.length_cons]
    rename_i h4; rw [if_neg h4]
    split at h
    · rename_i h5
      rw [if_pos h5]
      by_cases h7 : op = []
      · rw [if_pos h7] at h; cases h
      · rw [if_neg h7] at h; rw [List.length_cons, k0 _ _ h, List.length_cons]
    rename_i h5; rw [if_neg h5]
    split at h
    · rename_i h6
      rw [if_pos h6]
      split at h
      · cases h
      · rename_i m hm
        have := qEnd_le r m hm
        simp only [hm]
        rw [List.length_cons, List.length_append, List.length_replicate, key _ _ _ h, List.length_cons]; omega
    · rename_i h6
      rw [if_neg h6, List.length_cons, List.length_append, List.length_replicate, key _ _ _ h, List.length_cons]; omega
/-- where it goes wrong, and how -/
theorem lex_err : ∀ (n : Nat) (l : List Int) (p : Nat) (op : List Nat) (y : Nat × Int), l.length ≤ n → (∀ q ∈ op, q < p) → (lex l p op).2 = some y → y.1 < p + l.length ∧ (y.2 = 80 ∨ y.2 = 81)
  | _, [], p, op, y, _, ho, h => by
    rw [lex_nil] at h
    cases op with
    | nil => cases h
    | cons q op => simp at h; subst h; have := ho q (by simp); simp; omega
  | 0, c :: r, p, op, _, hn, _, _ => by simp at hn
  | n + 1, c :: r, p, op, y, hn, ho, h => by
    simp only [List.length_cons] at hn ⊢
    have hr := rLen_le r
    have hb := bLen_le (c :: r)
    simp only [List.length_cons] at hb
    have key : ∀ (m q : Nat) (o : List Nat), m ≤ r.length → q ≤ p + 1 + m → p < q → (∀ x ∈ o, x < q) → (lex (r.drop m) q o).2 = some y → y.1 < p + (r.length + 1) ∧ (y.2 = 80 ∨ y.2 = 81) := fun m q o hm hq hq2 ho h => by
      have := lex_err n (r.drop m) q o y (by simp; omega) ho h
      rw [List.length_drop] at this
      omega
    have k0 : ∀ (o : List Nat), (∀ x ∈ o, x < p + 1) → (lex r (p + 1) o).2 = some y → y.1 < p + (r.length + 1) ∧ (y.2 = 80 ∨ y.2 = 81) := fun o ho h => key 0 (p + 1) o (by omega) (by omega) (by omega) ho (by simpa using h)
    have hop : ∀ x ∈ op, x < p + 1 := fun x hx => by have := ho x hx; omega
    rw [lex_cons] at h
    split at h
    · exact k0 _ hop h
    split at h
    · split at h
      · exact k0 _ (by simp) h
      · exact k0 _ hop h
    split at h
    · exact key _ _ _ hr (by omega) (by omega) (fun x hx => by have := ho x hx; omega) h
    split at h
    · exact k0 _ (fun x hx => by
        rcases List.mem_append.1 hx with hx | hx
        · exact hop x hx
        · simp at hx; omega) h
    split at h
    · by_cases h7 : op = []
      · rw [if_pos h7] at h; cases h; simp
      · rw [if_neg h7] at h; exact k0 _ (fun x hx => hop x (List.dropLast_subset op hx)) h
    split at h
    · split at h
      · cases h; simp
      · rename_i m hm
        have := qEnd_le r m hm
        exact key m _ _ (by omega) (by omega) (by omega) (fun x hx => by have := ho x hx; omega) h
    · rename_i h1 h2 h3 h4 h5 h6
      have hp : 1 ≤ bLen (c :: r) := bLen_pos (by unfold specB; simp [h1, h2, h3, h4, h5, h6])
      exact key (bLen (c :: r) - 1) _ _ (by omega) (by omega) (by omega) (fun x hx => by have := ho x hx; omega) h
theorem finish_err (s : ByteArray) (T : List Int) (y : Nat × Int) : ∀ (l : List Tok) (p : Nat) (ws : List S23) (out : List S45), finish s T (some y) l p ws out = ([], (pl T y.1).1, (pl T y.1).2, y.2)
  | [], _, _, _ => rfl
  | .stop q :: r, p, ws, out => finish_err s T y r _ _ _
  | .word b e q :: r, p, ws, out => finish_err s T y r _ _ _
/-! ### the loop over the bytes -/
theorem rd_get {K : List Int} {i : Nat} {x : Int} (h : K[i]? = some x) : rd K (i : Int) = x ∧ i < K.length := by
  have hi := (List.getElem?_eq_some_iff.1 h).1
  refine ⟨?_, hi⟩
  unfold rd
  rw [List.getD_eq_getElem?_getD]
  simp [h]
section
variable {s : ByteArray} {K : List Int} {R : List S45 × Int × Int × Int} {out : List S45} {i : Nat} {bl : Bool} {ln : Int} {ws : List S23}
abbrev El0 (s : ByteArray) (K : List Int) (R : List S45 × Int × Int × Int) (out : List S45) (bg : Bool) (i : Nat) (bl : Bool) (ln : Int) (ws : List S23) : Prop :=
  Ev (fun k => hearsayref08_Entries.l0 k s K out bg (i : Int) (pl (bytesOf s) i).1 (pl (bytesOf s) i).2 bl ln ws) R
abbrev Ej1 (s : ByteArray) (K : List Int) (R : List S45 × Int × Int × Int) (out : List S45) (i : Nat) (bl : Bool) (ln : Int) (ws : List S23) : Prop :=
  Ev (fun k => hearsayref08_Entries.j1 k s K out false (i : Int) (pl (bytesOf s) i).1 (pl (bytesOf s) i).2 bl ln ws) R
abbrev Ej4 (s : ByteArray) (K : List Int) (R : List S45 × Int × Int × Int) (out : List S45) (i : Nat) (bl : Bool) (ln : Int) (ws : List S23) : Prop :=
  Ev (fun k => hearsayref08_Entries.j4 k s K out false (i : Int) (pl (bytesOf s) i).1 (pl (bytesOf s) i).2 bl ln ws) R
abbrev El1 (s : ByteArray) (K : List Int) (R : List S45 × Int × Int × Int) (out : List S45) (i n : Nat) (bl : Bool) (ln : Int) (ws : List S23) : Prop :=
  Ev (fun k => hearsayref08_Entries.l1 k s K out false (i : Int) (n : Int) (pl (bytesOf s) i).1 (pl (bytesOf s) i).2 bl ln ws) R
theorem cast1 (i : Nat) (h : i ≤ 262144) : wrap64 ((i : Int) + 1) = ((i + 1 : Nat) : Int) := by rw [w64 (by omega) (by omega)]; omega
theorem j4_go (hs : s.size ≤ 262144) (hi : i < s.size) {x : Int} (hx : K[i]? = some x) (h2 : x ≠ 2) (h : El0 s K R out false (i + 1) bl ln ws) : Ej4 s K R out i bl ln ws := by
  obtain ⟨hr, hl⟩ := rd_get hx
  have hb := pl_bound (bytesOf s) i
  have hp := pl_succ (bt_get hi)
  refine Ev.step (fun k => ?_) h
  simp only [hearsayref08_Entries.j4]
  rw [if_pos (by omega), if_pos (by omega), hr, if_neg h2, if_pos (by omega), cast1 i (by omega), hp]
  by_cases hc : bt s (i : Int) = 10
  · rw [if_pos hc, w64 (by omega) (by omega)]; simp [stepP, hc]
  · rw [if_neg hc, w64 (n := (pl (bytesOf s) i).2 + 1) (by omega) (by omega)]; simp [stepP, hc]
theorem j4_stop (hs : s.size ≤ 262144) (hi : i < s.size) (hx : K[i]? = some 2) (hout : out.length ≤ i) (h : El0 s K R (if ws.isEmpty = true then out else out ++ [⟨bl, ln, ws⟩]) true (i + 1) false 0 []) : Ej4 s K R out i bl ln ws := by
  obtain ⟨hr, hl⟩ := rd_get hx
  have hb := pl_bound (bytesOf s) i
  have hp := pl_succ (bt_get hi)
  refine Ev.step (fun k => ?_) h
  simp only [hearsayref08_Entries.j4]
  rw [if_pos (by omega), if_pos (by omega), hr, if_pos rfl, cast1 i (by omega), hp]
  cases ws with
  | nil =>
    rw [if_neg (by simp), if_pos (by omega)]
    by_cases hc : bt s (i : Int) = 10
    · rw [if_pos hc, w64 (by omega) (by omega)]; simp [stepP, hc]
    · rw [if_neg hc, w64 (n := (pl (bytesOf s) i).2 + 1) (by omega) (by omega)]; simp [stepP, hc]
  | cons w ws =>
    rw [if_pos (by simp), if_pos (by omega), Option.bind_some, if_pos (by omega)]
    by_cases hc : bt s (i : Int) = 10
    · rw [if_pos hc, w64 (by omega) (by omega)]; simp [stepP, hc]
    · rw [if_neg hc, w64 (n := (pl (bytesOf s) i).2 + 1) (by omega) (by omega)]; simp [stepP, hc]
theorem j1_other {x : Int} (hx : K[i]? = some x) (h3 : x ≠ 3) (h5 : x ≠ 5) (h : Ej4 s K R out i bl ln ws) : Ej1 s K R out i bl ln ws := by
  obtain ⟨hr, hl⟩ := rd_get hx
  refine Ev.step (f := fun k => hearsayref08_Entries.j2 k s K out false (i : Int) false (pl (bytesOf s) i).1 (pl (bytesOf s) i).2 bl ln ws) (fun k => ?_) (Ev.step (fun k => ?_) h)
  · simp only [hearsayref08_Entries.j1]
    rw [if_pos (by omega), if_pos (by omega), hr, if_neg h3]
    congr 1
    simpa using h5
  · simp only [hearsayref08_Entries.j2]
    rw [if_neg (by simp)]
theorem j1_word {x : Int} (hi : i ≤ 262144) (hx : K[i]? = some x) (h35 : x = 3 ∨ x = 5) (h : El1 s K R out i (i + 1) bl ln ws) : Ej1 s K R out i bl ln ws := by
  obtain ⟨hr, hl⟩ := rd_get hx
  refine Ev.step (f := fun k => hearsayref08_Entries.j2 k s K out false (i : Int) true (pl (bytesOf s) i).1 (pl (bytesOf s) i).2 bl ln ws) (fun k => ?_) (Ev.step (fun k => ?_) h)
  · simp only [hearsayref08_Entries.j1]
    rw [if_pos (by omega), if_pos (by omega), hr]
    rcases h35 with rfl | rfl
    · rw [if_pos rfl]
    · rw [if_neg (by omega)]; rfl
  · simp only [hearsayref08_Entries.j2]
    rw [if_pos trivial, cast1 i hi]
theorem l1_more {n : Nat} (hs : s.size ≤ 262144) (hn : n < s.size) (hx : K[n]? = some 4) (h : El1 s K R out i (n + 1) bl ln ws) : El1 s K R out i n bl ln ws := by
  obtain ⟨hr, hl⟩ := rd_get hx
  refine Ev.step (fun k => ?_) h
  simp only [hearsayref08_Entries.l1]
  rw [if_pos (by omega), if_pos (by omega), if_pos (by omega), hr, if_pos rfl, cast1 n (by omega)]
theorem l1_end {n : Nat} {x : Int} (hs : s.size ≤ 262144) (hn : n ≤ s.size) (hin : i < n) (hK : K.length = s.size) (hx : K[i]? = some x) (hstop : ∀ y, K[n]? = some y → y ≠ 4) (hws : ws.length ≤ i)
    (h2 : x = 5 → i + 1 ≤ n - 1) (h : Ej4 s K R out i bl ln (ws ++ [wordOf s (bytesOf s) i n (x == 5)])) : El1 s K R out i n bl ln ws := by
  obtain ⟨hr, hl⟩ := rd_get hx
  have e1 := cast1 i (by omega)
  have e2 : wrap64 ((n : Int) - 1) = ((n - 1 : Nat) : Int) := by rw [w64 (by omega) (by omega)]; omega
  have hb : ∀ k, hearsayref08_Entries.l1 (k + 1) s K out false (i : Int) (n : Int) (pl (bytesOf s) i).1 (pl (bytesOf s) i).2 bl ln ws = hearsayref08_Entries.j4 k s K out false (i : Int) (pl (bytesOf s) i).1 (pl (bytesOf s) i).2 bl ln (ws ++ [wordOf s (bytesOf s) i n (x == 5)]) := by
    intro k
    simp only [hearsayref08_Entries.l1]
    by_cases hlt : n < s.size
    · have hy : K[n]? = some K[n] := List.getElem?_eq_getElem (by omega)
      have hry := (rd_get hy).1
      have hne := hstop _ hy
      rw [if_pos (by omega), if_pos (by omega), if_pos (by omega), hry, if_neg hne, if_pos (by omega), if_pos (by omega), if_pos (by omega), if_pos (by omega), hr, e1, e2]
      by_cases h5 : x = 5
      · have := h2 h5
        rw [if_pos h5, if_pos (by omega), if_pos (by omega), if_pos (by omega), if_pos (by omega)]
        subst h5; simp [wordOf]
      · rw [if_neg h5, if_pos (by omega)]
        have : (x == 5) = false := by simpa using h5
        rw [this]; simp [wordOf]
    · rw [if_neg (by omega), if_pos (by omega), if_pos (by omega), if_pos (by omega), if_pos (by omega), hr, e1, e2]
      by_cases h5 : x = 5
      · have := h2 h5
        rw [if_pos h5, if_pos (by omega), if_pos (by omega), if_pos (by omega), if_pos (by omega)]
        subst h5; simp [wordOf]
      · rw [if_neg h5, if_pos (by omega)]
        have : (x == 5) = false := by simpa using h5
        rw [this]; simp [wordOf]
  exact Ev.step hb h
theorem l1_run (hs : s.size ≤ 262144) (hK : K.length = s.size) {x : Int} (hx : K[i]? = some x) (hws : ws.length ≤ i) {e : Nat} (he : e ≤ s.size) (hie : i < e) (hstop : ∀ y, K[e]? = some y → y ≠ 4)
    (h2 : x = 5 → i + 1 ≤ e - 1) (h : Ej4 s K R out i bl ln (ws ++ [wordOf s (bytesOf s) i e (x == 5)])) (d : Nat) : ∀ n, e - n ≤ d → i < n → n ≤ e → (∀ j, n ≤ j → j < e → K[j]? = some 4) → El1 s K R out i n bl ln ws := by
  induction d with
  | zero =>
    intro n hd hin hne hall
    obtain rfl : n = e := by omega
    exact l1_end hs he hin hK hx hstop hws h2 h
  | succ d ih =>
    intro n hd hin hne hall
    by_cases hlt : n < e
    · exact l1_more hs (by omega) (hall n (by omega) hlt) (ih (n + 1) (by omega) (by omega) (by omega) (fun j h1 h2 => hall j (by omega) h2))
    · obtain rfl : n = e := by omega
      exact l1_end hs he hin hK hx hstop hws h2 h
theorem l0_j1 (hi : i < s.size) (h : Ej1 s K R out i bl ln ws) : El0 s K R out false i bl ln ws := by
  refine Ev.step (fun k => ?_) h
  simp only [hearsayref08_Entries.l0]
  rw [if_pos (by omega), if_neg (by simp)]
theorem l0_begin {b : Bool} {l : Int} {u : List S23} (hi : i < s.size) (h : Ej1 s K R out i (blankB ((bytesOf s).getD i 0)) (pl (bytesOf s) i).1 []) : El0 s K R out true i b l u := by
  have hg := bt_get hi
  refine Ev.step (fun k => ?_) h
  simp only [hearsayref08_Entries.l0]
  rw [if_pos (by omega), if_pos trivial, if_pos (by omega), blank_f, Option.bind_some, List.getD_eq_getElem?_getD, hg]
  rfl
/-- bytes that say nothing -/
theorem skip_run (hs : s.size ≤ 262144) {e : Nat} (he : e ≤ s.size) (h : El0 s K R out false e bl ln ws) (d : Nat) : ∀ i, e - i ≤ d → i ≤ e → (∀ j, i ≤ j → j < e → K[j]? = some 1 ∨ K[j]? = some 4) → El0 s K R out false i bl ln ws := by
  induction d with
  | zero =>
    intro i hd hi hall
    obtain rfl : i = e := by omega
    exact h
  | succ d ih =>
    intro i hd hi hall
    by_cases hlt : i < e
    · have ih := ih (i + 1) (by omega) (by omega) (fun j h1 h2 => hall j (by omega) h2)
      rcases hall i (by omega) hlt with hx | hx
      · exact l0_j1 (by omega) (j1_other hx (by omega) (by omega) (j4_go hs (by omega) hx (by omega) ih))
      · exact l0_j1 (by omega) (j1_other hx (by omega) (by omega) (j4_go hs (by omega) hx (by omega) ih))
    · obtain rfl : i = e := by omega
      exact h
end
/-- the kinds of a piece that stands in the midst -/
theorem rep_at {K L : List Int} {i m : Nat} {x : Int} (h : K.drop i = List.replicate m x ++ L) : (∀ j, i ≤ j → j < i + m → K[j]? = some x) ∧ K.drop (i + m) = L := by
  refine ⟨fun j h1 h2 => ?_, ?_⟩
  · have e : (K.drop i)[j - i]? = some x := by rw [h, List.getElem?_append_left (by simp; omega), List.getElem?_replicate, if_pos (by omega)]
    rw [List.getElem?_drop] at e
    rwa [show i + (j - i) = j by omega] at e
  · rw [← List.drop_drop, h, List.drop_left' (by simp)]
theorem cons_at {K L : List Int} {i : Nat} {x : Int} (h : K.drop i = x :: L) : K[i]? = some x ∧ K.drop (i + 1) = L := by
  have e : (K.drop i)[0]? = some x := by rw [h]; rfl
  refine ⟨by simpa using e, ?_⟩
  rw [← List.drop_drop, h]; rfl
theorem entries_l0 (s : ByteArray) (K : List Int) (hs : s.size ≤ 262144) (hK : K.length = s.size) : ∀ (n i p : Nat) (ws : List S23) (out : List S45) (op : List Nat) (bg bl : Bool) (ln : Int) (toks : List Tok),
    s.size - i ≤ n → i ≤ s.size → K.drop i = kindL ((bytesOf s).drop i) op → lex ((bytesOf s).drop i) i op = (toks, none) →
    ((bg = true ∧ p = i ∧ ws = []) ∨ (bg = false ∧ bl = blankB ((bytesOf s).getD p 0) ∧ ln = (pl (bytesOf s) p).1)) → ws.length ≤ i → out.length ≤ i →
    El0 s K ((finish s (bytesOf s) none toks p ws out).1, 0, 0, 0) out bg i bl ln ws := by
  intro n
  induction n with
  | zero =>
    intro i p ws out op bg bl ln toks hn hi hk hl hst hws hout
    have hd := bo_end s i (by omega)
    rw [hd, lex_nil] at hl
    cases op with
    | cons q op => simp at hl
    | nil =>
      simp at hl; subst hl
      refine Ev.step (f := fun _ => some (closeE (bytesOf s) p ws out, 0, 0, 0)) (fun k => ?_) (Ev.now _)
      simp only [hearsayref08_Entries.l0]
      rw [if_neg (by omega)]
      cases ws with
      | nil => rw [if_neg (by simp)]; rfl
      | cons w ws =>
        rcases hst with ⟨_, _, h⟩ | ⟨_, rfl, rfl⟩
        · cases h
        · rw [if_pos (by simp), if_pos (by omega)]; rfl
  | succ n ih =>
    intro i p ws out op bg bl ln toks hn hi hk hl hst hws hout
    by_cases hlt : i < s.size
    · -- one byte at the least
      have hcons := bo_drop s i hlt
      rw [hcons] at hk hl
      have hR : ∀ q, (bytesOf s).drop q = ((bytesOf s).drop (i + 1)).drop (q - (i + 1)) ∨ q < i + 1 := by
        intro q
        by_cases h : q < i + 1
        · exact Or.inr h
        · left; rw [List.drop_drop]; congr 1; omega
      suffices H : Ej1 s K ((finish s (bytesOf s) none toks p ws out).1, 0, 0, 0) out i (blankB ((bytesOf s).getD p 0)) (pl (bytesOf s) p).1 ws by
        rcases hst with ⟨rfl, rfl, rfl⟩ | ⟨rfl, rfl, rfl⟩
        · exact l0_begin hlt H
        · exact l0_j1 hlt H
      have hlen : ((bytesOf s).drop (i + 1)).length = s.size - (i + 1) := by rw [List.length_drop, bytesOf_length]
      rw [lex_cons] at hl
      rw [kindL_cons] at hk
      have st2 : (false = true ∧ p = i ∧ ws = []) ∨ (false = false ∧ blankB ((bytesOf s).getD p 0) = blankB ((bytesOf s).getD p 0) ∧ (pl (bytesOf s) p).1 = (pl (bytesOf s) p).1) := Or.inr ⟨rfl, rfl, rfl⟩
      have st3 : ∀ q, (false = true ∧ p = q ∧ ws = []) ∨ (false = false ∧ blankB ((bytesOf s).getD p 0) = blankB ((bytesOf s).getD p 0) ∧ (pl (bytesOf s) p).1 = (pl (bytesOf s) p).1) := fun q => Or.inr ⟨rfl, rfl, rfl⟩
      have one : ∀ op', K.drop i = 1 :: kindL ((bytesOf s).drop (i + 1)) op' → lex ((bytesOf s).drop (i + 1)) (i + 1) op' = (toks, none) → Ej1 s K ((finish s (bytesOf s) none toks p ws out).1, 0, 0, 0) out i (blankB ((bytesOf s).getD p 0)) (pl (bytesOf s) p).1 ws := by
        intro op' hk hl
        obtain ⟨hx, hk⟩ := cons_at hk
        exact j1_other hx (by omega) (by omega) (j4_go hs hlt hx (by omega) (ih (i + 1) p ws out op' false _ _ toks (by omega) (by omega) hk hl (st3 _) (by omega) (by omega)))
      have word : ∀ (x : Int) (m : Nat) (hx : x = 3 ∨ x = 5) (t : List Tok), m ≤ s.size - (i + 1) → (x = 5 → 1 ≤ m) → K.drop i = x :: (List.replicate m 4 ++ kindL (((bytesOf s).drop (i + 1)).drop m) op) → lex (((bytesOf s).drop (i + 1)).drop m) (i + 1 + m) op = (t, none) → toks = .word i (i + 1 + m) (x == 5) :: t →
          Ej1 s K ((finish s (bytesOf s) none toks p ws out).1, 0, 0, 0) out i (blankB ((bytesOf s).getD p 0)) (pl (bytesOf s) p).1 ws := by
        intro x m hx t hm hm5 hk1 hl1 ht
        rw [ht]
        obtain ⟨h0, hk1⟩ := cons_at hk1
        obtain ⟨hrep, hk1⟩ := rep_at hk1
        have e : ((bytesOf s).drop (i + 1)).drop m = (bytesOf s).drop (i + 1 + m) := by rw [List.drop_drop]
        rw [e] at hk1 hl1
        have ih := ih (i + 1 + m) p (ws ++ [wordOf s (bytesOf s) i (i + 1 + m) (x == 5)]) out op false _ _ t (by omega) (by omega) hk1 hl1 (Or.inr ⟨rfl, rfl, rfl⟩) (by simp; omega) (by omega)
        have hskip := skip_run hs (by omega) ih m (i + 1) (by omega) (by omega) (fun j h1 h2 => Or.inr (hrep j h1 h2))
        have hj4 := j4_go hs hlt h0 (by omega) hskip
        refine j1_word (by omega) h0 hx (l1_run hs hK h0 hws (e := i + 1 + m) (by omega) (by omega) (fun y hy => ?_) (fun h5 => by have := hm5 h5; omega) hj4 m (i + 1) (by omega) (by omega) (by omega) hrep)
        have : (kindL ((bytesOf s).drop (i + 1 + m)) op)[0]? = some y := by rw [← hk1]; simpa using hy
        exact kindL_head this
      split at hl
      · rename_i h1; rw [if_pos h1] at hk; exact one op hk hl
      rename_i h1; rw [if_neg h1] at hk
      split at hl
      · rename_i h2; rw [if_pos h2] at hk
        by_cases hop : op = []
        · rw [if_pos hop] at hk hl
          have hl1 := congrArg Prod.fst hl
          have hl2 := congrArg Prod.snd hl
          simp only [Toks.add] at hl1 hl2
          subst hl1
          obtain ⟨hx, hk⟩ := cons_at hk
          refine j1_other hx (by omega) (by omega) (j4_stop hs hlt hx hout ?_)
          have : lex ((bytesOf s).drop (i + 1)) (i + 1) [] = ((lex ((bytesOf s).drop (i + 1)) (i + 1) []).1, none) := by rw [← hl2]
          refine ih (i + 1) (i + 1) [] (closeE (bytesOf s) p ws out) [] true false 0 _ (by omega) (by omega) hk this (Or.inl ⟨rfl, rfl, rfl⟩) (by simp) ?_
          unfold closeE
          split
          · omega
          · simp; omega
        · rw [if_neg hop] at hk hl
          exact one op hk hl
      rename_i h2; rw [if_neg h2] at hk
      split at hl
      · rename_i h3; rw [if_pos h3] at hk
        have hr := rLen_le ((bytesOf s).drop (i + 1))
        rw [hlen] at hr
        obtain ⟨h0, hk⟩ := cons_at hk
        obtain ⟨hrep, hk⟩ := rep_at hk
        rw [List.drop_drop] at hk hl
        have ih := ih (i + 1 + rLen ((bytesOf s).drop (i + 1))) p ws out op false _ _ toks (by omega) (by omega) hk hl (st3 _) (by omega) (by omega)
        have hskip := skip_run hs (by omega) ih (rLen ((bytesOf s).drop (i + 1))) (i + 1) (by omega) (by omega) (fun j h1 h2 => Or.inl (hrep j h1 h2))
        exact j1_other h0 (by omega) (by omega) (j4_go hs hlt h0 (by omega) hskip)
      rename_i h3; rw [if_neg h3] at hk
      split at hl
      · rename_i h4; rw [if_pos h4] at hk
        rw [kindL_len _ _ (op ++ [0]) (op ++ [i]) (Nat.le_refl _) (by simp)] at hk
        exact one _ hk hl
      rename_i h4; rw [if_neg h4] at hk
      split at hl
      · rename_i h5; rw [if_pos h5] at hk
        by_cases hop : op = []
        · rw [if_pos hop] at hl; cases hl
        · rw [if_neg hop] at hl; exact one _ hk hl
      rename_i h5; rw [if_neg h5] at hk
      split at hl
      · rename_i h6; rw [if_pos h6] at hk
        split at hl
        · cases hl
        · rename_i m hm
          have hq := qEnd_le _ _ hm
          rw [hlen] at hq
          simp only [hm] at hk
          have hl1 := congrArg Prod.fst hl
          have hl2 := congrArg Prod.snd hl
          simp only [Toks.add] at hl1 hl2
          exact word 5 m (Or.inr rfl) _ (by omega) (fun _ => hq.1) hk (by rw [← hl2]) hl1.symm
      · rename_i h6; rw [if_neg h6] at hk
        have hp : 1 ≤ bLen (bt s (i : Int) :: (bytesOf s).drop (i + 1)) := bLen_pos (by unfold specB; simp [h1, h2, h3, h4, h5, h6])
        have hb := bLen_le (bt s (i : Int) :: (bytesOf s).drop (i + 1))
        rw [List.length_cons, hlen] at hb
        have e : i + bLen (bt s (i : Int) :: (bytesOf s).drop (i + 1)) = i + 1 + (bLen (bt s (i : Int) :: (bytesOf s).drop (i + 1)) - 1) := by omega
        rw [e] at hl
        have hl1 := congrArg Prod.fst hl
        have hl2 := congrArg Prod.snd hl
        simp only [Toks.add] at hl1 hl2
        exact word 3 _ (Or.inl rfl) _ (by omega) (by omega) hk (by rw [← hl2]) hl1.symm
    · have : s.size - i ≤ n := by omega
      exact ih i p ws out op bg bl ln toks this hi hk hl hst hws hout
theorem rentries_f (s : ByteArray) : Ev (fun k => hearsayref08_Entries.f k s) ((token_Entries.f s).getD ([], 0, 0, 0)) := by
  unfold token_Entries.f
  by_cases h : 262144 < s.size
  · rw [if_pos h]
    refine Ev.congr (f := fun _ => some ([], 0, 0, 2)) (fun k => ?_) (Ev.now _)
    unfold hearsayref08_Entries.f
    rw [if_pos (by omega)]
  · rw [if_neg h]
    have hs : s.size ≤ 262144 := by omega
    simp only [Option.getD_some]
    unfold fin
    cases hx : (lex (bytesOf s) 0 []).2 with
    | some y =>
      rw [finish_err]
      obtain ⟨h1, h2⟩ := lex_err _ (bytesOf s) 0 [] y (Nat.le_refl _) (by simp) hx
      rw [bytesOf_length] at h1
      have hsp := spot_f s y.1 (by omega) hs
      have hk : hearsayref08_kinds.f s = some ([], (y.1 : Int), y.2) := by unfold hearsayref08_kinds.f; rw [if_neg (by omega), hx]
      refine Ev.congr (f := fun k => (hearsayref08_SpotOf.f k s (y.1 : Int)).bind fun b => some ([], b.1, b.2, y.2)) (fun k => ?_) (Ev.bind (f := fun _ b => some ([], b.1, b.2, y.2)) hsp (Ev.now _))
      unfold hearsayref08_Entries.f
      rw [if_neg (by omega), hk, Option.bind_some, if_neg (by simp only; omega)]
    | none =>
      have hk : hearsayref08_kinds.f s = some (kindL (bytesOf s) [], 0, 0) := by unfold hearsayref08_kinds.f; rw [if_neg (by omega), hx]
      have hl : (kindL (bytesOf s) []).length = s.size := by rw [kindL_length _ (bytesOf s) 0 [] (Nat.le_refl _) hx, bytesOf_length]
      have hm := entries_l0 s (kindL (bytesOf s) []) hs hl s.size 0 0 [] [] [] true false 0 (lex (bytesOf s) 0 []).1 (by omega) (by omega) (by simp) (by rw [List.drop_zero, ← hx]) (Or.inl ⟨rfl, rfl, rfl⟩) (by simp) (by simp)
      have e : (finish s (bytesOf s) none (lex (bytesOf s) 0 []).1 0 [] []) = ((finish s (bytesOf s) none (lex (bytesOf s) 0 []).1 0 [] []).1, 0, 0, 0) := by
        have : ∀ (l : List Tok) (p : Nat) (ws : List S23) (out : List S45), finish s (bytesOf s) none l p ws out = ((finish s (bytesOf s) none l p ws out).1, 0, 0, 0) := by
          intro l
          induction l with
          | nil => intro p ws out; rfl
          | cons t l ih => intro p ws out; cases t <;> exact ih _ _ _
        exact this _ _ _ _
      rw [e]
      refine Ev.congr (fun k => ?_) hm
      unfold hearsayref08_Entries.f
      rw [if_neg (by omega), hk, Option.bind_some, if_pos rfl]
      rfl
end Go.Proofs.Ytafminohaofjnaa.Print
