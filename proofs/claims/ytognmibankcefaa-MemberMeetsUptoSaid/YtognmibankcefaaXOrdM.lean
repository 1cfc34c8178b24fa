/- Plain laws: which of two members is stronger is an order; a view into which members were merged has, of each address, the strongest; few. -/
import Derived.Test.YtognmibankcefaaXLawsM
import Derived.Test.YtognmibankcefaaXSorted
import Derived.Test.YtognmibankcefaaF14
namespace Go.Proofs.Ytognmibankcefaa.Print
open Go.RowKit Go.Proofs.YtognmibankcefaaW.PrintWords Go.Proofs.YtognmibankcefaaW.PrintLast
set_option linter.unusedVariables false
set_option linter.unusedSimpArgs false
theorem bl_cons (a b : UInt8) (x y : List UInt8) : Op.bytesLess (a :: x) (b :: y) = true ↔ a.toNat < b.toNat ∨ (a.toNat = b.toNat ∧ Op.bytesLess x y = true) := by
  simp only [Op.bytesLess]
  rw [Bool.or_eq_true, decide_eq_true_eq, UInt8.lt_iff_toNat_lt, Bool.and_eq_true, beq_iff_eq]
  exact ⟨fun h => h.imp_right (fun h => ⟨by rw [h.1], h.2⟩), fun h => h.imp_right (fun h => ⟨UInt8.toNat_inj.1 h.1, h.2⟩)⟩
theorem bl_total : ∀ a b : List UInt8, Op.bytesLess a b = false → Op.bytesLess b a = false → a = b
  | [], [], _, _ => rfl
  | [], b :: y, h, _ => by simp [Op.bytesLess] at h
  | a :: x, [], _, h => by simp [Op.bytesLess] at h
  | a :: x, b :: y, h, h' => by
    have h1 : ¬ Op.bytesLess (a :: x) (b :: y) = true := by simp [h]
    have h2 : ¬ Op.bytesLess (b :: y) (a :: x) = true := by simp [h']
    rw [bl_cons] at h1 h2
    have e : a.toNat = b.toNat := by omega
    have e1 : Op.bytesLess x y = false := by cases hh : Op.bytesLess x y with | false => rfl | true => exact absurd (Or.inr ⟨e, hh⟩) h1
    have e2 : Op.bytesLess y x = false := by cases hh : Op.bytesLess y x with | false => rfl | true => exact absurd (Or.inr ⟨e.symm, hh⟩) h2
    rw [UInt8.toNat_inj.1 e, bl_total x y e1 e2]
theorem bl_asym : ∀ a b : List UInt8, Op.bytesLess a b = true → Op.bytesLess b a = false
  | [], [], h => by simp [Op.bytesLess] at h
  | [], b :: y, _ => by simp [Op.bytesLess]
  | a :: x, [], h => by simp [Op.bytesLess] at h
  | a :: x, b :: y, h => by
    rw [bl_cons] at h
    cases hh : Op.bytesLess (b :: y) (a :: x) with
    | false => rfl
    | true =>
      rw [bl_cons] at hh
      rcases h with h | ⟨h, h'⟩
      · omega
      · rcases hh with hh | ⟨_, hh⟩
        · omega
        · rw [bl_asym x y h'] at hh
          cases hh
theorem bl_trans : ∀ a b c : List UInt8, Op.bytesLess a b = false → Op.bytesLess b c = false → Op.bytesLess a c = false
  | a, [], c, _, h => by
    cases c with
    | nil => cases a <;> rfl
    | cons _ _ => simp [Op.bytesLess] at h
  | a, b :: y, [], _, _ => by cases a <;> rfl
  | [], b :: y, c :: z, h, _ => by simp [Op.bytesLess] at h
  | a :: x, b :: y, c :: z, h, h' => by
    have h1 : ¬ Op.bytesLess (a :: x) (b :: y) = true := by simp [h]
    have h2 : ¬ Op.bytesLess (b :: y) (c :: z) = true := by simp [h']
    rw [bl_cons] at h1 h2
    cases hh : Op.bytesLess (a :: x) (c :: z) with
    | false => rfl
    | true =>
      rw [bl_cons] at hh
      rcases hh with hh | ⟨hh, hl⟩
      · omega
      · have e : a.toNat = b.toNat := by omega
        have e' : b.toNat = c.toNat := by omega
        have e1 : Op.bytesLess x y = false := by cases hq : Op.bytesLess x y with | false => rfl | true => exact absurd (Or.inr ⟨e, hq⟩) h1
        have e2 : Op.bytesLess y z = false := by cases hq : Op.bytesLess y z with | false => rfl | true => exact absurd (Or.inr ⟨e', hq⟩) h2
        rw [bl_trans x y z e1 e2] at hl
        cases hl
def ge (x y : Mem) : Prop := x.f1 > y.f1 ∨ (x.f1 = y.f1 ∧ (x.f2 > y.f2 ∨ (x.f2 = y.f2 ∧ Op.bytesLess x.f3.toList y.f3.toList = false)))
theorem ge_iff (x y : Mem) : 0 ≤ cmpM x y ↔ ge x y := by
  unfold cmpM ge
  by_cases h1 : x.f1 = y.f1
  · by_cases h2 : x.f2 = y.f2
    · cases h3 : Op.bytesLess x.f3.toList y.f3.toList
      · cases h4 : Op.bytesLess y.f3.toList x.f3.toList <;> simp [h1, h2]
      · simp [h1, h2]
    · by_cases h3 : x.f2 < y.f2
      · simp [h1, h2, h3]; omega
      · have h4 : x.f2 > y.f2 := by omega
        simp [h1, h2, h3, h4]
  · by_cases h3 : x.f1 < y.f1
    · simp [h1, h3]; omega
    · have h4 : x.f1 > y.f1 := by omega
      simp [h1, h3, h4]
theorem ge_flip (x y : Mem) (h : cmpM x y ≤ 0) : ge y x := by
  unfold cmpM at h
  unfold ge
  by_cases h1 : x.f1 = y.f1
  · by_cases h2 : x.f2 = y.f2
    · refine .inr ⟨h1.symm, .inr ⟨h2.symm, ?_⟩⟩
      cases h4 : Op.bytesLess y.f3.toList x.f3.toList with
      | false => rfl
      | true =>
        rw [if_pos h1, if_pos h2, if_neg (by rw [bl_asym _ _ h4]; simp), if_pos h4] at h
        omega
    · rw [if_pos h1, if_neg h2] at h
      by_cases h3 : x.f2 < y.f2
      · exact .inr ⟨h1.symm, .inl h3⟩
      · rw [if_neg h3, if_pos (by omega)] at h
        omega
  · rw [if_neg h1] at h
    by_cases h3 : x.f1 < y.f1
    · exact .inl h3
    · rw [if_neg h3, if_pos (by omega)] at h
      omega
theorem ge_trans {x y z : Mem} (h : ge x y) (h' : ge y z) : ge x z := by
  unfold ge at *
  rcases h with h | ⟨h1, h | ⟨h2, h3⟩⟩
  · rcases h' with h' | ⟨h4, _⟩
    · exact .inl (by omega)
    · exact .inl (by omega)
  · rcases h' with h' | ⟨h4, h' | ⟨h5, _⟩⟩
    · exact .inl (by omega)
    · exact .inr ⟨by omega, .inl (by omega)⟩
    · exact .inr ⟨by omega, .inl (by omega)⟩
  · rcases h' with h' | ⟨h4, h' | ⟨h5, h6⟩⟩
    · exact .inl (by omega)
    · exact .inr ⟨by omega, .inl (by omega)⟩
    · exact .inr ⟨by omega, .inr ⟨by omega, bl_trans _ _ _ h3 h6⟩⟩
theorem ge_self (x : Mem) : ge x x := .inr ⟨rfl, .inr ⟨rfl, bl_irr _⟩⟩
theorem ge_anti {x y : Mem} (h0 : x.f0 = y.f0) (h : ge x y) (h' : ge y x) : x = y := by
  unfold ge at *
  have h1 : x.f1 = y.f1 := by omega
  have h2 : x.f2 = y.f2 := by omega
  have h3 : Op.bytesLess x.f3.toList y.f3.toList = false := by
    rcases h with h | ⟨_, h | ⟨_, h⟩⟩
    · omega
    · omega
    · exact h
  have h4 : Op.bytesLess y.f3.toList x.f3.toList = false := by
    rcases h' with h | ⟨_, h | ⟨_, h⟩⟩
    · omega
    · omega
    · exact h
  have h5 := bl_total _ _ h3 h4
  rw [ByteArray.toList_eq, ByteArray.toList_eq] at h5
  have h6 := Go.WideShapes.bytes_inj h5
  cases x
  cases y
  simp_all
/-- a view that has, of each address, the strongest of some members -/
structure Tops (S : Mem → Prop) (L : List Mem) : Prop where
  ord : Rises L
  sub : ∀ y ∈ L, S y ∧ mayM y = true
  top : ∀ x, S x → mayM x = true → ∃ y ∈ L, y.f0 = x.f0 ∧ ge y x
theorem rises_inj {L : List Mem} (h : Rises L) {x y : Mem} (hx : x ∈ L) (hy : y ∈ L) (e : x.f0 = y.f0) : x = y := by
  have h1 := get_of h hx
  have h2 := get_of h hy
  rw [e, h2] at h1
  exact (Option.some.inj h1).symm
theorem Tops.sub_of {S : Mem → Prop} {L1 L2 : List Mem} (h1 : Tops S L1) (h2 : Tops S L2) : ∀ y ∈ L1, y ∈ L2 := by
  intro y hy
  obtain ⟨hs, hm⟩ := h1.sub y hy
  obtain ⟨z, hz, ez, gz⟩ := h2.top y hs hm
  obtain ⟨hs', hm'⟩ := h2.sub z hz
  obtain ⟨u, hu, eu, gu⟩ := h1.top z hs' hm'
  have : u = y := rises_inj h1.ord hu hy (by omega)
  subst this
  have := ge_anti ez gz gu
  subst this
  exact hz
theorem rises_nodup {L : List Mem} (h : Rises L) : L.Nodup := List.Pairwise.imp (fun hlt e => by rw [e] at hlt; omega) h
theorem Tops.unique {S : Mem → Prop} {L1 L2 : List Mem} (h1 : Tops S L1) (h2 : Tops S L2) : L1 = L2 :=
  rising_unique h1.ord h2.ord ((List.perm_ext_iff_of_nodup (rises_nodup h1.ord) (rises_nodup h2.ord)).2 (fun y => ⟨h1.sub_of h2 y, h2.sub_of h1 y⟩))
def FewP (all : List Mem) : Prop := ∀ L, Rises L → (∀ y ∈ L, ∃ z ∈ all, z.f0 = y.f0) → L.length ≤ 32
theorem Tops.merge {S : Mem → Prop} {L all : List Mem} (h : Tops S L) (hf : FewP all) (hS : ∀ y, S y → y ∈ all) {x : Mem} (hx : x ∈ all) : Tops (fun y => S y ∨ y = x) (mergeM L x).2.2 := by
  have hsame : (mayM x = true → ∃ y ∈ L, y.f0 = x.f0 ∧ ge y x) → Tops (fun y => S y ∨ y = x) L := fun hk =>
    ⟨h.ord, fun y hy => ⟨.inl (h.sub y hy).1, (h.sub y hy).2⟩, fun z hz hm => by
      rcases hz with hz | rfl
      · exact h.top z hz hm
      · exact hk hm⟩
  have hput : mayM x = true → (∀ y ∈ L, y.f0 = x.f0 → ge x y) → Tops (fun y => S y ∨ y = x) (putL x L) := fun hm hk =>
    ⟨rises_put h.ord x, fun y hy => by
      rcases mem_putL hy with rfl | hy
      · exact ⟨.inr rfl, hm⟩
      · exact ⟨.inl (h.sub y hy).1, (h.sub y hy).2⟩, fun z hz hmz => by
      have hgx : x ∈ putL x L := (get_mem (by rw [get_put h.ord, if_pos rfl] : getL (putL x L) x.f0 = some x)).1
      rcases hz with hz | rfl
      · obtain ⟨y, hy, ey, gy⟩ := h.top z hz hmz
        by_cases e : x.f0 = y.f0
        · exact ⟨x, hgx, by omega, ge_trans (hk y hy e.symm) gy⟩
        · exact ⟨y, (get_mem (by rw [get_put h.ord, if_neg e]; exact get_of h.ord hy : getL (putL x L) y.f0 = some y)).1, ey, gy⟩
      · exact ⟨_, hgx, rfl, ge_self _⟩⟩
  unfold mergeM
  cases hm : mayM x with
  | false =>
    rw [if_pos rfl]
    exact hsame (fun hk => by rw [hm] at hk; cases hk)
  | true =>
    rw [if_neg (by simp)]
    cases hg : getL L x.f0 with
    | some o =>
      obtain ⟨ho, eo⟩ := get_mem hg
      simp only
      by_cases hc : cmpM x o ≤ 0
      · rw [if_pos hc]
        exact hsame (fun _ => ⟨o, ho, eo, ge_flip _ _ hc⟩)
      · rw [if_neg hc]
        refine hput hm (fun y hy e => ?_)
        have := rises_inj h.ord hy ho (by omega)
        subst this
        exact (ge_iff _ _).1 (by omega)
    | none =>
      simp only
      have hne : ∀ y ∈ L, y.f0 ≠ x.f0 := fun y hy e => by have := get_of h.ord hy; rw [e, hg] at this; cases this
      have hlen := length_putL h.ord x
      rw [hg, if_neg (by simp)] at hlen
      have := hf (putL x L) (rises_put h.ord x) (fun y hy => by
        rcases mem_putL hy with rfl | hy
        · exact ⟨_, hx, rfl⟩
        · exact ⟨y, hS y (h.sub y hy).1, rfl⟩)
      rw [if_neg (by omega)]
      exact hput hm (fun y hy e => absurd e (hne y hy))
def runM (L xs : List Mem) : List Mem := xs.foldl (fun L x => (mergeM L x).2.2) L
theorem runM_snoc (L xs : List Mem) (x : Mem) : runM L (xs ++ [x]) = (mergeM (runM L xs) x).2.2 := by unfold runM; rw [List.foldl_append]; rfl
theorem runM_take (L xs : List Mem) (k : Nat) (x : Mem) (h : xs[k]? = some x) : runM L (xs.take (k + 1)) = (mergeM (runM L (xs.take k)) x).2.2 := by
  rw [List.take_add_one, h]
  exact runM_snoc _ _ _
theorem Tops.run {all : List Mem} (hf : FewP all) : ∀ (xs : List Mem) {S : Mem → Prop} {L : List Mem}, Tops S L → (∀ y, S y → y ∈ all) → (∀ y ∈ xs, y ∈ all) → Tops (fun y => S y ∨ y ∈ xs) (runM L xs)
  | [], S, L, h, _, _ => by
    have e : (fun y => S y ∨ y ∈ ([] : List Mem)) = S := by funext y; simp
    rw [e]
    exact h
  | x :: xs, S, L, h, hS, hx => by
    have h1 := Tops.run hf xs (h.merge hf hS (hx x (by simp))) (fun y hy => by rcases hy with hy | rfl; exact hS y hy; exact hx _ (by simp)) (fun y hy => hx y (by simp [hy]))
    have e : (fun y => (S y ∨ y = x) ∨ y ∈ xs) = (fun y => S y ∨ y ∈ x :: xs) := by funext y; simp [or_assoc]
    rw [e] at h1
    exact h1
theorem tops_nil : Tops (fun _ => False) [] := ⟨List.Pairwise.nil, fun y hy => absurd hy (by simp), fun x hx => hx.elim⟩
theorem Tops.of_run {all : List Mem} (hf : FewP all) (xs : List Mem) (h : ∀ y ∈ xs, y ∈ all) : Tops (fun y => y ∈ xs) (runM [] xs) := by
  have h1 := Tops.run hf xs tops_nil (fun y hy => hy.elim) h
  have e : (fun y => False ∨ y ∈ xs) = (fun y => y ∈ xs) := by funext y; simp
  rw [e] at h1
  exact h1
/-- two views into which each other's members were merged -/
theorem meets {a b : List Mem} (hf : FewP (a ++ b)) : runM (runM [] a) (runM [] b) = runM (runM [] b) (runM [] a) := by
  have ha := Tops.of_run hf a (fun y hy => by simp [hy])
  have hb := Tops.of_run hf b (fun y hy => by simp [hy])
  have key : ∀ {P Q : Mem → Prop} {L M : List Mem}, Tops P L → Tops Q M → (∀ y, P y → y ∈ a ++ b) → (∀ y, Q y → y ∈ a ++ b) → Tops (fun y => P y ∨ Q y) (runM L M) := fun {P Q L M} hL hM hP hQ => by
    have h1 := Tops.run hf M hL hP (fun y hy => hQ y (hM.sub y hy).1)
    refine ⟨h1.ord, fun y hy => ?_, fun x hx hm => ?_⟩
    · obtain ⟨h2, h3⟩ := h1.sub y hy
      exact ⟨h2.imp_right (fun h => (hM.sub y h).1), h3⟩
    · rcases hx with hx | hx
      · exact h1.top x (.inl hx) hm
      · obtain ⟨y, hy, ey, gy⟩ := hM.top x hx hm
        obtain ⟨z, hz, ez, gz⟩ := h1.top y (.inr hy) (hM.sub y hy).2
        exact ⟨z, hz, by omega, ge_trans gz gy⟩
  have h1 := key ha hb (fun y hy => by simp [hy]) (fun y hy => by simp [hy])
  have h2 := key hb ha (fun y hy => by simp [hy]) (fun y hy => by simp [hy])
  have e : (fun y => y ∈ b ∨ y ∈ a) = (fun y => y ∈ a ∨ y ∈ b) := by funext y; simp [or_comm]
  rw [e] at h2
  exact h1.unique h2
end Go.Proofs.Ytognmibankcefaa.Print
