/- Plain law of a heap in an array: sifting up and down. -/
import Derived.Test.YtihmblbnnhcdnaaKinds
namespace Go.Proofs.Ytihmblbnnhcdnaa.Heap
set_option linter.unusedVariables false
variable {α : Type}
/-- an order by which things are ahead of each other (all but antisymmetric) -/
structure Pre (lt : α → α → Bool) : Prop where
  tr : ∀ a b c, lt b a = false → lt c b = false → lt c a = false
  asy : ∀ a b, lt a b = true → lt b a = false
def swp (f : Nat → α) (i j : Nat) : Nat → α := fun k => if k = i then f j else if k = j then f i else f k
theorem swp_at1 (f : Nat → α) (i j : Nat) : swp f i j i = f j := by unfold swp; rw [if_pos rfl]
theorem swp_at2 (f : Nat → α) (i j : Nat) : swp f i j j = f i := by
  unfold swp
  by_cases h : j = i
  · rw [if_pos h, h]
  · rw [if_neg h, if_pos rfl]
theorem swp_far (f : Nat → α) {i j k : Nat} (h1 : k ≠ i) (h2 : k ≠ j) : swp f i j k = f k := by unfold swp; rw [if_neg h1, if_neg h2]
/-- no one among the first n is ahead of the one above -/
def IsH (lt : α → α → Bool) (n : Nat) (f : Nat → α) : Prop := ∀ k, 0 < k → k < n → lt (f k) (f ((k - 1) / 2)) = false
/-- a heap but for the place j (its own parent, and its kids) -/
structure Hole (lt : α → α → Bool) (n : Nat) (f : Nat → α) (j : Nat) : Prop where
  rest : ∀ k, 0 < k → k < n → k ≠ j → (k - 1) / 2 ≠ j → lt (f k) (f ((k - 1) / 2)) = false
  over : ∀ k, 0 < k → k < n → (k - 1) / 2 = j → 0 < j → lt (f k) (f ((j - 1) / 2)) = false
def Par (lt : α → α → Bool) (f : Nat → α) (j : Nat) : Prop := 0 < j → lt (f j) (f ((j - 1) / 2)) = false
def Kids (lt : α → α → Bool) (n : Nat) (f : Nat → α) (j : Nat) : Prop := ∀ k, 0 < k → k < n → (k - 1) / 2 = j → lt (f k) (f j) = false
theorem Hole.full {lt : α → α → Bool} {n : Nat} {f : Nat → α} {j : Nat} (h : Hole lt n f j) (hp : Par lt f j) (hk : Kids lt n f j) : IsH lt n f := by
  intro k h0 hn
  by_cases h1 : k = j
  · subst h1; exact hp h0
  · by_cases h2 : (k - 1) / 2 = j
    · rw [h2]; exact hk k h0 hn h2
    · exact h.rest k h0 hn h1 h2
theorem IsH.hole {lt : α → α → Bool} (hlt : Pre lt) {n : Nat} {f : Nat → α} (h : IsH lt n f) (j : Nat) (hj : j < n) : Hole lt n f j :=
  ⟨fun k h0 hn _ _ => h k h0 hn, fun k h0 hn hk hj0 => hlt.tr _ (f j) _ (h j hj0 hj) (by have := h k h0 hn; rw [hk] at this; exact this)⟩
/-- up: one round -/
theorem up_step {lt : α → α → Bool} (hlt : Pre lt) {n : Nat} {f : Nat → α} {j : Nat} (hj : j < n) (h0 : 0 < j) (h : Hole lt n f j) (hk : Kids lt n f j) (hl : lt (f j) (f ((j - 1) / 2)) = true) :
    Hole lt n (swp f ((j - 1) / 2) j) ((j - 1) / 2) ∧ Kids lt n (swp f ((j - 1) / 2) j) ((j - 1) / 2) := by
  have hpj : (j - 1) / 2 < j := by omega
  refine ⟨⟨fun k hk0 hkn hne hpne => ?_, fun k hk0 hkn hpe hp0 => ?_⟩, fun k hk0 hkn hpe => ?_⟩
  · by_cases h1 : k = j
    · subst h1; exact absurd rfl hpne
    · rw [swp_far f hne h1]
      by_cases h2 : (k - 1) / 2 = j
      · rw [h2, swp_at2]; exact h.over k hk0 hkn h2 h0
      · rw [swp_far f hpne h2]; exact h.rest k hk0 hkn h1 h2
  · have hpp : (((j - 1) / 2) - 1) / 2 ≠ j ∧ (((j - 1) / 2) - 1) / 2 ≠ (j - 1) / 2 := by omega
    rw [swp_far f hpp.2 hpp.1]
    have hb : lt (f ((j - 1) / 2)) (f (((j - 1) / 2 - 1) / 2)) = false := h.rest _ hp0 (by omega) (by omega) (by omega)
    by_cases h1 : k = j
    · subst h1; rw [swp_at2]; exact hb
    · have hkp : k ≠ (j - 1) / 2 := by omega
      rw [swp_far f hkp h1]
      have h2 := h.rest k hk0 hkn h1 (by omega)
      rw [hpe] at h2
      exact hlt.tr _ _ _ hb h2
  · rw [swp_at1]
    by_cases h1 : k = j
    · subst h1; rw [swp_at2]; exact hlt.asy _ _ hl
    · have hkp : k ≠ (j - 1) / 2 := by omega
      rw [swp_far f hkp h1]
      have h2 := h.rest k hk0 hkn h1 (by omega)
      rw [hpe] at h2
      exact hlt.tr _ _ _ (hlt.asy _ _ hl) h2
/-- down: one round, c the lesser kid -/
theorem down_step {lt : α → α → Bool} (hlt : Pre lt) {n : Nat} {f : Nat → α} {i c : Nat} (hc : c < n) (hc0 : 0 < c) (hpc : (c - 1) / 2 = i) (h : Hole lt n f i) (hsib : ∀ k, 0 < k → k < n → (k - 1) / 2 = i → lt (f k) (f c) = false) (hl : lt (f c) (f i) = true) :
    Hole lt n (swp f i c) c ∧ Par lt (swp f i c) c ∧ Par lt (swp f i c) i := by
  have hic : i < c := by omega
  refine ⟨⟨fun k hk0 hkn hne hpne => ?_, fun k hk0 hkn hpe _ => ?_⟩, fun _ => ?_, fun hi0 => ?_⟩
  · by_cases h1 : k = i
    · subst h1
      have hp1 : (k - 1) / 2 ≠ k := by omega
      rw [swp_at1, swp_far f hp1 hpne]
      exact h.over c hc0 hc hpc (by omega)
    · rw [swp_far f h1 hne]
      by_cases h2 : (k - 1) / 2 = i
      · rw [h2, swp_at1]; exact hsib k hk0 hkn h2
      · rw [swp_far f h2 hpne]; exact h.rest k hk0 hkn h1 h2
  · have hk1 : k ≠ i := by omega
    have hk2 : k ≠ c := by omega
    rw [swp_far f hk1 hk2, hpc, swp_at1]
    have h2 := h.rest k hk0 hkn hk1 (by omega)
    rw [hpe] at h2
    exact h2
  · rw [hpc, swp_at2, swp_at1]
    exact hlt.asy _ _ hl
  · have hp1 : (i - 1) / 2 ≠ i := by omega
    have hp2 : (i - 1) / 2 ≠ c := by omega
    rw [swp_at1, swp_far f hp1 hp2]
    exact h.over c hc0 hc hpc hi0
/-- the head of a heap is not behind anyone -/
theorem IsH.head {lt : α → α → Bool} (hlt : Pre lt) (hre : ∀ a, lt a a = false) {n : Nat} {f : Nat → α} (h : IsH lt n f) : ∀ k, k < n → lt (f k) (f 0) = false := by
  intro k
  induction k using Nat.strongRecOn with
  | ind k ih =>
    intro hk
    by_cases h0 : k = 0
    · subst h0; exact hre _
    · exact hlt.tr _ _ _ (ih ((k - 1) / 2) (by omega) (by omega)) (h k (by omega) hk)
theorem IsH.less {lt : α → α → Bool} {n m : Nat} {f : Nat → α} (h : IsH lt n f) (hm : m ≤ n) : IsH lt m f := fun k h0 hk => h k h0 (by omega)
theorem IsH.congr {lt : α → α → Bool} {n : Nat} {f g : Nat → α} (h : IsH lt n f) (he : ∀ k, k < n → f k = g k) : IsH lt n g := fun k h0 hk => by
  rw [← he k hk, ← he _ (by omega)]; exact h k h0 hk
end Go.Proofs.Ytihmblbnnhcdnaa.Heap
