/- The reference's kinds of bytes, in plain words. -/
import Derived.Test.YtafminohaofjnaaF26PD
import Derived.Test.YtafminohaofjnaaXREnt
namespace Go.Proofs.Ytafminohaofjnaa.Print
open Go.RowKit Go.Proofs.YtafminohaofjnaaW.PrintWords Go.Proofs.YtafminohaofjnaaW.PrintLast Go.Proofs.YtafminohaofjnaaW.PrintMore
set_option linter.unusedVariables false
set_option linter.unusedSimpArgs false
/-- the row of kinds, of which the first ones are told -/
def krow (n : Nat) (pre : List Int) : List Int := pre ++ List.replicate (n - pre.length) 0
theorem krow_len {n : Nat} {pre : List Int} (h : pre.length ≤ n) : (krow n pre).length = n := by unfold krow; simp; omega
theorem krow_set {n : Nat} {pre : List Int} (h : pre.length < n) (v : Int) : (krow n pre).set pre.length v = krow n (pre ++ [v]) := by
  unfold krow
  rw [List.set_append_right _ _ (Nat.le_refl _), Nat.sub_self, show n - pre.length = (n - (pre ++ [v]).length) + 1 by simp; omega, List.replicate_succ, List.set_cons_zero, List.append_assoc]
  rfl
theorem krow_over {n : Nat} {pre : List Int} (u v : Int) (h : pre.length < n) : (krow n (pre ++ [u])).set pre.length v = krow n (pre ++ [v]) := by
  unfold krow
  rw [List.append_assoc, List.append_assoc, List.set_append_right _ _ (Nat.le_refl _), Nat.sub_self]
  simp
theorem krow_all {n : Nat} {pre : List Int} (h : pre.length = n) : krow n pre = pre := by unfold krow; rw [h]; simp
theorem special_f (c : Int) : hearsayref08_special.f c = some (specB c) := by
  unfold hearsayref08_special.f specB
  rw [blank_f, Option.bind_some]
  cases hb : blankB c with
  | true => rfl
  | false =>
    rw [if_neg (by simp)]
    by_cases h1 : c = 10
    · subst h1; rfl
    by_cases h2 : c = 59
    · subst h2; rfl
    by_cases h3 : c = 40
    · subst h3; rfl
    by_cases h4 : c = 41
    · subst h4; rfl
    rw [if_neg h1, if_neg h2, if_neg h3, if_neg h4]
    simp [h1, h2, h3, h4]
/-- does a backslash take a byte along? -/
def takesB (s : ByteArray) (p : Nat) : Bool := decide (bt s (p : Int) = 92 ∧ p + 1 < s.size ∧ bt s ((p + 1 : Nat) : Int) ≠ 10)
theorem takes_f (s : ByteArray) (p : Nat) (hp : p < s.size) (hs : s.size ≤ 262144) : hearsayref08_takes.f s (p : Int) = some (takesB s p) := by
  unfold hearsayref08_takes.f takesB
  rw [if_pos (by omega), if_pos (by omega), cast1 p (by omega)]
  by_cases h1 : bt s (p : Int) = 92
  · rw [if_pos h1]
    by_cases h2 : p + 1 < s.size
    · rw [if_pos (by omega), if_pos (by omega)]
      congr 1
      rw [Bool.eq_iff_iff, bne_iff_ne, decide_eq_true_iff]
      exact ⟨fun h => ⟨h1, h2, h⟩, fun h => h.2.2⟩
    · rw [if_neg (by omega)]
      simp [h2]
  · rw [if_neg h1]
    simp [h1]
theorem takes_at {s : ByteArray} {p : Nat} (hp : p < s.size) : (bt s (p : Int) = 92 ∧ (bytesOf s).drop (p + 1) ≠ [] ∧ ((bytesOf s).drop (p + 1)).head? ≠ some 10) ↔ takesB s p = true := by
  unfold takesB
  rw [decide_eq_true_iff]
  constructor
  · rintro ⟨h1, h2, h3⟩
    by_cases h : p + 1 < s.size
    · refine ⟨h1, h, ?_⟩
      rw [bo_drop s (p + 1) h] at h3
      simpa using h3
    · exact absurd (bo_end s (p + 1) (by omega)) h2
  · rintro ⟨h1, h2, h3⟩
    rw [bo_drop s (p + 1) h2]
    exact ⟨h1, by simp, by simpa using h3⟩
def opsI (ops : List Nat) : List Int := List.map (fun q : Nat => ((q : Nat) : Int)) ops
/-- what is told in the end, from byte p on -/
def KR (s : ByteArray) (pre : List Int) (p : Nat) (ops : List Nat) : List Int × Int × Int :=
  match (lex ((bytesOf s).drop p) p ops).2 with
  | none => (pre ++ kindL ((bytesOf s).drop p) ops, 0, 0)
  | some y => ([], (y.1 : Int), y.2)
section
variable {s : ByteArray} {R : List Int × Int × Int}
abbrev K0 (s : ByteArray) (R : List Int × Int × Int) (pre : List Int) (ops : List Nat) : Prop := Ev (fun k => hearsayref08_kindsP.l0 k s (krow s.size pre) (opsI ops) (pre.length : Int)) R
set_option maxHeartbeats 4000000 in
/-- a remark -/
theorem k_l1 (hs : s.size ≤ 262144) (ops : List Nat) (d : Nat) : ∀ (pre : List Int) (p : Nat), pre.length = p + 1 → p < s.size → s.size - p ≤ d → K0 s R (pre ++ List.replicate (rLen ((bytesOf s).drop (p + 1))) 1) ops → Ev (fun k => hearsayref08_kindsP.l1 k s (krow s.size pre) (opsI ops) (p : Int)) R := by
  induction d with
  | zero => intro pre p h1 h2 h3; omega
  | succ d ih =>
    intro pre p h1 h2 h3 H
    have e1 := cast1 p (by omega)
    by_cases hlt : p + 1 < s.size
    · rw [bo_drop s (p + 1) hlt, rLen] at H
      by_cases hc : bt s ((p + 1 : Nat) : Int) = 10
      · rw [if_pos hc] at H
        simp only [List.replicate_zero, List.append_nil] at H
        unfold K0 at H
        rw [h1] at H
        refine Ev.step (fun k => ?_) H
        simp only [hearsayref08_kindsP.l1]
        rw [e1, if_pos (by omega), if_pos (by omega), if_pos hc]
      · rw [if_neg hc] at H
        have ih := ih (pre ++ [1]) (p + 1) (by simp; omega) hlt (by omega) (by
          rw [List.append_assoc, List.singleton_append, ← List.replicate_succ]
          exact H)
        refine Ev.step (fun k => ?_) ih
        simp only [hearsayref08_kindsP.l1]
        rw [e1, if_pos (by omega), if_pos (by omega), if_neg hc, if_pos (by rw [krow_len (by omega)]; omega), Int.toNat_natCast, ← h1, krow_set (by omega)]
    · rw [bo_end s (p + 1) (by omega)] at H
      simp only [rLen, List.replicate_zero, List.append_nil] at H
      unfold K0 at H
      rw [h1] at H
      refine Ev.step (fun k => ?_) H
      simp only [hearsayref08_kindsP.l1]
      rw [e1, if_neg (by omega)]
set_option maxHeartbeats 4000000 in
/-- a quoted word -/
theorem k_l2 (hs : s.size ≤ 262144) (ops : List Nat) (bg : Nat) (d : Nat) : ∀ (pre : List Int) (p : Nat), pre.length = p → p ≤ s.size → s.size - p < d →
    (∀ m, qEnd ((bytesOf s).drop p) = some m → K0 s R (pre ++ List.replicate m 4) ops) → (qEnd ((bytesOf s).drop p) = none → R = ([], (bg : Int), 80)) → Ev (fun k => hearsayref08_kindsP.l2 k s (krow s.size pre) (opsI ops) (p : Int) (bg : Int)) R := by
  induction d with
  | zero => intro pre p h1 h2 h3; omega
  | succ d ih =>
    intro pre p h1 h2 h3 H HN
    have e1 : wrap64 ((p : Int) + 1) = ((p + 1 : Nat) : Int) := cast1 p (by omega)
    by_cases hlt : p < s.size
    · rw [bo_drop s p hlt, qEnd_cons] at H HN
      by_cases h10 : bt s (p : Int) = 10
      · have hR := HN (by rw [if_pos h10])
        refine Ev.step (f := fun k => hearsayref08_kindsP.j4 k s (krow s.size pre) (opsI ops) (p : Int) (bg : Int) false) (fun k => ?_) (Ev.step (f := fun _ => some ([], (bg : Int), 80)) (fun k => ?_) (hR ▸ Ev.now _))
        · simp only [hearsayref08_kindsP.l2]
          rw [if_pos (by omega), if_pos (by omega), if_pos h10]
        · simp only [hearsayref08_kindsP.j4]
          rw [if_neg (by simp), if_neg (by omega), if_pos (by omega), if_pos (by omega), if_pos h10]
      · rw [if_neg h10] at H HN
        by_cases h34 : bt s (p : Int) = 34
        · have h1' := H 1 (by rw [if_pos h34])
          unfold K0 at h1'
          simp only [List.replicate_one, List.length_append, List.length_singleton, h1] at h1'
          refine Ev.step (f := fun k => hearsayref08_kindsP.j4 k s (krow s.size pre) (opsI ops) (p : Int) (bg : Int) false) (fun k => ?_) (Ev.step (fun k => ?_) h1')
          · simp only [hearsayref08_kindsP.l2]
            rw [if_pos (by omega), if_pos (by omega), if_neg h10]
            congr 1
            simp [h34]
          · simp only [hearsayref08_kindsP.j4]
            rw [if_neg (by simp), if_neg (by omega), if_pos (by omega), if_pos (by omega), if_neg h10, if_pos (by rw [krow_len (by omega)]; omega), e1, Int.toNat_natCast]
            have e := krow_set (n := s.size) (pre := pre) (by omega) 4
            rw [h1] at e
            rw [e]
        · rw [if_neg h34] at H HN
          have htk := takes_f s p hlt hs
          have e4 := krow_set (n := s.size) (pre := pre) (by omega) 4
          rw [h1] at e4
          have hst : ∀ k, hearsayref08_kindsP.l2 (k + 1) s (krow s.size pre) (opsI ops) (p : Int) (bg : Int) = hearsayref08_kindsP.j4 k s (krow s.size pre) (opsI ops) (p : Int) (bg : Int) true := fun k => by
            simp only [hearsayref08_kindsP.l2]
            rw [if_pos (by omega), if_pos (by omega), if_neg h10]
            congr 1
            simp [h34]
          cases ht : takesB s p with
          | true =>
            have hcond := (takes_at hlt).2 ht
            rw [if_pos hcond] at H HN
            obtain ⟨_, hp1, _⟩ := of_decide_eq_true ht
            have htl : ((bytesOf s).drop (p + 1)).tail = (bytesOf s).drop (p + 2) := by rw [bo_drop s (p + 1) hp1]; rfl
            rw [htl] at H HN
            have e5 := krow_set (n := s.size) (pre := pre ++ [4]) (by simp; omega) 4
            have hl : (pre ++ [(4 : Int)]).length = p + 1 := by simp; omega
            rw [hl] at e5
            have ih := ih (pre ++ [4] ++ [4]) (p + 2) (by simp; omega) (by omega) (by omega) (fun m hm => by
              have := H (m + 2) (by rw [hm]; rfl)
              rw [List.append_assoc, List.append_assoc]
              exact this) (fun h => HN (by rw [h]; rfl))
            refine Ev.step hst (Ev.step (fun k => ?_) ih)
            simp only [hearsayref08_kindsP.j4]
            rw [if_pos trivial, if_pos (by omega), if_pos (by rw [krow_len (by omega)]; omega), Option.bind_some, htk, Option.bind_some, ht, if_pos rfl, e1, if_pos (by omega), if_pos (by rw [krow_len (by omega)]; omega), Int.toNat_natCast, Int.toNat_natCast, e4, e5, cast1 (p + 1) (by omega)]
          | false =>
            have hcond : ¬ (bt s (p : Int) = 92 ∧ (bytesOf s).drop (p + 1) ≠ [] ∧ ((bytesOf s).drop (p + 1)).head? ≠ some 10) := fun h => by
              have := (takes_at hlt).1 h
              rw [ht] at this; cases this
            rw [if_neg hcond] at H HN
            have ih := ih (pre ++ [4]) (p + 1) (by simp; omega) (by omega) (by omega) (fun m hm => by
              have := H (m + 1) (by rw [hm]; rfl)
              rw [List.append_assoc]
              exact this) (fun h => HN (by rw [h]; rfl))
            refine Ev.step hst (Ev.step (fun k => ?_) ih)
            simp only [hearsayref08_kindsP.j4]
            rw [if_pos trivial, if_pos (by omega), if_pos (by rw [krow_len (by omega)]; omega), Option.bind_some, htk, Option.bind_some, ht, if_neg (by simp), Int.toNat_natCast, e4, e1]
    · have hR := HN (by rw [bo_end s p (by omega)]; rfl)
      refine Ev.step (f := fun k => hearsayref08_kindsP.j4 k s (krow s.size pre) (opsI ops) (p : Int) (bg : Int) false) (fun k => ?_) (Ev.step (f := fun _ => some ([], (bg : Int), 80)) (fun k => ?_) (hR ▸ Ev.now _))
      · simp only [hearsayref08_kindsP.l2]
        rw [if_neg (by omega)]
      · simp only [hearsayref08_kindsP.j4]
        rw [if_neg (by simp), if_pos (by omega)]
set_option maxHeartbeats 4000000 in
/-- a bare word, behind its first bytes -/
theorem k_l3 (hs : s.size ≤ 262144) (ops : List Nat) (d : Nat) : ∀ (pre : List Int) (p : Nat), pre.length = p + 1 → p < s.size → s.size - p ≤ d → K0 s R (pre ++ List.replicate (bLen ((bytesOf s).drop (p + 1))) 4) ops → Ev (fun k => hearsayref08_kindsP.l3 k s (krow s.size pre) (opsI ops) (p : Int)) R := by
  induction d with
  | zero => intro pre p h1 h2 h3; omega
  | succ d ih =>
    intro pre p h1 h2 h3 H
    have e1 := cast1 p (by omega)
    have stop : ∀ H' : K0 s R pre ops, Ev (fun k => hearsayref08_kindsP.j7 k s (krow s.size pre) (opsI ops) (p : Int) false) R := fun H' => by
      unfold K0 at H'
      rw [h1] at H'
      refine Ev.step (fun k => ?_) H'
      simp only [hearsayref08_kindsP.j7]
      rw [if_neg (by simp), e1]
    by_cases hlt : p + 1 < s.size
    · rw [bo_drop s (p + 1) hlt, bLen_cons] at H
      have hst : ∀ k, hearsayref08_kindsP.l3 (k + 1) s (krow s.size pre) (opsI ops) (p : Int) = hearsayref08_kindsP.j7 k s (krow s.size pre) (opsI ops) (p : Int) (!specB (bt s ((p + 1 : Nat) : Int))) := fun k => by
        simp only [hearsayref08_kindsP.l3]
        rw [e1, if_pos (by omega), if_pos (by omega), special_f, Option.bind_some]
      cases hsp : specB (bt s ((p + 1 : Nat) : Int)) with
      | true =>
        rw [if_pos hsp] at H
        simp only [List.replicate_zero, List.append_nil] at H
        rw [hsp] at hst
        exact Ev.step hst (stop H)
      | false =>
        rw [if_neg (fun h => by rw [hsp] at h; cases h)] at H
        rw [hsp] at hst
        have htk := takes_f s (p + 1) hlt hs
        have e4 := krow_set (n := s.size) (pre := pre) (by omega) 4
        rw [h1] at e4
        cases ht : takesB s (p + 1) with
        | true =>
          have hcond := (takes_at hlt).2 ht
          rw [if_pos hcond] at H
          obtain ⟨_, hp1, _⟩ := of_decide_eq_true ht
          have htl : ((bytesOf s).drop (p + 1 + 1)).tail = (bytesOf s).drop (p + 2 + 1) := by rw [bo_drop s (p + 1 + 1) hp1]; rfl
          rw [htl] at H
          have e5 := krow_set (n := s.size) (pre := pre ++ [4]) (by simp; omega) 4
          have hl : (pre ++ [(4 : Int)]).length = p + 1 + 1 := by simp; omega
          rw [hl] at e5
          have ih := ih (pre ++ [4] ++ [4]) (p + 2) (by simp; omega) (by omega) (by omega) (by
            rw [List.append_assoc, List.append_assoc]
            exact H)
          refine Ev.step hst (Ev.step (fun k => ?_) ih)
          simp only [hearsayref08_kindsP.j7]
          rw [if_pos (by rfl), e1, if_pos (by omega), if_pos (by rw [krow_len (by omega)]; omega), Option.bind_some, htk, Option.bind_some, ht, if_pos rfl, cast1 (p + 1) (by omega), if_pos (by omega), if_pos (by rw [krow_len (by omega)]; omega), Int.toNat_natCast, Int.toNat_natCast, e4, e5]
        | false =>
          have hcond : ¬ (bt s ((p + 1 : Nat) : Int) = 92 ∧ (bytesOf s).drop (p + 1 + 1) ≠ [] ∧ ((bytesOf s).drop (p + 1 + 1)).head? ≠ some 10) := fun h => by
            have := (takes_at hlt).1 h
            rw [ht] at this; cases this
          rw [if_neg hcond] at H
          have ih := ih (pre ++ [4]) (p + 1) (by simp; omega) hlt (by omega) (by
            rw [List.append_assoc]
            exact H)
          refine Ev.step hst (Ev.step (fun k => ?_) ih)
          simp only [hearsayref08_kindsP.j7]
          rw [if_pos (by rfl), e1, if_pos (by omega), if_pos (by rw [krow_len (by omega)]; omega), Option.bind_some, htk, Option.bind_some, ht, if_neg (by simp), Int.toNat_natCast, e4]
    · rw [bo_end s (p + 1) (by omega)] at H
      simp only [bLen, List.replicate_zero, List.append_nil] at H
      refine Ev.step (fun k => ?_) (stop H)
      simp only [hearsayref08_kindsP.l3]
      rw [e1, if_neg (by omega)]

theorem KR_none {pre : List Int} {p : Nat} {ops : List Nat} {p' : Nat} {ops' : List Nat} {pre' : List Int} {t : Tok} (h : lex ((bytesOf s).drop p) p ops = (lex ((bytesOf s).drop p') p' ops').add t ∨ lex ((bytesOf s).drop p) p ops = lex ((bytesOf s).drop p') p' ops') (hk : pre ++ kindL ((bytesOf s).drop p) ops = pre' ++ kindL ((bytesOf s).drop p') ops') : KR s pre p ops = KR s pre' p' ops' := by
  unfold KR
  have e : (lex ((bytesOf s).drop p) p ops).2 = (lex ((bytesOf s).drop p') p' ops').2 := by
    rcases h with h | h
    · rw [h]; rfl
    · rw [h]
  rw [e, hk]
set_option maxHeartbeats 8000000 in
theorem k_l0 (hs : s.size ≤ 262144) (d : Nat) : ∀ (pre : List Int) (ops : List Nat), s.size - pre.length < d → pre.length ≤ s.size → ops.length ≤ pre.length → K0 s (KR s pre pre.length ops) pre ops := by
  induction d with
  | zero => intro pre ops hd; omega
  | succ d ih =>
    intro pre ops hd hle hol
    obtain ⟨p, hp⟩ : ∃ p, p = pre.length := ⟨_, rfl⟩
    unfold K0
    rw [← hp] at hd hle hol ⊢
    have hoI : (opsI ops).length = ops.length := by simp [opsI]
    by_cases hlt : p < s.size
    · have e1 := cast1 p (by omega)
      have hkl := krow_len (n := s.size) (pre := pre) (by omega)
      have hset : ∀ v, (krow s.size pre).set p v = krow s.size (pre ++ [v]) := fun v => by rw [hp]; exact krow_set (by omega) v
      have hover : ∀ u v, (krow s.size (pre ++ [u])).set p v = krow s.size (pre ++ [v]) := fun u v => by rw [hp]; exact krow_over u v (by omega)
      have hkl1 : ∀ u, (krow s.size (pre ++ [u])).length = s.size := fun u => krow_len (by simp; omega)
      have hd1 := bo_drop s p hlt
      have hlx := lex_cons (bt s (p : Int)) ((bytesOf s).drop (p + 1)) p ops
      have hkx := kindL_cons (bt s (p : Int)) ((bytesOf s).drop (p + 1)) ops
      rw [← hd1] at hlx hkx
      have next : ∀ (v : Int) (ops' : List Nat), ops'.length ≤ p + 1 → K0 s (KR s (pre ++ [v]) (p + 1) ops') (pre ++ [v]) ops' := fun v ops' ho => by
        have := ih (pre ++ [v]) ops' (by simp; omega) (by simp; omega) (by simp; omega)
        rwa [show (pre ++ [v]).length = p + 1 by simp [hp]] at this
      have next' : ∀ (v : Int) (ops' : List Nat), ops'.length ≤ p + 1 → Ev (fun k => hearsayref08_kindsP.l0 k s (krow s.size (pre ++ [v])) (opsI ops') ((p + 1 : Nat) : Int)) (KR s (pre ++ [v]) (p + 1) ops') := fun v ops' ho => by
        have := next v ops' ho
        unfold K0 at this
        rwa [show (pre ++ [v]).length = p + 1 by simp [hp]] at this
      suffices H : Ev (fun k => hearsayref08_kindsP.j1 k s (krow s.size (pre ++ [1])) (opsI ops) (p : Int) (bt s (p : Int)) (decide (bt s (p : Int) = 10 ∧ ops = []))) (KR s pre p ops) by
        refine Ev.step (fun k => ?_) H
        simp only [hearsayref08_kindsP.l0]
        rw [if_pos (by omega), if_pos (by omega), if_pos (by rw [hkl]; omega), Option.bind_some, Int.toNat_natCast, hset]
        by_cases hc : bt s (p : Int) = 10
        · rw [if_pos hc]
          congr 1
          rw [hoI, Bool.eq_iff_iff, beq_iff_eq, decide_eq_true_iff]
          constructor
          · intro h; exact ⟨hc, List.length_eq_zero_iff.1 (by omega)⟩
          · rintro ⟨_, h⟩; rw [h]; rfl
        · rw [if_neg hc]
          congr 1
          symm
          exact decide_eq_false (fun h => hc h.1)
      by_cases hstop : bt s (p : Int) = 10 ∧ ops = []
      · obtain ⟨h10, rfl⟩ := hstop
        have hb : ¬ blankB (bt s (p : Int)) = true := by rw [h10]; decide
        rw [KR_none (pre' := pre ++ [2]) (p' := p + 1) (ops' := []) (t := .stop p) (Or.inl (by rw [hlx, if_neg hb, if_pos h10, if_pos rfl])) (by rw [hkx, if_neg hb, if_pos h10, if_pos rfl, List.append_assoc]; rfl)]
        refine Ev.step (fun k => ?_) (next' 2 [] (by simp))
        simp only [hearsayref08_kindsP.j1]
        rw [if_pos (by simp [h10]), if_pos (by omega), if_pos (by rw [hkl1]; omega), Int.toNat_natCast, hover, e1]
      · have hfalse : decide (bt s (p : Int) = 10 ∧ ops = []) = false := decide_eq_false hstop
        rw [hfalse]
        by_cases h59 : bt s (p : Int) = 59
        · have hb : ¬ blankB (bt s (p : Int)) = true := by rw [h59]; decide
          have hr := rLen_le ((bytesOf s).drop (p + 1))
          rw [List.length_drop, bytesOf_length] at hr
          have hl1 := ih (pre ++ [1] ++ List.replicate (rLen ((bytesOf s).drop (p + 1))) 1) ops (by simp; omega) (by simp; omega) (by simp; omega)
          have hlen : (pre ++ [1] ++ List.replicate (rLen ((bytesOf s).drop (p + 1))) (1 : Int)).length = p + 1 + rLen ((bytesOf s).drop (p + 1)) := by simp; omega
          rw [hlen] at hl1
          rw [KR_none (t := .stop 0) (pre' := pre ++ [1] ++ List.replicate (rLen ((bytesOf s).drop (p + 1))) 1) (p' := p + 1 + rLen ((bytesOf s).drop (p + 1))) (ops' := ops) (Or.inr (by rw [hlx, if_neg hb, if_neg (by omega), if_pos h59, List.drop_drop])) (by rw [hkx, if_neg hb, if_neg (by omega), if_pos h59, List.drop_drop, List.append_assoc, List.append_assoc]; rfl)]
          refine Ev.step (fun k => ?_) (k_l1 hs ops (s.size - p) (pre ++ [1]) p (by simp; omega) hlt (Nat.le_refl _) hl1)
          simp only [hearsayref08_kindsP.j1]
          rw [if_neg (by simp), if_pos h59]
        by_cases h40 : bt s (p : Int) = 40
        · have hb : ¬ blankB (bt s (p : Int)) = true := by rw [h40]; decide
          rw [KR_none (t := .stop 0) (pre' := pre ++ [1]) (p' := p + 1) (ops' := ops ++ [p]) (Or.inr (by rw [hlx, if_neg hb, if_neg (by omega), if_neg h59, if_pos h40])) (by rw [hkx, if_neg hb, if_neg (by omega), if_neg h59, if_pos h40, List.append_assoc, kindL_len _ _ (ops ++ [0]) (ops ++ [p]) (Nat.le_refl _) (by simp)]; rfl)]
          refine Ev.step (fun k => ?_) (next' 1 (ops ++ [p]) (by simp; omega))
          simp only [hearsayref08_kindsP.j1]
          rw [if_neg (by simp), if_neg h59, if_pos h40, if_pos (by omega), e1]
          simp [opsI]
        by_cases h41 : bt s (p : Int) = 41
        · have hb : ¬ blankB (bt s (p : Int)) = true := by rw [h41]; decide
          by_cases ho : ops = []
          · subst ho
            have : KR s pre p [] = ([], (p : Int), 81) := by
              unfold KR
              rw [hlx, if_neg hb, if_neg (by omega), if_neg h59, if_neg h40, if_pos h41, if_pos rfl]
            rw [this]
            refine Ev.step (f := fun _ => some ([], (p : Int), 81)) (fun k => ?_) (Ev.now _)
            simp only [hearsayref08_kindsP.j1]
            rw [if_neg (by simp), if_neg h59, if_neg h40, if_pos h41, if_pos (by simp [opsI])]
          · have hpos : 0 < ops.length := List.length_pos_iff.2 ho
            rw [KR_none (t := .stop 0) (pre' := pre ++ [1]) (p' := p + 1) (ops' := ops.dropLast) (Or.inr (by rw [hlx, if_neg hb, if_neg (by omega), if_neg h59, if_neg h40, if_pos h41, if_neg ho])) (by rw [hkx, if_neg hb, if_neg (by omega), if_neg h59, if_neg h40, if_pos h41, List.append_assoc]; rfl)]
            refine Ev.step (fun k => ?_) (next' 1 ops.dropLast (by simp; omega))
            simp only [hearsayref08_kindsP.j1]
            have hw : wrap64 (((opsI ops).length : Int) - 1) = ((ops.length - 1 : Nat) : Int) := by rw [hoI, w64 (by omega) (by omega)]; omega
            rw [if_neg (by simp), if_neg h59, if_neg h40, if_pos h41, if_neg (by omega), hw, if_pos (by omega), if_pos (by omega), Int.toNat_natCast, e1]
            congr 1
            rw [List.dropLast_eq_take]
            simp [opsI, List.map_take]
        by_cases h34 : bt s (p : Int) = 34
        · have hb : ¬ blankB (bt s (p : Int)) = true := by rw [h34]; decide
          refine Ev.step (fun k => ?_) (k_l2 hs ops p (s.size - p + 1) (pre ++ [5]) (p + 1) (by simp; omega) (by omega) (by omega) (fun m hm => ?_) (fun hm => ?_))
          · simp only [hearsayref08_kindsP.j1]
            rw [if_neg (by simp), if_neg h59, if_neg h40, if_neg h41, if_pos h34, if_pos (by omega), if_pos (by rw [hkl1]; omega), Int.toNat_natCast, hover, e1]
          · have hq := qEnd_le _ _ hm
            rw [List.length_drop, bytesOf_length] at hq
            rw [KR_none (t := .word p (p + 1 + m) true) (pre' := pre ++ [5] ++ List.replicate m 4) (p' := p + 1 + m) (ops' := ops) (Or.inl (by rw [hlx, if_neg hb, if_neg (by omega), if_neg h59, if_neg h40, if_neg h41, if_pos h34, hm]; simp only; rw [List.drop_drop])) (by rw [hkx, if_neg hb, if_neg (by omega), if_neg h59, if_neg h40, if_neg h41, if_pos h34, hm]; simp only; rw [List.drop_drop, List.append_assoc, List.append_assoc]; rfl)]
            have := ih (pre ++ [5] ++ List.replicate m 4) ops (by simp; omega) (by simp; omega) (by simp; omega)
            have hl5 : (pre ++ [5] ++ List.replicate m (4 : Int)).length = p + 1 + m := by simp; omega
            rw [hl5] at this
            exact this
          · unfold KR
            rw [hlx, if_neg hb, if_neg (by omega), if_neg h59, if_neg h40, if_neg h41, if_pos h34, hm]
        cases hsp : specB (bt s (p : Int)) with
        | true =>
          have hk : KR s pre p ops = KR s (pre ++ [1]) (p + 1) ops := by
            by_cases hb : blankB (bt s (p : Int)) = true
            · exact KR_none (t := .stop 0) (Or.inr (by rw [hlx, if_pos hb])) (by rw [hkx, if_pos hb, List.append_assoc]; rfl)
            · have h10 : bt s (p : Int) = 10 := by
                have hb' : blankB (bt s (p : Int)) = false := by simpa using hb
                unfold specB at hsp
                simp [hb', h59, h40, h41, h34] at hsp
                exact hsp
              have ho : ops ≠ [] := fun h => hstop ⟨h10, h⟩
              exact KR_none (t := .stop 0) (Or.inr (by rw [hlx, if_neg hb, if_pos h10, if_neg ho])) (by rw [hkx, if_neg hb, if_pos h10, if_neg ho, List.append_assoc]; rfl)
          rw [hk]
          refine Ev.step (fun k => ?_) (next' 1 ops (by omega))
          simp only [hearsayref08_kindsP.j1]
          rw [if_neg (by simp), if_neg h59, if_neg h40, if_neg h41, if_neg h34, special_f, Option.bind_some, hsp, if_pos rfl, e1]
        | false =>
          have hsp' := hsp
          unfold specB at hsp'
          simp only [Bool.or_eq_false_iff, beq_eq_false_iff_ne] at hsp'
          obtain ⟨⟨⟨⟨⟨hb0, n10⟩, _⟩, _⟩, _⟩, _⟩ := hsp'
          have hb : ¬ blankB (bt s (p : Int)) = true := by simp [hb0]
          have hbl := bLen_le (bt s (p : Int) :: (bytesOf s).drop (p + 1))
          have hbp := bLen_pos (r := (bytesOf s).drop (p + 1)) hsp
          rw [List.length_cons, List.length_drop, bytesOf_length] at hbl
          have hcons := bLen_cons (bt s (p : Int)) ((bytesOf s).drop (p + 1))
          rw [if_neg (fun h => by rw [hsp] at h; cases h)] at hcons
          rw [← hd1] at hbl hbp hcons
          obtain ⟨B, hB⟩ : ∃ B, B = bLen ((bytesOf s).drop p) := ⟨_, rfl⟩
          rw [KR_none (t := .word p (p + B) false) (pre' := pre ++ [3] ++ List.replicate (B - 1) 4) (p' := p + B) (ops' := ops) (Or.inl (by rw [hlx, if_neg hb, if_neg n10, if_neg h59, if_neg h40, if_neg h41, if_neg h34, ← hB, List.drop_drop, show p + 1 + (B - 1) = p + B by omega])) (by rw [hkx, if_neg hb, if_neg n10, if_neg h59, if_neg h40, if_neg h41, if_neg h34, ← hB, List.drop_drop, show p + 1 + (B - 1) = p + B by omega, List.append_assoc, List.append_assoc]; rfl)]
          rw [← hB] at hbl hbp hcons
          have hend := ih (pre ++ [3] ++ List.replicate (B - 1) 4) ops (by simp; omega) (by simp; omega) (by simp; omega)
          have hl3 : (pre ++ [3] ++ List.replicate (B - 1) (4 : Int)).length = p + B := by simp; omega
          rw [hl3] at hend
          have htk := takes_f s p hlt hs
          cases ht : takesB s p with
          | true =>
            have hcond := (takes_at hlt).2 ht
            rw [if_pos hcond] at hcons
            obtain ⟨_, hp1, _⟩ := of_decide_eq_true ht
            have htl : ((bytesOf s).drop (p + 1)).tail = (bytesOf s).drop (p + 1 + 1) := by rw [bo_drop s (p + 1) hp1]; rfl
            rw [htl] at hcons
            have hset2 : (krow s.size (pre ++ [3])).set (p + 1) 4 = krow s.size (pre ++ [3] ++ [4]) := by
              have := krow_set (n := s.size) (pre := pre ++ [3]) (by simp; omega) 4
              rwa [show (pre ++ [(3 : Int)]).length = p + 1 by simp; omega] at this
            have h3 := k_l3 hs ops (s.size - (p + 1)) (pre ++ [3] ++ [4]) (p + 1) (by simp; omega) hp1 (Nat.le_refl _) (R := KR s (pre ++ [3] ++ List.replicate (B - 1) 4) (p + B) ops) (by
              have e : pre ++ [3] ++ [4] ++ List.replicate (bLen ((bytesOf s).drop (p + 1 + 1))) 4 = pre ++ [3] ++ List.replicate (B - 1) 4 := by
                rw [show B - 1 = bLen ((bytesOf s).drop (p + 1 + 1)) + 1 by omega, List.replicate_succ, List.append_assoc (pre ++ [3])]; rfl
              rw [e]; exact hend)
            refine Ev.step (f := fun k => hearsayref08_kindsP.j5 k s (krow s.size (pre ++ [3] ++ [4])) (opsI ops) ((p + 1 : Nat) : Int)) (fun k => ?_) (Ev.step (fun k => ?_) h3)
            · simp only [hearsayref08_kindsP.j1]
              rw [if_neg (by simp), if_neg h59, if_neg h40, if_neg h41, if_neg h34, special_f, Option.bind_some, hsp, if_neg (by simp), if_pos (by omega), if_pos (by rw [hkl1]; omega), Option.bind_some, htk, Option.bind_some, ht, if_pos rfl, e1, if_pos (by omega), if_pos (by rw [hkl1]; omega), Int.toNat_natCast, Int.toNat_natCast, hover, hset2]
            · simp only [hearsayref08_kindsP.j5]
          | false =>
            have hcond : ¬ (bt s (p : Int) = 92 ∧ (bytesOf s).drop (p + 1) ≠ [] ∧ ((bytesOf s).drop (p + 1)).head? ≠ some 10) := fun h => by
              have := (takes_at hlt).1 h
              rw [ht] at this; cases this
            rw [if_neg hcond] at hcons
            have h3 := k_l3 hs ops (s.size - p) (pre ++ [3]) p (by simp; omega) hlt (Nat.le_refl _) (R := KR s (pre ++ [3] ++ List.replicate (B - 1) 4) (p + B) ops) (by
              rw [show bLen ((bytesOf s).drop (p + 1)) = B - 1 by omega]; exact hend)
            refine Ev.step (f := fun k => hearsayref08_kindsP.j5 k s (krow s.size (pre ++ [3])) (opsI ops) (p : Int)) (fun k => ?_) (Ev.step (fun k => ?_) h3)
            · simp only [hearsayref08_kindsP.j1]
              rw [if_neg (by simp), if_neg h59, if_neg h40, if_neg h41, if_neg h34, special_f, Option.bind_some, hsp, if_neg (by simp), if_pos (by omega), if_pos (by rw [hkl1]; omega), Option.bind_some, htk, Option.bind_some, ht, if_neg (by simp), Int.toNat_natCast, hover]
            · simp only [hearsayref08_kindsP.j5]
    · have hde := bo_end s p (by omega)
      have hk : KR s pre p ops = match ops.head? with | none => (pre, 0, 0) | some q => ([], (q : Int), 81) := by
        unfold KR
        rw [hde, lex_nil, kindL_nil, List.append_nil]
        cases ops.head? <;> rfl
      rw [hk]
      cases ops with
      | nil =>
        refine Ev.step (f := fun _ => some (pre, 0, 0)) (fun k => ?_) (Ev.now _)
        simp only [hearsayref08_kindsP.l0]
        rw [if_neg (by omega), if_neg (by simp [opsI]), krow_all (by omega)]
      | cons q ops =>
        refine Ev.step (f := fun _ => some ([], (q : Int), 81)) (fun k => ?_) (Ev.now _)
        simp only [hearsayref08_kindsP.l0]
        rw [if_neg (by omega), if_pos (by simp [opsI]), if_pos (by simp [opsI])]
        rfl
theorem kindsP_f (hs : s.size ≤ 262144) : ∃ y, hearsayref08_kinds.f s = some y ∧ Ev (fun k => hearsayref08_kindsP.f k s) y := by
  have h := k_l0 hs (s.size + 1) [] [] (by simp) (by simp) (by simp)
  refine ⟨KR s [] 0 [], ?_, ?_⟩
  · unfold hearsayref08_kinds.f KR
    rw [if_neg (by omega)]
    simp only [List.drop_zero, List.nil_append]
    cases (lex (bytesOf s) 0 []).2 <;> rfl
  · refine Ev.congr (fun k => ?_) h
    unfold hearsayref08_kindsP.f
    rw [if_pos (by omega), if_pos (by omega)]
    rfl
end
end Go.Proofs.Ytafminohaofjnaa.Print
