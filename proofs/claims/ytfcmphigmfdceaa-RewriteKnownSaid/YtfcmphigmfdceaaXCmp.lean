/- name.Cmp, walked: the order of names. -/
import Derived.Test.YtfcmphigmfdceaaXNames
import Derived.Test.YtfcmphigmfdceaaXFold
import Derived.Test.YtfcmphigmfdceaaF47
import Derived.Test.YtfcmphigmfdceaaXShelf
import Derived.Deep.LoopGhost
namespace Go.Proofs.Ytfcmphigmfdceaa.Print
set_option linter.unusedVariables false
set_option linter.unusedSimpArgs false
open Go.RowKit Go.Proofs.YtfcmphigmfdceaaW.PrintWords Go.Proofs.YtfcmphigmfdceaaW.PrintLast Go.Proofs.YtfcmphigmfdceaaW.PrintMore
theorem name_low_f (c : Int) : name_low.f c = some (low1 c) := by
  unfold name_low.f low1
  by_cases h0 : 65 ≤ c
  · by_cases h1 : c ≤ 90
    · rw [if_pos h0, if_pos h1, if_pos ⟨h0, h1⟩, low_or c h0 h1]
    · rw [if_pos h0, if_neg h1, if_neg (by omega)]
  · rw [if_neg h0, if_neg (by omega)]
/-- two rows of bytes in small letters, one byte behind the other; then their lengths -/
def diffB : List Int → List Int → Int
  | x :: xs, y :: ys => if low1 x = low1 y then diffB xs ys else low1 x - low1 y
  | xs, ys => (xs.length : Int) - (ys.length : Int)
/-- the same of two lists of labels, from their ends on; here each list is turned round -/
def diffL : List ByteArray → List ByteArray → Int
  | x :: xs, y :: ys => if diffB (bytesOf x) (bytesOf y) = 0 then diffL xs ys else diffB (bytesOf x) (bytesOf y)
  | xs, ys => (xs.length : Int) - (ys.length : Int)
def clamp (c : Int) : Int := max (-1) (min 1 c)
def cmpP (a b : ByteArray) : Int :=
  match dec a, dec b with
  | none, none => Lib.compareBytes a.data.toList b.data.toList
  | none, some _ => 1
  | some _, none => -1
  | some L, some M => clamp (diffL L.reverse M.reverse)
def name_Cmp.f (a b : ByteArray) : Option Int := some (cmpP a b)
theorem low1_range {c : Int} (h0 : 0 ≤ c) (h1 : c < 256) : 0 ≤ low1 c ∧ low1 c < 256 := by unfold low1; split <;> omega
theorem diffB_at {x y : ByteArray} {k : Nat} (hx : k < x.size) (hy : k < y.size) : diffB ((bytesOf x).drop k) ((bytesOf y).drop k) = if low1 (bt x (k : Int)) = low1 (bt y (k : Int)) then diffB ((bytesOf x).drop (k + 1)) ((bytesOf y).drop (k + 1)) else low1 (bt x (k : Int)) - low1 (bt y (k : Int)) := by
  rw [bo_drop x k hx, bo_drop y k hy, diffB]
theorem diffB_end {x y : ByteArray} {k : Nat} (h : ¬ (k < x.size ∧ k < y.size)) (hk : k ≤ x.size ∧ k ≤ y.size) : diffB ((bytesOf x).drop k) ((bytesOf y).drop k) = (x.size : Int) - (y.size : Int) := by
  have e1 : ((bytesOf x).drop k).length = x.size - k := by rw [List.length_drop, bytesOf_length]
  have e2 : ((bytesOf y).drop k).length = y.size - k := by rw [List.length_drop, bytesOf_length]
  cases h1 : (bytesOf x).drop k with
  | nil => rw [h1] at e1; cases h2 : (bytesOf y).drop k with
    | nil => rw [h2] at e2; simp [diffB] at e1 e2 ⊢; omega
    | cons d r => rw [h2] at e2; simp [diffB] at e1 e2 ⊢; omega
  | cons c q => rw [h1] at e1; cases h2 : (bytesOf y).drop k with
    | nil => rw [h2] at e2; simp [diffB] at e1 e2 ⊢; omega
    | cons d r => rw [h2] at e2; simp at e1 e2; omega
theorem low_quiet (x lx : Int) (w2 : World) (ne n : Nat) (h : name_low.f x = some lx) : Calls Try.prog 47 #[.int .u8 x] (w2.drewN (ne + n)) fun e w'' => e = .returned (.int .u8 lx) ∧ ∃ m, w'' = w2.drewN (ne + m) := by
  refine (name_low.calls x lx _ h).mono (fun e w'' hh => ⟨hh.1, ?_⟩)
  obtain ⟨m, hm⟩ := hh.2.out
  exact ⟨n + m, by rw [hm, World.drewN_drewN, Nat.add_assoc]⟩
theorem take_rev {L : List ByteArray} {a : Nat} {s : ByteArray} (h : L[a]? = some s) : (L.take (a + 1)).reverse = s :: (L.take a).reverse := by rw [take_succ' h, List.reverse_append]; rfl
theorem take_split {L : List ByteArray} {a : Nat} {s : ByteArray} (h : L[a]? = some s) : L = L.take a ++ s :: L.drop (a + 1) := by
  obtain ⟨hl, rfl⟩ := List.getElem?_eq_some_iff.1 h
  rw [List.getElem_cons_drop hl, List.take_append_drop]
/-- what the code asks at label number a -/
theorem cmp_label {n : ByteArray} {L : List ByteArray} (h : dec n = some L) {a : Nat} {s : ByteArray} (hs : L[a]? = some s) :
    ∃ p : Nat, rd (offs 0 L) (a : Int) = (p : Int) ∧ p < n.size ∧ bt n (p : Int) = s.size ∧ p + 1 + s.size ≤ n.size ∧ n.extract (p + 1) (p + 1 + s.size) = s ∧ s.size ≤ 63 ∧ n.size ≤ 255 := by
  have e := take_split hs
  have hd := (dec_some h).2.2
  have hn := (dec_some h).1
  have hbs : badLab s = false := by
    rw [List.any_eq_false] at hd; simpa using hd s (List.mem_of_getElem? hs)
  have ha : (L.take a).length = a := by have := (List.getElem?_eq_some_iff.1 hs).1; simp; omega
  rw [e] at h
  obtain ⟨h1, h2, h3⟩ := label_at h
  have ho := offs_at (L.take a) 0 s (L.drop (a + 1))
  rw [← e, ha, Nat.zero_add] at ho
  refine ⟨(glue (L.take a)).length, by simp [rd, List.getD_eq_getElem?_getD, ho], by omega, h1, by omega, h3, (bad_false hbs).2, hn⟩
def CmpInv (L M : List ByteArray) (a b : Nat) : Prop := a ≤ L.length ∧ b ≤ M.length ∧ a + M.length = b + L.length ∧ diffL (L.take a).reverse (M.take b).reverse = diffL L.reverse M.reverse
theorem cmp0 (L M : List ByteArray) : CmpInv L M L.length M.length := ⟨Nat.le_refl _, Nat.le_refl _, by omega, by rw [List.take_length, List.take_length]⟩
theorem cmp_step {L M : List ByteArray} {a b : Nat} {s u : ByteArray} (h : CmpInv L M (a + 1) (b + 1)) (hs : L[a]? = some s) (hu : M[b]? = some u) (h0 : diffB (bytesOf s) (bytesOf u) = 0) : CmpInv L M a b := by
  obtain ⟨h1, h2, h3, h4⟩ := h
  refine ⟨by omega, by omega, by omega, ?_⟩
  rw [← h4, take_rev hs, take_rev hu, diffL, if_pos h0]
theorem cmp_out {L M : List ByteArray} {a b : Nat} {s u : ByteArray} (h : CmpInv L M (a + 1) (b + 1)) (hs : L[a]? = some s) (hu : M[b]? = some u) (h0 : diffB (bytesOf s) (bytesOf u) ≠ 0) : diffL L.reverse M.reverse = diffB (bytesOf s) (bytesOf u) := by
  rw [← h.2.2.2, take_rev hs, take_rev hu, diffL, if_neg h0]
theorem cmp_end {L M : List ByteArray} {a b : Nat} (h : CmpInv L M a b) (h0 : a = 0 ∨ b = 0) : diffL L.reverse M.reverse = (L.length : Int) - (M.length : Int) := by
  obtain ⟨h1, h2, h3, h4⟩ := h
  have e1 : (L.take a).reverse.length = a := by simp; omega
  have e2 : (M.take b).reverse.length = b := by simp; omega
  rw [← h4]
  rcases h0 with rfl | rfl
  · rw [List.take_zero, List.reverse_nil]
    unfold diffL
    rw [e2]
    simp; omega
  · rw [List.take_zero (l := M), List.reverse_nil]
    cases h5 : (L.take a).reverse with
    | nil => rw [h5] at e1; simp [diffL] at e1 ⊢; omega
    | cons x xs => rw [h5] at e1; simp [diffL] at e1 ⊢; omega
set_option maxHeartbeats 4000000 in
set_option maxRecDepth 100000 in
theorem name_Cmp.calls (a0 a1 : ByteArray) (r : Int) (w : World) (h : name_Cmp.f a0 a1 = some r) :
    Calls Try.prog 50 #[.string a0, .string a1] w fun e w' => e = .returned (.int .i64 r) ∧ Below w.heap.size w w' := by
  unfold name_Cmp.f cmpP at h
  simp only [Option.some.injEq] at h
  obtain ⟨la, hEa, hLa⟩ := starts_f a0
  obtain ⟨lb, hEb, hLb⟩ := starts_f a1
  obtain ⟨ka, hka⟩ := hEa.rounds
  obtain ⟨kb, hkb⟩ := hEb.rounds
  have HB := Aside0.mk (Below.refl w.heap.size w)
  cases hda : dec a0 with
  | none =>
    rw [hda] at h hka
    have HKA : Aside0 (name_starts.f ka a0 = some (la, false)) := ⟨hka⟩
    cases hdb : dec a1 with
    | none =>
      rw [hdb] at h hkb
      have HKB : Aside0 (name_starts.f kb a1 = some (lb, false)) := ⟨hkb⟩
      simp only [] at h
      subst h
      clear hda hdb hka hkb hLa hLb hEa hEb
      go_enter Try.func50, Try.ntmps50
      go_wp2; go_step3
      go_wp2_with (first | ((with_reducible refine gate_callee (f := 38) rfl ?_); refine goesL_ (some 17) rfl rfl Try.func38 (by kernel_rfl) rfl #[.string a0] rfl (by (try simp only [List.map_toArray, List.map_cons, List.map_nil]); first | done | rfl) ?_; (with_reducible refine (name_starts.calls ka a0 la false _ HKA.out).mono ?_); rintro e w1 ⟨v1, rfl, ho1, hb1⟩; refine ⟨_, rfl, ?_⟩; obtain ⟨A_1, c_1, rfl, hle1, hC1⟩ := Kd.R_reads ho1; have HB1 := Aside0.mk (HB.out.trans (below_to hb1 HB.out.size)); have HC1 := Aside0.mk hC1; have HR1 := Aside0.mk ho1; clear ho1 hb1 hC1 hle1) | ((with_reducible refine gate_callee (f := 38) rfl ?_); refine goesL_ (some 22) rfl rfl Try.func38 (by kernel_rfl) rfl #[.string a1] rfl (by (try simp only [List.map_toArray, List.map_cons, List.map_nil]); first | done | rfl) ?_; (with_reducible refine (name_starts.calls kb a1 lb false _ HKB.out).mono ?_); rintro e w2 ⟨v2, rfl, ho2, hb2⟩; refine ⟨_, rfl, ?_⟩; obtain ⟨A_2, c_2, rfl, hle2, hC2⟩ := Kd.R_reads ho2; have HC1 := Aside0.mk (Kd.C_below HC1.out hb2); have HB2 := Aside0.mk (HB1.out.trans (below_to hb2 HB1.out.size)); have HC2 := Aside0.mk hC2; have HR2 := Aside0.mk ho2; clear ho2 hb2 hC2 hle2) | ((with_reducible refine gate_callee (f := 58) rfl ?_); refine goesL_ (some 34) rfl rfl Try.func58 (by kernel_rfl) rfl #[.string a0, .string a1] rfl (by (try simp only [List.map_toArray, List.map_cons, List.map_nil]); first | done | rfl) ?_; (with_reducible refine (Try.strings_Compare a0 a1 _).mono ?_); rintro e w3 ⟨rfl, rfl⟩; refine ⟨_, rfl, ?_⟩))
      try rw [Exit.noGoto_ret]
      go_ret
      exact ⟨rfl, HB2.out⟩
    | some M =>
      rw [hdb] at h hkb
      have HKB : Aside0 (name_starts.f kb a1 = some (lb, true)) := ⟨hkb⟩
      simp only [] at h
      subst h
      clear hda hdb hka hkb hLa hLb hEa hEb
      go_enter Try.func50, Try.ntmps50
      go_wp2; go_step3
      go_wp2_with (first | ((with_reducible refine gate_callee (f := 38) rfl ?_); refine goesL_ (some 17) rfl rfl Try.func38 (by kernel_rfl) rfl #[.string a0] rfl (by (try simp only [List.map_toArray, List.map_cons, List.map_nil]); first | done | rfl) ?_; (with_reducible refine (name_starts.calls ka a0 la false _ HKA.out).mono ?_); rintro e w1 ⟨v1, rfl, ho1, hb1⟩; refine ⟨_, rfl, ?_⟩; obtain ⟨A_1, c_1, rfl, hle1, hC1⟩ := Kd.R_reads ho1; have HB1 := Aside0.mk (HB.out.trans (below_to hb1 HB.out.size)); have HC1 := Aside0.mk hC1; have HR1 := Aside0.mk ho1; clear ho1 hb1 hC1 hle1) | ((with_reducible refine gate_callee (f := 38) rfl ?_); refine goesL_ (some 22) rfl rfl Try.func38 (by kernel_rfl) rfl #[.string a1] rfl (by (try simp only [List.map_toArray, List.map_cons, List.map_nil]); first | done | rfl) ?_; (with_reducible refine (name_starts.calls kb a1 lb true _ HKB.out).mono ?_); rintro e w2 ⟨v2, rfl, ho2, hb2⟩; refine ⟨_, rfl, ?_⟩; obtain ⟨A_2, c_2, rfl, hle2, hC2⟩ := Kd.R_reads ho2; have HC1 := Aside0.mk (Kd.C_below HC1.out hb2); have HB2 := Aside0.mk (HB1.out.trans (below_to hb2 HB1.out.size)); have HC2 := Aside0.mk hC2; have HR2 := Aside0.mk ho2; clear ho2 hb2 hC2 hle2))
      try rw [Exit.noGoto_ret]
      go_ret
      exact ⟨rfl, HB2.out⟩
  | some L =>
    rw [hda] at h hka
    have HKA : Aside0 (name_starts.f ka a0 = some (la, true)) := ⟨hka⟩
    cases hdb : dec a1 with
    | none =>
      rw [hdb] at h hkb
      have HKB : Aside0 (name_starts.f kb a1 = some (lb, false)) := ⟨hkb⟩
      simp only [] at h
      subst h
      clear hda hdb hka hkb hLa hLb hEa hEb
      go_enter Try.func50, Try.ntmps50
      go_wp2; go_step3
      go_wp2_with (first | ((with_reducible refine gate_callee (f := 38) rfl ?_); refine goesL_ (some 17) rfl rfl Try.func38 (by kernel_rfl) rfl #[.string a0] rfl (by (try simp only [List.map_toArray, List.map_cons, List.map_nil]); first | done | rfl) ?_; (with_reducible refine (name_starts.calls ka a0 la true _ HKA.out).mono ?_); rintro e w1 ⟨v1, rfl, ho1, hb1⟩; refine ⟨_, rfl, ?_⟩; obtain ⟨A_1, c_1, rfl, hle1, hC1⟩ := Kd.R_reads ho1; have HB1 := Aside0.mk (HB.out.trans (below_to hb1 HB.out.size)); have HC1 := Aside0.mk hC1; have HR1 := Aside0.mk ho1; clear ho1 hb1 hC1 hle1) | ((with_reducible refine gate_callee (f := 38) rfl ?_); refine goesL_ (some 22) rfl rfl Try.func38 (by kernel_rfl) rfl #[.string a1] rfl (by (try simp only [List.map_toArray, List.map_cons, List.map_nil]); first | done | rfl) ?_; (with_reducible refine (name_starts.calls kb a1 lb false _ HKB.out).mono ?_); rintro e w2 ⟨v2, rfl, ho2, hb2⟩; refine ⟨_, rfl, ?_⟩; obtain ⟨A_2, c_2, rfl, hle2, hC2⟩ := Kd.R_reads ho2; have HC1 := Aside0.mk (Kd.C_below HC1.out hb2); have HB2 := Aside0.mk (HB1.out.trans (below_to hb2 HB1.out.size)); have HC2 := Aside0.mk hC2; have HR2 := Aside0.mk ho2; clear ho2 hb2 hC2 hle2))
      try rw [Exit.noGoto_ret]
      go_ret
      exact ⟨rfl, HB2.out⟩
    | some M =>
      rw [hdb] at h hkb
      have HKB : Aside0 (name_starts.f kb a1 = some (lb, true)) := ⟨hkb⟩
      simp only [] at h
      have hll : la.length = L.length := by rw [hLa L hda, offs_length]
      have hlm : lb.length = M.length := by rw [hLb M hdb, offs_length]
      have hl127 := labels_length hda
      have hm127 := labels_length hdb
      have HLA := Aside0.mk (hLa L hda)
      have HLB := Aside0.mk (hLb M hdb)
      have HDA := Aside0.mk hda
      have HDB := Aside0.mk hdb
      have HH := Aside0.mk h
      have HV0 : Aside0 (CmpInv L M la.length lb.length) := ⟨by rw [hll, hlm]; exact cmp0 L M⟩
      have hla7 : la.length ≤ 127 := by omega
      have hlb7 : lb.length ≤ 127 := by omega
      have HLL := Aside0.mk hll
      have HLM := Aside0.mk hlm
      clear h hda hdb hka hkb hLa hLb hEa hEb hll hlm
      go_enter Try.func50, Try.ntmps50
      go_wp2; go_step3
      go_wp2_with (first | ((with_reducible refine gate_callee (f := 38) rfl ?_); refine goesL_ (some 17) rfl rfl Try.func38 (by kernel_rfl) rfl #[.string a0] rfl (by (try simp only [List.map_toArray, List.map_cons, List.map_nil]); first | done | rfl) ?_; (with_reducible refine (name_starts.calls ka a0 la true _ HKA.out).mono ?_); rintro e w1 ⟨v1, rfl, ho1, hb1⟩; refine ⟨_, rfl, ?_⟩; obtain ⟨A_1, c_1, rfl, hle1, hC1⟩ := Kd.R_reads ho1; have HB1 := Aside0.mk (HB.out.trans (below_to hb1 HB.out.size)); have HC1 := Aside0.mk hC1; have HR1 := Aside0.mk ho1; clear ho1 hb1 hC1 hle1) | ((with_reducible refine gate_callee (f := 38) rfl ?_); refine goesL_ (some 22) rfl rfl Try.func38 (by kernel_rfl) rfl #[.string a1] rfl (by (try simp only [List.map_toArray, List.map_cons, List.map_nil]); first | done | rfl) ?_; (with_reducible refine (name_starts.calls kb a1 lb true _ HKB.out).mono ?_); rintro e w2 ⟨v2, rfl, ho2, hb2⟩; refine ⟨_, rfl, ?_⟩; obtain ⟨A_2, c_2, rfl, hle2, hC2⟩ := Kd.R_reads ho2; have HC1 := Aside0.mk (Kd.C_below HC1.out hb2); have HB2 := Aside0.mk (HB1.out.trans (below_to hb2 HB1.out.size)); have HC2 := Aside0.mk hC2; have HR2 := Aside0.mk ho2; clear ho2 hb2 hC2 hle2))
      go_step3
      go_wp2
      obtain ⟨wx, hwx⟩ : ∃ x, x = w2 := ⟨_, rfl⟩
      go_loopg [9, 10, 11] la.length (fun g s9 s10 s11 wr => ∃ (a b : Nat) (i j : Int), s9 = .int .i64 0 ∧ s10 = .int .i64 i ∧ s11 = .int .i64 j ∧ i = (a : Int) - 1 ∧ j = (b : Int) - 1 ∧ g = a ∧ Aside0 (CmpInv L M a b) ∧ ∃ nd : Nat, wr = w2.drewN nd)
      case atStart => exact ⟨la.length, lb.length, _, _, rfl, rfl, rfl, rfl, rfl, rfl, HV0, ⟨0, rfl⟩⟩
      case round =>
        obtain ⟨a, b, i, j, rfl, rfl, rfl, hi, hj, hga, HV, nd, rfl⟩ := hrel
        have hab : a ≤ 127 ∧ b ≤ 127 := by have := HV.out.1; have := HV.out.2.1; omega
        by_cases hz : a = 0 ∨ b = 0
        · have hh := HH.out
          rw [cmp_end HV.out hz, ← HLL.out, ← HLM.out] at hh
          have HH2 := Aside0.mk hh
          clear hh
          have hi0 : i < 0 ∨ (0 ≤ i ∧ j < 0) := by omega
          have hla : (-9223372036854775808 : Int) ≤ (la.length : Int) - (lb.length : Int) ∧ (la.length : Int) - (lb.length : Int) ≤ 9223372036854775807 := by omega
          rcases hi0 with hi0 | ⟨hi0, hj0⟩
          · have hd : decide (0 ≤ i) = false := decide_eq_false (by omega)
            go_wp2
            try rw [Exit.noGoto_ret]
            go_ret
            exact ⟨by rw [← HH2.out]; rfl, pw_below_drewN HB2.out _⟩
          · have hd : decide (0 ≤ i) = true := decide_eq_true hi0
            have hdj : decide (0 ≤ j) = false := decide_eq_false (by omega)
            go_wp2
            try rw [Exit.noGoto_ret]
            go_ret
            exact ⟨by rw [← HH2.out]; rfl, pw_below_drewN HB2.out _⟩
        · obtain ⟨a, rfl⟩ : ∃ a', a = a' + 1 := ⟨a - 1, by omega⟩
          obtain ⟨b, rfl⟩ : ∃ b', b = b' + 1 := ⟨b - 1, by omega⟩
          subst hga
          have hi' : i = (a : Int) := by omega
          have hj' : j = (b : Int) := by omega
          subst hi'; subst hj'
          have ha1 : a < L.length := by have := HV.out.1; omega
          have hb1 : b < M.length := by have := HV.out.2.1; omega
          obtain ⟨s, hs⟩ : ∃ s, L[a]? = some s := ⟨_, List.getElem?_eq_getElem ha1⟩
          obtain ⟨u, hu⟩ : ∃ u, M[b]? = some u := ⟨_, List.getElem?_eq_getElem hb1⟩
          obtain ⟨p, hp1, hp2, hp3, hp4, hp5, hp6, hp7⟩ := cmp_label HDA.out hs
          obtain ⟨q, hq1, hq2, hq3, hq4, hq5, hq6, hq7⟩ := cmp_label HDB.out hu
          rw [← HLA.out] at hp1
          rw [← HLB.out] at hq1
          obtain ⟨ada, ea, hca⟩ := Kd.at_int HC1.out (a : Int) (by omega) (by have := HLL.out; omega)
          obtain ⟨adb, eb, hcb⟩ := Kd.at_int HC2.out (b : Int) (by omega) (by have := HLM.out; omega)
          rw [hp1] at hca
          rw [hq1] at hcb
          simp only [Int.toNat_natCast] at hca hcb
          cases ea
          cases eb
          have hxp := bt_nat a0 p hp2
          have hxq := bt_nat a1 q hq2
          rw [hp3] at hxp
          rw [hq3] at hxq
          have HS := Aside0.mk hs
          have HU := Aside0.mk hu
          have h0a : (0 : Int) ≤ (a : Int) := by omega
          have h0b : (0 : Int) ≤ (b : Int) := by omega
          have h1a : (a : Int) < (la.length : Int) := by have := HLL.out; omega
          have h1b : (b : Int) < (lb.length : Int) := by have := HLM.out; omega
          have w1p : (0 : Int) ≤ (p : Int) + 1 := by omega
          have w2p : (p : Int) + 1 ≤ (p : Int) + 1 + (s.size : Int) := by omega
          have w3p : (p : Int) + 1 + (s.size : Int) ≤ (a0.size : Int) := by omega
          have w1q : (0 : Int) ≤ (q : Int) + 1 := by omega
          have w2q : (q : Int) + 1 ≤ (q : Int) + 1 + (u.size : Int) := by omega
          have w3q : (q : Int) + 1 + (u.size : Int) ≤ (a1.size : Int) := by omega
          have hep : a0.extract ((p : Int) + 1).toNat ((p : Int) + 1 + (s.size : Int)).toNat = s := by rw [show ((p : Int) + 1).toNat = p + 1 by omega, show ((p : Int) + 1 + (s.size : Int)).toNat = p + 1 + s.size by omega]; exact hp5
          have heq : a1.extract ((q : Int) + 1).toNat ((q : Int) + 1 + (u.size : Int)).toNat = u := by rw [show ((q : Int) + 1).toNat = q + 1 by omega, show ((q : Int) + 1 + (u.size : Int)).toNat = q + 1 + u.size by omega]; exact hq5
          have HE1 := Aside0.mk hp5
          have HE2 := Aside0.mk hq5
          clear hp1 hq1 hs hu hz hi hj hp3 hq3 ha1 hb1
          go_wp2
          go_quiet (fail)
          rw [hp5, hq5]
          clear hep heq hp5 hq5 w1p w2p w3p w1q w2q w3q hca hcb
          have hss : s.size ≤ 63 ∧ u.size ≤ 63 := ⟨hp6, hq6⟩
          go_wp2
          obtain ⟨n0, hn0⟩ : ∃ n0, nd + nq = n0 := ⟨_, rfl⟩
          rw [hn0]
          go_loopg [9, 102] s.size (fun g2 s9 s102 wy => ∃ k : Nat, s9 = .int .i64 0 ∧ s102 = .int .i64 (k : Int) ∧ k ≤ s.size ∧ k ≤ u.size ∧ k + g2 = s.size ∧ Aside0 (diffB ((bytesOf s).drop k) ((bytesOf u).drop k) = diffB (bytesOf s) (bytesOf u)) ∧ ∃ ne : Nat, wy = w2.drewN ne)
          case atStart => exact ⟨0, rfl, rfl, Nat.zero_le _, Nat.zero_le _, by omega, ⟨rfl⟩, ⟨_, rfl⟩⟩
          case round =>
            obtain ⟨k, rfl, rfl, hk1, hk2, hkg, HD, ne, rfl⟩ := hrel
            by_cases hk : k < s.size ∧ k < u.size
            · obtain ⟨hks, hku⟩ := hk
              obtain ⟨g3, rfl⟩ : ∃ g3, gk = g3 + 1 := ⟨gk - 1, by omega⟩
              have hd := HD.out
              rw [diffB_at hks hku] at hd
              have hmin : decide ((k : Int) < min (s.size : Int) (u.size : Int)) = true := decide_eq_true (by omega)
              have hxs := bt_nat s k hks
              have hxu := bt_nat u k hku
              have hrs := bt_range s (k : Int)
              have hru := bt_range u (k : Int)
              obtain ⟨x, hx⟩ : ∃ x, bt s (k : Int) = x := ⟨_, rfl⟩
              obtain ⟨y, hy⟩ : ∃ y, bt u (k : Int) = y := ⟨_, rfl⟩
              rw [hx] at hd hxs hrs
              rw [hy] at hd hxu hru
              have hlx := low1_range (c := x) (by omega) (by omega)
              have hly := low1_range (c := y) (by omega) (by omega)
              have cx := name_low_f x
              have cy := name_low_f y
              obtain ⟨lx, hlx1⟩ : ∃ l, low1 x = l := ⟨_, rfl⟩
              obtain ⟨ly, hly1⟩ : ∃ l, low1 y = l := ⟨_, rfl⟩
              rw [hlx1] at hd hlx cx
              rw [hly1] at hd hly cy
              have CX := Aside0.mk cx
              have CY := Aside0.mk cy
              clear hx hy hlx1 hly1 cx cy
              by_cases he : lx = ly
              · rw [if_pos he] at hd
                have HD2 := Aside0.mk hd
                have hne : (lx - ly != 0) = false := by rw [he]; simp
                have hne' : lx - ly = 0 := by omega
                clear he hd
                go_wp2
                go_quiet (first | (go_at_call 47; with_reducible exact low_quiet x lx w2 _ _ CX.out) | (go_at_call 47; with_reducible exact low_quiet y ly w2 _ _ CY.out))
                go_wp2
                go_roundg g3
                case measure => omega
                case rel => exact ⟨k + 1, by first | rfl | (rw [hne']; done), by go_num, by omega, by omega, by omega, HD2, ⟨_, rfl⟩⟩
              · rw [if_neg he] at hd
                have hne : (lx - ly != 0) = true := bne_iff_ne.2 (by omega)
                have hne2 : (lx - ly == 0) = false := beq_eq_false_iff_ne.2 (by omega)
                have hout := cmp_out HV.out HS.out HU.out (by rw [← hd]; omega)
                rw [← hd] at hout
                have hh := HH.out
                rw [hout] at hh
                have HH2 := Aside0.mk hh
                clear he hd hout hh
                go_wp2
                go_quiet (first | (go_at_call 47; with_reducible exact low_quiet x lx w2 _ _ CX.out) | (go_at_call 47; with_reducible exact low_quiet y ly w2 _ _ CY.out))
                go_wp2
                try rw [Exit.noGoto_ret]
                go_ret
                exact ⟨by rw [← HH2.out]; rfl, by repeat (first | exact HB2.out | apply pw_below_drewN)⟩
            · have hd := HD.out
              rw [diffB_end hk ⟨hk1, hk2⟩] at hd
              have hmin : decide ((k : Int) < min (s.size : Int) (u.size : Int)) = false := decide_eq_false (by omega)
              by_cases he : s.size = u.size
              · have hne : ((s.size : Int) - (u.size : Int) != 0) = false := by rw [he]; simp
                have hne' : (s.size : Int) - (u.size : Int) = 0 := by omega
                have HV2 := Aside0.mk (cmp_step HV.out HS.out HU.out (by rw [← hd]; omega))
                clear he hd
                go_wp2
                go_roundg a
                case measure => omega
                case rel => exact ⟨a, b, _, _, by first | rfl | (rw [hne']; done), by go_num, by go_num, rfl, rfl, rfl, HV2, ⟨_, rfl⟩⟩
              · have hne : ((s.size : Int) - (u.size : Int) != 0) = true := bne_iff_ne.2 (by omega)
                have hne2 : ((s.size : Int) - (u.size : Int) == 0) = false := beq_eq_false_iff_ne.2 (by omega)
                have hout := cmp_out HV.out HS.out HU.out (by rw [← hd]; omega)
                rw [← hd] at hout
                have hh := HH.out
                rw [hout] at hh
                have HH2 := Aside0.mk hh
                clear he hd hout hh
                go_wp2
                try rw [Exit.noGoto_ret]
                go_ret
                exact ⟨by rw [← HH2.out]; rfl, by repeat (first | exact HB2.out | apply pw_below_drewN)⟩
end Go.Proofs.Ytfcmphigmfdceaa.Print
