/- Two maps of members held against each other, walked; two views held against each other. -/
import Derived.Test.YtognmibankcefaaXMem
import Derived.Test.YtognmibankcefaaEq25
namespace Go.Proofs.Ytognmibankcefaa.Print
open Go.RowKit Go.Maps Go.ChangeMaps Go.Proofs.YtognmibankcefaaW.PrintWords Go.Proofs.YtognmibankcefaaW.PrintLast Go.Proofs.YtognmibankcefaaW.PrintMore
set_option linter.unusedVariables false
set_option linter.unusedSimpArgs false
theorem str_beq (a b : ByteArray) : (a.toList == b.toList) = true ↔ a = b := by
  rw [ByteArray.toList_eq, ByteArray.toList_eq, beq_iff_eq]
  exact ⟨fun h => Go.WideShapes.bytes_inj h, fun h => by rw [h]⟩
def eqM (x y : Mem) : Bool := x.f0 == y.f0 && (x.f1 == y.f1 && (x.f2 == y.f2 && (x.f3.toList == y.f3.toList)))
theorem eqM_iff (x y : Mem) : eqM x y = true ↔ x = y := by
  unfold eqM
  simp only [Bool.and_eq_true, beq_iff_eq, str_beq]
  constructor
  · rintro ⟨h0, h1, h2, h3⟩
    have h3 := (str_beq x.f3 y.f3).1 (by simpa using h3)
    cases x
    cases y
    simp_all
  · rintro rfl
    exact ⟨rfl, rfl, rfl, by simp⟩
theorem sub_len : ∀ {b a : List Mem}, Rises a → Rises b → (∀ x ∈ a, x ∈ b) → a.length ≤ b.length
  | [], [], _, _, _ => Nat.le_refl _
  | [], x :: a, _, _, h => by have := h x (by simp); cases this
  | y :: b, [], _, _, _ => Nat.zero_le _
  | y :: b, x :: a, ha, hb, h => by
    obtain ⟨h1, h2⟩ := List.pairwise_cons.1 ha
    obtain ⟨h3, h4⟩ := List.pairwise_cons.1 hb
    by_cases hxy : x = y
    · subst hxy
      have := sub_len h2 h4 (fun z hz => by
        rcases List.mem_cons.1 (h z (by simp [hz])) with e | e
        · have := h1 z hz; rw [e] at this; omega
        · exact e)
      simp only [List.length_cons]
      omega
    · have hxb : x ∈ b := by
        rcases List.mem_cons.1 (h x (by simp)) with e | e
        · exact absurd e hxy
        · exact e
      have hlt := h3 x hxb
      have := sub_len ha h4 (fun z hz => by
        rcases List.mem_cons.1 (h z hz) with e | e
        · rcases List.mem_cons.1 hz with e' | e'
          · exact absurd (e'.symm.trans e) hxy
          · have := h1 z e'; rw [e] at this; omega
        · exact e)
      simp only [List.length_cons] at this ⊢
      omega
theorem sub_eq : ∀ {a b : List Mem}, Rises a → Rises b → a.length = b.length → (∀ x ∈ a, x ∈ b) → a = b
  | [], b, _, _, hl, _ => (List.eq_nil_of_length_eq_zero hl.symm).symm
  | x :: a, [], _, _, hl, _ => by simp at hl
  | x :: a, y :: b, ha, hb, hl, h => by
    obtain ⟨h1, h2⟩ := List.pairwise_cons.1 ha
    obtain ⟨h3, h4⟩ := List.pairwise_cons.1 hb
    by_cases hxy : x = y
    · subst hxy
      rw [sub_eq h2 h4 (by simpa using hl) (fun z hz => by
        rcases List.mem_cons.1 (h z (by simp [hz])) with e | e
        · have := h1 z hz; rw [e] at this; omega
        · exact e)]
    · exfalso
      have hxb : x ∈ b := by
        rcases List.mem_cons.1 (h x (by simp)) with e | e
        · exact absurd e hxy
        · exact e
      have hlt := h3 x hxb
      have := sub_len ha h4 (fun z hz => by
        rcases List.mem_cons.1 (h z hz) with e | e
        · rcases List.mem_cons.1 hz with e' | e'
          · exact absurd (e'.symm.trans e) hxy
          · have := h1 z e'; rw [e] at this; omega
        · exact e)
      simp only [List.length_cons] at this hl
      omega
theorem zero_m (w : World) : (zeroValue 25).run Try.prog w = .ok (memV z25) w := by kernel_rfl
theorem own_look {w : World} {b n : Nat} {l : List Mem} (h : w.ownsMap Try.prog 23 memR b n (ent l)) {a : Int} (h0 : 0 ≤ a) (h1 : a ≤ 4294967295) :
    (Instr.lookup 61 (.map (some b)) (.int .u32 a) true).run Try.prog w = .ok (.tuple #[memV ((getL l a).getD z25), .bool (getL l a).isSome]) w := by
  obtain ⟨v, ps, hrun, hv⟩ := h.look_ok keyed Try.underlying61 (zero_m w) (memR_mk z25) (key_of h0 h1)
  obtain ⟨x, rfl, hx⟩ := memR_inv hv
  rw [hrun, has_ent]
  injection hx with hx _
  rw [at_ent] at hx
  have e : x = (getL l a).getD z25 := by
    cases hg : getL l a with
    | none => rw [hg] at hx; simp at hx; exact hx.symm
    | some y => rw [hg] at hx; simp at hx; exact hx.symm
  rw [← e]
theorem at_get' {l : List Mem} {a : Int} {c : Mem} (h : ∀ zd, (ent l).atKey (kL a) zd = .held c) : getL l a = some c := by
  have h1 := h .nil
  rw [at_ent] at h1
  cases hg : getL l a with
  | none => rw [hg] at h1; simp at h1
  | some y => rw [hg] at h1; simp at h1; rw [h1]
/-- the members told so far stand in the other list -/
def Both (l1 l2 : List Mem) (left : Lit → Bool) : Prop := ∀ x ∈ l1, left (kL x.f0) = false → x ∈ l2
theorem both_start (l1 l2 : List Mem) (h : Rises l1) : Both l1 l2 (has (ent l1)) := fun x hx h2 => by rw [has_ent, get_of h hx] at h2; cases h2
theorem both_step {l1 l2 : List Mem} {left : Lit → Bool} (h : Both l1 l2 left) (hR : Rises l1) {c : Mem} (hc : getL l1 c.f0 = some c) (h2 : c ∈ l2) : Both l1 l2 (fun z => left z && !z.sameKey (kL c.f0)) := by
  intro x hx hl
  by_cases he : x.f0 = c.f0
  · have := get_of hR hx
    rw [he, hc] at this
    rw [← Option.some.inj this]
    exact h2
  · refine h x hx ?_
    have hb : (x.f0 == c.f0) = false := beq_eq_false_iff_ne.2 he
    simp only [same_kL, hb] at hl
    simpa using hl
attribute [local go_sem high] eqA25
set_option maxHeartbeats 8000000 in
set_option maxRecDepth 100000 in
theorem equal_calls (w : World) (b1 b2 : Nat) (l1 l2 : List Mem) (h1 : w.ownsMap Try.prog 23 memR b1 l1.length (ent l1)) (h2 : w.ownsMap Try.prog 23 memR b2 l2.length (ent l2)) (R1 : Rises l1) (R2 : Rises l2) :
    Calls Try.prog 36 #[.map (some b1), .map (some b2)] w fun e w' => ∃ r : Bool, e = .returned (.bool r) ∧ (r = true ↔ l1 = l2) ∧ Below w.heap.size w w' := by
  have len1 := fun ty => h1.len Try.underlying61 ty
  have len2 := fun ty => h2.len Try.underlying61 ty
  simp only [size_ent] at len1 len2
  have hb2 := h2.lt
  by_cases hsz : l1.length = l2.length
  · have hsz1 : ((l1.length : Int) != (l2.length : Int)) = false := by simp [hsz]
    have HSZ := Aside0.mk hsz
    clear hsz
    go_enter Try.func36, Try.ntmps36
    go_wp2_with (first
      | (at_range; refine wpList_range_own _ rfl _ 61 rfl 23 25 keyed Try.underlying61 memR b1 l1.length _ rfl h1 ?_; intro w0 hrg0 hg0 hs0))
    try go_frame
    go_loopw [18] (fun _ wr => ∃ (left : Lit → Bool) (cnt : Nat), wr.ranges Try.prog 23 memR b1 w.heap.size l1.length (ent l1) left cnt ∧ wr.ownsMap Try.prog 23 memR b2 l2.length (ent l2) ∧ Below w.heap.size w wr ∧ Aside0 (Both l1 l2 left))
      (fun _ wr => wr.rangeLeft b1 w.heap.size)
    case atStart => exact ⟨_, _, hrg0, h2.kept hg0 (by simp), (Below.refl _ _).grown hg0 (Nat.le_refl _) (fun j hj => by cases hj), ⟨both_start l1 l2 R1⟩⟩
    case round =>
      obtain ⟨left, cnt, hrg, h2r, hB, G⟩ := hrel
      go_wp2_with (first
        | (at_next; refine wpList_next_ranges _ rfl _ rfl 23 keyed memR (Value.int .u32) memV (fun key kl hk => by obtain ⟨x, hx, _⟩ := Maps.keyOf_int_inv Try.underlying23 hk; exact ⟨x, hx⟩) (fun v y hv => by obtain ⟨c, rfl, _⟩ := memR_inv hv; exact ⟨c, rfl⟩) b1 w.heap.size l1.length _ _ _ rfl hrg ?_ ?_))
      · intro _ hl0
        go_wp2
        go_ret
        exact ⟨true, rfl, ⟨fun _ => sub_eq R1 R2 HSZ.out (fun x hx => G.out x hx (hl0 _)), fun _ => rfl⟩, hB⟩
      · intro x c kl yd yp w1 cnt1 hkey hlk hv hat hrg1 hlt hg1 hs1 hen
        obtain ⟨x', ex, rfl, hwf⟩ := Maps.keyOf_int_inv Try.underlying23 hkey
        obtain rfl : x = x' := by simpa using ex
        obtain ⟨rfl, rfl⟩ := Prod.mk.inj (Option.some.inj ((memR_mk c).symm.trans hv))
        have hgc := at_get' (a := x) hat
        obtain ⟨hcm, rfl⟩ := get_mem hgc
        have hx0 : 0 ≤ c.f0 ∧ c.f0 ≤ 4294967295 := by
          have e1 : IntKind.u32.min = 0 := by decide
          have e2 : IntKind.u32.max = 4294967295 := by decide
          simpa [Lit.wf, e1, e2] using hwf
        have h2w1 := h2r.kept hg1 (fun e => by have := Option.some.inj e; omega)
        have hB1 : Below w.heap.size w w1 := hB.grown hg1 hB.size (fun j hj => by cases hj; exact Nat.le_refl _)
        have HRG1 := Aside0.mk hrg1
        have HRG := Aside0.mk hrg
        have HGC := Aside0.mk hgc
        have HCM := Aside0.mk hcm
        unfold memV at hen
        clear hs1 hv hat hkey hrg1 hrg hgc hcm hlk hwf ex
        go_upto_region 6 with (fail)
        have hba := below_alloc (Below.refl w1.heap.size w1) (.cells #[.int .u32 c.f0, .int .u32 c.f1, .int .u8 c.f2, .string c.f3] 25)
        have HC1 := Aside0.mk (blk_new w1 (.cells #[.int .u32 c.f0, .int .u32 c.f1, .int .u8 c.f2, .string c.f3] 25))
        have HRG2 := Aside0.mk (HRG1.out.alloc (.cells #[.int .u32 c.f0, .int .u32 c.f1, .int .u8 c.f2, .string c.f3] 25))
        have h2w2 := h2w1.alloc (.cells #[.int .u32 c.f0, .int .u32 c.f1, .int .u8 c.f2, .string c.f3] 25)
        have HB2 := Aside0.mk (hB1.alloc hB1.size (.cells #[.int .u32 c.f0, .int .u32 c.f1, .int .u8 c.f2, .string c.f3] 25))
        have hlk2 := own_look h2w2 hx0.1 hx0.2
        have HO2 := Aside0.mk h2w2
        clear h2w1 hB1 hba HRG1 hen h2w2 hg1
        generalize w1.alloc _ = w2 at HC1 HRG2 HB2 hlk2 HO2 ⊢
        generalize w1.heap.size = cb at HC1 ⊢
        have c0 : w2.cell? ⟨cb, 0, none⟩ = some (.int .u32 c.f0) := (blk_cell HC1.out 0).trans rfl
        have c1 : w2.cell? ⟨cb, 1, none⟩ = some (.int .u32 c.f1) := (blk_cell HC1.out 1).trans rfl
        have c2 : w2.cell? ⟨cb, 2, none⟩ = some (.int .u8 c.f2) := (blk_cell HC1.out 2).trans rfl
        have c3 : w2.cell? ⟨cb, 3, none⟩ = some (.string c.f3) := (blk_cell HC1.out 3).trans rfl
        have hcb : cb < w2.heap.size := blk_lt HC1.out
        cases hg2 : getL l2 c.f0 with
        | none =>
          rw [hg2] at hlk2
          simp only [Option.getD_none, Option.isSome_none] at hlk2
          unfold memV at hlk2
          go_wp2
          go_ret
          exact ⟨false, rfl, ⟨fun h => (by cases h), fun h => by rw [← h, HGC.out] at hg2; cases hg2⟩, HB2.out.alloc HB2.out.size _⟩
        | some y =>
          rw [hg2] at hlk2
          simp only [Option.getD_some, Option.isSome_some] at hlk2
          unfold memV at hlk2
          have HG2 := Aside0.mk hg2
          clear hg2
          cases hq : eqM c y with
          | true =>
            have hq1 : (c.f0 == y.f0 && (c.f1 == y.f1 && (c.f2 == y.f2 && (c.f3.toList == y.f3.toList)))) = true := hq
            have HQ := Aside0.mk ((eqM_iff c y).1 hq)
            clear hq
            go_wp2
            have hrg4 := HRG2.out.alloc (.cells #[.int .u32 y.f0, .int .u32 y.f1, .int .u8 y.f2, .string y.f3] 25)
            refine ⟨⟨_, cnt1, hrg4, HO2.out.alloc _, HB2.out.alloc HB2.out.size _, ⟨both_step G.out R1 HGC.out (by rw [HQ.out]; exact (get_mem HG2.out).1)⟩⟩, ?_⟩
            rw [hrg4.left_eq, HRG.out.left_eq]
            exact hlt
          | false =>
            have hq1 : (c.f0 == y.f0 && (c.f1 == y.f1 && (c.f2 == y.f2 && (c.f3.toList == y.f3.toList)))) = false := hq
            have HQ := Aside0.mk hq
            clear hq
            go_wp2
            go_ret
            exact ⟨false, rfl, ⟨fun h => (by cases h), fun h => by
              have h1_ := HG2.out
              rw [← h, HGC.out] at h1_
              have h2_ := HQ.out
              rw [Option.some.inj h1_, (eqM_iff y y).2 rfl] at h2_
              cases h2_⟩, HB2.out.alloc HB2.out.size _⟩
  · have hsz1 : ((l1.length : Int) != (l2.length : Int)) = true := by simp; omega
    go_enter Try.func36, Try.ntmps36
    go_wp2
    go_ret
    exact ⟨false, rfl, ⟨fun h => (by cases h), fun h => absurd (by rw [h]) hsz⟩, Below.refl _ _⟩
end Go.Proofs.Ytognmibankcefaa.Print
