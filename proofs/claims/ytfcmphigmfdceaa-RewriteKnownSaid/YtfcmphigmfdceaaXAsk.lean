/- rewrite.Ask, walked: the first question that rules make of one. -/
import Derived.Test.YtfcmphigmfdceaaXAskP
namespace Go.Proofs.Ytfcmphigmfdceaa.Print
open Go.RowKit Go.Shelf Go.Proofs.YtfcmphigmfdceaaW.PrintWords Go.Proofs.YtfcmphigmfdceaaW.PrintLast Go.Proofs.YtfcmphigmfdceaaW.PrintMore
attribute [local go_sem] Oper.semAt_some
set_option linter.unusedVariables false
set_option linter.unusedSimpArgs false
/-- a block that holds just these cells -/
def Bx (W : World) (B : Nat) (cs : Array Value) (t : TypeId) : Prop := W.heap[B]? = some (.cells cs t (0, 0))
theorem Bx.lt {W : World} {B : Nat} {cs : Array Value} {t : TypeId} (h : Bx W B cs t) : B < W.heap.size := (Array.getElem?_eq_some_iff.1 h).1
theorem Bx.kept {W W' : World} {row : Option Nat} {B : Nat} {cs : Array Value} {t : TypeId} (h : Bx W B cs t) (hg : W.grownBy W' row) (hne : some B ≠ row) : Bx W' B cs t := (hg.block B h.lt hne).trans h
theorem Bx.new (W : World) (cs : Array Value) (t : TypeId) : Bx (W.alloc (.cells cs t)) W.heap.size cs t := World.alloc_heap_new W _
theorem Bx.alloc {W : World} {B : Nat} {cs : Array Value} {t : TypeId} (h : Bx W B cs t) (o : Obj) : Bx (W.alloc o) B cs t := h.kept (World.grownBy_alloc W o none) (by simp)
theorem Bx.below {W W' : World} {B : Nat} {cs : Array Value} {t : TypeId} (h : Bx W B cs t) (hb : Below W.heap.size W W') : Bx W' B cs t := h.kept (grown_of_below hb none) (by simp)
theorem Bx.cell {W : World} {B : Nat} {cs : Array Value} {t : TypeId} (h : Bx W B cs t) (j : Nat) (v : Value) (hv : cs[j]? = some v) : W.cell? ⟨B, j, none⟩ = some v := by simp [World.cell?, show W.heap[B]? = _ from h, hv]
theorem Bx.frozen {W : World} {B : Nat} {cs : Array Value} {t : TypeId} (h : Bx W B cs t) (j : Nat) : W.frozen? ⟨B, j, none⟩ = false := by simp [World.frozen?, show W.heap[B]? = _ from h]
theorem Bx.set {W : World} {B : Nat} {cs : Array Value} {t : TypeId} (h : Bx W B cs t) (j : Nat) (v : Value) : Bx (W.setCell ⟨B, j, none⟩ v) B (cs.setIfInBounds j v) t := by
  have h' : W.heap[B]? = some (.cells cs t (0, 0)) := h
  simp [Bx, World.setCell, Array.getElem?_modify, h']
theorem Bx.other {W : World} {B B' : Nat} {cs : Array Value} {t : TypeId} (h : Bx W B cs t) (hne : B ≠ B') (j : Nat) (v : Value) : Bx (W.setCell ⟨B', j, none⟩ v) B cs t := (Below.heap_setCell W ⟨B', j, none⟩ v B hne).trans h
theorem Bx.put {W : World} {B D : Nat} {cs : Array Value} {t : TypeId} (h : Bx W B cs t) (hne : B ≠ D) (o : Obj) : Bx (W.putObj D o) B cs t := h.kept (grownBy_putObj' W D o) (fun e => hne (by cases e; rfl))
theorem Bx.own {β : Type} (B : Nat) (t : TypeId) (f : β → Array Value) : Own (fun s W => Bx W B (f s) t) := fun s X Y row hs hg hrow =>
  hs.kept hg (fun e' => by obtain ⟨o, ho, hc⟩ := hrow B e'.symm; rw [show X.heap[B]? = _ from hs] at ho; cases ho; cases hc)
set_option maxRecDepth 100000 in
theorem made_calls (A : Option Addr) (n c : Nat) (q : S32) (w : World) : Calls Try.prog 31 #[.slice A n c, .agg #[.string q.f0, .int .u16 q.f1, .int .u16 q.f2]] w fun e w' =>
    e = .returned (.func (.func 39) #[] #[.pointer (some ⟨w.heap.size, 0, none⟩), .pointer (some ⟨w.heap.size + 1, 0, none⟩)]) ∧ w' = (w.alloc (.cells #[.slice A n c] 22)).alloc (.cells #[.string q.f0, .int .u16 q.f1, .int .u16 q.f2] 32) := by
  go_enter Try.func31, Try.ntmps31
  go_wp2
  go_ret
  exact ⟨rfl, rfl⟩
def rewrite_Ask.f (l : List S38) (a : ByteArray) (b c : Int) : Option (ByteArray × Int × Int × Bool) := some (flat (askP l ⟨a, b, c⟩))
theorem ask_found {l : List S38} {q y : S32} {r : List S32} (h1 : checkP l = 0) (h2 : (dec q.f0).isSome = true) (h3 : mades (doP q) l = y :: r) : askP l q = (y, true) := by unfold askP; rw [if_pos h1, if_pos h2, h3]
theorem ask_none {l : List S38} {q : S32} (h3 : mades (doP q) l = []) : askP l q = (z32, false) := by unfold askP; rw [h3]; split <;> (try split) <;> rfl
theorem check_rules {l : List S38} (h : checkP l = 0) : ∀ x ∈ l, ruleOk x = true := by
  unfold checkP at h
  split at h
  · omega
  · split at h
    · rename_i h2; exact List.all_eq_true.1 h2
    · omega
set_option maxHeartbeats 4000000 in
set_option maxRecDepth 100000 in
theorem ask_calls (A0 : Option Addr) (c0 : Nat) (l0 : List S38) (q : S32) (w : World) (hr0 : Kd.C k38 w A0 l0.length l0) (hc0 : l0.length ≤ c0) :
    Calls Try.prog 16 #[.slice A0 l0.length c0, .agg #[.string q.f0, .int .u16 q.f1, .int .u16 q.f2]] w
      fun e w' => e = .returned (.tuple #[.agg #[.string (askP l0 q).1.f0, .int .u16 (askP l0 q).1.f1, .int .u16 (askP l0 q).1.f2], .bool (askP l0 q).2]) ∧ Below w.heap.size w w' := by
  obtain ⟨k1, hk1⟩ := (rcheck_f l0).rounds
  obtain ⟨k2, hk2⟩ := (check_f q.f0).rounds
  have HK1 := Aside0.mk hk1
  have HK2 := Aside0.mk hk2
  have HR := Aside0.mk hr0
  have HC := Aside0.mk hc0
  clear hk1 hk2 hr0 hc0
  refine (callsIn_wide (n := 3)).1 ?_
  refine callsIn_of_wp_marks Try.func16 rfl trivial ?_ rfl
  simp only [Try.ntmps16, List.size_toArray, List.length_cons, List.length_nil, Nat.reduceAdd, Nat.reduceSub, Array.replicate_succ, Array.replicate_zero, List.push_toArray, List.append_toArray, List.nil_append, List.cons_append]
  have fin : ∀ w2, Below (((w.alloc (.cells #[.string q.f0, .int .u16 q.f1, .int .u16 q.f2] 32)).alloc (.cells #[.string ⟨#[]⟩, .int .u16 0, .int .u16 0] 32)).alloc (.cells #[.bool false] 4)).heap.size (((w.alloc (.cells #[.string q.f0, .int .u16 q.f1, .int .u16 q.f2] 32)).alloc (.cells #[.string ⟨#[]⟩, .int .u16 0, .int .u16 0] 32)).alloc (.cells #[.bool false] 4)) w2 →
      Bx w2 w.heap.size #[.string q.f0, .int .u16 q.f1, .int .u16 q.f2] 32 ∧ Bx w2 (w.heap.size + 1) #[.string ⟨#[]⟩, .int .u16 0, .int .u16 0] 32 ∧ Bx w2 (w.heap.size + 1 + 1) #[.bool false] 4 ∧ Below w.heap.size w w2 := by
    intro w2 hb
    refine ⟨Bx.below ((Bx.new w _ _).alloc _ |>.alloc _) hb, Bx.below (Bx.alloc ?_ _) hb, Bx.below ?_ hb, ?_⟩
    · have := Bx.new (w.alloc (.cells #[.string q.f0, .int .u16 q.f1, .int .u16 q.f2] 32)) #[.string ⟨#[]⟩, .int .u16 0, .int .u16 0] 32
      rwa [World.size_alloc] at this
    · have := Bx.new ((w.alloc (.cells #[.string q.f0, .int .u16 q.f1, .int .u16 q.f2] 32)).alloc (.cells #[.string ⟨#[]⟩, .int .u16 0, .int .u16 0] 32)) #[.bool false] 4
      rwa [World.size_alloc, World.size_alloc] at this
    · exact (below_alloc (below_alloc (below_alloc (Below.refl w.heap.size w) _) _) _).trans (below_to hb (by simp; omega))
  have FIN := Aside0.mk fin
  clear fin
  by_cases h1 : checkP l0 = 0
  · by_cases h2 : (dec q.f0).isSome = true
    · rw [if_pos h2] at HK2
      rw [h1] at HK1
      have HP := Aside0.mk (And.intro h1 h2)
      clear h1 h2
      gi_wp2_with (first | (refine ⟨trivial, ?_⟩; gi_at_call 12; refine (callsIn_wide.2 (rewrite_Check.calls k1 A0 c0 l0 _ _ (by (with_reducible repeat (first | exact HR.out | refine Kd.C_alloc ?_ _))) HC.out HK1.out)).mono ?_; rintro e w1 ⟨rfl, hb1⟩; have HB1 := Aside0.mk hb1; obtain ⟨b0, b1, b2, hB⟩ := FIN.out _ hb1; have hq0 := b0.cell 0 _ rfl; have f1 := fun j => b1.frozen j; have f2 := b2.frozen 0; have e10 := b1.cell 0 _ rfl; have e11 := b1.cell 1 _ rfl; have e12 := b1.cell 2 _ rfl; have e2 := b2.cell 0 _ rfl; have HB := Aside0.mk hB; clear hb1 hB b0 b1 b2) | (refine ⟨trivial, ?_⟩; gi_at_call 29; refine (callsIn_wide.2 (name_Check.calls k2 q.f0 _ _ HK2.out)).mono ?_; rintro e w2 ⟨rfl, hb2⟩; have HB2 := Aside0.mk (HB1.out.trans (below_to hb2 HB1.out.size)); clear hb2 hq0 f1 f2 e10 e11 e12 e2 HB; obtain ⟨b0, b1, b2, hB⟩ := FIN.out _ HB2.out; have hq0 := b0.cell 0 _ rfl; have hq1 := b0.cell 1 _ rfl; have hq2 := b0.cell 2 _ rfl; have f1 := fun j => b1.frozen j; have f2 := b2.frozen 0; have e10 := b1.cell 0 _ rfl; have e11 := b1.cell 1 _ rfl; have e12 := b1.cell 2 _ rfl; have e2 := b2.cell 0 _ rfl; have HB := Aside0.mk hB; have Q1 := Aside0.mk b1; have Q2 := Aside0.mk b2; clear hB b0 b1 b2) | (refine ⟨trivial, ?_⟩; gi_at_call 31; refine (callsIn_wide.2 (made_calls A0 l0.length c0 q _)).mono ?_; rintro e w3 ⟨rfl, rfl⟩))
      have bL : Bx ((w2.alloc (.cells #[.slice A0 l0.length c0] 22)).alloc (.cells #[.string q.f0, .int .u16 q.f1, .int .u16 q.f2] 32)) w2.heap.size #[.slice A0 l0.length c0] 22 := (Bx.new w2 _ _).alloc _
      have bQ : Bx ((w2.alloc (.cells #[.slice A0 l0.length c0] 22)).alloc (.cells #[.string q.f0, .int .u16 q.f1, .int .u16 q.f2] 32)) (w2.heap.size + 1) #[.string q.f0, .int .u16 q.f1, .int .u16 q.f2] 32 := by
        have := Bx.new (w2.alloc (.cells #[.slice A0 l0.length c0] 22)) #[.string q.f0, .int .u16 q.f1, .int .u16 q.f2] 32
        rwa [World.size_alloc] at this
      have q1 := (Q1.out.alloc (.cells #[.slice A0 l0.length c0] 22)).alloc (.cells #[.string q.f0, .int .u16 q.f1, .int .u16 q.f2] 32)
      have q2 := (Q2.out.alloc (.cells #[.slice A0 l0.length c0] 22)).alloc (.cells #[.string q.f0, .int .u16 q.f1, .int .u16 q.f2] 32)
      have hB3 := below_alloc (below_alloc HB.out (.cells #[.slice A0 l0.length c0] 22)) (.cells #[.string q.f0, .int .u16 q.f1, .int .u16 q.f2] 32)
      clear hq0 hq1 hq2 f1 f2 e10 e11 e12 e2
      obtain ⟨W3, hW3⟩ : ∃ W3, (w2.alloc (.cells #[.slice A0 l0.length c0] 22)).alloc (.cells #[.string q.f0, .int .u16 q.f1, .int .u16 q.f2] 32) = W3 := ⟨_, rfl⟩
      rw [hW3] at bL bQ q1 q2 hB3 ⊢
      have hsz3 : W3.heap.size = w2.heap.size + 2 := by rw [← hW3]; simp
      clear hW3
      have hr1 := q1.lt
      have hr2 := q2.lt
      refine wpIn_rangeFunc_ownH (n := 3) rfl (by omega) (gf := 39) (lb := #[.pointer (some ⟨w2.heap.size, 0, none⟩), .pointer (some ⟨w2.heap.size + 1, 0, none⟩)]) rfl trivial (enters_of Try.func39 (by kernel_rfl) rfl)
        (made1_stops (3 - 1) (by omega) w2.heap.size (w2.heap.size + 1) A0 c0 l0 q (doP q) W3 (bL.cell 0 _ rfl) (bQ.cell 0 _ rfl) (bQ.cell 1 _ rfl) (bQ.cell 2 _ rfl) (Kd.C_below HR.out hB3) (fun x hx => do_calls q x (check_rules HP.out.1 x hx)))
        belowK_t (belowK_b (Nat.le_refl _)) (Below.refl _ _) (fun _ => rfl)
        (fun pre W => (Bx W (w.heap.size + 1) #[.string ⟨#[]⟩, .int .u16 0, .int .u16 0] 32 ∧ Bx W (w.heap.size + 1 + 1) #[.bool false] 4) ∧ Below W3.heap.size W3 W ∧ pre = [])
        (fun c pre W => c = .ret ∧ ∃ y : S32, pre = [y] ∧ (Bx W (w.heap.size + 1) #[.string y.f0, .int .u16 y.f1, .int .u16 y.f2] 32 ∧ Bx W (w.heap.size + 1 + 1) #[.bool true] 4) ∧ Below w.heap.size w W)
        (OwnFrom.and (OwnFrom.and (Own.from (Bx.own _ _ _) _) (Own.from (Bx.own _ _ _) _)) (OwnFrom.and (ownFrom_below (Nat.le_refl _) (Nat.le_refl _)) (fun s A B row hs hg hr => hs)))
        (fun c s A B row hs hg hr => by
          obtain ⟨h1, y, h2, ⟨h3, h4⟩, h5⟩ := hs
          exact ⟨h1, y, h2, ⟨Bx.own _ _ (fun _ : Unit => #[.string y.f0, .int .u16 y.f1, .int .u16 y.f2]) () A B row h3 hg (fun r e => (hr r e).2), Bx.own _ _ (fun _ : Unit => #[.bool true]) () A B row h4 hg (fun r e => (hr r e).2)⟩, h5.grown hg h5.size (fun k e => by have := (hr k e).1; have := hB3.size; omega)⟩)
        ⟨⟨q1, q2⟩, Below.refl _ _, rfl⟩
        (fun x a' W => ∃ Bn, Bx W Bn #[.string x.f0, .int .u16 x.f1, .int .u16 x.f2] 32 ∧ a' = { tmps := #[.slice A0 l0.length c0, .agg #[.string q.f0, .int .u16 q.f1, .int .u16 q.f2], undef, .pointer (some ⟨w.heap.size, 0, none⟩), .pointer (some ⟨w.heap.size + 1, 0, none⟩), .pointer (some ⟨w.heap.size + 1 + 1, 0, none⟩), .pointer (some ⟨Bn, 0, none⟩), .slice A0 l0.length c0, .int .i64 0, .bool false, .bool false, .pointer (some ⟨w.heap.size, 0, none⟩), .string q.f0, .int .i64 0, .bool false, .bool false, undef, .slice A0 l0.length c0, .agg #[.string q.f0, .int .u16 q.f1, .int .u16 q.f2], .func (.func 39) #[] #[.pointer (some ⟨w2.heap.size, 0, none⟩), .pointer (some ⟨w2.heap.size + 1, 0, none⟩)], .agg #[.string x.f0, .int .u16 x.f1, .int .u16 x.f2], undef, undef], defers := [] })
        (fun x a' _ X Y row hs hg hr => by obtain ⟨Bn, h1, h2⟩ := hs; exact ⟨Bn, Bx.own Bn 32 (fun _ : Unit => #[.string x.f0, .int .u16 x.f1, .int .u16 x.f2]) () X Y row h1 hg (fun r e => (hr r e).2), h2⟩)
        ?assign ?body ?done ?stop
      case assign =>
        rintro l pre x W K ⟨⟨b1, b2⟩, hB4, rfl⟩ hK
        gi_wp2
        exact hK _ _ ((KeepsOthers.alloc _ _).from _) ((Below.refl _ W).alloc hB4.size _) ⟨⟨b1.alloc _, b2.alloc _⟩, hB4.alloc hB4.size _, by first | rfl | trivial⟩ ⟨W.heap.size, Bx.new W _ 32, rfl⟩
      case body =>
        rintro l pre x a' W hl ⟨r, hr⟩ ⟨⟨b1, b2⟩, hB4, rfl⟩ ⟨Bn, bn, rfl⟩ hlt
        have n0 := bn.cell 0 _ rfl
        have n1 := bn.cell 1 _ rfl
        have n2 := bn.cell 2 _ rfl
        have f1 := fun j => b1.frozen j
        have f2 := b2.frozen 0
        have e10 := b1.cell 0 _ rfl
        have e11 := b1.cell 1 _ rfl
        have e12 := b1.cell 2 _ rfl
        have e2 := b2.cell 0 _ rfl
        gi_wp2
        exact ⟨((((KeepsOthers.setCell _ _ _).trans (KeepsOthers.setCell _ _ _)).trans (KeepsOthers.setCell _ _ _)).trans (KeepsOthers.setCell _ _ _)).from _, rfl, x, rfl, ⟨(((b1.set 0 _).set 1 _).set 2 _).other (by omega) _ _, ((((b2.other (by omega) _ _).other (by omega) _ _).other (by omega) _ _).set 0 _)⟩, by
          have hBW := hB3.trans (below_to hB4 hB3.size)
          repeat (first | exact hBW | refine Below.setCell ?_ (by first | (simp; done) | (simp; omega)) _)⟩
      case done =>
        rintro D xs W hD hS ⟨⟨b1, b2⟩, hB4, rfl⟩ hK
        have he := ask_none (q := q) hS.symm
        have HE := Aside0.mk he
        have HKD := Aside0.mk hK
        clear he hS
        have f1 := fun j => b1.frozen j
        have f2 := b2.frozen 0
        have e10 := b1.cell 0 _ rfl
        have e11 := b1.cell 1 _ rfl
        have e12 := b1.cell 2 _ rfl
        have e2 := b2.cell 0 _ rfl
        have c1 := ((((b1.set 0 (.string ⟨#[]⟩)).set 1 (.int .u16 0)).set 2 (.int .u16 0)).other (B' := w.heap.size + 1 + 1) (by omega) 0 (.bool false)).put (D := D) (by omega) (.deferred none)
        have c2 := ((((b2.other (B' := w.heap.size + 1) (by omega) 0 (.string ⟨#[]⟩)).other (B' := w.heap.size + 1) (by omega) 1 (.int .u16 0)).other (B' := w.heap.size + 1) (by omega) 2 (.int .u16 0)).set 0 (.bool false)).put (D := D) (by omega) (.deferred none)
        have HC1 := Aside0.mk c1
        have HC2 := Aside0.mk c2
        clear c1 c2
        gi_wp2
        have hK' := ((((KeepsOthers.setCell W ⟨w.heap.size + 1, 0, none⟩ (.string ⟨#[]⟩)).trans (KeepsOthers.setCell _ ⟨w.heap.size + 1, 1, none⟩ (.int .u16 0))).trans (KeepsOthers.setCell _ ⟨w.heap.size + 1, 2, none⟩ (.int .u16 0))).trans (KeepsOthers.setCell _ ⟨w.heap.size + 1 + 1, 0, none⟩ (.bool false))).same D _ HKD.out rfl
        refine ⟨by simp, .inl ⟨_, _, rfl, run_takeDeferred hK', ?_⟩⟩
        have g0 := HC1.out.cell 0 _ rfl
        have g1 := HC1.out.cell 1 _ rfl
        have g2 := HC1.out.cell 2 _ rfl
        have g3 := HC2.out.cell 0 _ rfl
        clear e10 e11 e12 e2 f1 f2
        refine ⟨.tuple #[.agg #[.string ⟨#[]⟩, .int .u16 0, .int .u16 0], .bool false], by simp [results, Try.f16, go_sem, g0, g1, g2, g3], by rw [HE.out]; rfl, ?_⟩
        have hBW := hB3.trans (below_to hB4 hB3.size)
        have hBW4 : Below w.heap.size w ((((W.setCell ⟨w.heap.size + 1, 0, none⟩ (.string ⟨#[]⟩)).setCell ⟨w.heap.size + 1, 1, none⟩ (.int .u16 0)).setCell ⟨w.heap.size + 1, 2, none⟩ (.int .u16 0)).setCell ⟨w.heap.size + 1 + 1, 0, none⟩ (.bool false)) := by
          repeat (first | exact hBW | refine Below.setCell ?_ (by first | (simp; done) | (simp; omega)) _)
        exact hBW4.trans (belowK_b (w := w) (Nat.le_refl _) _ D _ _ (by have := hB3.size; omega) hK' rfl rfl)
      case stop =>
        rintro D c pre W hD ⟨r, hr⟩ ⟨rfl, y, rfl, ⟨b1, b2⟩, hB5⟩ hK
        have he := ask_found HP.out.1 HP.out.2 hr.symm
        have HE := Aside0.mk he
        have HKD := Aside0.mk hK
        have HC1 := Aside0.mk (b1.put (D := D) (by omega) (.deferred none))
        have HC2 := Aside0.mk (b2.put (D := D) (by omega) (.deferred none))
        clear he hr hK
        gi_wp2
        refine ⟨by simp, .inl ⟨_, _, rfl, run_takeDeferred HKD.out, ?_⟩⟩
        have g0 := HC1.out.cell 0 _ rfl
        have g1 := HC1.out.cell 1 _ rfl
        have g2 := HC1.out.cell 2 _ rfl
        have g3 := HC2.out.cell 0 _ rfl
        refine ⟨.tuple #[.agg #[.string y.f0, .int .u16 y.f1, .int .u16 y.f2], .bool true], by simp [results, Try.f16, go_sem, g0, g1, g2, g3], by rw [HE.out], ?_⟩
        exact hB5.trans (belowK_b (w := w) (Nat.le_refl _) W D _ _ (by have := hB3.size; omega) HKD.out rfl rfl)
    · have he : askP l0 q = (z32, false) := by unfold askP; rw [if_pos h1, if_neg h2]
      have HE := Aside0.mk he
      rw [if_neg h2] at HK2
      rw [h1] at HK1
      clear he h1 h2
      gi_wp2_with (first | (refine ⟨trivial, ?_⟩; gi_at_call 12; refine (callsIn_wide.2 (rewrite_Check.calls k1 A0 c0 l0 _ _ (by (with_reducible repeat (first | exact HR.out | refine Kd.C_alloc ?_ _))) HC.out HK1.out)).mono ?_; rintro e w1 ⟨rfl, hb1⟩; have HB1 := Aside0.mk hb1; obtain ⟨b0, b1, b2, hB⟩ := FIN.out _ hb1; have hq0 := b0.cell 0 _ rfl; have f1 := fun j => b1.frozen j; have f2 := b2.frozen 0; have e10 := b1.cell 0 _ rfl; have e11 := b1.cell 1 _ rfl; have e12 := b1.cell 2 _ rfl; have e2 := b2.cell 0 _ rfl; have HB := Aside0.mk hB; clear hb1 hB b0 b1 b2) | (refine ⟨trivial, ?_⟩; gi_at_call 29; refine (callsIn_wide.2 (name_Check.calls k2 q.f0 _ _ HK2.out)).mono ?_; rintro e w2 ⟨rfl, hb2⟩; have HB2 := Aside0.mk (HB1.out.trans (below_to hb2 HB1.out.size)); clear hb2 hq0 f1 f2 e10 e11 e12 e2 HB; obtain ⟨b0, b1, b2, hB⟩ := FIN.out _ HB2.out; have hq0 := b0.cell 0 _ rfl; have hq1 := b0.cell 1 _ rfl; have hq2 := b0.cell 2 _ rfl; have f1 := fun j => b1.frozen j; have f2 := b2.frozen 0; have e10 := b1.cell 0 _ rfl; have e11 := b1.cell 1 _ rfl; have e12 := b1.cell 2 _ rfl; have e2 := b2.cell 0 _ rfl; have HB := Aside0.mk hB; have Q1 := Aside0.mk b1; have Q2 := Aside0.mk b2; clear hB b0 b1 b2))
      refine ⟨.tuple #[.agg #[.string ⟨#[]⟩, .int .u16 0, .int .u16 0], .bool false], by simp [results, Try.f16, go_sem, f1, f2, e10, e11, e12, e2], by rw [HE.out]; rfl, ?_⟩
      repeat (first | exact HB.out | refine Below.setCell ?_ (by first | (simp; done) | (simp; omega)) _)
  · have he : askP l0 q = (z32, false) := by unfold askP; rw [if_neg h1]
    have HE := Aside0.mk he
    have h1' : (checkP l0 == 0) = false := by simpa using h1
    have h1'' : (checkP l0 != 0) = true := by simpa using h1
    clear he
    gi_wp2_with (first | (refine ⟨trivial, ?_⟩; gi_at_call 12; refine (callsIn_wide.2 (rewrite_Check.calls k1 A0 c0 l0 _ _ (by (with_reducible repeat (first | exact HR.out | refine Kd.C_alloc ?_ _))) HC.out HK1.out)).mono ?_; rintro e w1 ⟨rfl, hb1⟩; have HB1 := Aside0.mk hb1; obtain ⟨b0, b1, b2, hB⟩ := FIN.out _ hb1; have hq0 := b0.cell 0 _ rfl; have f1 := fun j => b1.frozen j; have f2 := b2.frozen 0; have e10 := b1.cell 0 _ rfl; have e11 := b1.cell 1 _ rfl; have e12 := b1.cell 2 _ rfl; have e2 := b2.cell 0 _ rfl; have HB := Aside0.mk hB; clear hb1 hB b0 b1 b2) | (refine ⟨trivial, ?_⟩; gi_at_call 29; refine (callsIn_wide.2 (name_Check.calls k2 q.f0 _ _ HK2.out)).mono ?_; rintro e w2 ⟨rfl, hb2⟩; have HB2 := Aside0.mk (HB1.out.trans (below_to hb2 HB1.out.size)); clear hb2 hq0 f1 f2 e10 e11 e12 e2 HB; obtain ⟨b0, b1, b2, hB⟩ := FIN.out _ HB2.out; have hq0 := b0.cell 0 _ rfl; have hq1 := b0.cell 1 _ rfl; have hq2 := b0.cell 2 _ rfl; have f1 := fun j => b1.frozen j; have f2 := b2.frozen 0; have e10 := b1.cell 0 _ rfl; have e11 := b1.cell 1 _ rfl; have e12 := b1.cell 2 _ rfl; have e2 := b2.cell 0 _ rfl; have HB := Aside0.mk hB; have Q1 := Aside0.mk b1; have Q2 := Aside0.mk b2; clear hB b0 b1 b2))
    refine ⟨trivial, ?_⟩
    gi_wp2
    refine ⟨.tuple #[.agg #[.string ⟨#[]⟩, .int .u16 0, .int .u16 0], .bool false], by simp [results, Try.f16, go_sem, f1, f2, e10, e11, e12, e2], by rw [HE.out]; rfl, ?_⟩
    repeat (first | exact HB.out | refine Below.setCell ?_ (by first | (simp; done) | (simp; omega)) _)
theorem rewrite_Ask.calls (A0 : Option Addr) (c0 : Nat) (l0 : List S38) (a1_0 : ByteArray) (a1_1 a1_2 : Int) (r1 : ByteArray) (r2 r3 : Int) (r4 : Bool) (w : World) (hr0 : Kd.C k38 w A0 l0.length l0) (hc0 : l0.length ≤ c0) (h : rewrite_Ask.f l0 a1_0 a1_1 a1_2 = some (r1, r2, r3, r4)) :
    Calls Try.prog 16 #[.slice A0 l0.length c0, .agg #[.string a1_0, .int .u16 a1_1, .int .u16 a1_2]] w
      fun e w' => e = .returned (.tuple #[.agg #[.string r1, .int .u16 r2, .int .u16 r3], .bool r4]) ∧ Below w.heap.size w w' := by
  have h' := Option.some.inj h
  simp only [flat, Prod.mk.injEq] at h'
  obtain ⟨rfl, rfl, rfl, rfl⟩ := h'
  exact ask_calls A0 c0 l0 ⟨a1_0, a1_1, a1_2⟩ w hr0 hc0
end Go.Proofs.Ytfcmphigmfdceaa.Print
