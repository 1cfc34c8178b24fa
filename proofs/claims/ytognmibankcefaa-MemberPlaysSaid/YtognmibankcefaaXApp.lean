/- slices.Collect over maps.Values of a map of members, walked: all members, in some order, in a row of its own. -/
import Derived.Test.YtognmibankcefaaXColl
namespace Go.Proofs.Ytognmibankcefaa.Print
open Go.RowKit Go.Shelf Go.Maps Go.ChangeMaps Go.Proofs.YtognmibankcefaaW.PrintWords Go.Proofs.YtognmibankcefaaW.PrintLast Go.Proofs.YtognmibankcefaaW.PrintMore
attribute [local go_sem] Oper.semAt_some
set_option linter.unusedVariables false
set_option linter.unusedSimpArgs false
def memC (x : Mem) : List Value := [.int .u32 x.f0, .int .u32 x.f1, .int .u8 x.f2, .string x.f3]
def flatM (l : List Mem) : List Value := l.flatMap memC
theorem flatM_snoc (l : List Mem) (x : Mem) : flatM (l ++ [x]) = flatM l ++ memC x := by unfold flatM; simp
/-- a block that holds just these cells -/
def Bx (W : World) (B : Nat) (cs : Array Value) (t : TypeId) : Prop := W.heap[B]? = some (.cells cs t (0, 0))
theorem Bx.lt {W : World} {B : Nat} {cs : Array Value} {t : TypeId} (h : Bx W B cs t) : B < W.heap.size := (Array.getElem?_eq_some_iff.1 h).1
theorem Bx.kept {W W' : World} {row : Option Nat} {B : Nat} {cs : Array Value} {t : TypeId} (h : Bx W B cs t) (hg : W.grownBy W' row) (hne : some B ≠ row) : Bx W' B cs t := (hg.block B h.lt hne).trans h
theorem Bx.new (W : World) (cs : Array Value) (t : TypeId) : Bx (W.alloc (.cells cs t)) W.heap.size cs t := World.alloc_heap_new W _
theorem Bx.cell {W : World} {B : Nat} {cs : Array Value} {t : TypeId} (h : Bx W B cs t) (j : Nat) (v : Value) (hv : cs[j]? = some v) : W.cell? ⟨B, j, none⟩ = some v := by simp [World.cell?, show W.heap[B]? = _ from h, hv]
theorem Bx.own {β : Type} (B : Nat) (t : TypeId) (f : β → Array Value) : Own (fun s W => Bx W B (f s) t) := fun s X Y row hs hg hrow =>
  hs.kept hg (fun e' => by obtain ⟨o, ho, hc⟩ := hrow B e'.symm; rw [show X.heap[B]? = _ from hs] at ho; cases ho; cases hc)
theorem new_cells (W : World) (x : Mem) : ∀ j u, (memC x)[j]? = some u → (W.alloc (.cells #[.int .u32 x.f0, .int .u32 x.f1, .int .u8 x.f2, .string x.f3] 25)).cell? ((⟨W.heap.size, 0, none⟩ : Addr).add j) = some u := by
  intro j u hu
  have e : (⟨W.heap.size, 0, none⟩ : Addr).add j = ⟨W.heap.size, j, none⟩ := by rw [add_at, Nat.zero_add]
  rw [e]
  exact Bx.cell (Bx.new W #[.int .u32 x.f0, .int .u32 x.f1, .int .u8 x.f2, .string x.f3] 25) j u (by simpa [memC] using hu)
theorem memC_one (x : Mem) : ∀ u ∈ memC x, u.oneCell' = true := by
  intro u hu
  simp only [memC, List.mem_cons, List.not_mem_nil, or_false] at hu
  rcases hu with rfl | rfl | rfl | rfl <;> rfl
theorem infoM : (Try.prog.info? 25).map (fun i => (i.zero, i.size, i.bytes)) = some (some (.agg #[.int .u32 0, .int .u32 0, .int .u8 0, .string ⟨#[]⟩]), 4, 32) := by kernel_rfl
set_option maxRecDepth 100000 in
theorem values_calls (b : Nat) (w : World) : Calls Try.prog 33 #[.map (some b)] w fun e w' =>
    e = .returned (.func (.func 45) #[] #[.pointer (some ⟨w.heap.size, 0, none⟩)]) ∧ w' = w.alloc (.cells #[.map (some b)] 61) := by
  go_enter Try.func33, Try.ntmps33
  go_wp2
  go_ret
  exact ⟨rfl, rfl⟩
set_option maxHeartbeats 4000000 in
set_option maxRecDepth 100000 in
theorem appendSeq_calls (Bm b : Nat) (l : List Mem) (w : World) (hm : w.cell? ⟨Bm, 0, none⟩ = some (.map (some b))) (hown : w.ownsMap Try.prog 23 memR b l.length (ent l)) (hR : Rises l) (hll : l.length ≤ 100000) :
    Calls Try.prog 49 #[.slice none 0 0, .func (.func 45) #[] #[.pointer (some ⟨Bm, 0, none⟩)]] w
      fun e w' => ∃ v ss, e = .returned v ∧ ss.Perm l ∧ w'.ownsRow w.heap.size 25 4 v ss.length (flatM ss) ∧ Below w.heap.size w w' := by
  obtain ⟨i0, hi, hz0, hz1, hz2⟩ := info_parts infoM
  have hm3 := pw_cell_below (below_alloc (Below.refl w.heap.size w) (.cells #[.slice none 0 0] 32)) hm
  have hown3 := hown.alloc (.cells #[.slice none 0 0] 32)
  have hbx := Boxed.new w 32 (.slice none 0 0)
  have hB3 := below_alloc (Below.refl w.heap.size w) (.cells #[.slice none 0 0] 32)
  clear hm hown
  refine (callsIn_wide (n := 3)).1 ?_
  refine callsIn_of_wp_marks Try.func49 rfl trivial ?_ rfl
  simp only [Try.ntmps49, List.size_toArray, List.length_cons, List.length_nil, Nat.reduceAdd, Nat.reduceSub, Array.replicate_succ, Array.replicate_zero, List.push_toArray, List.append_toArray, List.nil_append, List.cons_append]
  gi_wp2
  obtain ⟨W3, hW3⟩ : ∃ W3, w.alloc (.cells #[.slice none 0 0] 32) = W3 := ⟨_, rfl⟩
  rw [hW3] at hm3 hown3 hbx hB3 ⊢
  have hsz3 : W3.heap.size = w.heap.size + 1 := by rw [← hW3]; simp
  clear hW3
  refine wpIn_rangeFunc_ownH (n := 3) rfl (by omega) (gf := 45) (lb := #[.pointer (some ⟨Bm, 0, none⟩)]) rfl trivial (enters_of Try.func45 (by kernel_rfl) rfl)
    (values1_stops (3 - 1) (by omega) Bm b l W3 hm3 hown3 hR) walksK_t walksK_b (Below.refl _ _) (fun _ => rfl)
    (fun pre W => (∃ v, Boxed W w.heap.size 32 v ∧ W.ownsRow w.heap.size 25 4 v pre.length (flatM pre) ∧ True) ∧ Below w.heap.size w W)
    (fun _ _ _ => False)
    (OwnFrom.and (Own.from (holdsRow_own w.heap.size w.heap.size 32 25 4 (fun pre : List Mem => pre.length) flatM (fun _ _ => True)) _) (ownFrom_below (Nat.le_refl _) (by omega)))
    (fun c s A B row hs hg hr => hs)
    ⟨⟨.slice none 0 0, hbx, World.ownsRow_nil _ _ _ _, trivial⟩, hB3⟩
    (fun x a' W => ∃ Bn, Bx W Bn (memC x).toArray 25 ∧ w.heap.size < Bn ∧ a' = { tmps := #[.slice none 0 0, .func (.func 45) #[] #[.pointer (some ⟨Bm, 0, none⟩)], .pointer (some ⟨w.heap.size, 0, none⟩), undef, .slice none 0 0, .pointer (some ⟨Bn, 0, none⟩), .func (.func 45) #[] #[.pointer (some ⟨Bm, 0, none⟩)], memV x, undef, undef, undef, undef, undef], defers := [] })
    (fun x a' _ X Y row hs hg hr => by obtain ⟨Bn, h1, h2, h3⟩ := hs; exact ⟨Bn, Bx.own Bn 25 (fun _ : Unit => (memC x).toArray) () X Y row h1 hg (fun r e => (hr r e).2), h2, h3⟩)
    ?assign ?body ?done ?stop
  case assign =>
    rintro lp pre x W K ⟨⟨v, b1, b2, _⟩, hB4⟩ hK
    unfold memV at hK ⊢
    gi_wp2
    have hb5 : Below w.heap.size w (W.alloc (.cells #[.int .u32 x.f0, .int .u32 x.f1, .int .u8 x.f2, .string x.f3] 25)) := hB4.alloc hB4.size _
    exact hK _ _ ((KeepsOthers.alloc _ _).from _) (KeepsOthers.alloc _ _).walks ⟨⟨v, b1.alloc _, b2.alloc _, trivial⟩, hb5⟩ ⟨W.heap.size, Bx.new W _ 25, b1.lt, rfl⟩
  case body =>
    rintro lp pre x a' W hl ⟨r, hr⟩ ⟨⟨v, b1, b2, _⟩, hB4⟩ ⟨Bn, bn, hBn, rfl⟩ hlt
    have n0 : W.cell? ⟨Bn, 0, none⟩ = some (.int .u32 x.f0) := bn.cell 0 _ rfl
    have n1 : W.cell? ⟨Bn, 1, none⟩ = some (.int .u32 x.f1) := bn.cell 1 _ rfl
    have n2 : W.cell? ⟨Bn, 2, none⟩ = some (.int .u8 x.f2) := bn.cell 2 _ rfl
    have n3 : W.cell? ⟨Bn, 3, none⟩ = some (.string x.f3) := bn.cell 3 _ rfl
    have hv1 := b1.cell
    have HB := Aside0.mk b1
    have HO := Aside0.mk b2
    have hsz := hB4.size
    unfold memV
    clear bn hr
    gi_wp2_with (first | (gi_at_builtin; refine wpListIn_append_own _ rfl (.tmp 8) (.tmp 10) 32 rfl w.heap.size 25 i0 (.agg #[.int .u32 0, .int .u32 0, .int .u8 0, .string ⟨#[]⟩]) 4 32 Try.underlying32 hi hz0 hz1 hz2 rfl (by decide) _ _ _ rfl (HO.out.alloc _) ⟨W.heap.size, 0, none⟩ 1 1 (memC x) rfl rfl (new_cells W x) (memC_one x) (by unfold maxLen; omega) (by omega) (by simp; omega) ?_; intro v' w1 hown' hgrow _; obtain ⟨g', cap', rfl⟩ := ownsRow_succ hown'; obtain ⟨hv1', hv2, hr2, hk2, hb2⟩ := HB.out.appended (by decide) HO.out hsz (Nat.le_refl _) hown' hgrow; have hc1 := hv1'.cell; have hf1 := hv1'.frozen; clear hv1))
    refine ⟨hk2.from _, hk2.walks, ⟨_, hv2, by rw [List.length_append, flatM_snoc]; exact hr2, trivial⟩, hB4.trans hb2⟩
  case done =>
    rintro D xs W hD hS ⟨⟨v, b1, b2, _⟩, hB4⟩ hK
    have hv1 := b1.cell
    gi_wp2
    refine ⟨by simp, .inl ⟨_, _, rfl, run_takeDeferred hK, ?_⟩⟩
    refine ⟨v, by simp [results, Try.f49, go_sem], v, xs, rfl, hS, ownsRow_putObj b2 _ hK rfl, hB4.trans (belowK_b (w := w) (Nat.le_refl _) _ D _ _ (by omega) hK rfl rfl)⟩
  case stop =>
    rintro D c pre W _ _ h
    exact h.elim
end Go.Proofs.Ytognmibankcefaa.Print
