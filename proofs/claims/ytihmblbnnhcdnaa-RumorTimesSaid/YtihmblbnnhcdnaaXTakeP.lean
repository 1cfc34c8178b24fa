/- What a queue's Take keeps, from step to step (plain). -/
import Derived.Test.YtihmblbnnhcdnaaXPm
namespace Go.Proofs.Ytihmblbnnhcdnaa.Print
open Go.RowKit Go.Maps Go.ChangeMaps Go.Proofs.YtihmblbnnhcdnaaW.PrintWords Go.Proofs.YtihmblbnnhcdnaaW.PrintLast Go.Proofs.YtihmblbnnhcdnaaW.PrintMore
set_option linter.unusedVariables false
set_option linter.unusedSimpArgs false
/-- a rumor once more sent -/
def sentO (x : One) : One := ⟨x.m, x.sent + 1, x.tm⟩
/-- of those that were taken, those that are put back -/
def again (t : Int) (ps : Hs) : Hs := ps.filterMap (fun p => if p.2.sent + 1 < t then some (p.1, sentO p.2) else none)
theorem again_snoc (t : Int) (ps : Hs) (x : Nat × One) : again t (ps ++ [x]) = again t ps ++ (if x.2.sent + 1 < t then [(x.1, sentO x.2)] else []) := by
  unfold again
  rw [List.filterMap_append]
  congr 1
  by_cases h : x.2.sent + 1 < t <;> simp [h]
/-- a queue that is taken from: rest in its row, ag set aside to be put back, ex in hand -/
structure Tk (w W : World) (g mb n : Nat) (t last : Int) (v vc : Value) (hs rest ag ex : Hs) : Prop where
  rq : Rq W g t last (.map (some mb)) vc rest
  isH : Heap.IsH lessO rest.length (at1 rest)
  map : ∃ f, Pm W mb n f ∧ ∀ a, 0 ≤ a → a ≤ 4294967295 → ∀ b, f a = some b ↔ ∃ o, (b, o) ∈ rest ++ ag ++ ex ∧ o.m.f0 = a
  mem : ∀ p ∈ ag ++ ex, ∃ z, W.heap[p.1]? = some (.cells (oneC p.2 z) 66 (0, 0))
  nod : ((rest ++ ag ++ ex).map (·.1)).Nodup
  adn : ((rest ++ ag ++ ex).map (fun p => p.2.m.f0)).Nodup
  wf : ∀ p ∈ rest ++ ag ++ ex, 0 ≤ p.2.m.f0 ∧ p.2.m.f0 ≤ 4294967295
  sub : ∀ p ∈ rest ++ ag ++ ex, ∃ q ∈ hs, q.1 = p.1
  kp : Kp w W (fun k => k = g ∨ k = mb ∨ HoS v hs k)
variable {w W : World} {g mb n : Nat} {t last : Int} {v vc : Value} {hs rest ag ex : Hs}
theorem Tk.mbne (h : Tk w W g mb n t last v vc hs rest ag ex) : mb ≠ g ∧ ¬ HoS vc rest mb ∧ ∀ p ∈ ag ++ ex, p.1 ≠ mb := by
  obtain ⟨f, hp, _⟩ := h.map
  refine ⟨hp.ne h.rq.box, fun hk => ?_, fun p hp' e => ?_⟩
  · rcases hk with hk | ⟨p, hp', e⟩
    · obtain ⟨cells, hc⟩ := Kd.R_typed h.rq.ho.row mb hk
      exact hp.ne hc rfl
    · obtain ⟨i, hi, e2⟩ := List.getElem_of_mem hp'
      exact hp.ne (h.rq.ho.one i p.1 p.2 (by rw [List.getElem?_eq_getElem hi, e2])) e.symm
  · obtain ⟨z, hz⟩ := h.mem p hp'
    exact hp.ne hz e.symm
/-- the blocks in hand are none of the row's -/
theorem Tk.apart (h : Tk w W g mb n t last v vc hs rest ag ex) {p : Nat × One} (hp : p ∈ ag ++ ex) : p.1 ≠ g ∧ ¬ HoS vc rest p.1 := by
  obtain ⟨z, hz⟩ := h.mem p hp
  refine ⟨blk_ne hz h.rq.box (by decide), fun hk => ?_⟩
  rcases hk with hk | ⟨q, hq, e⟩
  · obtain ⟨cells, hc⟩ := Kd.R_typed h.rq.ho.row p.1 hk
    exact blk_ne hz hc (by decide) rfl
  · have hn := h.nod
    rw [List.append_assoc, List.map_append, List.nodup_append] at hn
    exact hn.2.2 q.1 (List.mem_map.2 ⟨q, hq, rfl⟩) p.1 (List.mem_map.2 ⟨p, hp, rfl⟩) e
/-- something else is written -/
theorem Tk.kept {W' : World} {S : Nat → Prop} (h : Tk w W g mb n t last v vc hs rest ag ex) (hk : Kp W W' S) (hg : ¬ S g) (hm : ¬ S mb) (hr : ∀ k, HoS vc rest k → ¬ S k) (ha : ∀ p ∈ ag ++ ex, ¬ S p.1) (hS : ∀ k, k < w.heap.size → ¬ S k) : Tk w W' g mb n t last v vc hs rest ag ex := by
  obtain ⟨f, hp, hf⟩ := h.map
  refine ⟨⟨(hk.block g (blk_lt h.rq.box) hg).trans h.rq.box, h.rq.ho.kept hk hr⟩, h.isH, ⟨f, hp.kp hk hm, hf⟩, fun p hp' => ?_, h.nod, h.adn, h.wf, h.sub, h.kp.trans hk (fun k hk hs_ => absurd hs_ (hS k hk))⟩
  obtain ⟨z, hz⟩ := h.mem p hp'
  exact ⟨z, (hk.block p.1 (blk_lt hz) (ha p hp')).trans hz⟩
theorem Tk.below {W' : World} (h : Tk w W g mb n t last v vc hs rest ag ex) (hb : Below W.heap.size W W') : Tk w W' g mb n t last v vc hs rest ag ex :=
  h.kept (S := fun _ => False) (Kp.of hb) (fun h => h) (fun h => h) (fun _ _ h => h) (fun _ _ h => h) (fun _ _ h => h)
/-- a row of a call's own has grown -/
theorem Tk.row {W' : World} {row : Option Nat} (h : Tk w W g mb n t last v vc hs rest ag ex) (hg : W.grownBy W' row) (hrow : ∀ k, row = some k → w.heap.size ≤ k ∧ vc.ownBlock ≠ some k ∧ ∃ cells tt, W.heap[k]? = some (.cells cells tt (0, 0)) ∧ tt ≠ 57 ∧ tt ≠ 66) : Tk w W' g mb n t last v vc hs rest ag ex := by
  obtain ⟨f, hp, hf⟩ := h.map
  refine h.kept (S := fun k => row = some k) (Kp.grown hg (fun k hk => hk)) (fun hk => ?_) (fun hk => ?_) (fun k hk hk' => ?_) (fun p hp' hk => ?_) (fun k hk hk' => ?_)
  · obtain ⟨_, _, cells, tt, hc, h1, h2⟩ := hrow g hk
    exact blk_ne hc h.rq.box h1 rfl
  · obtain ⟨_, _, cells, tt, hc, h1, h2⟩ := hrow mb hk
    exact hp.ne hc rfl
  · obtain ⟨_, h3, cells, tt, hc, h1, h2⟩ := hrow k hk'
    rcases hk with hk | ⟨q, hq, e⟩
    · exact h3 hk
    · obtain ⟨i, hi, e2⟩ := List.getElem_of_mem hq
      exact blk_ne hc (h.rq.ho.one i q.1 q.2 (by rw [List.getElem?_eq_getElem hi, e2])) h2 e.symm
  · obtain ⟨_, _, cells, tt, hc, h1, h2⟩ := hrow p.1 hk
    obtain ⟨z, hz⟩ := h.mem p hp'
    exact blk_ne hc hz h2 rfl
  · obtain ⟨h3, _⟩ := hrow k hk'
    omega
theorem Tk.perm {rest' ag' ex' : Hs} {W' : World} (h : Tk w W g mb n t last v vc hs rest ag ex) (hp : (rest' ++ ag' ++ ex').Perm (rest ++ ag ++ ex)) :
    ((rest' ++ ag' ++ ex').map (·.1)).Nodup ∧ ((rest' ++ ag' ++ ex').map (fun p => p.2.m.f0)).Nodup ∧ (∀ p ∈ rest' ++ ag' ++ ex', 0 ≤ p.2.m.f0 ∧ p.2.m.f0 ≤ 4294967295) ∧ (∀ p ∈ rest' ++ ag' ++ ex', ∃ q ∈ hs, q.1 = p.1) :=
  ⟨((hp.map _).nodup_iff).2 h.nod, ((hp.map _).nodup_iff).2 h.adn, fun p hp' => h.wf p (hp.mem_iff.1 hp'), fun p hp' => h.sub p (hp.mem_iff.1 hp')⟩
/-- the first one is popped -/
theorem Tk.pop {W' : World} {v' : Value} {rest' : Hs} {b0 : Nat} {x0 : One} (h : Tk w W g mb n t last v vc hs rest ag []) (hq : Rq W' g t last (.map (some mb)) v' rest') (hp : ((b0, x0) :: rest').Perm rest) (hH : Heap.IsH lessO rest'.length (at1 rest')) (hb : W'.heap[b0]? = some (.cells (oneC x0 rest'.length) 66 (0, 0))) (hk : Kp W W' (fun k => k = g ∨ HoS vc rest k))
    (hsub : ∀ k, k < w.heap.size → HoS vc rest k → HoS v hs k) : Tk w W' g mb n t last v v' hs rest' ag [(b0, x0)] := by
  have hpp : (rest' ++ ag ++ [(b0, x0)]).Perm (rest ++ ag ++ []) := by
    rw [List.append_nil]
    refine (List.perm_append_comm).trans ?_
    exact List.Perm.append_right ag hp
  obtain ⟨h1, h2, h3, h4⟩ := h.perm (W' := W') hpp
  obtain ⟨f, hm, hf⟩ := h.map
  refine ⟨hq, hH, ⟨f, hm.kp hk (fun e => ?_), fun a ha0 ha1 b => (hf a ha0 ha1 b).trans ⟨fun ⟨o, ho, he⟩ => ⟨o, hpp.mem_iff.2 ho, he⟩, fun ⟨o, ho, he⟩ => ⟨o, hpp.mem_iff.1 ho, he⟩⟩⟩, fun p hp' => ?_, h1, h2, h3, h4, h.kp.trans hk (fun k hk hk' => ?_)⟩
  · rcases e with e | e
    · exact h.mbne.1 e
    · exact h.mbne.2.1 e
  · rcases List.mem_append.1 hp' with hp' | hp'
    · obtain ⟨z, hz⟩ := h.mem p (List.mem_append_left _ hp')
      have hap := h.apart (List.mem_append_left _ hp')
      exact ⟨z, (hk.block p.1 (blk_lt hz) (fun e => by
        rcases e with e | e
        · exact hap.1 e
        · exact hap.2 e)).trans hz⟩
    · obtain rfl : p = (b0, x0) := by simpa using hp'
      exact ⟨_, hb⟩
  · rcases hk' with hk' | hk'
    · exact Or.inl hk'
    · exact Or.inr (Or.inr (hsub k hk hk'))
/-- the one in hand is counted -/
theorem Tk.count {b0 : Nat} {x0 : One} (h : Tk w W g mb n t last v vc hs rest ag [(b0, x0)]) : Tk w (W.setCell ⟨b0, 4, none⟩ (.int .i64 (x0.sent + 1))) g mb n t last v vc hs rest ag [(b0, sentO x0)] := by
  have hin : (b0, x0) ∈ ag ++ [(b0, x0)] := by simp
  have hap := h.apart hin
  obtain ⟨z, hz⟩ := h.mem _ hin
  obtain ⟨f, hm, hf⟩ := h.map
  have hk : Kp W (W.setCell ⟨b0, 4, none⟩ (.int .i64 (x0.sent + 1))) (fun k => k = b0) := (Kp.of (Below.refl _ _)).set b0 4 _ (fun _ => rfl)
  have e1 : ((rest ++ ag ++ [(b0, sentO x0)]).map (·.1)) = ((rest ++ ag ++ [(b0, x0)]).map (·.1)) := by simp
  have e2 : ((rest ++ ag ++ [(b0, sentO x0)]).map (fun p => p.2.m.f0)) = ((rest ++ ag ++ [(b0, x0)]).map (fun p => p.2.m.f0)) := by simp [sentO]
  refine ⟨⟨(hk.block g (blk_lt h.rq.box) (fun e => hap.1 e.symm)).trans h.rq.box, h.rq.ho.kept hk (fun k hk' e => hap.2 (e ▸ hk'))⟩, h.isH, ⟨f, hm.kp hk (fun e => h.mbne.2.2 _ hin e.symm), fun a ha0 ha1 b => (hf a ha0 ha1 b).trans ?_⟩, fun p hp => ?_, by rw [e1]; exact h.nod, by rw [e2]; exact h.adn, fun p hp => ?_, fun p hp => ?_, h.kp.set b0 4 _ (fun _ => ?_)⟩
  · constructor
    · rintro ⟨o, ho, he⟩
      rcases List.mem_append.1 ho with ho | ho
      · exact ⟨o, List.mem_append_left _ ho, he⟩
      · have : (b, o) = (b0, x0) := by simpa using ho
        injection this with t1 t2
        subst t1
        subst t2
        exact ⟨sentO o, List.mem_append_right _ (by simp), he⟩
    · rintro ⟨o, ho, he⟩
      rcases List.mem_append.1 ho with ho | ho
      · exact ⟨o, List.mem_append_left _ ho, he⟩
      · have : (b, o) = (b0, sentO x0) := by simpa using ho
        injection this with t1 t2
        subst t1
        subst t2
        exact ⟨x0, List.mem_append_right _ (by simp), he⟩
  · rcases List.mem_append.1 hp with hp | hp
    · obtain ⟨z', hz'⟩ := h.mem p (List.mem_append_left _ hp)
      refine ⟨z', (hk.block p.1 (blk_lt hz') (fun e => ?_)).trans hz'⟩
      have hn := h.nod
      rw [List.map_append, List.nodup_append] at hn
      exact hn.2.2 p.1 (List.mem_map.2 ⟨p, List.mem_append_right _ hp, rfl⟩) b0 (by simp) e
    · obtain rfl : p = (b0, sentO x0) := by simpa using hp
      exact ⟨z, blk_put hz 4 _ rfl⟩
  · rcases List.mem_append.1 hp with hp | hp
    · exact h.wf p (List.mem_append_left _ hp)
    · obtain rfl : p = (b0, sentO x0) := by simpa using hp
      exact h.wf (b0, x0) (List.mem_append_right _ (by simp))
  · rcases List.mem_append.1 hp with hp | hp
    · exact h.sub p (List.mem_append_left _ hp)
    · obtain rfl : p = (b0, sentO x0) := by simpa using hp
      exact h.sub (b0, x0) (List.mem_append_right _ (by simp))
  · obtain ⟨q, hq, e⟩ := h.sub (b0, x0) (List.mem_append_right _ (by simp))
    exact Or.inr (Or.inr (Or.inr ⟨q, hq, e⟩))
/-- the one in hand is set aside -/
theorem Tk.aside {e : Nat × One} (h : Tk w W g mb n t last v vc hs rest ag [e]) : Tk w W g mb n t last v vc hs rest (ag ++ [e]) [] := by
  have e1 : rest ++ (ag ++ [e]) ++ [] = rest ++ ag ++ [e] := by simp
  exact ⟨h.rq, h.isH, by rw [e1]; exact h.map, by rw [List.append_nil]; exact h.mem, by rw [e1]; exact h.nod, by rw [e1]; exact h.adn, by rw [e1]; exact h.wf, by rw [e1]; exact h.sub, h.kp⟩
/-- the one in hand is forgotten: its address is struck from the map -/
theorem Tk.drop {b0 : Nat} {x : One} (h : Tk w W g mb n t last v vc hs rest ag [(b0, x)]) (ty : TypeId) :
    ∃ W', (Builtin.delete_ #[53, 31] ty #[.map (some mb), .int .u32 x.m.f0]).run Try.prog W = .ok (.tuple #[]) W' ∧ Tk w W' g mb n t last v vc hs rest ag [] ∧ W.grownBy W' (some mb) := by
  obtain ⟨f, hm, hf⟩ := h.map
  have hwf := h.wf (b0, x) (List.mem_append_right _ (by simp))
  obtain ⟨W', hrun, hm', hg⟩ := hm.drop hwf.1 hwf.2 ty
  have hk : Kp W W' (fun k => k = mb) := Kp.grown hg (fun k hk => (Option.some.inj hk).symm)
  have hne := h.mbne
  refine ⟨W', hrun, ⟨⟨(hk.block g (blk_lt h.rq.box) (fun e => hne.1 e.symm)).trans h.rq.box, h.rq.ho.kept hk (fun k hk' e => hne.2.1 (e ▸ hk'))⟩, h.isH, ⟨_, hm', fun a ha0 ha1 b => ?_⟩, fun p hp => ?_, ?_, ?_, fun p hp => ?_, fun p hp => ?_, h.kp.trans hk (fun k _ e => Or.inr (Or.inl e))⟩, hg⟩
  · unfold fput
    rw [List.append_nil]
    have hadn := h.adn
    rw [List.map_append, List.nodup_append] at hadn
    by_cases e : a = x.m.f0
    · rw [if_pos e]
      constructor
      · intro h'; cases h'
      · rintro ⟨o, ho, he⟩
        exact absurd (he.trans e) (hadn.2.2 _ (List.mem_map.2 ⟨(b, o), ho, rfl⟩) _ (by simp))
    · rw [if_neg e, hf a ha0 ha1 b]
      constructor
      · rintro ⟨o, ho, he⟩
        rcases List.mem_append.1 ho with ho | ho
        · exact ⟨o, ho, he⟩
        · have : (b, o) = (b0, x) := by simpa using ho
          injection this with _ t2
          subst t2
          exact absurd he.symm e
      · rintro ⟨o, ho, he⟩
        exact ⟨o, List.mem_append_left _ ho, he⟩
  · rw [List.append_nil] at hp
    obtain ⟨z, hz⟩ := h.mem p (List.mem_append_left _ hp)
    exact ⟨z, (hk.block p.1 (blk_lt hz) (hne.2.2 p (List.mem_append_left _ hp))).trans hz⟩
  · have hn := h.nod
    rw [List.map_append, List.nodup_append] at hn
    rw [List.append_nil]; exact hn.1
  · have hn := h.adn
    rw [List.map_append, List.nodup_append] at hn
    rw [List.append_nil]; exact hn.1
  · rw [List.append_nil] at hp
    exact h.wf p (List.mem_append_left _ hp)
  · rw [List.append_nil] at hp
    exact h.sub p (List.mem_append_left _ hp)
/-- one that was set aside is put back -/
theorem Tk.push {W' : World} {v' : Value} {rest' : Hs} {e : Nat × One} (h : Tk w W g mb n t last v vc hs rest (e :: ag) []) (hq : Rq W' g t last (.map (some mb)) v' rest') (hp : rest'.Perm (e :: rest)) (hH : Heap.IsH lessO rest'.length (at1 rest')) (hk : Kp W W' (fun k => k = g ∨ k = e.1 ∨ HoS vc rest k))
    (hsub : ∀ k, k < w.heap.size → HoS vc rest k → HoS v hs k) : Tk w W' g mb n t last v v' hs rest' ag [] := by
  have hpp : (rest' ++ ag ++ []).Perm (rest ++ (e :: ag) ++ []) := by
    rw [List.append_nil, List.append_nil]
    exact (List.Perm.append_right ag hp).trans (List.perm_middle).symm
  obtain ⟨h1, h2, h3, h4⟩ := h.perm (W' := W') hpp
  obtain ⟨f, hm, hf⟩ := h.map
  have hne := h.mbne
  have hein : e ∈ (e :: ag) ++ [] := by simp
  refine ⟨hq, hH, ⟨f, hm.kp hk (fun e' => ?_), fun a ha0 ha1 b => (hf a ha0 ha1 b).trans ⟨fun ⟨o, ho, he⟩ => ⟨o, hpp.mem_iff.2 ho, he⟩, fun ⟨o, ho, he⟩ => ⟨o, hpp.mem_iff.1 ho, he⟩⟩⟩, fun p hp' => ?_, h1, h2, h3, h4, h.kp.trans hk (fun k hk hk' => ?_)⟩
  · rcases e' with e' | e' | e'
    · exact hne.1 e'
    · exact hne.2.2 e hein e'.symm
    · exact hne.2.1 e'
  · rw [List.append_nil] at hp'
    have hpin : p ∈ (e :: ag) ++ [] := by rw [List.append_nil]; exact List.mem_cons_of_mem _ hp'
    obtain ⟨z, hz⟩ := h.mem p hpin
    have hap := h.apart hpin
    refine ⟨z, (hk.block p.1 (blk_lt hz) (fun e' => ?_)).trans hz⟩
    rcases e' with e' | e' | e'
    · exact hap.1 e'
    · have hn := h.nod
      rw [List.append_nil, List.map_append, List.nodup_append, List.map_cons, List.nodup_cons] at hn
      exact hn.2.1.1 (by rw [← e']; exact List.mem_map.2 ⟨p, hp', rfl⟩)
    · exact hap.2 e'
  · rcases hk' with hk' | hk' | hk'
    · exact Or.inl hk'
    · obtain ⟨q, hq', e2⟩ := h.sub e (List.mem_append_left _ (List.mem_append_right _ (List.mem_cons_self ..)))
      exact Or.inr (Or.inr (Or.inr ⟨q, hq', e2.trans hk'.symm⟩))
    · exact Or.inr (Or.inr (hsub k hk hk'))
end Go.Proofs.Ytihmblbnnhcdnaa.Print
