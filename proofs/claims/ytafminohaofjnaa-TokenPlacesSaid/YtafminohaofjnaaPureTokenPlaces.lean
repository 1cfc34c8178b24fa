/- Words stand at their places: the plain law. -/
import Derived.Test.YtafminohaofjnaaF6D
import Derived.Test.YtafminohaofjnaaXPlace
import Derived.Test.YtafminohaofjnaaXReads
import Derived.Lib.Strings
namespace Go.Proofs.Ytafminohaofjnaa.Pure
open Go.RowKit Go.Proofs.Ytafminohaofjnaa.Print Go.Proofs.YtafminohaofjnaaW.PrintWords Go.Proofs.YtafminohaofjnaaW.PrintLast
set_option linter.unusedVariables false
theorem places_f (s : ByteArray) (hs : s.size ≤ 20000) : Ev (fun k => hearsaylaw08_places.f k s) (lineAt s s.size) := by
  suffices H : ∀ (d i : Nat), s.size - i ≤ d → i ≤ s.size → Ev (fun k => hearsaylaw08_places.l0 k s (lineAt s i) (i : Int)) (lineAt s s.size) from Ev.congr (fun k => rfl) (H s.size 0 (by omega) (by omega))
  intro d
  induction d with
  | zero =>
    intro i hd hi
    obtain rfl : i = s.size := by omega
    refine Ev.step (f := fun _ => some _) (fun k => ?_) (Ev.now _)
    simp only [hearsaylaw08_places.l0]
    rw [if_neg (by omega)]
  | succ d ih =>
    intro i hd hi
    by_cases hlt : i < s.size
    · have ih := ih (i + 1) (by omega) (by omega)
      have hl := lineAt_le s i
      refine Ev.step (fun k => ?_) ih
      simp only [hearsaylaw08_places.l0]
      rw [if_pos (by omega), if_pos (by omega), cast1 i (by omega), lineAt]
      by_cases hc : bt s (i : Int) = 10
      · rw [if_pos hc, if_pos (by omega), if_pos ⟨hc, hlt⟩]
      · rw [if_neg hc, if_neg (fun h => hc h.1)]
    · obtain rfl : i = s.size := by omega
      refine Ev.step (f := fun _ => some _) (fun k => ?_) (Ev.now _)
      simp only [hearsaylaw08_places.l0]
      rw [if_neg (by omega)]
theorem take_at {s : ByteArray} {b : Nat} {c : Int} (h : (bytesOf s)[b]? = some c) (e : Nat) (he : b < e) : ((bytesOf s).drop b).take (e - b) = c :: ((bytesOf s).drop (b + 1)).take (e - (b + 1)) := by
  have hlt := (List.getElem?_eq_some_iff.1 h).1
  have hv := (List.getElem?_eq_some_iff.1 h).2
  rw [List.drop_eq_getElem_cons hlt, hv, show e - b = (e - (b + 1)) + 1 by omega, List.take_succ_cons]
/-- a word with its quotes is what stands there -/
theorem word_text (s : ByteArray) (b e : Nat) (q : Bool) (h1 : b < e) (h2 : e ≤ s.size) (hq : q = true → (bytesOf s)[b]? = some 34 ∧ (bytesOf s)[e - 1]? = some 34 ∧ b + 2 ≤ e) :
    (if q = true then ((⟨#[34]⟩ : ByteArray) ++ (wordOf s (bytesOf s) b e q).f0) ++ (⟨#[34]⟩ : ByteArray) else (wordOf s (bytesOf s) b e q).f0) = s.extract b e := by
  cases q with
  | false => rfl
  | true =>
    obtain ⟨hb, he, h3⟩ := hq rfl
    rw [if_pos rfl]
    have ht : (wordOf s (bytesOf s) b e true).f0 = s.extract (b + 1) (e - 1) := rfl
    rw [ht]
    have hlen : (bytesOf s).length = s.size := bytesOf_length s
    have inj : ∀ {x y : ByteArray}, bytesOf x = bytesOf y → x = y := by
      intro x y h
      have hx : x.data.toList.map (fun b => (b.toNat : Int)) = y.data.toList.map (fun b => (b.toNat : Int)) := h
      have : x.data.toList = y.data.toList := (List.map_inj_right (fun a b hab => by
        have : a.toNat = b.toNat := by omega
        exact UInt8.toNat_inj.1 this)).1 hx
      exact ByteArray.ext (Array.ext' this)
    apply inj
    have happ : ∀ x y : ByteArray, bytesOf (x ++ y) = bytesOf x ++ bytesOf y := by
      intro x y
      unfold bytesOf
      rw [show (x ++ y).data = x.data ++ y.data from ByteArray.data_append]
      simp
    have hext : ∀ a c : Nat, bytesOf (s.extract a c) = ((bytesOf s).drop a).take (c - a) := by
      intro a c
      unfold bytesOf
      rw [Go.Lib.extract_data, List.map_take, List.map_drop]
    rw [happ, happ, hext, hext, take_at hb e h1]
    have h34 : bytesOf (⟨#[34]⟩ : ByteArray) = [34] := rfl
    rw [h34]
    have hlast : ((bytesOf s).drop (b + 1)).take (e - (b + 1)) = ((bytesOf s).drop (b + 1)).take (e - 1 - (b + 1)) ++ [34] := by
      rw [show e - (b + 1) = (e - 1 - (b + 1)) + 1 by omega, List.take_add_one, List.getElem?_drop, show b + 1 + (e - 1 - (b + 1)) = e - 1 by omega, he]
      rfl
    rw [hlast]
    simp
section
variable {s : ByteArray} {es : List S45}
theorem rd45 {i : Nat} {x : S45} (h : es[i]? = some x) : rd_T45 es (i : Int) = x := by
  unfold rd_T45; rw [List.getD_eq_getElem?_getD, Int.toNat_natCast, h]; rfl
theorem rd23 {ws : List S23} {i : Nat} {x : S23} (h : ws[i]? = some x) : rd_T23 ws (i : Int) = x := by
  unfold rd_T23; rw [List.getD_eq_getElem?_getD, Int.toNat_natCast, h]; rfl
theorem drop_get {α : Type} {l : List α} {i : Nat} {x : α} {r : List α} (h : l.drop i = x :: r) : l[i]? = some x ∧ l.drop (i + 1) = r ∧ i < l.length := by
  have h1 : (l.drop i)[0]? = some x := by rw [h]; rfl
  have h2 : l[i]? = some x := by simpa using h1
  exact ⟨h2, by rw [← List.drop_drop, h]; rfl, (List.getElem?_eq_some_iff.1 h2).1⟩
theorem nat_cast1 (i : Nat) (h : i ≤ 1000000) : wrap64 ((i : Int) + 1) = ((i + 1 : Nat) : Int) := by rw [w64 (by omega) (by omega)]; omega
set_option maxHeartbeats 8000000 in
theorem word_j4 (hs : s.size ≤ 20000) {i j b e lo : Nat} {t0 : ByteArray} {q : Bool} (hb : lo ≤ b) (h3 : b < e) (h4 : e ≤ s.size) (hj : j ≤ 300000) (ih : Ev (fun k => hearsaylaw08_TokenPlaces.l1 k s es (lineAt s s.size) (e : Int) (i : Int) ((j + 1 : Nat) : Int)) true) :
    Ev (fun k => hearsaylaw08_TokenPlaces.j4 k s es (lineAt s s.size) (lo : Int) (i : Int) (j : Int) (s.extract b e) false t0 q (pl (bytesOf s) b).1 (pl (bytesOf s) b).2) true := by
  have hpb := pl_bound (bytesOf s) b
  obtain ⟨hline, hll⟩ := line_begin s b (by omega)
  have hlb := lineAt_le s s.size
  have hsz : (s.extract b e).size = e - b := by simp; omega
  generalize pl (bytesOf s) b = P at hpb hline hll
  obtain ⟨l, c⟩ := P
  simp only at hpb hline hll
  refine Ev.step (fun k => ?_) ih
  simp only [hearsaylaw08_TokenPlaces.j4]
  have e0 : wrap64 (l - 1) = l - 1 := w64 (by omega) (by omega)
  have ea : wrap64 ((b : Int) - c + 1 + c) = (b : Int) + 1 := by rw [w64 (by omega) (by omega)]; omega
  have eb : wrap64 ((b : Int) + 1 - 1) = (b : Int) := by rw [w64 (by omega) (by omega)]; omega
  have ec : wrap64 ((b : Int) + ((s.extract b e).size : Int)) = (e : Int) := by rw [hsz, w64 (by omega) (by omega)]; omega
  have i1 : (0 : Int) ≤ l - 1 := by omega
  have i2 : l - 1 < ((lineAt s s.size).length : Int) := by omega
  rw [if_neg (by simp), e0, hline, ea, eb, ec, if_pos i1, if_pos i2, if_neg (Int.not_lt.2 (Int.ofNat_le.2 hb)), if_neg (Int.not_lt.2 (Int.ofNat_le.2 h4)), if_pos (Int.natCast_nonneg b), if_pos (Int.ofNat_le.2 (Nat.le_of_lt h3)), if_pos (Int.ofNat_le.2 h4), Int.toNat_natCast, Int.toNat_natCast, if_pos (rfl : (s.extract b e).toList = (s.extract b e).toList), nat_cast1 j (by omega)]
set_option maxHeartbeats 8000000 in
theorem word_round (hs : s.size ≤ 20000) {i j p b e lo : Nat} {q : Bool} {x : S45} (hx : es[i]? = some x) (hp : x.f1 = (pl (bytesOf s) p).1) (hwl : x.f2.length ≤ 262145) (hi : i ≤ 262145) (hg : x.f2[j]? = some (wordOf s (bytesOf s) b e q)) (hb : lo ≤ b) (hpb' : p ≤ b) (h3 : b < e) (h4 : e ≤ s.size)
    (h5 : q = true → (bytesOf s)[b]? = some 34 ∧ (bytesOf s)[e - 1]? = some 34 ∧ b + 2 ≤ e) (hjl : j < x.f2.length) (ih : Ev (fun k => hearsaylaw08_TokenPlaces.l1 k s es (lineAt s s.size) (e : Int) (i : Int) ((j + 1 : Nat) : Int)) true) :
    Ev (fun k => hearsaylaw08_TokenPlaces.l1 k s es (lineAt s s.size) (lo : Int) (i : Int) (j : Int)) true := by
  have hil := (List.getElem?_eq_some_iff.1 hx).1
  have hpb := pl_bound (bytesOf s) b
  have hll := (line_begin s b (by omega)).2
  have hmono := pl_mono (bytesOf s) hpb'
  have hsz : (s.extract b e).size = e - b := by simp; omega
  have htx := word_text s b e q h3 h4 h5
  have hj4 := word_j4 (q := q) (t0 := (wordOf s (bytesOf s) b e q).f0) hs hb h3 h4 (by omega) ih
  have hj3 : Ev (fun k => hearsaylaw08_TokenPlaces.j3 k s es (lineAt s s.size) (lo : Int) (i : Int) (j : Int) (s.extract b e) (wordOf s (bytesOf s) b e q).f0 q (pl (bytesOf s) b).1 (pl (bytesOf s) b).2) true := by
    refine Ev.step (fun k => ?_) hj4
    simp only [hearsaylaw08_TokenPlaces.j3]
    rw [rd45 hx, hp, if_pos (by omega), if_pos (by omega), if_neg (by omega), if_neg (by omega), if_neg (by omega), hsz]
    congr 1
    exact beq_eq_false_iff_ne.2 (by omega)
  have hw : wordOf s (bytesOf s) b e q = ⟨(wordOf s (bytesOf s) b e q).f0, q, (pl (bytesOf s) b).1, (pl (bytesOf s) b).2⟩ := rfl
  generalize (wordOf s (bytesOf s) b e q).f0 = t0 at htx hj3 hw
  rw [hw] at hg
  clear hw hj4
  refine Ev.step (fun k => ?_) hj3
  simp only [hearsaylaw08_TokenPlaces.l1]
  rw [rd45 hx, rd23 hg, if_pos (by omega), if_pos (by omega), if_pos (by omega), if_pos (by omega)]
  simp only
  cases q with
  | false =>
    rw [if_neg (by simp)] at htx ⊢
    rw [htx]
  | true =>
    rw [if_pos rfl] at htx ⊢
    have hsz2 : 1 + t0.size + 1 = e - b := by
      have := congrArg ByteArray.size htx
      rw [ByteArray.size_append, ByteArray.size_append, hsz] at this
      exact this
    rw [if_pos (by omega), if_pos (by rw [ByteArray.size_append]; show 1 + _ + 1 ≤ _; omega), htx]
set_option maxHeartbeats 8000000 in
/-- the words of one entry -/
theorem words_l1 (hs : s.size ≤ 20000) {i p : Nat} {x : S45} (hx : es[i]? = some x) (hp : x.f1 = (pl (bytesOf s) p).1) (hwl : x.f2.length ≤ 262145) {mid : Nat} (hnext : ∀ lo : Nat, lo ≤ mid → Ev (fun k => hearsaylaw08_TokenPlaces.l0 k s es (lineAt s s.size) (lo : Int) ((i + 1 : Nat) : Int)) true) (hi : i ≤ 262145) :
    ∀ (ws : List S23) (j lo lo2 : Nat), x.f2.drop j = ws → p ≤ lo2 → lo ≤ lo2 → WordsOK s lo2 ws mid → Ev (fun k => hearsaylaw08_TokenPlaces.l1 k s es (lineAt s s.size) (lo : Int) (i : Int) (j : Int)) true := by
  have hil := (List.getElem?_eq_some_iff.1 hx).1
  intro ws
  induction ws with
  | nil =>
    intro j lo lo2 hj hlo hl2 hw
    have hjl : x.f2.length ≤ j := by
      have := congrArg List.length hj
      simp at this; omega
    refine Ev.step (fun k => ?_) (hnext lo (Nat.le_trans hl2 hw))
    simp only [hearsaylaw08_TokenPlaces.l1]
    rw [rd45 hx, if_pos (by omega), if_pos (by omega), if_neg (by omega), nat_cast1 i (by omega)]
  | cons w ws ih =>
    intro j lo lo2 hj hlo hl2 hw
    obtain ⟨b, e, q, rfl, h2, h3, h4, h5, h6⟩ := hw
    obtain ⟨hg, hd, hjl⟩ := drop_get hj
    have ih := ih (j + 1) e e hd (by omega) (Nat.le_refl _) h6
    exact word_round hs hx hp hwl hi hg (by omega) (by omega) h3 h4 h5 hjl ih
set_option maxHeartbeats 8000000 in
theorem ents_l0 (hs : s.size ≤ 20000) (hel : es.length ≤ 262145) (hwl : ∀ x ∈ es, x.f2.length ≤ 262145) (hi : Nat) : ∀ (xs : List S45) (i lo lo' : Nat), es.drop i = xs → EntsOK s lo xs hi → lo' ≤ lo → i ≤ es.length → Ev (fun k => hearsaylaw08_TokenPlaces.l0 k s es (lineAt s s.size) (lo' : Int) (i : Int)) true := by
  intro xs
  induction xs with
  | nil =>
    intro i lo lo' hd hok hlo hil
    have hl : es.length ≤ i := by
      have := congrArg List.length hd
      simp at this; omega
    refine Ev.step (f := fun _ => some true) (fun k => ?_) (Ev.now _)
    simp only [hearsaylaw08_TokenPlaces.l0]
    rw [if_neg (by omega), reads_f]; rfl
  | cons x xs ih =>
    intro i lo lo' hd hok hlo hil
    obtain ⟨p, mid, h1, h2, h3, h4, h5, h6, h7⟩ := hok
    obtain ⟨hg, hd2, hlt⟩ := drop_get hd
    have hxl := hwl x (List.mem_of_getElem? hg)
    have hf1 : x.f1 = (pl (bytesOf s) p).1 := by rw [h1]; rfl
    have hf0 : x.f0 = blankB (bt s (p : Int)) := by
      rw [h1]
      show blankB ((bytesOf s).getD p 0) = _
      rw [List.getD_eq_getElem?_getD, bt_get h3]; rfl
    have hpb := pl_bound (bytesOf s) p
    obtain ⟨hline, hll⟩ := line_begin s p (by omega)
    have hl1 : (p : Int) - (pl (bytesOf s) p).2 + 1 = (p : Int) := by rw [h4]; omega
    rw [hl1] at hline
    have hne : ¬ ((x.f2.length : Int) = 0) := by
      have : x.f2.length ≠ 0 := fun h => h5 (List.length_eq_zero_iff.1 h)
      omega
    have hnext : ∀ l : Nat, l ≤ mid → Ev (fun k => hearsaylaw08_TokenPlaces.l0 k s es (lineAt s s.size) (l : Int) ((i + 1 : Nat) : Int)) true := fun l hl => ih (i + 1) mid l hd2 h7 hl (by omega)
    have hw := words_l1 hs hg hf1 hxl hnext (by omega) x.f2 0 lo' p (by simp) (Nat.le_refl _) (by omega) h6
    refine Ev.step (f := fun k => hearsaylaw08_TokenPlaces.j1 k s es (lineAt s s.size) (lo' : Int) (i : Int) false) (fun k => ?_) (Ev.step (fun k => ?_) hw)
    · simp only [hearsaylaw08_TokenPlaces.l0]
      rw [rd45 hg, hf1, if_pos (by omega), if_pos (by omega), if_neg (by omega), if_neg (by omega), if_neg hne, w64 (n := (pl (bytesOf s) p).1 - 1) (by omega) (by omega), hline, if_pos (by omega), if_pos (by omega), if_neg (by omega), if_pos (by omega), if_pos (by omega), blank_f, Option.bind_some, hf0]
      simp
    · simp only [hearsaylaw08_TokenPlaces.j1]
      rw [if_neg (by simp)]
      rfl
end
theorem TokenPlaces : hearsaylaw08_TokenPlaces.Pure := by
  intro s hs
  refine Ev.rounds (g := fun k => hearsaylaw08_TokenPlaces.f k s) ?_
  by_cases hbig : (s.size : Int) > 20000
  · refine Ev.congr (f := fun _ => some true) (fun k => ?_) (Ev.now _)
    unfold hearsaylaw08_TokenPlaces.f
    rw [if_pos hbig]
  · have he := entr_f s
    have hsz : s.size ≤ 20000 := by omega
    by_cases h0 : (entr s).2.2.2 = 0
    · obtain ⟨hi, hok⟩ := entr_ok s
      obtain ⟨hel, hwl⟩ := entr_len s
      have hl := ents_l0 (es := (entr s).1) hsz hel hwl hi (entr s).1 0 0 0 (by simp) hok (Nat.le_refl _) (by omega)
      refine Ev.congr (f := fun k => (hearsaylaw08_places.f k s).bind fun t => hearsaylaw08_TokenPlaces.l0 k s (entr s).1 t 0 0) (fun k => ?_) (Ev.bind (f := fun k t => hearsaylaw08_TokenPlaces.l0 k s (entr s).1 t 0 0) (places_f s hsz) hl)
      unfold hearsaylaw08_TokenPlaces.f
      rw [if_neg hbig, he, Option.bind_some, if_pos h0]
    · refine Ev.congr (f := fun _ => some true) (fun k => ?_) (Ev.now _)
      unfold hearsaylaw08_TokenPlaces.f
      rw [if_neg hbig, he, Option.bind_some, if_neg h0]
      have hnil : (entr s).1 = [] := by
        have hx := entr_nil s h0
        exact hx
      rw [hnil, if_pos (by simp), reads_f]; rfl
end Go.Proofs.Ytafminohaofjnaa.Pure
