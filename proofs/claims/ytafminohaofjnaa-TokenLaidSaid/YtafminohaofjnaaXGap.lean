/- What stands between words, as the sheet lays it, walked. -/
import Derived.Test.YtafminohaofjnaaXSheet
namespace Go.Proofs.Ytafminohaofjnaa.Print
open Go.RowKit Go.Proofs.YtafminohaofjnaaW.PrintWords Go.Proofs.YtafminohaofjnaaW.PrintLast Go.Proofs.YtafminohaofjnaaW.PrintMore
set_option linter.unusedVariables false
set_option linter.unusedSimpArgs false
theorem Sh.opened {w : World} {g base : Nat} {T : List Int} {o : Nat} (h : Sh w g base T o) (o' : Nat) (u : Int) (hu : u = (o' : Int)) : Sh (w.setCell ⟨g, 3, none⟩ (.int .i64 u)) g base T o' := by
  obtain ⟨⟨v, h1, h2⟩, h3, h4⟩ := h
  subst hu
  exact ⟨⟨v, blk_put h1 3 _ rfl, Kd.R_far (p := ⟨g, 3, none⟩) h2 (fun k hk => by show k ≠ g; omega) _⟩, h3, by simpa [World.setCell] using h4⟩
set_option maxHeartbeats 40000000 in
set_option maxRecDepth 100000 in
theorem gap1 (k : Int) (hk : 0 ≤ k) (hk2 : k < 256) (T : List Int) (o g base : Nat) (w : World) (hsh : Sh w g base T o) (hl : T.length + 11 ≤ 262144) (ho : o ≤ 262144) (hm : k % 8 = 1) :
    Calls Try.prog 17 #[.pointer (some ⟨g, 0, none⟩), .int .u8 k] w fun e w' => e = .returned (.tuple #[]) ∧ Sh w' g base (T ++ [9, 13, 32]) o ∧ Fp base g w w' := by
  have hu39 := Try.underlying39
  have HL := Aside0.mk (show T.length + (⟨#[9, 13, 32]⟩ : ByteArray).size ≤ 262144 by show T.length + 3 ≤ 262144; omega)
  have HSH := Aside0.mk hsh
  have ho1 : (0 : Int) ≤ (o : Int) := by omega
  have ho2 : (o : Int) ≤ 262144 := by omega
  clear hsh
  clear hl
  go_enter Try.func17, Try.ntmps17
  go_wp2_with (first | (go_at_call 16; (with_reducible refine (sput_calls (⟨#[9, 13, 32]⟩ : ByteArray) T o g base _ HSH.out HL.out).mono ?_); rintro e w1 ⟨rfl, h1_, h2_⟩; have HS1 := Aside0.mk h1_; have HF1 := Aside0.mk h2_; clear h1_ h2_))
  go_end0
  exact ⟨rfl, HS1.out, HF1.out⟩
set_option maxHeartbeats 40000000 in
set_option maxRecDepth 100000 in
theorem gap2 (k : Int) (hk : 0 ≤ k) (hk2 : k < 256) (T : List Int) (o g base : Nat) (w : World) (hsh : Sh w g base T o) (hl : T.length + 11 ≤ 262144) (ho : o ≤ 262144) (hm : k % 8 = 2) :
    Calls Try.prog 17 #[.pointer (some ⟨g, 0, none⟩), .int .u8 k] w fun e w' => e = .returned (.tuple #[]) ∧ Sh w' g base (T ++ [40]) (o + 1) ∧ Fp base g w w' := by
  have hu39 := Try.underlying39
  have HL := Aside0.mk (show T.length + (⟨#[40]⟩ : ByteArray).size ≤ 262144 by show T.length + 1 ≤ 262144; omega)
  have HSH := Aside0.mk hsh
  have ho1 : (0 : Int) ≤ (o : Int) := by omega
  have ho2 : (o : Int) ≤ 262144 := by omega
  clear hsh
  clear hl
  go_enter Try.func17, Try.ntmps17
  go_wp2_with (first | (go_at_call 16; (with_reducible refine (sput_calls (⟨#[40]⟩ : ByteArray) T o g base _ HSH.out HL.out).mono ?_); rintro e w1 ⟨rfl, h1_, h2_⟩; have HS1 := Aside0.mk h1_; have HF1 := Aside0.mk h2_; clear h1_ h2_; obtain ⟨⟨v1_, hb1_, _⟩, _, _⟩ := HS1.out; have d3 : w1.cell? ⟨g, 3, none⟩ = some (.int .i64 (o : Int)) := (blk_cell hb1_ 3).trans rfl; have e3 := blk_frozen hb1_ 3; clear hb1_))
  go_end0
  exact ⟨rfl, HS1.out.opened (o + 1) _ (by omega), HF1.out.set 3 _⟩
set_option maxHeartbeats 40000000 in
set_option maxRecDepth 100000 in
theorem gap3 (k : Int) (hk : 0 ≤ k) (hk2 : k < 256) (T : List Int) (o g base : Nat) (w : World) (hsh : Sh w g base T o) (hl : T.length + 11 ≤ 262144) (ho : o ≤ 262144) (hm : k % 8 = 3) :
    Calls Try.prog 17 #[.pointer (some ⟨g, 0, none⟩), .int .u8 k] w fun e w' => e = .returned (.tuple #[]) ∧ Sh w' g base (T ++ [32, 40, 32, 59, 32, 40, 32, 34, 32, 120, 10]) (o + 1) ∧ Fp base g w w' := by
  have hu39 := Try.underlying39
  have HL := Aside0.mk (show T.length + (⟨#[32, 40, 32, 59, 32, 40, 32, 34, 32, 120, 10]⟩ : ByteArray).size ≤ 262144 by show T.length + 11 ≤ 262144; omega)
  have HSH := Aside0.mk hsh
  have ho1 : (0 : Int) ≤ (o : Int) := by omega
  have ho2 : (o : Int) ≤ 262144 := by omega
  clear hsh
  clear hl
  go_enter Try.func17, Try.ntmps17
  go_wp2_with (first | (go_at_call 16; (with_reducible refine (sput_calls (⟨#[32, 40, 32, 59, 32, 40, 32, 34, 32, 120, 10]⟩ : ByteArray) T o g base _ HSH.out HL.out).mono ?_); rintro e w1 ⟨rfl, h1_, h2_⟩; have HS1 := Aside0.mk h1_; have HF1 := Aside0.mk h2_; clear h1_ h2_; obtain ⟨⟨v1_, hb1_, _⟩, _, _⟩ := HS1.out; have d3 : w1.cell? ⟨g, 3, none⟩ = some (.int .i64 (o : Int)) := (blk_cell hb1_ 3).trans rfl; have e3 := blk_frozen hb1_ 3; clear hb1_))
  go_end0
  exact ⟨rfl, HS1.out.opened (o + 1) _ (by omega), HF1.out.set 3 _⟩
set_option maxHeartbeats 40000000 in
set_option maxRecDepth 100000 in
theorem gap4p (k : Int) (hk : 0 ≤ k) (hk2 : k < 256) (T : List Int) (o g base : Nat) (w : World) (hsh : Sh w g base T o) (hl : T.length + 11 ≤ 262144) (ho : o ≤ 262144) (hm : k % 8 = 4) (hc : 0 < o) :
    Calls Try.prog 17 #[.pointer (some ⟨g, 0, none⟩), .int .u8 k] w fun e w' => e = .returned (.tuple #[]) ∧ Sh w' g base (T ++ [41]) (o - 1) ∧ Fp base g w w' := by
  have hu39 := Try.underlying39
  have HL := Aside0.mk (show T.length + (⟨#[41]⟩ : ByteArray).size ≤ 262144 by show T.length + 1 ≤ 262144; omega)
  have HSH := Aside0.mk hsh
  have ho1 : (0 : Int) ≤ (o : Int) := by omega
  have ho2 : (o : Int) ≤ 262144 := by omega
  obtain ⟨⟨v_, hb_, _⟩, _, _⟩ := hsh
  have c3 : w.cell? ⟨g, 3, none⟩ = some (.int .i64 (o : Int)) := (blk_cell hb_ 3).trans rfl
  clear hb_
  have hc1 : (0 : Int) < (o : Int) := by omega
  have hc2 : decide ((0 : Int) < (o : Int)) = true := decide_eq_true hc1
  clear hl
  go_enter Try.func17, Try.ntmps17
  go_wp2_with (first | (go_at_call 16; (with_reducible refine (sput_calls (⟨#[41]⟩ : ByteArray) T o g base _ HSH.out HL.out).mono ?_); rintro e w1 ⟨rfl, h1_, h2_⟩; have HS1 := Aside0.mk h1_; have HF1 := Aside0.mk h2_; clear h1_ h2_; obtain ⟨⟨v1_, hb1_, _⟩, _, _⟩ := HS1.out; have d3 : w1.cell? ⟨g, 3, none⟩ = some (.int .i64 (o : Int)) := (blk_cell hb1_ 3).trans rfl; have e3 := blk_frozen hb1_ 3; clear hb1_))
  go_end0
  exact ⟨rfl, HS1.out.opened (o - 1) _ (by omega), HF1.out.set 3 _⟩
set_option maxHeartbeats 40000000 in
set_option maxRecDepth 100000 in
theorem gap4n (k : Int) (hk : 0 ≤ k) (hk2 : k < 256) (T : List Int) (o g base : Nat) (w : World) (hsh : Sh w g base T o) (hl : T.length + 11 ≤ 262144) (ho : o ≤ 262144) (hm : k % 8 = 4) (hc : ¬ 0 < o) :
    Calls Try.prog 17 #[.pointer (some ⟨g, 0, none⟩), .int .u8 k] w fun e w' => e = .returned (.tuple #[]) ∧ Sh w' g base (T ++ [40, 41]) o ∧ Fp base g w w' := by
  have hu39 := Try.underlying39
  have HL := Aside0.mk (show T.length + (⟨#[40, 41]⟩ : ByteArray).size ≤ 262144 by show T.length + 2 ≤ 262144; omega)
  obtain rfl : o = 0 := by omega
  have HSH := Aside0.mk hsh
  obtain ⟨⟨v_, hb_, _⟩, _, _⟩ := hsh
  have c3 : w.cell? ⟨g, 3, none⟩ = some (.int .i64 (0 : Int)) := (blk_cell hb_ 3).trans rfl
  clear hb_
  clear hl
  go_enter Try.func17, Try.ntmps17
  go_wp2_with (first | (go_at_call 16; (with_reducible refine (sput_calls (⟨#[40, 41]⟩ : ByteArray) T 0 g base _ HSH.out HL.out).mono ?_); rintro e w1 ⟨rfl, h1_, h2_⟩; have HS1 := Aside0.mk h1_; have HF1 := Aside0.mk h2_; clear h1_ h2_))
  go_end0
  exact ⟨rfl, HS1.out, HF1.out⟩
set_option maxHeartbeats 40000000 in
set_option maxRecDepth 100000 in
theorem gap5p (k : Int) (hk : 0 ≤ k) (hk2 : k < 256) (T : List Int) (o g base : Nat) (w : World) (hsh : Sh w g base T o) (hl : T.length + 11 ≤ 262144) (ho : o ≤ 262144) (hm : k % 8 = 5) (hc : 0 < o) :
    Calls Try.prog 17 #[.pointer (some ⟨g, 0, none⟩), .int .u8 k] w fun e w' => e = .returned (.tuple #[]) ∧ Sh w' g base (T ++ [41]) (o - 1) ∧ Fp base g w w' := by
  have hu39 := Try.underlying39
  have HL := Aside0.mk (show T.length + (⟨#[41]⟩ : ByteArray).size ≤ 262144 by show T.length + 1 ≤ 262144; omega)
  have HSH := Aside0.mk hsh
  have ho1 : (0 : Int) ≤ (o : Int) := by omega
  have ho2 : (o : Int) ≤ 262144 := by omega
  obtain ⟨⟨v_, hb_, _⟩, _, _⟩ := hsh
  have c3 : w.cell? ⟨g, 3, none⟩ = some (.int .i64 (o : Int)) := (blk_cell hb_ 3).trans rfl
  clear hb_
  have hc1 : (0 : Int) < (o : Int) := by omega
  have hc2 : decide ((0 : Int) < (o : Int)) = true := decide_eq_true hc1
  clear hl
  go_enter Try.func17, Try.ntmps17
  go_wp2_with (first | (go_at_call 16; (with_reducible refine (sput_calls (⟨#[41]⟩ : ByteArray) T o g base _ HSH.out HL.out).mono ?_); rintro e w1 ⟨rfl, h1_, h2_⟩; have HS1 := Aside0.mk h1_; have HF1 := Aside0.mk h2_; clear h1_ h2_; obtain ⟨⟨v1_, hb1_, _⟩, _, _⟩ := HS1.out; have d3 : w1.cell? ⟨g, 3, none⟩ = some (.int .i64 (o : Int)) := (blk_cell hb1_ 3).trans rfl; have e3 := blk_frozen hb1_ 3; clear hb1_))
  go_end0
  exact ⟨rfl, HS1.out.opened (o - 1) _ (by omega), HF1.out.set 3 _⟩
set_option maxHeartbeats 40000000 in
set_option maxRecDepth 100000 in
theorem gap5n (k : Int) (hk : 0 ≤ k) (hk2 : k < 256) (T : List Int) (o g base : Nat) (w : World) (hsh : Sh w g base T o) (hl : T.length + 11 ≤ 262144) (ho : o ≤ 262144) (hm : k % 8 = 5) (hc : ¬ 0 < o) :
    Calls Try.prog 17 #[.pointer (some ⟨g, 0, none⟩), .int .u8 k] w fun e w' => e = .returned (.tuple #[]) ∧ Sh w' g base (T ++ [40, 41]) o ∧ Fp base g w w' := by
  have hu39 := Try.underlying39
  have HL := Aside0.mk (show T.length + (⟨#[40, 41]⟩ : ByteArray).size ≤ 262144 by show T.length + 2 ≤ 262144; omega)
  obtain rfl : o = 0 := by omega
  have HSH := Aside0.mk hsh
  obtain ⟨⟨v_, hb_, _⟩, _, _⟩ := hsh
  have c3 : w.cell? ⟨g, 3, none⟩ = some (.int .i64 (0 : Int)) := (blk_cell hb_ 3).trans rfl
  clear hb_
  clear hl
  go_enter Try.func17, Try.ntmps17
  go_wp2_with (first | (go_at_call 16; (with_reducible refine (sput_calls (⟨#[40, 41]⟩ : ByteArray) T 0 g base _ HSH.out HL.out).mono ?_); rintro e w1 ⟨rfl, h1_, h2_⟩; have HS1 := Aside0.mk h1_; have HF1 := Aside0.mk h2_; clear h1_ h2_))
  go_end0
  exact ⟨rfl, HS1.out, HF1.out⟩
set_option maxHeartbeats 40000000 in
set_option maxRecDepth 100000 in
theorem gap6p (k : Int) (hk : 0 ≤ k) (hk2 : k < 256) (T : List Int) (o g base : Nat) (w : World) (hsh : Sh w g base T o) (hl : T.length + 11 ≤ 262144) (ho : o ≤ 262144) (hm : k % 8 = 6) (hc : 0 < o) :
    Calls Try.prog 17 #[.pointer (some ⟨g, 0, none⟩), .int .u8 k] w fun e w' => e = .returned (.tuple #[]) ∧ Sh w' g base (T ++ [32, 59, 41, 32, 92, 10, 10, 32]) o ∧ Fp base g w w' := by
  have hu39 := Try.underlying39
  have HL := Aside0.mk (show T.length + (⟨#[32, 59, 41, 32, 92, 10, 10, 32]⟩ : ByteArray).size ≤ 262144 by show T.length + 8 ≤ 262144; omega)
  have HSH := Aside0.mk hsh
  have ho1 : (0 : Int) ≤ (o : Int) := by omega
  have ho2 : (o : Int) ≤ 262144 := by omega
  obtain ⟨⟨v_, hb_, _⟩, _, _⟩ := hsh
  have c3 : w.cell? ⟨g, 3, none⟩ = some (.int .i64 (o : Int)) := (blk_cell hb_ 3).trans rfl
  clear hb_
  have hc1 : (0 : Int) < (o : Int) := by omega
  have hc2 : decide ((0 : Int) < (o : Int)) = true := decide_eq_true hc1
  clear hl
  go_enter Try.func17, Try.ntmps17
  go_wp2_with (first | (go_at_call 16; (with_reducible refine (sput_calls (⟨#[32, 59, 41, 32, 92, 10, 10, 32]⟩ : ByteArray) T o g base _ HSH.out HL.out).mono ?_); rintro e w1 ⟨rfl, h1_, h2_⟩; have HS1 := Aside0.mk h1_; have HF1 := Aside0.mk h2_; clear h1_ h2_))
  go_end0
  exact ⟨rfl, HS1.out, HF1.out⟩
set_option maxHeartbeats 40000000 in
set_option maxRecDepth 100000 in
theorem gap6n (k : Int) (hk : 0 ≤ k) (hk2 : k < 256) (T : List Int) (o g base : Nat) (w : World) (hsh : Sh w g base T o) (hl : T.length + 11 ≤ 262144) (ho : o ≤ 262144) (hm : k % 8 = 6) (hc : ¬ 0 < o) :
    Calls Try.prog 17 #[.pointer (some ⟨g, 0, none⟩), .int .u8 k] w fun e w' => e = .returned (.tuple #[]) ∧ Sh w' g base (T ++ [32]) o ∧ Fp base g w w' := by
  have hu39 := Try.underlying39
  have HL := Aside0.mk (show T.length + (⟨#[32]⟩ : ByteArray).size ≤ 262144 by show T.length + 1 ≤ 262144; omega)
  obtain rfl : o = 0 := by omega
  have HSH := Aside0.mk hsh
  obtain ⟨⟨v_, hb_, _⟩, _, _⟩ := hsh
  have c3 : w.cell? ⟨g, 3, none⟩ = some (.int .i64 (0 : Int)) := (blk_cell hb_ 3).trans rfl
  clear hb_
  clear hl
  go_enter Try.func17, Try.ntmps17
  go_wp2_with (first | (go_at_call 16; (with_reducible refine (sput_calls (⟨#[32]⟩ : ByteArray) T 0 g base _ HSH.out HL.out).mono ?_); rintro e w1 ⟨rfl, h1_, h2_⟩; have HS1 := Aside0.mk h1_; have HF1 := Aside0.mk h2_; clear h1_ h2_))
  go_end0
  exact ⟨rfl, HS1.out, HF1.out⟩
set_option maxHeartbeats 40000000 in
set_option maxRecDepth 100000 in
theorem gap0 (k : Int) (hk : 0 ≤ k) (hk2 : k < 256) (T : List Int) (o g base : Nat) (w : World) (hsh : Sh w g base T o) (hl : T.length + 11 ≤ 262144) (ho : o ≤ 262144) (hm : k % 8 = 0) :
    Calls Try.prog 17 #[.pointer (some ⟨g, 0, none⟩), .int .u8 k] w fun e w' => e = .returned (.tuple #[]) ∧ Sh w' g base (T ++ [32]) o ∧ Fp base g w w' := by
  have hu39 := Try.underlying39
  have HL := Aside0.mk (show T.length + (⟨#[32]⟩ : ByteArray).size ≤ 262144 by show T.length + 1 ≤ 262144; omega)
  have HSH := Aside0.mk hsh
  have ho1 : (0 : Int) ≤ (o : Int) := by omega
  have ho2 : (o : Int) ≤ 262144 := by omega
  clear hsh
  clear hl
  go_enter Try.func17, Try.ntmps17
  go_wp2_with (first | (go_at_call 16; (with_reducible refine (sput_calls (⟨#[32]⟩ : ByteArray) T o g base _ HSH.out HL.out).mono ?_); rintro e w1 ⟨rfl, h1_, h2_⟩; have HS1 := Aside0.mk h1_; have HF1 := Aside0.mk h2_; clear h1_ h2_))
  go_end0
  exact ⟨rfl, HS1.out, HF1.out⟩
set_option maxHeartbeats 40000000 in
set_option maxRecDepth 100000 in
theorem gap7 (k : Int) (hk : 0 ≤ k) (hk2 : k < 256) (T : List Int) (o g base : Nat) (w : World) (hsh : Sh w g base T o) (hl : T.length + 11 ≤ 262144) (ho : o ≤ 262144) (hm : k % 8 = 7) :
    Calls Try.prog 17 #[.pointer (some ⟨g, 0, none⟩), .int .u8 k] w fun e w' => e = .returned (.tuple #[]) ∧ Sh w' g base (T ++ [32]) o ∧ Fp base g w w' := by
  have hu39 := Try.underlying39
  have HL := Aside0.mk (show T.length + (⟨#[32]⟩ : ByteArray).size ≤ 262144 by show T.length + 1 ≤ 262144; omega)
  have HSH := Aside0.mk hsh
  have ho1 : (0 : Int) ≤ (o : Int) := by omega
  have ho2 : (o : Int) ≤ 262144 := by omega
  clear hsh
  clear hl
  go_enter Try.func17, Try.ntmps17
  go_wp2_with (first | (go_at_call 16; (with_reducible refine (sput_calls (⟨#[32]⟩ : ByteArray) T o g base _ HSH.out HL.out).mono ?_); rintro e w1 ⟨rfl, h1_, h2_⟩; have HS1 := Aside0.mk h1_; have HF1 := Aside0.mk h2_; clear h1_ h2_))
  go_end0
  exact ⟨rfl, HS1.out, HF1.out⟩
theorem sgap_calls (k : Int) (hk : 0 ≤ k) (hk2 : k < 256) (T : List Int) (o g base : Nat) (w : World) (hsh : Sh w g base T o) (hl : T.length + 11 ≤ 262144) (ho : o ≤ 262144) :
    Calls Try.prog 17 #[.pointer (some ⟨g, 0, none⟩), .int .u8 k] w fun e w' => e = .returned (.tuple #[]) ∧ Sh w' g base (T ++ (gapP k o).1) (gapP k o).2 ∧ Fp base g w w' := by
  have h8 : k % 8 = 0 ∨ k % 8 = 1 ∨ k % 8 = 2 ∨ k % 8 = 3 ∨ k % 8 = 4 ∨ k % 8 = 5 ∨ k % 8 = 6 ∨ k % 8 = 7 := by omega
  rcases h8 with h | h | h | h | h | h | h | h
  · have e : gapP k o = ([32], o) := by unfold gapP; rw [h, if_neg (by decide), if_neg (by decide), if_neg (by decide), if_neg (by decide), if_neg (by decide)]
    rw [e]; exact gap0 k hk hk2 T o g base w hsh hl ho h
  · have e : gapP k o = ([9, 13, 32], o) := by unfold gapP; rw [h, if_pos rfl]
    rw [e]; exact gap1 k hk hk2 T o g base w hsh hl ho h
  · have e : gapP k o = ([40], o + 1) := by unfold gapP; rw [h, if_neg (by decide), if_pos rfl]
    rw [e]; exact gap2 k hk hk2 T o g base w hsh hl ho h
  · have e : gapP k o = ([32, 40, 32, 59, 32, 40, 32, 34, 32, 120, 10], o + 1) := by unfold gapP; rw [h, if_neg (by decide), if_neg (by decide), if_pos rfl]
    rw [e]; exact gap3 k hk hk2 T o g base w hsh hl ho h
  · by_cases hc : 0 < o
    · have e : gapP k o = ([41], o - 1) := by unfold gapP; rw [h, if_neg (by decide), if_neg (by decide), if_neg (by decide), if_pos (by decide), if_pos hc]
      rw [e]; exact gap4p k hk hk2 T o g base w hsh hl ho h hc
    · have e : gapP k o = ([40, 41], o) := by unfold gapP; rw [h, if_neg (by decide), if_neg (by decide), if_neg (by decide), if_pos (by decide), if_neg hc]
      rw [e]; exact gap4n k hk hk2 T o g base w hsh hl ho h hc
  · by_cases hc : 0 < o
    · have e : gapP k o = ([41], o - 1) := by unfold gapP; rw [h, if_neg (by decide), if_neg (by decide), if_neg (by decide), if_pos (by decide), if_pos hc]
      rw [e]; exact gap5p k hk hk2 T o g base w hsh hl ho h hc
    · have e : gapP k o = ([40, 41], o) := by unfold gapP; rw [h, if_neg (by decide), if_neg (by decide), if_neg (by decide), if_pos (by decide), if_neg hc]
      rw [e]; exact gap5n k hk hk2 T o g base w hsh hl ho h hc
  · by_cases hc : 0 < o
    · have e : gapP k o = ([32, 59, 41, 32, 92, 10, 10, 32], o) := by unfold gapP; rw [h, if_neg (by decide), if_neg (by decide), if_neg (by decide), if_neg (by decide), if_pos rfl, if_pos hc]
      rw [e]; exact gap6p k hk hk2 T o g base w hsh hl ho h hc
    · have e : gapP k o = ([32], o) := by unfold gapP; rw [h, if_neg (by decide), if_neg (by decide), if_neg (by decide), if_neg (by decide), if_pos rfl, if_neg hc]
      rw [e]; exact gap6n k hk hk2 T o g base w hsh hl ho h hc
  · have e : gapP k o = ([32], o) := by unfold gapP; rw [h, if_neg (by decide), if_neg (by decide), if_neg (by decide), if_neg (by decide), if_neg (by decide)]
    rw [e]; exact gap7 k hk hk2 T o g base w hsh hl ho h
end Go.Proofs.Ytafminohaofjnaa.Print
