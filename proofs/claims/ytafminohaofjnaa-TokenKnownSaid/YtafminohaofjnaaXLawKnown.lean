/- The statement TokenKnown, walked. -/
import Derived.Test.YtafminohaofjnaaXOwnP
import Derived.Test.YtafminohaofjnaaEq23
import Derived.Test.YtafminohaofjnaaEq30
import Derived.Test.YtafminohaofjnaaF10
namespace Go.Proofs.Ytafminohaofjnaa.Print
open Go.RowKit Go.Proofs.YtafminohaofjnaaW.PrintWords Go.Proofs.YtafminohaofjnaaW.PrintLast Go.Proofs.YtafminohaofjnaaW.PrintMore
set_option linter.unusedVariables false
set_option linter.unusedSimpArgs false
theorem en0 : token_Entries.f (⟨#[119, 119, 119, 32, 65, 32, 49, 48, 46, 48, 46, 48, 46, 49, 32, 59, 32, 120, 10, 32, 77, 88, 32, 49, 48, 32, 40, 10, 32, 109, 32, 41, 32, 59, 32, 121, 10]⟩ : ByteArray) = some ([(⟨false, 1, [(⟨(⟨#[119, 119, 119]⟩ : ByteArray), false, 1, 1⟩ : S23), (⟨(⟨#[65]⟩ : ByteArray), false, 1, 5⟩ : S23), (⟨(⟨#[49, 48, 46, 48, 46, 48, 46, 49]⟩ : ByteArray), false, 1, 7⟩ : S23)]⟩ : S45), (⟨true, 2, [(⟨(⟨#[77, 88]⟩ : ByteArray), false, 2, 2⟩ : S23), (⟨(⟨#[49, 48]⟩ : ByteArray), false, 2, 5⟩ : S23), (⟨(⟨#[109]⟩ : ByteArray), false, 3, 2⟩ : S23)]⟩ : S45)], 0, 0, 0) := by kernel_rfl
theorem en1 : token_Entries.f (⟨#[97, 34, 98, 32, 99, 34, 100, 92, 32, 101, 92, 59]⟩ : ByteArray) = some ([(⟨false, 1, [(⟨(⟨#[97]⟩ : ByteArray), false, 1, 1⟩ : S23), (⟨(⟨#[98, 32, 99]⟩ : ByteArray), true, 1, 2⟩ : S23), (⟨(⟨#[100, 92, 32, 101, 92, 59]⟩ : ByteArray), false, 1, 7⟩ : S23)]⟩ : S45)], 0, 0, 0) := by kernel_rfl
theorem en2 : token_Entries.f (⟨#[34, 34]⟩ : ByteArray) = some ([(⟨false, 1, [(⟨(⟨#[]⟩ : ByteArray), true, 1, 1⟩ : S23)]⟩ : S45)], 0, 0, 0) := by kernel_rfl
theorem en3 : token_Entries.f (⟨#[40, 10, 41]⟩ : ByteArray) = some ([], 0, 0, 0) := by kernel_rfl
theorem en4 : token_Entries.f (⟨#[32, 59, 32, 120]⟩ : ByteArray) = some ([], 0, 0, 0) := by kernel_rfl
theorem en5 : token_Entries.f (⟨#[97, 92]⟩ : ByteArray) = some ([(⟨false, 1, [(⟨(⟨#[97, 92]⟩ : ByteArray), false, 1, 1⟩ : S23)]⟩ : S45)], 0, 0, 0) := by kernel_rfl
theorem en6 : token_Entries.f (⟨#[97, 92, 10, 98]⟩ : ByteArray) = some ([(⟨false, 1, [(⟨(⟨#[97, 92]⟩ : ByteArray), false, 1, 1⟩ : S23)]⟩ : S45), (⟨false, 2, [(⟨(⟨#[98]⟩ : ByteArray), false, 2, 1⟩ : S23)]⟩ : S45)], 0, 0, 0) := by kernel_rfl
theorem bad0 : token_Entries.f (⟨#[97, 32, 34, 98]⟩ : ByteArray) = some ([], 1, 3, 80) := by kernel_rfl
theorem bad1 : token_Entries.f (⟨#[97, 32, 34, 98, 92, 34]⟩ : ByteArray) = some ([], 1, 3, 80) := by kernel_rfl
theorem bad2 : token_Entries.f (⟨#[97, 32, 34, 98, 10, 34]⟩ : ByteArray) = some ([], 1, 3, 80) := by kernel_rfl
theorem bad3 : token_Entries.f (⟨#[97, 32, 34, 98, 92, 10, 34]⟩ : ByteArray) = some ([], 1, 3, 80) := by kernel_rfl
theorem bad4 : token_Entries.f (⟨#[97, 32, 41, 32, 40]⟩ : ByteArray) = some ([], 1, 3, 81) := by kernel_rfl
theorem bad5 : token_Entries.f (⟨#[97, 32, 40, 10, 32, 40, 32, 41]⟩ : ByteArray) = some ([], 1, 3, 81) := by kernel_rfl
theorem bad6 : token_Entries.f (⟨#[40, 32, 41, 32, 40, 10, 40, 34, 120]⟩ : ByteArray) = some ([], 2, 2, 80) := by kernel_rfl
theorem bad7 : token_Entries.f (⟨#[10, 10, 32, 41]⟩ : ByteArray) = some ([], 3, 2, 81) := by kernel_rfl
theorem bad8 : token_Entries.f (⟨#[34]⟩ : ByteArray) = some ([], 1, 1, 80) := by kernel_rfl
theorem val0 : token_Value.f (⟨#[97, 92, 46, 98, 92, 48, 54, 53]⟩ : ByteArray) false 0 0 = some ((⟨#[97, 46, 98, 65]⟩ : ByteArray), 0) := by kernel_rfl
theorem val1 : token_Value.f (⟨#[97, 92]⟩ : ByteArray) false 0 0 = some ((⟨#[]⟩ : ByteArray), 12) := by kernel_rfl
theorem val2 : token_Value.f (⟨#[92, 50, 53]⟩ : ByteArray) false 0 0 = some ((⟨#[]⟩ : ByteArray), 12) := by kernel_rfl
theorem val3 : token_Value.f (⟨#[92, 50, 53, 54]⟩ : ByteArray) false 0 0 = some ((⟨#[]⟩ : ByteArray), 12) := by kernel_rfl
/-- the entries' cells -/
def Seen (w : World) (g : Nat) (L : List S45) : Prop := ∀ i x, L[i]? = some x → w.cell? ⟨g, i * 3, none⟩ = some (.bool x.f0) ∧ w.cell? ⟨g, i * 3 + 1, none⟩ = some (.int .i64 x.f1) ∧
  ∃ A c, w.cell? ⟨g, i * 3 + 2, none⟩ = some (.slice A x.f2.length c) ∧ ∀ j y, x.f2[j]? = some y → ∃ g', A = some ⟨g', 0, none⟩ ∧ w.cell? ⟨g', j * 4, none⟩ = some (.string y.f0) ∧ w.cell? ⟨g', j * 4 + 1, none⟩ = some (.bool y.f1) ∧
    w.cell? ⟨g', j * 4 + 2, none⟩ = some (.int .i64 y.f2) ∧ w.cell? ⟨g', j * 4 + 3, none⟩ = some (.int .i64 y.f3)
theorem seen_of {w : World} {base : Nat} {ok : Nat → Prop} {g n cap : Nat} {L : List S45} (h : Kd.S k45 45 w base ok (.slice (some ⟨g, 0, none⟩) n cap) L) : Seen w g L := by
  intro i x hx
  have hn := (Kd.S_reads' h).1
  have hi : i < L.length := (List.getElem?_eq_some_iff.1 hx).1
  obtain ⟨c, hcl, hM, hcc⟩ := Kd.S_get h z45 (i : Int) (by omega) (by omega)
  have hxi : L.getD (i : Int).toNat z45 = x := by rw [Int.toNat_natCast, List.getD_eq_getElem?_getD, hx]; rfl
  rw [hxi] at hM
  obtain ⟨v2, rfl, hR⟩ := k45_openM hM
  have ea : ∀ j, (⟨g, 0, none⟩ : Addr).add (i * k45.sz + j) = ⟨g, i * 3 + j, none⟩ := fun j => by
    rw [add_at, Nat.zero_add]; rfl
  have h0 := hcc 0 _ rfl
  have h1 := hcc 1 _ rfl
  have h2 := hcc 2 _ rfl
  rw [Int.toNat_natCast, ea] at h0 h1 h2
  obtain ⟨A, c2, rfl, hlc, hC⟩ := Kd.R_reads hR
  refine ⟨h0, h1, A, c2, h2, fun j y hy => ?_⟩
  have hj : j < x.f2.length := (List.getElem?_eq_some_iff.1 hy).1
  obtain ⟨g', cap', he, _⟩ := Kd.R_form hR (by omega)
  injection he with he _ _
  subst he
  obtain ⟨ad, e1, k0, k1, k2, k3⟩ := at_T23 hC (j : Int) (by omega) (by omega)
  injection e1 with e1
  subst e1
  have hyi : rd_T23 x.f2 (j : Int) = y := by unfold rd_T23; rw [Int.toNat_natCast, List.getD_eq_getElem?_getD, hy]; rfl
  rw [hyi, Int.toNat_natCast] at k0 k1 k2 k3
  have eb : (⟨g', 0, none⟩ : Addr).add (j * 4) = ⟨g', j * 4, none⟩ := by
    rw [add_at, Nat.zero_add]
  rw [eb] at k0 k1 k2 k3
  exact ⟨g', rfl, k0, k1, k2, k3⟩
def badC : Array Value := #[.string (⟨#[97, 32, 34, 98]⟩ : ByteArray), .int .i64 80, .int .i64 1, .int .i64 3, .string (⟨#[97, 32, 34, 98, 92, 34]⟩ : ByteArray), .int .i64 80, .int .i64 1, .int .i64 3, .string (⟨#[97, 32, 34, 98, 10, 34]⟩ : ByteArray), .int .i64 80, .int .i64 1, .int .i64 3, .string (⟨#[97, 32, 34, 98, 92, 10, 34]⟩ : ByteArray), .int .i64 80, .int .i64 1, .int .i64 3, .string (⟨#[97, 32, 41, 32, 40]⟩ : ByteArray), .int .i64 81, .int .i64 1, .int .i64 3, .string (⟨#[97, 32, 40, 10, 32, 40, 32, 41]⟩ : ByteArray), .int .i64 81, .int .i64 1, .int .i64 3, .string (⟨#[40, 32, 41, 32, 40, 10, 40, 34, 120]⟩ : ByteArray), .int .i64 80, .int .i64 2, .int .i64 2, .string (⟨#[10, 10, 32, 41]⟩ : ByteArray), .int .i64 81, .int .i64 3, .int .i64 2, .string (⟨#[34]⟩ : ByteArray), .int .i64 80, .int .i64 1, .int .i64 1]
def badL : List (ByteArray × Int × Int × Int) := [((⟨#[97, 32, 34, 98]⟩ : ByteArray), 80, 1, 3), ((⟨#[97, 32, 34, 98, 92, 34]⟩ : ByteArray), 80, 1, 3), ((⟨#[97, 32, 34, 98, 10, 34]⟩ : ByteArray), 80, 1, 3), ((⟨#[97, 32, 34, 98, 92, 10, 34]⟩ : ByteArray), 80, 1, 3), ((⟨#[97, 32, 41, 32, 40]⟩ : ByteArray), 81, 1, 3), ((⟨#[97, 32, 40, 10, 32, 40, 32, 41]⟩ : ByteArray), 81, 1, 3), ((⟨#[40, 32, 41, 32, 40, 10, 40, 34, 120]⟩ : ByteArray), 80, 2, 2), ((⟨#[10, 10, 32, 41]⟩ : ByteArray), 81, 3, 2), ((⟨#[34]⟩ : ByteArray), 80, 1, 1)]
theorem bad_cells : ∀ (k : Nat) (x : ByteArray × Int × Int × Int), badL[k]? = some x → badC[k * 4]? = some (.string x.1) ∧ badC[k * 4 + 1]? = some (.int .i64 x.2.1) ∧ badC[k * 4 + 2]? = some (.int .i64 x.2.2.1) ∧ badC[k * 4 + 3]? = some (.int .i64 x.2.2.2)
  | 0, x, h => by cases h; exact ⟨rfl, rfl, rfl, rfl⟩
  | 1, x, h => by cases h; exact ⟨rfl, rfl, rfl, rfl⟩
  | 2, x, h => by cases h; exact ⟨rfl, rfl, rfl, rfl⟩
  | 3, x, h => by cases h; exact ⟨rfl, rfl, rfl, rfl⟩
  | 4, x, h => by cases h; exact ⟨rfl, rfl, rfl, rfl⟩
  | 5, x, h => by cases h; exact ⟨rfl, rfl, rfl, rfl⟩
  | 6, x, h => by cases h; exact ⟨rfl, rfl, rfl, rfl⟩
  | 7, x, h => by cases h; exact ⟨rfl, rfl, rfl, rfl⟩
  | 8, x, h => by cases h; exact ⟨rfl, rfl, rfl, rfl⟩
  | k + 9, x, h => by simp [badL] at h
theorem bad_says : ∀ x ∈ badL, token_Entries.f x.1 = some ([], x.2.2.1, x.2.2.2, x.2.1) := by
  intro x hx
  simp only [badL, List.mem_cons, List.not_mem_nil, or_false] at hx
  rcases hx with rfl | rfl | rfl | rfl | rfl | rfl | rfl | rfl | rfl
  · exact bad0
  · exact bad1
  · exact bad2
  · exact bad3
  · exact bad4
  · exact bad5
  · exact bad6
  · exact bad7
  · exact bad8
def NN : Nat := 262145
/-- so many parentheses, then nothing yet -/
def paren (k : Nat) : List Int := List.replicate k 41 ++ List.replicate (NN - k) 0
theorem paren_zero : List.replicate (262145 : Int).toNat (0 : Int) = paren 0 := by
  unfold paren
  rw [List.replicate_zero, List.nil_append]
  exact congrArg (fun n => List.replicate n (0 : Int)) (by decide)
theorem paren_len {k : Nat} (h : k ≤ 262145) : (paren k).length = 262145 := by
  unfold paren
  rw [List.length_append, List.length_replicate, List.length_replicate]
  unfold NN
  omega
theorem paren_set {k : Nat} (h : k < 262145) : (paren k).set k 41 = paren (k + 1) := by
  have e : NN - k = (NN - (k + 1)) + 1 := by unfold NN; omega
  unfold paren
  rw [List.set_append_right _ _ (by rw [List.length_replicate]; exact Nat.le_refl _), List.length_replicate, Nat.sub_self, e, List.replicate_succ (n := NN - (k + 1)), List.set_cons_zero, List.replicate_succ' (n := k), List.append_assoc]
  rfl
theorem paren_all : paren 262145 = List.replicate 262145 41 := by
  unfold paren
  rw [show NN - 262145 = 0 from by unfold NN; omega, List.replicate_zero, List.append_nil]
theorem big_says {s : ByteArray} (h : s.size = 262145) : token_Entries.f s = some ([], 0, 0, 2) := by
  unfold token_Entries.f
  rw [if_pos (by omega)]
theorem byte41 : ∀ n : Nat, bytesOf (strOfNums (List.replicate n 41)) = List.replicate n 41 := by
  intro n
  unfold bytesOf
  rw [strOfNums_data, List.map_replicate, List.map_replicate]
  rfl
theorem most_says {s : ByteArray} {r : List Int} (h : bytesOf s = 41 :: r) (hs : s.size ≤ 262144) : token_Entries.f s = some ([], 1, 1, 81) := by
  have hl : lex (bytesOf s) 0 [] = ([], some (0, 81)) := by
    rw [h, lex_cons, if_neg (by decide), if_neg (by decide), if_neg (by decide), if_neg (by decide), if_pos rfl, if_pos rfl]
  unfold token_Entries.f fin
  rw [if_neg (by omega), hl]
  simp only
  rw [finish_err]
  rfl
attribute [local go_sem high] eqA23 eqA30
set_option maxHeartbeats 100000000 in
set_option maxRecDepth 100000 in
theorem tokenKnown_calls (w : World) : Calls Try.prog 9 #[] w fun e w' => e = .returned (.bool true) ∧ Below w.heap.size w w' := by
  have HB := Aside0.mk (Below.refl w.heap.size w)
  go_enter Try.func9, Try.ntmps9
  go_upto_region 2 with (first | (go_at_call 12; (with_reducible refine (token_Entries.calls (⟨#[119, 119, 119, 32, 65, 32, 49, 48, 46, 48, 46, 48, 46, 49, 32, 59, 32, 120, 10, 32, 77, 88, 32, 49, 48, 32, 40, 10, 32, 109, 32, 41, 32, 59, 32, 121, 10]⟩ : ByteArray) [(⟨false, 1, [(⟨(⟨#[119, 119, 119]⟩ : ByteArray), false, 1, 1⟩ : S23), (⟨(⟨#[65]⟩ : ByteArray), false, 1, 5⟩ : S23), (⟨(⟨#[49, 48, 46, 48, 46, 48, 46, 49]⟩ : ByteArray), false, 1, 7⟩ : S23)]⟩ : S45), (⟨true, 2, [(⟨(⟨#[77, 88]⟩ : ByteArray), false, 2, 2⟩ : S23), (⟨(⟨#[49, 48]⟩ : ByteArray), false, 2, 5⟩ : S23), (⟨(⟨#[109]⟩ : ByteArray), false, 3, 2⟩ : S23)]⟩ : S45)] 0 0 0 _ en0).mono ?_); rintro e w1 ⟨va0, rfl, hS, hb⟩; have S0 := Aside0.mk hS; have HB_ := Aside0.mk (below_step HB.out hb); clear HB; have HB := HB_; clear HB_ hS hb))
  obtain ⟨ga0, ca0, ea0, _⟩ := Kd.S_form S0.out (by simp)
  replace ea0 : va0 = .slice (some ⟨ga0, 0, none⟩) 2 ca0 := ea0
  subst ea0
  have S0_ := Aside0.mk (Kd.S_alloc S0.out (.cells #[.int .i64 0, .int .i64 0] 30))
  clear S0
  have S0 := S0_
  clear S0_
  have HB_ := Aside0.mk (below_alloc HB.out (.cells #[.int .i64 0, .int .i64 0] 30))
  clear HB
  have HB := HB_
  clear HB_
  generalize w1.alloc (.cells #[.int .i64 0, .int .i64 0] 30) = w1x at HB S0 ⊢
  have se := seen_of S0.out
  obtain ⟨b0_0, l0_0, A0_0, c0_0, h0_0, q0_0⟩ := se 0 _ rfl
  clear q0_0
  obtain ⟨b0_1, l0_1, A0_1, c0_1, h0_1, q0_1⟩ := se 1 _ rfl
  obtain ⟨g0_1_2, e_, t0_0_1_2, t1_0_1_2, t2_0_1_2, t3_0_1_2⟩ := q0_1 2 _ rfl
  (first | subst e_ | (injection e_ with e_; injection e_ with e_; subst e_))
  clear q0_1
  simp only [Nat.reduceMul, Nat.reduceAdd, Nat.zero_mul, Nat.zero_add, List.length_cons, List.length_nil] at b0_0 l0_0 h0_0 t0_0_1_2 t1_0_1_2 t2_0_1_2 t3_0_1_2 b0_1 l0_1 h0_1
  clear se
  clear S0
  go_upto_region 5 with (first | (go_at_call 12; (with_reducible refine (token_Entries.calls (⟨#[97, 34, 98, 32, 99, 34, 100, 92, 32, 101, 92, 59]⟩ : ByteArray) [(⟨false, 1, [(⟨(⟨#[97]⟩ : ByteArray), false, 1, 1⟩ : S23), (⟨(⟨#[98, 32, 99]⟩ : ByteArray), true, 1, 2⟩ : S23), (⟨(⟨#[100, 92, 32, 101, 92, 59]⟩ : ByteArray), false, 1, 7⟩ : S23)]⟩ : S45)] 0 0 0 _ en1).mono ?_); rintro e w2 ⟨va1, rfl, hS, hb⟩; have S1 := Aside0.mk hS; have HB_ := Aside0.mk (below_step HB.out hb); clear HB; have HB := HB_; clear HB_ hS hb))
  obtain ⟨ga1, ca1, ea1, _⟩ := Kd.S_form S1.out (by simp)
  replace ea1 : va1 = .slice (some ⟨ga1, 0, none⟩) 1 ca1 := ea1
  subst ea1
  have S1_ := Aside0.mk (Kd.S_alloc S1.out (.cells #[.int .i64 0, .int .i64 0] 30))
  clear S1
  have S1 := S1_
  clear S1_
  have HB_ := Aside0.mk (below_alloc HB.out (.cells #[.int .i64 0, .int .i64 0] 30))
  clear HB
  have HB := HB_
  clear HB_
  generalize w2.alloc (.cells #[.int .i64 0, .int .i64 0] 30) = w2x at HB S1 ⊢
  clear b0_0 l0_0 h0_0 t0_0_1_2 t1_0_1_2 t2_0_1_2 t3_0_1_2 b0_1 l0_1 h0_1
  have se := seen_of S1.out
  obtain ⟨b1_0, l1_0, A1_0, c1_0, h1_0, q1_0⟩ := se 0 _ rfl
  obtain ⟨g1_0_1, e_, t0_1_0_1, t1_1_0_1, t2_1_0_1, t3_1_0_1⟩ := q1_0 1 _ rfl
  (first | subst e_ | (injection e_ with e_; injection e_ with e_; subst e_))
  obtain ⟨g1_0_2, e_, t0_1_0_2, t1_1_0_2, t2_1_0_2, t3_1_0_2⟩ := q1_0 2 _ rfl
  (first | subst e_ | (injection e_ with e_; injection e_ with e_; subst e_))
  clear q1_0
  simp only [Nat.reduceMul, Nat.reduceAdd, Nat.zero_mul, Nat.zero_add, List.length_cons, List.length_nil] at t0_1_0_1 t1_1_0_1 t2_1_0_1 t3_1_0_1 t0_1_0_2 t1_1_0_2 t2_1_0_2 t3_1_0_2 b1_0 l1_0 h1_0
  clear se
  clear S1
  go_upto_region 8 with (first | (go_at_call 12; (with_reducible refine (token_Entries.calls (⟨#[34, 34]⟩ : ByteArray) [(⟨false, 1, [(⟨(⟨#[]⟩ : ByteArray), true, 1, 1⟩ : S23)]⟩ : S45)] 0 0 0 _ en2).mono ?_); rintro e w3 ⟨va2, rfl, hS, hb⟩; have S2 := Aside0.mk hS; have HB_ := Aside0.mk (below_step HB.out hb); clear HB; have HB := HB_; clear HB_ hS hb))
  obtain ⟨ga2, ca2, ea2, _⟩ := Kd.S_form S2.out (by simp)
  replace ea2 : va2 = .slice (some ⟨ga2, 0, none⟩) 1 ca2 := ea2
  subst ea2
  have S2_ := Aside0.mk (Kd.S_alloc S2.out (.cells #[.int .i64 0, .int .i64 0] 30))
  clear S2
  have S2 := S2_
  clear S2_
  have HB_ := Aside0.mk (below_alloc HB.out (.cells #[.int .i64 0, .int .i64 0] 30))
  clear HB
  have HB := HB_
  clear HB_
  generalize w3.alloc (.cells #[.int .i64 0, .int .i64 0] 30) = w3x at HB S2 ⊢
  clear t0_1_0_1 t1_1_0_1 t2_1_0_1 t3_1_0_1 t0_1_0_2 t1_1_0_2 t2_1_0_2 t3_1_0_2 b1_0 l1_0 h1_0
  go_upto_region 9 with (first | (go_at_call 12; (with_reducible refine (token_Entries.calls (⟨#[40, 10, 41]⟩ : ByteArray) [] 0 0 0 _ en3).mono ?_); rintro e w4 ⟨va3, rfl, hS, hb⟩; have S3 := Aside0.mk hS; have S2_ := Aside0.mk (Kd.S_below S2.out hb); clear S2; have S2 := S2_; clear S2_; have HB_ := Aside0.mk (below_step HB.out hb); clear HB; have HB := HB_; clear HB_ hS hb))
  obtain ⟨aa3, ca3, ea3⟩ := Kd.S_slice S3.out
  replace ea3 : va3 = .slice aa3 0 ca3 := ea3
  subst ea3
  have S2_ := Aside0.mk (Kd.S_alloc S2.out (.cells #[.int .i64 0, .int .i64 0] 30))
  clear S2
  have S2 := S2_
  clear S2_
  have S3_ := Aside0.mk (Kd.S_alloc S3.out (.cells #[.int .i64 0, .int .i64 0] 30))
  clear S3
  have S3 := S3_
  clear S3_
  have HB_ := Aside0.mk (below_alloc HB.out (.cells #[.int .i64 0, .int .i64 0] 30))
  clear HB
  have HB := HB_
  clear HB_
  generalize w4.alloc (.cells #[.int .i64 0, .int .i64 0] 30) = w4x at HB S2 S3 ⊢
  go_upto_region 10 with (first | (go_at_call 12; (with_reducible refine (token_Entries.calls (⟨#[32, 59, 32, 120]⟩ : ByteArray) [] 0 0 0 _ en4).mono ?_); rintro e w5 ⟨va4, rfl, hS, hb⟩; have S4 := Aside0.mk hS; have S2_ := Aside0.mk (Kd.S_below S2.out hb); clear S2; have S2 := S2_; clear S2_; have HB_ := Aside0.mk (below_step HB.out hb); clear HB; have HB := HB_; clear HB_ hS hb))
  obtain ⟨aa4, ca4, ea4⟩ := Kd.S_slice S4.out
  replace ea4 : va4 = .slice aa4 0 ca4 := ea4
  subst ea4
  have S2_ := Aside0.mk (Kd.S_alloc S2.out (.cells #[.int .i64 0, .int .i64 0] 30))
  clear S2
  have S2 := S2_
  clear S2_
  have S4_ := Aside0.mk (Kd.S_alloc S4.out (.cells #[.int .i64 0, .int .i64 0] 30))
  clear S4
  have S4 := S4_
  clear S4_
  have HB_ := Aside0.mk (below_alloc HB.out (.cells #[.int .i64 0, .int .i64 0] 30))
  clear HB
  have HB := HB_
  clear HB_
  generalize w5.alloc (.cells #[.int .i64 0, .int .i64 0] 30) = w5x at HB S2 S4 ⊢
  have se := seen_of S2.out
  obtain ⟨b2_0, l2_0, A2_0, c2_0, h2_0, q2_0⟩ := se 0 _ rfl
  obtain ⟨g2_0_0, e_, t0_2_0_0, t1_2_0_0, t2_2_0_0, t3_2_0_0⟩ := q2_0 0 _ rfl
  (first | subst e_ | (injection e_ with e_; injection e_ with e_; subst e_))
  clear q2_0
  simp only [Nat.reduceMul, Nat.reduceAdd, Nat.zero_mul, Nat.zero_add, List.length_cons, List.length_nil] at t0_2_0_0 t1_2_0_0 t2_2_0_0 t3_2_0_0 b2_0 l2_0 h2_0
  clear se
  clear S2 S3 S4
  go_wp2
  clear t0_2_0_0 t1_2_0_0 t2_2_0_0 t3_2_0_0 b2_0 l2_0 h2_0
  have BK := Aside0.mk (show (w5x.alloc (.cells #[.string (⟨#[97, 32, 34, 98]⟩ : ByteArray), .int .i64 80, .int .i64 1, .int .i64 3, .string (⟨#[97, 32, 34, 98, 92, 34]⟩ : ByteArray), .int .i64 80, .int .i64 1, .int .i64 3, .string (⟨#[97, 32, 34, 98, 10, 34]⟩ : ByteArray), .int .i64 80, .int .i64 1, .int .i64 3, .string (⟨#[97, 32, 34, 98, 92, 10, 34]⟩ : ByteArray), .int .i64 80, .int .i64 1, .int .i64 3, .string (⟨#[97, 32, 41, 32, 40]⟩ : ByteArray), .int .i64 81, .int .i64 1, .int .i64 3, .string (⟨#[97, 32, 40, 10, 32, 40, 32, 41]⟩ : ByteArray), .int .i64 81, .int .i64 1, .int .i64 3, .string (⟨#[40, 32, 41, 32, 40, 10, 40, 34, 120]⟩ : ByteArray), .int .i64 80, .int .i64 2, .int .i64 2, .string (⟨#[10, 10, 32, 41]⟩ : ByteArray), .int .i64 81, .int .i64 3, .int .i64 2, .string (⟨#[34]⟩ : ByteArray), .int .i64 80, .int .i64 1, .int .i64 1] 59)).heap[w5x.heap.size]? = some (.cells badC 59 (0, 0)) from blk_new w5x _)
  have HB_ := Aside0.mk (below_alloc HB.out (.cells #[.string (⟨#[97, 32, 34, 98]⟩ : ByteArray), .int .i64 80, .int .i64 1, .int .i64 3, .string (⟨#[97, 32, 34, 98, 92, 34]⟩ : ByteArray), .int .i64 80, .int .i64 1, .int .i64 3, .string (⟨#[97, 32, 34, 98, 10, 34]⟩ : ByteArray), .int .i64 80, .int .i64 1, .int .i64 3, .string (⟨#[97, 32, 34, 98, 92, 10, 34]⟩ : ByteArray), .int .i64 80, .int .i64 1, .int .i64 3, .string (⟨#[97, 32, 41, 32, 40]⟩ : ByteArray), .int .i64 81, .int .i64 1, .int .i64 3, .string (⟨#[97, 32, 40, 10, 32, 40, 32, 41]⟩ : ByteArray), .int .i64 81, .int .i64 1, .int .i64 3, .string (⟨#[40, 32, 41, 32, 40, 10, 40, 34, 120]⟩ : ByteArray), .int .i64 80, .int .i64 2, .int .i64 2, .string (⟨#[10, 10, 32, 41]⟩ : ByteArray), .int .i64 81, .int .i64 3, .int .i64 2, .string (⟨#[34]⟩ : ByteArray), .int .i64 80, .int .i64 1, .int .i64 1] 59))
  clear HB
  have HB := HB_
  clear HB_
  generalize w5x.alloc (.cells #[.string (⟨#[97, 32, 34, 98]⟩ : ByteArray), .int .i64 80, .int .i64 1, .int .i64 3, .string (⟨#[97, 32, 34, 98, 92, 34]⟩ : ByteArray), .int .i64 80, .int .i64 1, .int .i64 3, .string (⟨#[97, 32, 34, 98, 10, 34]⟩ : ByteArray), .int .i64 80, .int .i64 1, .int .i64 3, .string (⟨#[97, 32, 34, 98, 92, 10, 34]⟩ : ByteArray), .int .i64 80, .int .i64 1, .int .i64 3, .string (⟨#[97, 32, 41, 32, 40]⟩ : ByteArray), .int .i64 81, .int .i64 1, .int .i64 3, .string (⟨#[97, 32, 40, 10, 32, 40, 32, 41]⟩ : ByteArray), .int .i64 81, .int .i64 1, .int .i64 3, .string (⟨#[40, 32, 41, 32, 40, 10, 40, 34, 120]⟩ : ByteArray), .int .i64 80, .int .i64 2, .int .i64 2, .string (⟨#[10, 10, 32, 41]⟩ : ByteArray), .int .i64 81, .int .i64 3, .int .i64 2, .string (⟨#[34]⟩ : ByteArray), .int .i64 80, .int .i64 1, .int .i64 1] 59) = w6 at HB BK ⊢
  generalize w5x.heap.size = N5 at BK ⊢
  go_loopw [15] (fun i wr => ∃ k : Nat, k ≤ 9 ∧ i = .int .i64 k ∧ Aside0 (wr.heap[N5]? = some (.cells badC 59 (0, 0))) ∧ Aside0 (Below w.heap.size w wr)) (fun i _ => 9 - (intOf i).toNat)
  case atStart => exact ⟨0, Nat.zero_le _, rfl, BK, HB⟩
  case round =>
    clear BK HB
    obtain ⟨k, hk, rfl, BK, HB⟩ := hrel
    by_cases hlt : k < 9
    · obtain ⟨⟨tx, ex, lx, cx⟩, hx⟩ : ∃ x, badL[k]? = some x := ⟨badL[k]'hlt, List.getElem?_eq_getElem hlt⟩
      have HSAY := Aside0.mk (bad_says _ (List.mem_of_getElem? hx))
      have HCX := Aside0.mk (bad_cells k _ hx)
      clear hx
      have c0 := (blk_cell BK.out (k * 4)).trans HCX.out.1
      (try simp only at c0)
      go_upto_region 17 with (first | (go_at_call 12; (with_reducible refine (token_Entries.calls tx [] lx cx ex _ HSAY.out).mono ?_); rintro e v ⟨vx, rfl, hS, hb⟩; have HX := Aside0.mk hS; have BK_ := Aside0.mk (blk_below BK.out hb); clear BK; have BK := BK_; clear BK_; have HB_ := Aside0.mk (below_step HB.out hb); clear HB; have HB := HB_; clear HB_ hS hb c0))
      obtain ⟨ax, cx_, ex_⟩ := Kd.S_slice HX.out
      replace ex_ : vx = .slice ax 0 cx_ := ex_
      subst ex_
      clear HX
      have BX := Aside0.mk (show (v.alloc (.cells #[.int .i64 lx, .int .i64 cx] 30)).heap[v.heap.size]? = some (.cells #[.int .i64 lx, .int .i64 cx] 30 (0, 0)) from blk_new v _)
      have BK_ := Aside0.mk (blk_below BK.out (below_alloc (Below.refl v.heap.size v) (.cells #[.int .i64 lx, .int .i64 cx] 30)))
      clear BK
      have BK := BK_
      clear BK_
      have HB_ := Aside0.mk (below_alloc HB.out (.cells #[.int .i64 lx, .int .i64 cx] 30))
      clear HB
      have HB := HB_
      clear HB_
      generalize v.alloc (.cells #[.int .i64 lx, .int .i64 cx] 30) = vy at HB BK BX ⊢
      generalize v.heap.size = NX at BX ⊢
      have c1 := (blk_cell BK.out (k * 4 + 1)).trans HCX.out.2.1
      have c2 := (blk_cell BK.out (k * 4 + 2)).trans HCX.out.2.2.1
      have c3 := (blk_cell BK.out (k * 4 + 3)).trans HCX.out.2.2.2
      (try simp only at c1 c2 c3)
      have d0 := (blk_cell BX.out 0).trans (show _ = some (Value.int .i64 lx) from rfl)
      have d1 := (blk_cell BX.out 1).trans (show _ = some (Value.int .i64 cx) from rfl)
      have hk0 : (0 : Int) ≤ (k : Int) := by omega
      have hk9 : (k : Int) < 9 := by omega
      go_quiet (fail)
      go_wp2
      go_roundw
      case rel => exact ⟨k + 1, by omega, by go_num, ⟨blk_drewN BK.out _⟩, ⟨pw_below_drewN HB.out _⟩⟩
      case measure => simp [intOf]; omega
    · obtain rfl : k = 9 := by omega
      clear BK hlt hk
      go_upto_region 20 with (first | (go_at_call 12; (with_reducible refine (token_Entries.calls (⟨#[97, 92]⟩ : ByteArray) [(⟨false, 1, [(⟨(⟨#[97, 92]⟩ : ByteArray), false, 1, 1⟩ : S23)]⟩ : S45)] 0 0 0 _ en5).mono ?_); rintro e w7 ⟨va5, rfl, hS, hb⟩; have S5 := Aside0.mk hS; have HB_ := Aside0.mk (below_step HB.out hb); clear HB; have HB := HB_; clear HB_ hS hb))
      obtain ⟨ga5, ca5, ea5, _⟩ := Kd.S_form S5.out (by simp)
      replace ea5 : va5 = .slice (some ⟨ga5, 0, none⟩) 1 ca5 := ea5
      subst ea5
      have S5_ := Aside0.mk (Kd.S_alloc S5.out (.cells #[.int .i64 0, .int .i64 0] 30))
      clear S5
      have S5 := S5_
      clear S5_
      have HB_ := Aside0.mk (below_alloc HB.out (.cells #[.int .i64 0, .int .i64 0] 30))
      clear HB
      have HB := HB_
      clear HB_
      generalize w7.alloc (.cells #[.int .i64 0, .int .i64 0] 30) = w7x at HB S5 ⊢
      go_upto_region 21 with (first | (go_at_call 12; (with_reducible refine (token_Entries.calls (⟨#[97, 92, 10, 98]⟩ : ByteArray) [(⟨false, 1, [(⟨(⟨#[97, 92]⟩ : ByteArray), false, 1, 1⟩ : S23)]⟩ : S45), (⟨false, 2, [(⟨(⟨#[98]⟩ : ByteArray), false, 2, 1⟩ : S23)]⟩ : S45)] 0 0 0 _ en6).mono ?_); rintro e w8 ⟨va6, rfl, hS, hb⟩; have S6 := Aside0.mk hS; have S5_ := Aside0.mk (Kd.S_below S5.out hb); clear S5; have S5 := S5_; clear S5_; have HB_ := Aside0.mk (below_step HB.out hb); clear HB; have HB := HB_; clear HB_ hS hb))
      obtain ⟨ga6, ca6, ea6, _⟩ := Kd.S_form S6.out (by simp)
      replace ea6 : va6 = .slice (some ⟨ga6, 0, none⟩) 2 ca6 := ea6
      subst ea6
      have S5_ := Aside0.mk (Kd.S_alloc S5.out (.cells #[.int .i64 0, .int .i64 0] 30))
      clear S5
      have S5 := S5_
      clear S5_
      have S6_ := Aside0.mk (Kd.S_alloc S6.out (.cells #[.int .i64 0, .int .i64 0] 30))
      clear S6
      have S6 := S6_
      clear S6_
      have HB_ := Aside0.mk (below_alloc HB.out (.cells #[.int .i64 0, .int .i64 0] 30))
      clear HB
      have HB := HB_
      clear HB_
      generalize w8.alloc (.cells #[.int .i64 0, .int .i64 0] 30) = w8x at HB S5 S6 ⊢
      have se := seen_of S5.out
      obtain ⟨b5_0, l5_0, A5_0, c5_0, h5_0, q5_0⟩ := se 0 _ rfl
      obtain ⟨g5_0_0, e_, t0_5_0_0, t1_5_0_0, t2_5_0_0, t3_5_0_0⟩ := q5_0 0 _ rfl
      (first | subst e_ | (injection e_ with e_; injection e_ with e_; subst e_))
      clear q5_0
      simp only [Nat.reduceMul, Nat.reduceAdd, Nat.zero_mul, Nat.zero_add, List.length_cons, List.length_nil] at t0_5_0_0 t1_5_0_0 t2_5_0_0 t3_5_0_0 b5_0 l5_0 h5_0
      clear se
      have se := seen_of S6.out
      obtain ⟨b6_0, l6_0, A6_0, c6_0, h6_0, q6_0⟩ := se 0 _ rfl
      obtain ⟨g6_0_0, e_, t0_6_0_0, t1_6_0_0, t2_6_0_0, t3_6_0_0⟩ := q6_0 0 _ rfl
      (first | subst e_ | (injection e_ with e_; injection e_ with e_; subst e_))
      clear q6_0
      obtain ⟨b6_1, l6_1, A6_1, c6_1, h6_1, q6_1⟩ := se 1 _ rfl
      obtain ⟨g6_1_0, e_, t0_6_1_0, t1_6_1_0, t2_6_1_0, t3_6_1_0⟩ := q6_1 0 _ rfl
      (first | subst e_ | (injection e_ with e_; injection e_ with e_; subst e_))
      clear q6_1
      simp only [Nat.reduceMul, Nat.reduceAdd, Nat.zero_mul, Nat.zero_add, List.length_cons, List.length_nil] at t0_6_0_0 t1_6_0_0 t2_6_0_0 t3_6_0_0 b6_0 l6_0 h6_0 t0_6_1_0 t1_6_1_0 t2_6_1_0 t3_6_1_0 b6_1 l6_1 h6_1
      clear se
      clear S5 S6
      go_upto_region 24 with (first | ((with_reducible refine gate_dst (N := 284) rfl ?_); refine Kd.R_make (Kd.int .u8) _ 5 rfl (N := 284) rfl 37 _ _ rfl (262145 : Int) rfl rfl Try.underlying37 (.int .u8 0) 1 info5 rfl (by decide) (by omega) 0 (ok := fun _ => True) (okp := fun _ => True) rfl (fun _ hk => hk) trivial (by decide) (by decide) (Below.refl _ _) (Nat.le_refl _) ?_; intro vm wm ho hb hg_ hnew_; rw [paren_zero] at ho; have HM := Aside0.mk (Kd.R_lower ho (below_size HB.out)); have HB_ := Aside0.mk (below_step HB.out hb); clear HB; have HB := HB_; clear HB_ ho hb hg_ hnew_))
      clear t0_5_0_0 t1_5_0_0 t2_5_0_0 t3_5_0_0 b5_0 l5_0 h5_0 t0_6_0_0 t1_6_0_0 t2_6_0_0 t3_6_0_0 b6_0 l6_0 h6_0 t0_6_1_0 t1_6_1_0 t2_6_1_0 t3_6_1_0 b6_1 l6_1 h6_1
      obtain ⟨gm, cm, em, hgm, _⟩ := Kd.R_form HM.out (by rw [paren_len (by omega)]; omega)
      rw [paren_len (by omega)] at em
      subst em
      have HGM := Aside0.mk hgm
      clear hgm
      have hcm := (Kd.R_reads' HM.out).2.1
      go_wp2
      go_loopw [24] (fun i wr => ∃ k : Nat, k ≤ 262145 ∧ i = .int .i64 k ∧ Aside0 (Kd.R (Kd.int .u8) 5 wr w.heap.size (fun _ => True) (.slice (some ⟨gm, 0, none⟩) 262145 cm) (paren k)) ∧ Aside0 (Below w.heap.size w wr)) (fun i _ => 262145 - (intOf i).toNat)
      case atStart => exact ⟨0, Nat.zero_le _, rfl, HM, HB⟩
      case round =>
        clear HM HB
        obtain ⟨k, hk, rfl, HM, HB⟩ := hrel
        by_cases hlt : k < 262145
        · obtain ⟨c0, f0⟩ := Kd.R_celln 0 HM.out (k : Int) (by omega) (by omega)
          rw [Int.toNat_natCast] at c0 f0
          generalize (rdOf _ _ _) = z0_ at c0
          have hk0 : (0 : Int) ≤ (k : Int) := by omega
          have hk9 : (k : Int) < 262145 := by omega
          go_wp2
          go_roundw
          case rel =>
            have p := Kd.R_putn HM.out (k : Int) 41
            rw [Int.toNat_natCast, paren_set hlt] at p
            exact ⟨k + 1, by omega, by go_num, ⟨p⟩, ⟨below_set HB.out HGM.out⟩⟩
          case measure => simp [intOf]; omega
        · obtain rfl : k = 262145 := by omega
          clear hlt hk
          rw [paren_all] at HM
          have hCM := (Kd.R_reads' HM.out).2.2
          rw [List.length_replicate] at hCM
          have hcv : (convert 37 9 (.slice (some ⟨gm, 0, none⟩) 262145 cm)).run Try.prog wr = .ok (.string (strOfNums (List.replicate 262145 41))) wr := Kd.C_string Try.underlying37 Try.underlying5 Try.underlying9 hCM
          have hz1 : (strOfNums (List.replicate 262145 41)).size = 262145 := by rw [strOfNums_size, List.length_replicate]
          generalize strOfNums (List.replicate 262145 41) = P1 at hcv hz1
          have HP1 := Aside0.mk (big_says hz1)
          clear hz1
          go_upto_region 29 with (first | (go_at_call 12; (with_reducible refine (token_Entries.calls P1 [] 0 0 2 _ HP1.out).mono ?_); rintro e w9 ⟨va9, rfl, hS, hb⟩; have S9 := Aside0.mk hS; have HM_ := Aside0.mk (Kd.R_below HM.out hb); clear HM; have HM := HM_; clear HM_; have HB_ := Aside0.mk (below_step HB.out hb); clear HB; have HB := HB_; clear HB_ hS hb))
          clear hcv HP1
          obtain ⟨a9, c9, e9⟩ := Kd.S_slice S9.out
          replace e9 : va9 = .slice a9 0 c9 := e9
          subst e9
          clear S9
          have B9 := Aside0.mk (show (w9.alloc (.cells #[.int .i64 0, .int .i64 0] 30)).heap[w9.heap.size]? = some (.cells #[.int .i64 0, .int .i64 0] 30 (0, 0)) from blk_new w9 _)
          have HM_ := Aside0.mk (Kd.R_alloc HM.out (.cells #[.int .i64 0, .int .i64 0] 30))
          clear HM
          have HM := HM_
          clear HM_
          have HB_ := Aside0.mk (below_alloc HB.out (.cells #[.int .i64 0, .int .i64 0] 30))
          clear HB
          have HB := HB_
          clear HB_
          generalize w9.alloc (.cells #[.int .i64 0, .int .i64 0] 30) = w9x at HB HM B9 ⊢
          generalize w9.heap.size = N9 at B9 ⊢
          have hCM2 := (Kd.R_reads' HM.out).2.2
          have hc1 : ¬ cm = 1 := by omega
          have hcI : ¬ (cm : Int) = 1 := by omega
          have hcJ : (1 : Int) ≤ (cm : Int) := by omega
          have hCD := Kd.C_drop (m := 1) (c := cm) hCM2 (by rw [List.length_replicate]; omega) (by rw [List.length_replicate]; omega)
          rw [if_neg hc1, List.drop_replicate, List.length_replicate] at hCD
          have hcv : ∀ c, (convert 37 9 (.slice (some ⟨gm, 1, none⟩) 262144 c)).run Try.prog w9x = .ok (.string (strOfNums (List.replicate 262144 41))) w9x := fun c => Kd.C_string Try.underlying37 Try.underlying5 Try.underlying9 hCD
          have hz2 : (strOfNums (List.replicate 262144 41)).size ≤ 262144 := by rw [strOfNums_size, List.length_replicate]; omega
          have hb2 := byte41 262144
          rw [show List.replicate 262144 (41 : Int) = 41 :: List.replicate 262143 41 from List.replicate_succ (n := 262143)] at hb2
          have HP2 := Aside0.mk (most_says hb2 (by rw [← show List.replicate 262144 (41 : Int) = 41 :: List.replicate 262143 41 from List.replicate_succ (n := 262143)]; exact hz2))
          rw [← show List.replicate 262144 (41 : Int) = 41 :: List.replicate 262143 41 from List.replicate_succ (n := 262143)] at HP2
          clear hb2 hz2 hCD hCM2 hCM
          generalize strOfNums (List.replicate 262144 41) = P2 at hcv HP2
          go_upto_region 30 with (first | (go_at_call 12; (with_reducible refine (token_Entries.calls P2 [] 1 1 81 _ HP2.out).mono ?_); rintro e w10 ⟨va10, rfl, hS, hb⟩; have S10 := Aside0.mk hS; have B9_ := Aside0.mk (blk_below B9.out hb); clear B9; have B9 := B9_; clear B9_; have HB_ := Aside0.mk (below_step HB.out hb); clear HB; have HB := HB_; clear HB_ hS hb))
          obtain ⟨a10, c10, e10⟩ := Kd.S_slice S10.out
          replace e10 : va10 = .slice a10 0 c10 := e10
          subst e10
          clear S10 hcv HP2 HM
          have B10 := Aside0.mk (show (w10.alloc (.cells #[.int .i64 1, .int .i64 1] 30)).heap[w10.heap.size]? = some (.cells #[.int .i64 1, .int .i64 1] 30 (0, 0)) from blk_new w10 _)
          have B9_ := Aside0.mk (blk_below B9.out (below_alloc (Below.refl w10.heap.size w10) (.cells #[.int .i64 1, .int .i64 1] 30)))
          clear B9
          have B9 := B9_
          clear B9_
          have HB_ := Aside0.mk (below_alloc HB.out (.cells #[.int .i64 1, .int .i64 1] 30))
          clear HB
          have HB := HB_
          clear HB_
          generalize w10.alloc (.cells #[.int .i64 1, .int .i64 1] 30) = w11 at HB B9 B10 ⊢
          generalize w10.heap.size = N10 at B10 ⊢
          have d0 := (blk_cell B9.out 0).trans (show _ = some (Value.int .i64 0) from rfl)
          have d1 := (blk_cell B9.out 1).trans (show _ = some (Value.int .i64 0) from rfl)
          have d2 := (blk_cell B10.out 0).trans (show _ = some (Value.int .i64 1) from rfl)
          have d3 := (blk_cell B10.out 1).trans (show _ = some (Value.int .i64 1) from rfl)
          clear B9 B10
          go_wp2_with (first | (go_at_call 10; (with_reducible refine (token_Value.calls (⟨#[97, 92, 46, 98, 92, 48, 54, 53]⟩ : ByteArray) false 0 0 (⟨#[97, 46, 98, 65]⟩ : ByteArray) 0 _ val0).mono ?_); rintro e v ⟨rfl, hb⟩; have HB_ := Aside0.mk (below_step HB.out hb); clear HB; have HB := HB_; clear HB_ hb d0 d1 d2 d3) | (go_at_call 10; (with_reducible refine (token_Value.calls (⟨#[97, 92]⟩ : ByteArray) false 0 0 (⟨#[]⟩ : ByteArray) 12 _ val1).mono ?_); rintro e v ⟨rfl, hb⟩; have HB_ := Aside0.mk (below_step HB.out hb); clear HB; have HB := HB_; clear HB_ hb ) | (go_at_call 10; (with_reducible refine (token_Value.calls (⟨#[92, 50, 53]⟩ : ByteArray) false 0 0 (⟨#[]⟩ : ByteArray) 12 _ val2).mono ?_); rintro e v ⟨rfl, hb⟩; have HB_ := Aside0.mk (below_step HB.out hb); clear HB; have HB := HB_; clear HB_ hb ) | (go_at_call 10; (with_reducible refine (token_Value.calls (⟨#[92, 50, 53, 54]⟩ : ByteArray) false 0 0 (⟨#[]⟩ : ByteArray) 12 _ val3).mono ?_); rintro e v ⟨rfl, hb⟩; have HB_ := Aside0.mk (below_step HB.out hb); clear HB; have HB := HB_; clear HB_ hb ) | (go_at_call 15; (with_reducible refine (hearsaylaw08_reads.calls true _ reads_f).mono ?_); rintro e v ⟨rfl, hb⟩; have HB_ := Aside0.mk (below_step HB.out hb); clear HB; have HB := HB_; clear HB_ hb))
          go_ret
          exact ⟨rfl, HB.out⟩
end Go.Proofs.Ytafminohaofjnaa.Print
