/- The statement RewriteKnown, walked. -/
import Derived.Test.YtfcmphigmfdceaaXKnownM
import Derived.Test.YtfcmphigmfdceaaXBits
import Derived.Test.YtfcmphigmfdceaaWTab
import Derived.Test.YtfcmphigmfdceaaEq32
namespace Go.Proofs.Ytfcmphigmfdceaa.Print
open Go.RowKit Go.Proofs.YtfcmphigmfdceaaW.PrintWords Go.Proofs.YtfcmphigmfdceaaW.PrintLast Go.Proofs.YtfcmphigmfdceaaW.PrintMore
set_option linter.unusedVariables false
set_option linter.unusedSimpArgs false
theorem nv_0 : hearsaylaw25_named.f 60 (⟨#[97, 46]⟩ : ByteArray) = some (⟨#[1, 97, 0]⟩ : ByteArray) := by decide +kernel
theorem nv_1 : hearsaylaw25_named.f 60 (⟨#[98, 46]⟩ : ByteArray) = some (⟨#[1, 98, 0]⟩ : ByteArray) := by decide +kernel
theorem nv_2 : hearsaylaw25_named.f 60 (⟨#[99, 46]⟩ : ByteArray) = some (⟨#[1, 99, 0]⟩ : ByteArray) := by decide +kernel
theorem nv_3 : hearsaylaw25_named.f 60 (⟨#[113, 46]⟩ : ByteArray) = some (⟨#[1, 113, 0]⟩ : ByteArray) := by decide +kernel
theorem nv_4 : hearsaylaw25_named.f 60 (⟨#[81, 46, 97, 46]⟩ : ByteArray) = some (⟨#[1, 81, 1, 97, 0]⟩ : ByteArray) := by decide +kernel
theorem nv_5 : hearsaylaw25_named.f 60 (⟨#[66, 46]⟩ : ByteArray) = some (⟨#[1, 66, 0]⟩ : ByteArray) := by decide +kernel
def nm (s : ByteArray) : ByteArray := (hearsaylaw25_named.f 60 s).getD ⟨#[]⟩
def isNm (s : ByteArray) : Bool := (hearsaylaw25_named.f 60 s).isSome
theorem nm_of {s : ByteArray} (h : isNm s = true) : hearsaylaw25_named.f 60 s = some (nm s) := by
  unfold isNm at h
  unfold nm
  cases e : hearsaylaw25_named.f 60 s with
  | none => rw [e] at h; cases h
  | some y => rfl
def askR (x : S62) : S32 × Bool := askP [⟨x.f0, nm x.f1, nm x.f2, 0, 0⟩] ⟨nm x.f3, 5, 3⟩
def rowOk (x : S62) : Bool := isNm x.f1 && isNm x.f2 && isNm x.f3 &&
  (if x.f4.size = 0 then decide ((askR x).1.f0 = ⟨#[]⟩) && decide ((askR x).1.f1 = 0) && decide ((askR x).1.f2 = 0) && !(askR x).2 else isNm x.f4 && decide ((askR x).1.f0 = nm x.f4) && decide ((askR x).1.f1 = 5) && decide ((askR x).1.f2 = 3) && (askR x).2)
def rowsK : List S62 := [(⟨1, (⟨#[97, 46, 98, 46]⟩ : ByteArray), (⟨#[99, 46]⟩ : ByteArray), (⟨#[65, 46, 98, 46]⟩ : ByteArray), (⟨#[99, 46]⟩ : ByteArray)⟩ : S62), (⟨1, (⟨#[97, 46, 98, 46]⟩ : ByteArray), (⟨#[99, 46]⟩ : ByteArray), (⟨#[120, 46, 97, 46, 98, 46]⟩ : ByteArray), (⟨#[]⟩ : ByteArray)⟩ : S62), (⟨2, (⟨#[98, 46]⟩ : ByteArray), (⟨#[99, 46, 100, 46]⟩ : ByteArray), (⟨#[88, 46, 97, 46, 66, 46]⟩ : ByteArray), (⟨#[88, 46, 97, 46, 99, 46, 100, 46]⟩ : ByteArray)⟩ : S62), (⟨2, (⟨#[98, 46]⟩ : ByteArray), (⟨#[99, 46, 100, 46]⟩ : ByteArray), (⟨#[98, 46]⟩ : ByteArray), (⟨#[99, 46, 100, 46]⟩ : ByteArray)⟩ : S62), (⟨2, (⟨#[98, 46]⟩ : ByteArray), (⟨#[99, 46, 100, 46]⟩ : ByteArray), (⟨#[98, 98, 46]⟩ : ByteArray), (⟨#[]⟩ : ByteArray)⟩ : S62), (⟨3, (⟨#[97, 46]⟩ : ByteArray), (⟨#[98, 46, 99, 46]⟩ : ByteArray), (⟨#[65, 46, 120, 46]⟩ : ByteArray), (⟨#[98, 46, 99, 46, 120, 46]⟩ : ByteArray)⟩ : S62), (⟨3, (⟨#[97, 46]⟩ : ByteArray), (⟨#[98, 46, 99, 46]⟩ : ByteArray), (⟨#[120, 46, 97, 46]⟩ : ByteArray), (⟨#[]⟩ : ByteArray)⟩ : S62), (⟨3, (⟨#[97, 46]⟩ : ByteArray), (⟨#[98, 46, 99, 46]⟩ : ByteArray), (⟨#[97, 46]⟩ : ByteArray), (⟨#[98, 46, 99, 46]⟩ : ByteArray)⟩ : S62), (⟨3, (⟨#[46]⟩ : ByteArray), (⟨#[98, 46]⟩ : ByteArray), (⟨#[120, 46]⟩ : ByteArray), (⟨#[98, 46, 120, 46]⟩ : ByteArray)⟩ : S62), (⟨2, (⟨#[46]⟩ : ByteArray), (⟨#[98, 46]⟩ : ByteArray), (⟨#[120, 46]⟩ : ByteArray), (⟨#[120, 46, 98, 46]⟩ : ByteArray)⟩ : S62), (⟨1, (⟨#[46]⟩ : ByteArray), (⟨#[46]⟩ : ByteArray), (⟨#[46]⟩ : ByteArray), (⟨#[46]⟩ : ByteArray)⟩ : S62), (⟨3, (⟨#[97, 46, 98, 46]⟩ : ByteArray), (⟨#[46]⟩ : ByteArray), (⟨#[97, 46]⟩ : ByteArray), (⟨#[]⟩ : ByteArray)⟩ : S62), (⟨3, (⟨#[97, 46, 98, 46]⟩ : ByteArray), (⟨#[46]⟩ : ByteArray), (⟨#[97, 46, 66, 46, 99, 46]⟩ : ByteArray), (⟨#[99, 46]⟩ : ByteArray)⟩ : S62)]
theorem rows_ok : rowsK.all rowOk = true := by decide +kernel
theorem row_says {x : S62} (h : rowOk x = true) : isNm x.f1 = true ∧ isNm x.f2 = true ∧ isNm x.f3 = true ∧
    ((x.f4.size = 0 ∧ askP [⟨x.f0, nm x.f1, nm x.f2, 0, 0⟩] ⟨nm x.f3, 5, 3⟩ = (⟨⟨#[]⟩, 0, 0⟩, false)) ∨ (¬ x.f4.size = 0 ∧ isNm x.f4 = true ∧ askP [⟨x.f0, nm x.f1, nm x.f2, 0, 0⟩] ⟨nm x.f3, 5, 3⟩ = (⟨nm x.f4, 5, 3⟩, true))) := by
  unfold rowOk at h
  simp only [Bool.and_eq_true] at h
  obtain ⟨⟨⟨h1, h2⟩, h3⟩, h4⟩ := h
  refine ⟨h1, h2, h3, ?_⟩
  show (x.f4.size = 0 ∧ askR x = _) ∨ (¬ x.f4.size = 0 ∧ isNm x.f4 = true ∧ askR x = _)
  by_cases h0 : x.f4.size = 0
  · rw [if_pos h0] at h4
    simp only [Bool.and_eq_true, decide_eq_true_eq, Bool.not_eq_true'] at h4
    obtain ⟨⟨⟨a0, a1⟩, a2⟩, a3⟩ := h4
    refine Or.inl ⟨h0, ?_⟩
    generalize askR x = t at a0 a1 a2 a3
    obtain ⟨⟨t0, t1, t2⟩, tb⟩ := t
    simp only at a0 a1 a2 a3
    rw [a0, a1, a2, a3]
  · rw [if_neg h0] at h4
    simp only [Bool.and_eq_true, decide_eq_true_eq] at h4
    obtain ⟨⟨⟨⟨an, a0⟩, a1⟩, a2⟩, a3⟩ := h4
    refine Or.inr ⟨h0, an, ?_⟩
    generalize askR x = t at a0 a1 a2 a3
    obtain ⟨⟨t0, t1, t2⟩, tb⟩ := t
    simp only at a0 a1 a2 a3
    rw [a0, a1, a2, a3]
theorem empty_of {s : ByteArray} (h : s.size = 0) : s = ⟨#[]⟩ := by
  have h2 : s = ByteArray.empty := by simpa using h
  exact h2
def labK : ByteArray := (⟨#[63, 97, 97, 97, 97, 97, 97, 97, 97, 97, 97, 97, 97, 97, 97, 97, 97, 97, 97, 97, 97, 97, 97, 97, 97, 97, 97, 97, 97, 97, 97, 97, 97, 97, 97, 97, 97, 97, 97, 97, 97, 97, 97, 97, 97, 97, 97, 97, 97, 97, 97, 97, 97, 97, 97, 97, 97, 97, 97, 97, 97, 97, 97, 97]⟩ : ByteArray)
theorem nk_full : askP [(⟨2, (labK ++ labK ++ labK ++ (⟨#[0]⟩ : ByteArray)), (labK ++ labK ++ labK ++ (⟨#[61, 98, 98, 98, 98, 98, 98, 98, 98, 98, 98, 98, 98, 98, 98, 98, 98, 98, 98, 98, 98, 98, 98, 98, 98, 98, 98, 98, 98, 98, 98, 98, 98, 98, 98, 98, 98, 98, 98, 98, 98, 98, 98, 98, 98, 98, 98, 98, 98, 98, 98, 98, 98, 98, 98, 98, 98, 98, 98, 98, 98, 98, 0]⟩ : ByteArray)), 0, 0⟩ : S38), (⟨2, (labK ++ labK ++ labK ++ (⟨#[0]⟩ : ByteArray)), ((⟨#[1, 122]⟩ : ByteArray) ++ (labK ++ labK ++ labK ++ (⟨#[0]⟩ : ByteArray))), 0, 0⟩ : S38), (⟨1, (labK ++ labK ++ labK ++ (⟨#[0]⟩ : ByteArray)), (⟨#[1, 113, 0]⟩ : ByteArray), 0, 0⟩ : S38)] ⟨(⟨#[1, 120]⟩ : ByteArray) ++ (labK ++ labK ++ labK ++ (⟨#[0]⟩ : ByteArray)), 0, 0⟩ = (⟨(⟨#[1, 120, 1, 122]⟩ : ByteArray) ++ (labK ++ labK ++ labK ++ (⟨#[0]⟩ : ByteArray)), 0, 0⟩, true) := by kernel_rfl
theorem nk_two : askP [(⟨1, (⟨#[1, 97, 0]⟩ : ByteArray), (⟨#[1, 98, 0]⟩ : ByteArray), 0, 0⟩ : S38), (⟨1, (⟨#[1, 98, 0]⟩ : ByteArray), (⟨#[1, 99, 0]⟩ : ByteArray), 0, 0⟩ : S38)] ⟨(⟨#[1, 97, 0]⟩ : ByteArray), 0, 0⟩ = (⟨(⟨#[1, 98, 0]⟩ : ByteArray), 0, 0⟩, true) := by kernel_rfl
theorem nk_knd : askP [(⟨4, (⟨#[]⟩ : ByteArray), (⟨#[]⟩ : ByteArray), 1, 28⟩ : S38)] ⟨(⟨#[1, 97, 0]⟩ : ByteArray), 1, 1⟩ = (⟨(⟨#[1, 97, 0]⟩ : ByteArray), 28, 1⟩, true) := by kernel_rfl
theorem bad_says : ∀ x ∈ ([(⟨0, (⟨#[]⟩ : ByteArray), (⟨#[]⟩ : ByteArray), 0, 0⟩ : S38), (⟨5, (⟨#[1, 97, 0]⟩ : ByteArray), (⟨#[1, 98, 0]⟩ : ByteArray), 0, 0⟩ : S38), (⟨1, (⟨#[1, 97, 0]⟩ : ByteArray), (⟨#[1, 98, 0]⟩ : ByteArray), 1, 0⟩ : S38), (⟨2, (⟨#[1, 97, 0]⟩ : ByteArray), (⟨#[1, 98, 0]⟩ : ByteArray), 0, 1⟩ : S38), (⟨4, (⟨#[1, 97, 0]⟩ : ByteArray), (⟨#[]⟩ : ByteArray), 1, 1⟩ : S38), (⟨4, (⟨#[]⟩ : ByteArray), (⟨#[]⟩ : ByteArray), 1, 0⟩ : S38), (⟨4, (⟨#[]⟩ : ByteArray), (⟨#[]⟩ : ByteArray), 0, 1⟩ : S38), (⟨3, (⟨#[1, 97, 0]⟩ : ByteArray), (⟨#[]⟩ : ByteArray), 0, 0⟩ : S38), (⟨3, (⟨#[]⟩ : ByteArray), (⟨#[1, 97, 0]⟩ : ByteArray), 0, 0⟩ : S38)] : List S38), checkP [(⟨1, (⟨#[1, 97, 0]⟩ : ByteArray), (⟨#[1, 98, 0]⟩ : ByteArray), 0, 0⟩ : S38), x] = 250 := by decide +kernel
theorem check_calls3 (A0 : Option Addr) (len c0 : Nat) (l0 : List S38) (hlen : l0.length = len) (r : Int) (w : World) (hr0 : Kd.C k38 w A0 len l0) (hc0 : len ≤ c0) (h : checkP l0 = r) :
    Calls Try.prog 12 #[.slice A0 len c0] w fun e w' => e = .returned (.int .i64 r) ∧ Below w.heap.size w w' := by
  subst hlen h
  obtain ⟨k, hk⟩ := (rcheck_f l0).rounds
  exact rewrite_Check.calls k A0 c0 l0 _ w hr0 hc0 hk
theorem chk_nil : checkP ([] : List S38) = 0 := by kernel_rfl
theorem chk_most : checkP (List.replicate 32 (⟨1, (⟨#[1, 97, 0]⟩ : ByteArray), (⟨#[1, 98, 0]⟩ : ByteArray), 0, 0⟩ : S38)) = 0 := by kernel_rfl
theorem chk_more (x : S38) : checkP (List.replicate 32 (⟨1, (⟨#[1, 97, 0]⟩ : ByteArray), (⟨#[1, 98, 0]⟩ : ByteArray), 0, 0⟩ : S38) ++ [x]) = 2 := by unfold checkP; rw [if_pos (by simp)]
theorem C_nil38 (w : World) : Kd.C k38 w none 0 [] := Kd.C_nil k38 w
theorem nk_no : askP [(⟨1, (⟨#[1, 97, 0]⟩ : ByteArray), (⟨#[1, 98, 0]⟩ : ByteArray), 0, 0⟩ : S38)] ⟨(⟨#[97, 46]⟩ : ByteArray), 0, 0⟩ = (⟨(⟨#[]⟩ : ByteArray), 0, 0⟩, false) := by kernel_rfl
theorem back_known (A : Option Addr) (c : Nat) (A4 : Option Addr) (c4 : Nat) (w : World) (hC : Kd.C k59 w A 2 [(⟨(⟨#[1, 66, 0]⟩ : ByteArray), 0, 0, 0, (⟨(⟨#[]⟩ : ByteArray), (⟨#[]⟩ : ByteArray), (⟨#[]⟩ : ByteArray), (⟨0, 0, 0, 0, 0⟩ : S55)⟩ : S57)⟩ : S59), (⟨(⟨#[1, 99, 0]⟩ : ByteArray), 0, 0, 0, (⟨(⟨#[]⟩ : ByteArray), (⟨#[]⟩ : ByteArray), (⟨#[]⟩ : ByteArray), (⟨0, 0, 0, 0, 0⟩ : S55)⟩ : S57)⟩ : S59)]) (hc : 2 ≤ c) (hC4 : Kd.C k59 w A4 1 [(⟨(⟨#[1, 98, 0]⟩ : ByteArray), 0, 0, 0, (⟨(⟨#[]⟩ : ByteArray), (⟨#[]⟩ : ByteArray), (⟨#[]⟩ : ByteArray), (⟨0, 0, 0, 0, 0⟩ : S55)⟩ : S57)⟩ : S59)]) (hc4 : 1 ≤ c4) :
    Calls Try.prog 22 #[.agg #[.string (⟨#[1, 81, 1, 97, 0]⟩ : ByteArray), .int .u16 0, .int .u16 0], .agg #[.string (⟨#[1, 98, 0]⟩ : ByteArray), .int .u16 0, .int .u16 0], .agg #[.int .u16 3, .bool true, .slice A 2 c, .slice none 0 0, .slice A4 1 c4]] w fun e w' =>
      ∃ (E2 : Option Addr) (e2 : Nat) (E3 : Option Addr) (e3 : Nat) (E4 : Option Addr) (e4 : Nat), e = .returned (.agg #[.int .u16 3, .bool true, .slice E2 2 e2, .slice E3 0 e3, .slice E4 1 e4]) ∧ 2 ≤ e2 ∧ 1 ≤ e4 ∧ Kd.C k59 w' E2 2 [(⟨(⟨#[1, 81, 1, 97, 0]⟩ : ByteArray), 0, 0, 0, (⟨(⟨#[]⟩ : ByteArray), (⟨#[]⟩ : ByteArray), (⟨#[]⟩ : ByteArray), (⟨0, 0, 0, 0, 0⟩ : S55)⟩ : S57)⟩ : S59), (⟨(⟨#[1, 99, 0]⟩ : ByteArray), 0, 0, 0, (⟨(⟨#[]⟩ : ByteArray), (⟨#[]⟩ : ByteArray), (⟨#[]⟩ : ByteArray), (⟨0, 0, 0, 0, 0⟩ : S55)⟩ : S57)⟩ : S59)] ∧ Kd.C k59 w' E4 1 [(⟨(⟨#[1, 98, 0]⟩ : ByteArray), 0, 0, 0, (⟨(⟨#[]⟩ : ByteArray), (⟨#[]⟩ : ByteArray), (⟨#[]⟩ : ByteArray), (⟨0, 0, 0, 0, 0⟩ : S55)⟩ : S57)⟩ : S59)] ∧ Below w.heap.size w w' := by
  have hm : ([(⟨(⟨#[1, 66, 0]⟩ : ByteArray), 0, 0, 0, (⟨(⟨#[]⟩ : ByteArray), (⟨#[]⟩ : ByteArray), (⟨#[]⟩ : ByteArray), (⟨0, 0, 0, 0, 0⟩ : S55)⟩ : S57)⟩ : S59), (⟨(⟨#[1, 99, 0]⟩ : ByteArray), 0, 0, 0, (⟨(⟨#[]⟩ : ByteArray), (⟨#[]⟩ : ByteArray), (⟨#[]⟩ : ByteArray), (⟨0, 0, 0, 0, 0⟩ : S55)⟩ : S57)⟩ : S59)] : List S59).map (turnP (⟨#[1, 81, 1, 97, 0]⟩ : ByteArray) (⟨#[1, 98, 0]⟩ : ByteArray)) = [(⟨(⟨#[1, 81, 1, 97, 0]⟩ : ByteArray), 0, 0, 0, (⟨(⟨#[]⟩ : ByteArray), (⟨#[]⟩ : ByteArray), (⟨#[]⟩ : ByteArray), (⟨0, 0, 0, 0, 0⟩ : S55)⟩ : S57)⟩ : S59), (⟨(⟨#[1, 99, 0]⟩ : ByteArray), 0, 0, 0, (⟨(⟨#[]⟩ : ByteArray), (⟨#[]⟩ : ByteArray), (⟨#[]⟩ : ByteArray), (⟨0, 0, 0, 0, 0⟩ : S55)⟩ : S57)⟩ : S59)] := by kernel_rfl
  obtain ⟨kb, hkb⟩ := (back_f ⟨(⟨#[1, 81, 1, 97, 0]⟩ : ByteArray), 0, 0⟩ ⟨(⟨#[1, 98, 0]⟩ : ByteArray), 0, 0⟩ 3 true [(⟨(⟨#[1, 66, 0]⟩ : ByteArray), 0, 0, 0, (⟨(⟨#[]⟩ : ByteArray), (⟨#[]⟩ : ByteArray), (⟨#[]⟩ : ByteArray), (⟨0, 0, 0, 0, 0⟩ : S55)⟩ : S57)⟩ : S59), (⟨(⟨#[1, 99, 0]⟩ : ByteArray), 0, 0, 0, (⟨(⟨#[]⟩ : ByteArray), (⟨#[]⟩ : ByteArray), (⟨#[]⟩ : ByteArray), (⟨0, 0, 0, 0, 0⟩ : S55)⟩ : S57)⟩ : S59)] [] [(⟨(⟨#[1, 98, 0]⟩ : ByteArray), 0, 0, 0, (⟨(⟨#[]⟩ : ByteArray), (⟨#[]⟩ : ByteArray), (⟨#[]⟩ : ByteArray), (⟨0, 0, 0, 0, 0⟩ : S55)⟩ : S57)⟩ : S59)] (by simp) (by simp) (by simp) (by decide) (by intro r hr; simp at hr; rcases hr with rfl | rfl <;> decide)).rounds
  rw [hm] at hkb
  have hnil := (Kd.R_reads' (Kd.R_nil k59 59 w 0 (fun _ => True))).2.2
  refine (rewrite_Back.calls kb _ _ _ _ _ _ _ _ A c [(⟨(⟨#[1, 66, 0]⟩ : ByteArray), 0, 0, 0, (⟨(⟨#[]⟩ : ByteArray), (⟨#[]⟩ : ByteArray), (⟨#[]⟩ : ByteArray), (⟨0, 0, 0, 0, 0⟩ : S55)⟩ : S57)⟩ : S59), (⟨(⟨#[1, 99, 0]⟩ : ByteArray), 0, 0, 0, (⟨(⟨#[]⟩ : ByteArray), (⟨#[]⟩ : ByteArray), (⟨#[]⟩ : ByteArray), (⟨0, 0, 0, 0, 0⟩ : S55)⟩ : S57)⟩ : S59)] none 0 [] A4 c4 [(⟨(⟨#[1, 98, 0]⟩ : ByteArray), 0, 0, 0, (⟨(⟨#[]⟩ : ByteArray), (⟨#[]⟩ : ByteArray), (⟨#[]⟩ : ByteArray), (⟨0, 0, 0, 0, 0⟩ : S55)⟩ : S57)⟩ : S59)] _ _ _ _ _ w hC hc hnil (Nat.le_refl _) hC4 hc4 hkb).mono ?_
  rintro e w' ⟨v2, v3, v4, rfl, h2, h3, h4, hb⟩
  obtain ⟨E2, e2, rfl, le2, hE2⟩ := Kd.R_reads h2
  obtain ⟨E3, e3, rfl, le3, hE3⟩ := Kd.R_reads h3
  obtain ⟨E4, e4, rfl, le4, hE4⟩ := Kd.R_reads h4
  exact ⟨E2, e2, E3, e3, E4, e4, rfl, le2, le4, hE2, hE4, hb⟩
def known.T5 : Bool × List (List Nat × List Nat) := (true, [([], []), ([], []), ([0, 1], [0, 1]), ([2], [2]), ([3], [3]), ([], []), ([], []), ([5, 6], [5, 6]), ([7], [7]), ([8], [8]), ([9], [9]), ([], []), ([], []), ([11, 12], [11, 12]), ([13], [13]), ([14], [14]), ([15, 10], [15]), ([4, 10, 16], [4, 10, 16]), ([17], [17]), ([], []), ([], []), ([19, 20], [19, 20]), ([21], [21]), ([22], [22]), ([23, 16], [23]), ([24], [24]), ([18, 25, 24], [18, 25]), ([26], [26]), ([27], [27]), ([27], [27]), ([], []), ([30, 28, 26, 0, 1, 2, 3, 4, 5, 6, 7, 8, 9, 10, 11, 12, 13, 14, 15, 16, 17, 18, 19, 20, 21, 22, 23, 24, 25, 26, 27, 28, 30], [28, 30]), ([29, 31, 0, 1, 2, 3, 4, 5, 6, 7, 8, 9, 10, 11, 12, 13, 14, 15, 16, 17, 18, 19, 20, 21, 22, 23, 24, 25, 26, 27, 28, 29, 30, 31], [29])])
def known.B5 : List Nat := [0, 0, 3, 7, 15, 0, 0, 96, 224, 480, 992, 0, 0, 6144, 14336, 30720, 65504, 131071, 262143, 0, 0, 1572864, 3670016, 7864320, 16383968, 33161184, 67108863, 134217727, 268435455, 268435455, 0, 1610612735, 4294967295]
theorem known.tab5 : rtab .any (opsOf Try.f9 5) = known.T5 := by kernel_rfl
theorem known.bits5 : waitsOk known.T5.2 known.B5 = true := by kernel_rfl
def known.T14 : Bool × List (List Nat × List Nat) := (true, [([], []), ([0], [0]), ([1], [1]), ([2], [2]), ([3, 2], [2, 3]), ([2, 2], [2]), ([4, 5, 2], [2, 4, 5]), ([2, 6], [2, 6]), ([7, 5], [7]), ([8], [8]), ([9, 8], [8, 9]), ([8, 10], [8, 10]), ([11, 8], [11]), ([12], [12]), ([12, 12], [12]), ([14, 12], [12, 14]), ([13, 15, 12], [12, 13, 15]), ([12, 16], [12, 16])])
def known.B14 : List Nat := [0, 1, 3, 7, 15, 7, 63, 127, 255, 511, 1023, 2047, 4095, 8191, 8191, 24575, 65535, 131071]
theorem known.tab14 : rtab .any (opsOf Try.f9 14) = known.T14 := by kernel_rfl
theorem known.bits14 : waitsOk known.T14.2 known.B14 = true := by kernel_rfl
def known.T26 : Bool × List (List Nat × List Nat) := (true, [([], []), ([0], [0]), ([1], [1]), ([2], [2]), ([3], [3]), ([4, 3], [3, 4]), ([5, 3], [3, 5]), ([3, 6], [3, 6]), ([7, 3], [7]), ([8], [8]), ([9, 8], [8, 9]), ([10, 8], [8, 10]), ([11, 8], [8, 11]), ([8, 12], [8, 12]), ([13, 8], [13]), ([14], [14]), ([15, 14], [14, 15]), ([16, 14], [14, 16]), ([17, 14], [14, 17]), ([18, 14], [14, 18]), ([14, 14], [14]), ([19, 20, 14], [14, 19, 20]), ([14, 21], [14, 21]), ([22, 20], [22]), ([23], [23]), ([24, 23], [23, 24]), ([25, 23], [23, 25]), ([26, 23], [23, 26]), ([27, 23], [23, 27]), ([23, 23], [23]), ([28, 29, 23], [23, 28, 29]), ([23, 30], [23, 30]), ([31, 29], [31]), ([32], [32]), ([33, 32], [32, 33]), ([34, 32], [32, 34]), ([35, 32], [32, 35]), ([32, 36], [32, 36]), ([37, 32], [37]), ([38], [38]), ([39, 38], [38, 39]), ([40, 38], [38, 40]), ([41, 38], [38, 41]), ([42, 38], [38, 42]), ([38, 38], [38]), ([43, 44, 38], [38, 43, 44]), ([38, 45], [38, 45])])
def known.B26 : List Nat := [0, 1, 3, 7, 15, 31, 63, 127, 255, 511, 1023, 2047, 4095, 8191, 16383, 32767, 65535, 131071, 262143, 524287, 32767, 2097151, 4194303, 8388607, 16777215, 33554431, 67108863, 134217727, 268435455, 16777215, 1073741823, 2147483647, 4294967295, 8589934591, 17179869183, 34359738367, 68719476735, 137438953471, 274877906943, 549755813887, 1099511627775, 2199023255551, 4398046511103, 8796093022207, 549755813887, 35184372088831, 70368744177663]
theorem known.tab26 : rtab .any (opsOf Try.f9 26) = known.T26 := by kernel_rfl
theorem known.bits26 : waitsOk known.T26.2 known.B26 = true := by kernel_rfl
def known.T37 : Bool × List (List Nat × List Nat) := (true, [([], []), ([0], [0]), ([1], [1]), ([], []), ([], []), ([3, 4], [3, 4]), ([5], [5]), ([2, 6], [2, 6]), ([7], [7]), ([8], [8])])
def known.B37 : List Nat := [0, 1, 3, 0, 0, 24, 56, 127, 255, 511]
theorem known.tab37 : rtab .any (opsOf Try.f9 37) = known.T37 := by kernel_rfl
theorem known.bits37 : waitsOk known.T37.2 known.B37 = true := by kernel_rfl
def known.T39 : Bool × List (List Nat × List Nat) := (true, [([], []), ([0], [0]), ([1, 0], [1]), ([2], [2]), ([3, 2, 2], [2, 3]), ([4, 2], [2, 4]), ([2, 5], [2, 5]), ([6, 4], [6]), ([7], [7]), ([7], [7]), ([8, 9, 7, 7], [7, 8, 9]), ([7], [7]), ([11, 7], [7, 11]), ([12, 7], [7, 12]), ([13, 7], [7, 13]), ([10, 14, 10, 7], [7, 10, 14]), ([15, 15, 7], [7, 15]), ([16, 7], [7, 16]), ([7, 17], [7, 17]), ([18, 16], [18]), ([19, 19], [19]), ([19, 20], [19, 20]), ([21, 20, 0, 1, 2, 3, 4, 5, 6, 7, 8, 9, 10, 11, 12, 13, 14, 15, 16, 17, 18, 19, 20, 21], [21])])
def known.B39 : List Nat := [0, 1, 3, 7, 15, 31, 63, 127, 255, 255, 1023, 255, 2303, 6399, 14591, 32767, 65535, 131071, 262143, 524287, 1048575, 2097151, 4194303]
theorem known.tab39 : rtab .any (opsOf Try.f9 39) = known.T39 := by kernel_rfl
theorem known.bits39 : waitsOk known.T39.2 known.B39 = true := by kernel_rfl
theorem rd_T62_at {l : List S62} {k : Nat} {x : S62} (h : l[k]? = some x) : rd_T62 l (k : Int) = x := by simp [rd_T62, List.getD_eq_getElem?_getD, h]
theorem ask_calls3 (A0 : Option Addr) (len c0 : Nat) (l0 : List S38) (hlen : l0.length = len) (a : ByteArray) (b c : Int) (y : ByteArray) (y1 y2 : Int) (is : Bool) (w : World) (hr0 : Kd.C k38 w A0 len l0) (hc0 : len ≤ c0) (h : askP l0 ⟨a, b, c⟩ = (⟨y, y1, y2⟩, is)) :
    Calls Try.prog 16 #[.slice A0 len c0, .agg #[.string a, .int .u16 b, .int .u16 c]] w
      fun e w' => e = .returned (.tuple #[.agg #[.string y, .int .u16 y1, .int .u16 y2], .bool is]) ∧ Below w.heap.size w w' := by
  subst hlen
  have h1 := ask_calls A0 c0 l0 ⟨a, b, c⟩ w hr0 hc0
  rw [h] at h1
  exact h1
attribute [local go_sem high] eqA32
set_option maxHeartbeats 100000000 in
set_option maxRecDepth 100000 in
theorem known_r37 {Q : Exit → Act → World → Prop} {v0_ v1_ v2_ v3_ v4_ v5_ v6_ v7_ v8_ v9_ v10_ v11_ v12_ v13_ v14_ v15_ v16_ v17_ v18_ v20_ v23_ v24_ v25_ v26_ v27_ v28_ v29_ v30_ v31_ v32_ v33_ v34_ v35_ v36_ v37_ v38_ v39_ v40_ v41_ v42_ v43_ v44_ v45_ v46_ v47_ v48_ v49_ v50_ v51_ v52_ v53_ v54_ v55_ v56_ v57_ v58_ v59_ v60_ v61_ v62_ v63_ v64_ v65_ v66_ v67_ v68_ v69_ v70_ v71_ v72_ v73_ v74_ v75_ v76_ v77_ v78_ v79_ v80_ v81_ v82_ v83_ v84_ v85_ v86_ v87_ v88_ v89_ v90_ v91_ v92_ v93_ v94_ v95_ v96_ v97_ v98_ v99_ v100_ v101_ v102_ v103_ v104_ v105_ v106_ v107_ v108_ v109_ v110_ v111_ v112_ v113_ v114_ v115_ v116_ v117_ v118_ v119_ v120_ v121_ v122_ v123_ v124_ v125_ v126_ v127_ v128_ v129_ v130_ v131_ v132_ v133_ v134_ v135_ v136_ v137_ v138_ v139_ v140_ v141_ v142_ v143_ v144_ v145_ v146_ v147_ v148_ v149_ v150_ v151_ v152_ v153_ v154_ v155_ v156_ v157_ v158_ v159_ v160_ v161_ v162_ v163_ v164_ v165_ v166_ v167_ v168_ v169_ v170_ v171_ v172_ v173_ v174_ v175_ v176_ v177_ v178_ v179_ v180_ v181_ v182_ v183_ v184_ v185_ v186_ v187_ v188_ v189_ v190_ v191_ v192_ v193_ v194_ v195_ v196_ v197_ v198_ v199_ v200_ v201_ v202_ v203_ v204_ v205_ v206_ v207_ v208_ v209_ v210_ v211_ v212_ v213_ v214_ v215_ v216_ v217_ v218_ v219_ v220_ v221_ v222_ v223_ v224_ v225_ v226_ v227_ v228_ v229_ v230_ v231_ v232_ v233_ v234_ v235_ v236_ v237_ v238_ v239_ v240_ v241_ v242_ v243_ v244_ v245_ v246_ v247_ v248_ v249_ v250_ v251_ v252_ v253_ v254_ v255_ v256_ v257_ v258_ v259_ v260_ v261_ v262_ v263_ v264_ v265_ v266_ v267_ v268_ v269_ v270_ v271_ v272_ v273_ v274_ v275_ v276_ v277_ v278_ v279_ v280_ v281_ v282_ v283_ v284_ v285_ v286_ v287_ v288_ v289_ v290_ v291_ v292_ v293_ v294_ v295_ v296_ v297_ v298_ v299_ v300_ v301_ v302_ v303_ v304_ v305_ v306_ v307_ v308_ v309_ v310_ v311_ v312_ v313_ v314_ v315_ v316_ : Value} {A19c A21c : Nat} {ad19 ad21 : Addr} {Bd : List S38} {x : S38} {k : Nat} {wr : World}
    (hP : ∀ (c : List PanicEntry) (a : Act) (N : Option Tmp) (v : Value) (w : World), Q (.panic c) (a.put N v) w → Q (.panic c) a w)
    (hlt : k < 9)
    (hbl : Bd.length = 9)
    (HA19d : Aside0 (Kd.C k38 wr.drew (some ad19) 32 (List.replicate 32 (⟨1, (⟨#[1, 97, 0]⟩ : ByteArray), (⟨#[1, 98, 0]⟩ : ByteArray), 0, 0⟩ : S38)) ∧ 32 ≤ A19c))
    (HA21d : Aside0 (Kd.C k38 wr.drew (some ad21) 9 Bd ∧ 9 ≤ A21c))
    (HXK : Aside0 (Bd[k]? = some x))
    (HCK : Aside0 (checkP [(⟨1, (⟨#[1, 97, 0]⟩ : ByteArray), (⟨#[1, 98, 0]⟩ : ByteArray), 0, 0⟩ : S38), x] = 250))
    (hk : ∀ (u : World) (z285_ z286_ z287_ z288_ z289_ z290_ z291_ z292_ z293_ : Value), (Below wr.drew.heap.size wr.drew u) → Q .normal ⟨#[v0_, v1_, v2_, v3_, v4_, v5_, v6_, v7_, v8_, v9_, v10_, v11_, v12_, v13_, v14_, v15_, v16_, v17_, v18_, .slice (some ad19) 32 A19c, v20_, .slice (some ad21) 9 A21c, .int .i64 (k : Int), v23_, v24_, v25_, v26_, v27_, v28_, v29_, v30_, v31_, v32_, v33_, v34_, v35_, v36_, v37_, v38_, v39_, v40_, v41_, v42_, v43_, v44_, v45_, v46_, v47_, v48_, v49_, v50_, v51_, v52_, v53_, v54_, v55_, v56_, v57_, v58_, v59_, v60_, v61_, v62_, v63_, v64_, v65_, v66_, v67_, v68_, v69_, v70_, v71_, v72_, v73_, v74_, v75_, v76_, v77_, v78_, v79_, v80_, v81_, v82_, v83_, v84_, v85_, v86_, v87_, v88_, v89_, v90_, v91_, v92_, v93_, v94_, v95_, v96_, v97_, v98_, v99_, v100_, v101_, v102_, v103_, v104_, v105_, v106_, v107_, v108_, v109_, v110_, v111_, v112_, v113_, v114_, v115_, v116_, v117_, v118_, v119_, v120_, v121_, v122_, v123_, v124_, v125_, v126_, v127_, v128_, v129_, v130_, v131_, v132_, v133_, v134_, v135_, v136_, v137_, v138_, v139_, v140_, v141_, v142_, v143_, v144_, v145_, v146_, v147_, v148_, v149_, v150_, v151_, v152_, v153_, v154_, v155_, v156_, v157_, v158_, v159_, v160_, v161_, v162_, v163_, v164_, v165_, v166_, v167_, v168_, v169_, v170_, v171_, v172_, v173_, v174_, v175_, v176_, v177_, v178_, v179_, v180_, v181_, v182_, v183_, v184_, v185_, v186_, v187_, v188_, v189_, v190_, v191_, v192_, v193_, v194_, v195_, v196_, v197_, v198_, v199_, v200_, v201_, v202_, v203_, v204_, v205_, v206_, v207_, v208_, v209_, v210_, v211_, v212_, v213_, v214_, v215_, v216_, v217_, v218_, v219_, v220_, v221_, v222_, v223_, v224_, v225_, v226_, v227_, v228_, v229_, v230_, v231_, v232_, v233_, v234_, v235_, v236_, v237_, v238_, v239_, v240_, v241_, v242_, v243_, v244_, v245_, v246_, v247_, v248_, v249_, v250_, v251_, v252_, v253_, v254_, v255_, v256_, v257_, v258_, v259_, v260_, v261_, v262_, v263_, v264_, v265_, v266_, v267_, v268_, v269_, v270_, v271_, v272_, v273_, v274_, v275_, v276_, v277_, v278_, v279_, v280_, v281_, v282_, v283_, v284_, z285_, z286_, z287_, z288_, z289_, z290_, z291_, z292_, z293_, .bool false, v295_, v296_, v297_, v298_, v299_, v300_, v301_, v302_, v303_, v304_, v305_, v306_, v307_, v308_, v309_, v310_, v311_, v312_, v313_, v314_, v315_, v316_], []⟩ u) :
    Code.wp Try.prog (Code.region 37 (opsOf Try.f9 37) true) Q ⟨#[v0_, v1_, v2_, v3_, v4_, v5_, v6_, v7_, v8_, v9_, v10_, v11_, v12_, v13_, v14_, v15_, v16_, v17_, v18_, .slice (some ad19) 32 A19c, v20_, .slice (some ad21) 9 A21c, .int .i64 (k : Int), v23_, v24_, v25_, v26_, v27_, v28_, v29_, v30_, v31_, v32_, v33_, v34_, v35_, v36_, v37_, v38_, v39_, v40_, v41_, v42_, v43_, v44_, v45_, v46_, v47_, v48_, v49_, v50_, v51_, v52_, v53_, v54_, v55_, v56_, v57_, v58_, v59_, v60_, v61_, v62_, v63_, v64_, v65_, v66_, v67_, v68_, v69_, v70_, v71_, v72_, v73_, v74_, v75_, v76_, v77_, v78_, v79_, v80_, v81_, v82_, v83_, v84_, v85_, v86_, v87_, v88_, v89_, v90_, v91_, v92_, v93_, v94_, v95_, v96_, v97_, v98_, v99_, v100_, v101_, v102_, v103_, v104_, v105_, v106_, v107_, v108_, v109_, v110_, v111_, v112_, v113_, v114_, v115_, v116_, v117_, v118_, v119_, v120_, v121_, v122_, v123_, v124_, v125_, v126_, v127_, v128_, v129_, v130_, v131_, v132_, v133_, v134_, v135_, v136_, v137_, v138_, v139_, v140_, v141_, v142_, v143_, v144_, v145_, v146_, v147_, v148_, v149_, v150_, v151_, v152_, v153_, v154_, v155_, v156_, v157_, v158_, v159_, v160_, v161_, v162_, v163_, v164_, v165_, v166_, v167_, v168_, v169_, v170_, v171_, v172_, v173_, v174_, v175_, v176_, v177_, v178_, v179_, v180_, v181_, v182_, v183_, v184_, v185_, v186_, v187_, v188_, v189_, v190_, v191_, v192_, v193_, v194_, v195_, v196_, v197_, v198_, v199_, v200_, v201_, v202_, v203_, v204_, v205_, v206_, v207_, v208_, v209_, v210_, v211_, v212_, v213_, v214_, v215_, v216_, v217_, v218_, v219_, v220_, v221_, v222_, v223_, v224_, v225_, v226_, v227_, v228_, v229_, v230_, v231_, v232_, v233_, v234_, v235_, v236_, v237_, v238_, v239_, v240_, v241_, v242_, v243_, v244_, v245_, v246_, v247_, v248_, v249_, v250_, v251_, v252_, v253_, v254_, v255_, v256_, v257_, v258_, v259_, v260_, v261_, v262_, v263_, v264_, v265_, v266_, v267_, v268_, v269_, v270_, v271_, v272_, v273_, v274_, v275_, v276_, v277_, v278_, v279_, v280_, v281_, v282_, v283_, v284_, v285_, v286_, v287_, v288_, v289_, v290_, v291_, v292_, v293_, v294_, v295_, v296_, v297_, v298_, v299_, v300_, v301_, v302_, v303_, v304_, v305_, v306_, v307_, v308_, v309_, v310_, v311_, v312_, v313_, v314_, v315_, v316_], []⟩ wr := by
  conv => arg 2; arg 2; whnf
  have hki : (k : Int) < 9 := by omega
  refine start_ (n := 10) (S := (fun w' => Below wr.drew.heap.size wr.drew w')) (ds := []) (bm_ 10 0) (by kernel_rfl) rfl rfl (Below.refl _ _) (fun hHeld => ?_)
  refine with_tabW known.tab37 known.bits37 (fun HT_ HW_ => ?_)
  refine pure_ (i := 0) (N := some 285) (v := ?_) (a' := ?_) (bm_ 10 1) rfl rfl (any_of HT_.out (by kernel_rfl)) (fun _ _ _ h => hP _ _ _ _ _ h) (Or.inl ⟨by rfl, ?_⟩) ?_ ?_
  rotate_left
  · intro w'
    go_simp
    with_reducible rfl
  rotate_left
  · simp only [Act.put, sA_, s0_, sS_, i64_w, i32_w]
    rfl
  refine pure_ (i := 1) (N := some 286) (v := ?_) (a' := ?_) (bm_ 10 3) rfl rfl (any_of HT_.out (by kernel_rfl)) (fun _ _ _ h => hP _ _ _ _ _ h) (Or.inl ⟨by rfl, ?_⟩) ?_ ?_
  rotate_left
  · intro w'
    go_simp
    with_reducible rfl
  rotate_left
  · simp only [Act.put, sA_, s0_, sS_, i64_w, i32_w]
    rfl
  refine take_ (i := 2) (N := some 287) (v := ?_) (a' := ?_) (bm_ 10 7) rfl rfl (take_ofW HT_.out HW_.out (by kernel_rfl)) (fun _ _ _ h => hP _ _ _ _ _ h) (Or.inl ⟨by rfl, ?_⟩) hHeld ?_ ?_
  rotate_left
  · rintro w' hs
    obtain ⟨ad_, e_, c_0, c_1, c_2, c_3, c_4⟩ := at_T38 (Kd.C_below HA19d.out.1 hs) 0 (by omega) (by omega); cases e_; have c0 : w'.cell? ad19 = some (.int .u8 1) := (by have h_ := c_0; rw [show ((0 : Int)).toNat * 5 = 0 from rfl, Addr.add_zero'] at h_; exact h_); have c1 : w'.cell? ⟨ad19.block, ad19.off + 1, none⟩ = some (.string (⟨#[1, 97, 0]⟩ : ByteArray)) := (by have h_ := c_1; rw [show ((0 : Int)).toNat * 5 = 0 from rfl, Addr.add_zero'] at h_; exact h_); have c2 : w'.cell? ⟨ad19.block, ad19.off + 2, none⟩ = some (.string (⟨#[1, 98, 0]⟩ : ByteArray)) := (by have h_ := c_2; rw [show ((0 : Int)).toNat * 5 = 0 from rfl, Addr.add_zero'] at h_; exact h_); have c3 : w'.cell? ⟨ad19.block, ad19.off + 3, none⟩ = some (.int .u16 0) := (by have h_ := c_3; rw [show ((0 : Int)).toNat * 5 = 0 from rfl, Addr.add_zero'] at h_; exact h_); have c4 : w'.cell? ⟨ad19.block, ad19.off + 4, none⟩ = some (.int .u16 0) := (by have h_ := c_4; rw [show ((0 : Int)).toNat * 5 = 0 from rfl, Addr.add_zero'] at h_; exact h_); clear c_0 c_1 c_2 c_3 c_4; go_simp
    with_reducible rfl
  rotate_left
  · simp only [Act.put, sA_, s0_, sS_, i64_w, i32_w]
    rfl
  refine pure_ (i := 3) (N := some 288) (v := ?_) (a' := ?_) (bm_ 10 15) rfl rfl (any_of HT_.out (by kernel_rfl)) (fun _ _ _ h => hP _ _ _ _ _ h) (Or.inl ⟨by rfl, ?_⟩) ?_ ?_
  rotate_left
  · intro w'
    go_simp
    with_reducible rfl
  rotate_left
  · simp only [Act.put, sA_, s0_, sS_, i64_w, i32_w]
    rfl
  refine pure_ (i := 4) (N := some 289) (v := ?_) (a' := ?_) (bm_ 10 31) rfl rfl (any_of HT_.out (by kernel_rfl)) (fun _ _ _ h => hP _ _ _ _ _ h) (Or.inl ⟨by rfl, ?_⟩) ?_ ?_
  rotate_left
  · intro w'
    go_simp
    with_reducible rfl
  rotate_left
  · simp only [Act.put, sA_, s0_, sS_, i64_w, i32_w]
    rfl
  refine pure_ (i := 5) (N := some 290) (v := ?_) (a' := ?_) (bm_ 10 63) rfl rfl (any_of HT_.out (by kernel_rfl)) (fun _ _ _ h => hP _ _ _ _ _ h) (Or.inl ⟨by rfl, ?_⟩) ?_ ?_
  rotate_left
  · intro w'
    go_simp
    with_reducible rfl
  rotate_left
  · simp only [Act.put, sA_, s0_, sS_, i64_w, i32_w]
    rfl
  refine take_ (i := 6) (N := some 291) (v := ?_) (a' := ?_) (bm_ 10 127) rfl rfl (take_ofW HT_.out HW_.out (by kernel_rfl)) (fun _ _ _ h => hP _ _ _ _ _ h) (Or.inl ⟨by rfl, ?_⟩) hHeld ?_ ?_
  rotate_left
  · rintro w' hs
    obtain ⟨ad_, e_, c_0, c_1, c_2, c_3, c_4⟩ := at_T38 (Kd.C_below HA21d.out.1 hs) (k : Int) (by omega) (by omega); rw [rd_T38_at HXK.out] at c_0 c_1 c_2 c_3 c_4; simp only [Int.toNat_natCast] at c_0 c_1 c_2 c_3 c_4; cases e_; go_simp
    with_reducible rfl
  rotate_left
  · simp only [Act.put, sA_, s0_, sS_, i64_w, i32_w]
    rfl
  refine one_ (i := 7) (N := some 292) (bm_ 10 255) rfl rfl (one_of HT_.out (by kernel_rfl)) (by decide) (fun K hK => ?_)
  refine Kd.R_lit_step k38 _ 38 ?hg (N := 292) ?hd (xs := ([(⟨1, (⟨#[1, 97, 0]⟩ : ByteArray), (⟨#[1, 98, 0]⟩ : ByteArray), 0, 0⟩ : S38), x] : List S38)) (inner := [.int .u8 1, .string (⟨#[1, 97, 0]⟩ : ByteArray), .string (⟨#[1, 98, 0]⟩ : ByteArray), .int .u16 0, .int .u16 0, .int .u8 x.f0, .string x.f1, .string x.f2, .int .u16 x.f3, .int .u16 x.f4]) (ok := fun _ => True) (okp := fun _ => True) ?hr ?hp (fun _ hk => hk) trivial (Below.refl _ _) (Nat.le_refl _) (by simp) ?_; (case hd => rfl); (case hg => rfl); (case hr => first | (go_simp; done) | (go_simp; rfl)); (case hp => exact (Reps.c5 (show Kd.M k38 _ _ _ (⟨1, (⟨#[1, 97, 0]⟩ : ByteArray), (⟨#[1, 98, 0]⟩ : ByteArray), 0, 0⟩ : S38) [.int .u8 1, .string (⟨#[1, 97, 0]⟩ : ByteArray), .string (⟨#[1, 98, 0]⟩ : ByteArray), .int .u16 0, .int .u16 0] from (k38_mkM _ _ _ (⟨1, (⟨#[1, 97, 0]⟩ : ByteArray), (⟨#[1, 98, 0]⟩ : ByteArray), 0, 0⟩ : S38))) (Reps.c5 (show Kd.M k38 _ _ _ x [.int .u8 x.f0, .string x.f1, .string x.f2, .int .u16 x.f3, .int .u16 x.f4] from (k38_mkM _ _ _ x)) (Reps.none _ _))))
  intro v0 v ho hb hg_ hnew_
  obtain ⟨A37, c37, e37, hl37, hC37⟩ := Kd.R_reads ho
  subst e37
  have HC37 : Aside0 (Kd.C k38 v A37 2 [(⟨1, (⟨#[1, 97, 0]⟩ : ByteArray), (⟨#[1, 98, 0]⟩ : ByteArray), 0, 0⟩ : S38), x] ∧ 2 ≤ c37) := ⟨And.intro hC37 hl37⟩
  clear ho hg_ hnew_ hC37 hl37
  refine hK.out _ _ (hHeld.trans (below_to hb hHeld.size)) (fun hHeld => ?_)
  clear hK K
  refine norm_ (a' := ?_) ?_ ?_
  rotate_left
  · show Act.put _ (some 292) _ = _
    simp only [Act.put, sA_, s0_, sS_, i64_w, i32_w]
    rfl
  refine one_ (i := 8) (N := some 293) (bm_ 10 511) rfl rfl (one_of HT_.out (by kernel_rfl)) (by decide) (fun K hK => ?_)
  refine goes_ Try.func12 (by kernel_rfl) rfl #[.slice A37 2 c37] (by rfl) rfl rfl (by (try simp only [List.map_toArray, List.map_cons, List.map_nil]); first | done | rfl) ?_
  (with_reducible refine (check_calls3 A37 2 c37 [(⟨1, (⟨#[1, 97, 0]⟩ : ByteArray), (⟨#[1, 98, 0]⟩ : ByteArray), 0, 0⟩ : S38), x] rfl 250 _ HC37.out.1 HC37.out.2 HCK.out).mono ?_)
  rintro e v2 ⟨rfl, hb2⟩
  refine ⟨_, rfl, ?_⟩
  refine hK.out _ _ (hHeld.trans (below_to hb2 hHeld.size)) (fun hHeld => ?_)
  clear hK K
  refine norm_ (a' := ?_) ?_ ?_
  rotate_left
  · show Act.put _ (some 293) _ = _
    simp only [Act.put, sA_, s0_, sS_, i64_w, i32_w]
    rfl
  refine pure_ (i := 9) (N := some 294) (v := ?_) (a' := ?_) (bm_ 10 1023) rfl rfl (any_of HT_.out (by kernel_rfl)) (fun _ _ _ h => hP _ _ _ _ _ h) (Or.inl ⟨by rfl, ?_⟩) ?_ ?_
  rotate_left
  · intro w'
    go_simp
    with_reducible rfl
  rotate_left
  · simp only [Act.put, sA_, s0_, sS_, i64_w, i32_w]
    rfl
  refine done_ (done_of HT_.out (by kernel_rfl)) ?_
  exact hk _ _ _ _ _ _ _ _ _ _ hHeld
set_option maxHeartbeats 100000000 in
set_option maxRecDepth 100000 in
theorem known_r39 {Q : Exit → Act → World → Prop} {v0_ v1_ v2_ v3_ v4_ v5_ v6_ v7_ v8_ v9_ v10_ v11_ v12_ v13_ v14_ v15_ v16_ v17_ v18_ v20_ v22_ v23_ v24_ v25_ v26_ v27_ v28_ v29_ v30_ v31_ v32_ v33_ v34_ v35_ v36_ v37_ v38_ v39_ v40_ v41_ v42_ v43_ v44_ v45_ v46_ v47_ v48_ v49_ v50_ v51_ v52_ v53_ v54_ v55_ v56_ v57_ v58_ v59_ v60_ v61_ v62_ v63_ v64_ v65_ v66_ v67_ v68_ v69_ v70_ v71_ v72_ v73_ v74_ v75_ v76_ v77_ v78_ v79_ v80_ v81_ v82_ v83_ v84_ v85_ v86_ v87_ v88_ v89_ v90_ v91_ v92_ v93_ v94_ v95_ v96_ v97_ v98_ v99_ v100_ v101_ v102_ v103_ v104_ v105_ v106_ v107_ v108_ v109_ v110_ v111_ v112_ v113_ v114_ v115_ v116_ v117_ v118_ v119_ v120_ v121_ v122_ v123_ v124_ v125_ v126_ v127_ v128_ v129_ v130_ v131_ v132_ v133_ v134_ v135_ v136_ v137_ v138_ v139_ v140_ v141_ v142_ v143_ v144_ v145_ v146_ v147_ v148_ v149_ v150_ v151_ v152_ v153_ v154_ v155_ v156_ v157_ v158_ v159_ v160_ v161_ v162_ v163_ v164_ v165_ v166_ v167_ v168_ v169_ v170_ v171_ v172_ v173_ v174_ v175_ v176_ v177_ v178_ v179_ v180_ v181_ v182_ v183_ v184_ v185_ v186_ v187_ v188_ v189_ v190_ v191_ v192_ v193_ v194_ v195_ v196_ v197_ v198_ v199_ v200_ v201_ v202_ v203_ v204_ v205_ v206_ v207_ v208_ v209_ v210_ v211_ v212_ v213_ v214_ v215_ v216_ v217_ v218_ v219_ v220_ v221_ v222_ v223_ v224_ v225_ v226_ v227_ v228_ v229_ v230_ v231_ v232_ v233_ v234_ v235_ v236_ v237_ v238_ v239_ v240_ v241_ v242_ v243_ v244_ v245_ v246_ v247_ v248_ v249_ v250_ v251_ v252_ v253_ v254_ v255_ v256_ v257_ v258_ v259_ v260_ v261_ v262_ v263_ v264_ v265_ v266_ v267_ v268_ v269_ v270_ v271_ v272_ v273_ v274_ v275_ v276_ v277_ v278_ v279_ v280_ v281_ v282_ v283_ v284_ v285_ v286_ v287_ v288_ v289_ v290_ v291_ v292_ v293_ v294_ v295_ v296_ v297_ v298_ v299_ v300_ v301_ v302_ v303_ v304_ v305_ v306_ v307_ v308_ v309_ v310_ v311_ v312_ v313_ v314_ v315_ v316_ : Value} {A19 : Option Addr} {A19c A21c : Nat} {ad21 : Addr} {Bd : List S38} {xb : S38} {wr : World}
    (hP : ∀ (c : List PanicEntry) (a : Act) (N : Option Tmp) (v : Value) (w : World), Q (.panic c) (a.put N v) w → Q (.panic c) a w)
    (HXB : Aside0 (rd_T38 Bd 0 = xb))
    (hbl : Bd.length = 9)
    (HA19d : Aside0 (Kd.C k38 wr.drew A19 32 (List.replicate 32 (⟨1, (⟨#[1, 97, 0]⟩ : ByteArray), (⟨#[1, 98, 0]⟩ : ByteArray), 0, 0⟩ : S38)) ∧ 32 ≤ A19c))
    (HA21d : Aside0 (Kd.C k38 wr.drew (some ad21) 9 Bd ∧ 9 ≤ A21c))
    (hk : ∀ (u : World) (z295_ z296_ z297_ z298_ z299_ z300_ z301_ z302_ z303_ z304_ z305_ z306_ z307_ z308_ z309_ z310_ z311_ z312_ z313_ z314_ z315_ z316_ : Value), (Below wr.drew.heap.size wr.drew u) → Q .normal ⟨#[.bool true, v1_, v2_, v3_, v4_, v5_, v6_, v7_, v8_, v9_, v10_, v11_, v12_, v13_, v14_, v15_, v16_, v17_, v18_, .slice A19 32 A19c, v20_, .slice (some ad21) 9 A21c, v22_, v23_, v24_, v25_, v26_, v27_, v28_, v29_, v30_, v31_, v32_, v33_, v34_, v35_, v36_, v37_, v38_, v39_, v40_, v41_, v42_, v43_, v44_, v45_, v46_, v47_, v48_, v49_, v50_, v51_, v52_, v53_, v54_, v55_, v56_, v57_, v58_, v59_, v60_, v61_, v62_, v63_, v64_, v65_, v66_, v67_, v68_, v69_, v70_, v71_, v72_, v73_, v74_, v75_, v76_, v77_, v78_, v79_, v80_, v81_, v82_, v83_, v84_, v85_, v86_, v87_, v88_, v89_, v90_, v91_, v92_, v93_, v94_, v95_, v96_, v97_, v98_, v99_, v100_, v101_, v102_, v103_, v104_, v105_, v106_, v107_, v108_, v109_, v110_, v111_, v112_, v113_, v114_, v115_, v116_, v117_, v118_, v119_, v120_, v121_, v122_, v123_, v124_, v125_, v126_, v127_, v128_, v129_, v130_, v131_, v132_, v133_, v134_, v135_, v136_, v137_, v138_, v139_, v140_, v141_, v142_, v143_, v144_, v145_, v146_, v147_, v148_, v149_, v150_, v151_, v152_, v153_, v154_, v155_, v156_, v157_, v158_, v159_, v160_, v161_, v162_, v163_, v164_, v165_, v166_, v167_, v168_, v169_, v170_, v171_, v172_, v173_, v174_, v175_, v176_, v177_, v178_, v179_, v180_, v181_, v182_, v183_, v184_, v185_, v186_, v187_, v188_, v189_, v190_, v191_, v192_, v193_, v194_, v195_, v196_, v197_, v198_, v199_, v200_, v201_, v202_, v203_, v204_, v205_, v206_, v207_, v208_, v209_, v210_, v211_, v212_, v213_, v214_, v215_, v216_, v217_, v218_, v219_, v220_, v221_, v222_, v223_, v224_, v225_, v226_, v227_, v228_, v229_, v230_, v231_, v232_, v233_, v234_, v235_, v236_, v237_, v238_, v239_, v240_, v241_, v242_, v243_, v244_, v245_, v246_, v247_, v248_, v249_, v250_, v251_, v252_, v253_, v254_, v255_, v256_, v257_, v258_, v259_, v260_, v261_, v262_, v263_, v264_, v265_, v266_, v267_, v268_, v269_, v270_, v271_, v272_, v273_, v274_, v275_, v276_, v277_, v278_, v279_, v280_, v281_, v282_, v283_, v284_, v285_, v286_, v287_, v288_, v289_, v290_, v291_, v292_, v293_, v294_, z295_, z296_, z297_, z298_, z299_, z300_, z301_, z302_, z303_, z304_, z305_, z306_, z307_, z308_, z309_, z310_, z311_, z312_, z313_, z314_, z315_, z316_], []⟩ u) :
    Code.wp Try.prog (Code.region 39 (opsOf Try.f9 39) true) Q ⟨#[v0_, v1_, v2_, v3_, v4_, v5_, v6_, v7_, v8_, v9_, v10_, v11_, v12_, v13_, v14_, v15_, v16_, v17_, v18_, .slice A19 32 A19c, v20_, .slice (some ad21) 9 A21c, v22_, v23_, v24_, v25_, v26_, v27_, v28_, v29_, v30_, v31_, v32_, v33_, v34_, v35_, v36_, v37_, v38_, v39_, v40_, v41_, v42_, v43_, v44_, v45_, v46_, v47_, v48_, v49_, v50_, v51_, v52_, v53_, v54_, v55_, v56_, v57_, v58_, v59_, v60_, v61_, v62_, v63_, v64_, v65_, v66_, v67_, v68_, v69_, v70_, v71_, v72_, v73_, v74_, v75_, v76_, v77_, v78_, v79_, v80_, v81_, v82_, v83_, v84_, v85_, v86_, v87_, v88_, v89_, v90_, v91_, v92_, v93_, v94_, v95_, v96_, v97_, v98_, v99_, v100_, v101_, v102_, v103_, v104_, v105_, v106_, v107_, v108_, v109_, v110_, v111_, v112_, v113_, v114_, v115_, v116_, v117_, v118_, v119_, v120_, v121_, v122_, v123_, v124_, v125_, v126_, v127_, v128_, v129_, v130_, v131_, v132_, v133_, v134_, v135_, v136_, v137_, v138_, v139_, v140_, v141_, v142_, v143_, v144_, v145_, v146_, v147_, v148_, v149_, v150_, v151_, v152_, v153_, v154_, v155_, v156_, v157_, v158_, v159_, v160_, v161_, v162_, v163_, v164_, v165_, v166_, v167_, v168_, v169_, v170_, v171_, v172_, v173_, v174_, v175_, v176_, v177_, v178_, v179_, v180_, v181_, v182_, v183_, v184_, v185_, v186_, v187_, v188_, v189_, v190_, v191_, v192_, v193_, v194_, v195_, v196_, v197_, v198_, v199_, v200_, v201_, v202_, v203_, v204_, v205_, v206_, v207_, v208_, v209_, v210_, v211_, v212_, v213_, v214_, v215_, v216_, v217_, v218_, v219_, v220_, v221_, v222_, v223_, v224_, v225_, v226_, v227_, v228_, v229_, v230_, v231_, v232_, v233_, v234_, v235_, v236_, v237_, v238_, v239_, v240_, v241_, v242_, v243_, v244_, v245_, v246_, v247_, v248_, v249_, v250_, v251_, v252_, v253_, v254_, v255_, v256_, v257_, v258_, v259_, v260_, v261_, v262_, v263_, v264_, v265_, v266_, v267_, v268_, v269_, v270_, v271_, v272_, v273_, v274_, v275_, v276_, v277_, v278_, v279_, v280_, v281_, v282_, v283_, v284_, v285_, v286_, v287_, v288_, v289_, v290_, v291_, v292_, v293_, v294_, v295_, v296_, v297_, v298_, v299_, v300_, v301_, v302_, v303_, v304_, v305_, v306_, v307_, v308_, v309_, v310_, v311_, v312_, v313_, v314_, v315_, v316_], []⟩ wr := by
  conv => arg 2; arg 2; whnf
  have len33 : ((List.replicate 32 (⟨1, (⟨#[1, 97, 0]⟩ : ByteArray), (⟨#[1, 98, 0]⟩ : ByteArray), 0, 0⟩ : S38)) ++ [xb]).length = 33 := by simp
  refine start_ (n := 23) (S := (fun w' => Below wr.drew.heap.size wr.drew w')) (ds := []) (bm_ 23 0) (by kernel_rfl) rfl rfl (Below.refl _ _) (fun hHeld => ?_)
  refine with_tabW known.tab39 known.bits39 (fun HT_ HW_ => ?_)
  refine join_ (σ := Value × Value × Option Addr × Nat × Option Addr × Nat) 2 (bm_ 23 2097151) (fun s_ => [(295, .int .i64 0), (296, .bool true), (297, .bool true), (298, .slice A19 32 A19c), (299, .int .i64 0), (300, .bool true), (301, .bool true), (302, .bool true), (303, s_.1), (304, .slice A19 32 A19c), (305, s_.2.1), (306, .slice (some ad21) 9 A21c), (307, .pointer (some ad21)), (308, .agg #[.int .u8 xb.f0, .string xb.f1, .string xb.f2, .int .u16 xb.f3, .int .u16 xb.f4]), (309, .slice s_.2.2.1 1 s_.2.2.2.1), (310, .slice s_.2.2.2.2.1 33 s_.2.2.2.2.2), (311, .int .i64 2), (312, .bool true), (313, .bool true), (314, .bool true), (315, .bool true)]) (fun s_ w' => Below wr.drew.heap.size wr.drew w' ∧ (Kd.C k38 w' s_.2.2.2.2.1 33 ((List.replicate 32 (⟨1, (⟨#[1, 97, 0]⟩ : ByteArray), (⟨#[1, 98, 0]⟩ : ByteArray), 0, 0⟩ : S38)) ++ [xb])) ∧ (33 ≤ s_.2.2.2.2.2)) ?_ ?_
  rotate_left
  · intro hJ_0_4_8_10_14_15_16_20
    refine join_ (σ := Value × Value × Option Addr × Nat × Option Addr × Nat) 3 (bm_ 23 1048575) (fun s_ => [(295, .int .i64 0), (296, .bool true), (297, .bool true), (298, .slice A19 32 A19c), (299, .int .i64 0), (300, .bool true), (301, .bool true), (302, .bool true), (303, s_.1), (304, .slice A19 32 A19c), (305, s_.2.1), (306, .slice (some ad21) 9 A21c), (307, .pointer (some ad21)), (308, .agg #[.int .u8 xb.f0, .string xb.f1, .string xb.f2, .int .u16 xb.f3, .int .u16 xb.f4]), (309, .slice s_.2.2.1 1 s_.2.2.2.1), (310, .slice s_.2.2.2.2.1 33 s_.2.2.2.2.2), (311, .int .i64 2), (312, .bool true), (313, .bool true), (314, .bool true)]) (fun s_ w' => Below wr.drew.heap.size wr.drew w' ∧ (Kd.C k38 w' s_.2.2.2.2.1 33 ((List.replicate 32 (⟨1, (⟨#[1, 97, 0]⟩ : ByteArray), (⟨#[1, 98, 0]⟩ : ByteArray), 0, 0⟩ : S38)) ++ [xb])) ∧ (33 ≤ s_.2.2.2.2.2)) ?_ ?_
    rotate_left
    · intro hJ_0_4_8_10_14_15_16
      refine join_ (σ := Value × Value × Option Addr × Nat × Option Addr × Nat) 7 (bm_ 23 65535) (fun s_ => [(295, .int .i64 0), (296, .bool true), (297, .bool true), (298, .slice A19 32 A19c), (299, .int .i64 0), (300, .bool true), (301, .bool true), (302, .bool true), (303, s_.1), (304, .slice A19 32 A19c), (305, s_.2.1), (306, .slice (some ad21) 9 A21c), (307, .pointer (some ad21)), (308, .agg #[.int .u8 xb.f0, .string xb.f1, .string xb.f2, .int .u16 xb.f3, .int .u16 xb.f4]), (309, .slice s_.2.2.1 1 s_.2.2.2.1), (310, .slice s_.2.2.2.2.1 33 s_.2.2.2.2.2)]) (fun s_ w' => Below wr.drew.heap.size wr.drew w' ∧ (Kd.C k38 w' s_.2.2.2.2.1 33 ((List.replicate 32 (⟨1, (⟨#[1, 97, 0]⟩ : ByteArray), (⟨#[1, 98, 0]⟩ : ByteArray), 0, 0⟩ : S38)) ++ [xb])) ∧ (33 ≤ s_.2.2.2.2.2)) ?_ ?_
      rotate_left
      · intro hJ_0_4_8_10_14_15
        refine join_ (σ := Value × Value × Option Addr × Nat) 8 (bm_ 23 32767) (fun s_ => [(295, .int .i64 0), (296, .bool true), (297, .bool true), (298, .slice A19 32 A19c), (299, .int .i64 0), (300, .bool true), (301, .bool true), (302, .bool true), (303, s_.1), (304, .slice A19 32 A19c), (305, s_.2.1), (306, .slice (some ad21) 9 A21c), (307, .pointer (some ad21)), (308, .agg #[.int .u8 xb.f0, .string xb.f1, .string xb.f2, .int .u16 xb.f3, .int .u16 xb.f4]), (309, .slice s_.2.2.1 1 s_.2.2.2)]) (fun s_ w' => Below wr.drew.heap.size wr.drew w' ∧ (Kd.R k38 38 w' wr.drew.heap.size (fun _ => True) s_.2.1 (List.replicate 32 (⟨1, (⟨#[1, 97, 0]⟩ : ByteArray), (⟨#[1, 98, 0]⟩ : ByteArray), 0, 0⟩ : S38))) ∧ (Kd.R k38 38 w' wr.drew.heap.size (fun _ => True) (.slice s_.2.2.1 1 s_.2.2.2) [xb])) ?_ ?_
        rotate_left
        · intro hJ_0_4_8_10_14
          refine join_ (σ := Value × Value) 9 (bm_ 23 16383) (fun s_ => [(295, .int .i64 0), (296, .bool true), (297, .bool true), (298, .slice A19 32 A19c), (299, .int .i64 0), (300, .bool true), (301, .bool true), (302, .bool true), (303, s_.1), (304, .slice A19 32 A19c), (305, s_.2), (306, .slice (some ad21) 9 A21c), (307, .pointer (some ad21)), (308, .agg #[.int .u8 xb.f0, .string xb.f1, .string xb.f2, .int .u16 xb.f3, .int .u16 xb.f4])]) (fun s_ w' => Below wr.drew.heap.size wr.drew w' ∧ (Kd.R k38 38 w' wr.drew.heap.size (fun _ => True) s_.2 (List.replicate 32 (⟨1, (⟨#[1, 97, 0]⟩ : ByteArray), (⟨#[1, 98, 0]⟩ : ByteArray), 0, 0⟩ : S38)))) ?_ ?_
          rotate_left
          · intro hJ_0_4_8_10
            refine join_ (σ := Value × Option Addr × Nat) 9 (bm_ 23 31743) (fun s_ => [(295, .int .i64 0), (296, .bool true), (297, .bool true), (298, .slice A19 32 A19c), (299, .int .i64 0), (300, .bool true), (301, .bool true), (302, .bool true), (303, s_.1), (304, .slice A19 32 A19c), (306, .slice (some ad21) 9 A21c), (307, .pointer (some ad21)), (308, .agg #[.int .u8 xb.f0, .string xb.f1, .string xb.f2, .int .u16 xb.f3, .int .u16 xb.f4]), (309, .slice s_.2.1 1 s_.2.2)]) (fun s_ w' => Below wr.drew.heap.size wr.drew w' ∧ (Kd.R k38 38 w' wr.drew.heap.size (fun _ => True) s_.1 []) ∧ (Kd.R k38 38 w' wr.drew.heap.size (fun k => some k ≠ s_.1.ownBlock) (.slice s_.2.1 1 s_.2.2) [xb])) ?_ ?_
            rotate_left
            · intro hJ_0_4_8_14
              refine join_ (σ := Value) 10 (bm_ 23 15359) (fun s_ => [(295, .int .i64 0), (296, .bool true), (297, .bool true), (298, .slice A19 32 A19c), (299, .int .i64 0), (300, .bool true), (301, .bool true), (302, .bool true), (303, s_), (304, .slice A19 32 A19c), (306, .slice (some ad21) 9 A21c), (307, .pointer (some ad21)), (308, .agg #[.int .u8 xb.f0, .string xb.f1, .string xb.f2, .int .u16 xb.f3, .int .u16 xb.f4])]) (fun s_ w' => Below wr.drew.heap.size wr.drew w' ∧ (Kd.R k38 38 w' wr.drew.heap.size (fun _ => True) s_ [])) ?_ ?_
              rotate_left
              · intro hJ_0_4_8
                refine join_ (σ := Option Addr × Nat) 10 (bm_ 23 31487) (fun s_ => [(295, .int .i64 0), (296, .bool true), (297, .bool true), (298, .slice A19 32 A19c), (299, .int .i64 0), (300, .bool true), (301, .bool true), (302, .bool true), (304, .slice A19 32 A19c), (306, .slice (some ad21) 9 A21c), (307, .pointer (some ad21)), (308, .agg #[.int .u8 xb.f0, .string xb.f1, .string xb.f2, .int .u16 xb.f3, .int .u16 xb.f4]), (309, .slice s_.1 1 s_.2)]) (fun s_ w' => Below wr.drew.heap.size wr.drew w' ∧ (Kd.R k38 38 w' wr.drew.heap.size (fun _ => True) (.slice s_.1 1 s_.2) [xb])) ?_ ?_
                rotate_left
                · intro hJ_0_4_14
                  refine join_ (σ := Unit) 11 (bm_ 23 15103) (fun s_ => [(295, .int .i64 0), (296, .bool true), (297, .bool true), (298, .slice A19 32 A19c), (299, .int .i64 0), (300, .bool true), (301, .bool true), (302, .bool true), (304, .slice A19 32 A19c), (306, .slice (some ad21) 9 A21c), (307, .pointer (some ad21)), (308, .agg #[.int .u8 xb.f0, .string xb.f1, .string xb.f2, .int .u16 xb.f3, .int .u16 xb.f4])]) (fun s_ w' => Below wr.drew.heap.size wr.drew w') ?_ ?_
                  rotate_left
                  · intro hJ_0_4
                    refine join_ (σ := Unit) 19 (bm_ 23 15) (fun s_ => [(295, .int .i64 0), (296, .bool true), (297, .bool true), (298, .slice A19 32 A19c)]) (fun s_ w' => Below wr.drew.heap.size wr.drew w') ?_ ?_
                    rotate_left
                    · intro hJ_0
                      refine one_ (i := 0) (N := some 295) (bm_ 23 1) rfl rfl (one_of HT_.out (by kernel_rfl)) (by decide) (fun K hK => ?_)
                      refine goes_ Try.func12 (by kernel_rfl) rfl #[.slice none 0 0] (by rfl) rfl rfl (by (try simp only [List.map_toArray, List.map_cons, List.map_nil]); first | done | rfl) ?_
                      (with_reducible refine (check_calls3 none 0 0 [] rfl 0 _ (C_nil38 _) (Nat.le_refl _) chk_nil).mono ?_)
                      rintro e v ⟨rfl, hb⟩
                      refine ⟨_, rfl, ?_⟩
                      refine hK.out _ _ (hHeld.trans (below_to hb hHeld.size)) (fun hHeld => ?_)
                      clear hK K
                      refine norm_ (a' := ?_) ?_ ?_
                      rotate_left
                      · show Act.put _ (some 295) _ = _
                        simp only [Act.put, sA_, s0_, sS_, i64_w, i32_w]
                        rfl
                      refine pure_ (i := 1) (N := some 296) (v := ?_) (a' := ?_) (bm_ 23 3) rfl rfl (any_of HT_.out (by kernel_rfl)) (fun _ _ _ h => hP _ _ _ _ _ h) (Or.inl ⟨by rfl, ?_⟩) ?_ ?_
                      rotate_left
                      · intro w'
                        go_simp
                        with_reducible rfl
                      rotate_left
                      · simp only [Act.put, sA_, s0_, sS_, i64_w, i32_w]
                        rfl
                      refine pure_ (i := 2) (N := some 297) (v := ?_) (a' := ?_) (bm_ 23 7) rfl rfl (any_of HT_.out (by kernel_rfl)) (fun _ _ _ h => hP _ _ _ _ _ h) (Or.inl ⟨by rfl, ?_⟩) ?_ ?_
                      rotate_left
                      · intro w'
                        go_simp
                        with_reducible rfl
                      rotate_left
                      · simp only [Act.put, sA_, s0_, sS_, i64_w, i32_w]
                        rfl
                      refine pure_ (i := 3) (N := some 298) (v := ?_) (a' := ?_) (bm_ 23 15) rfl rfl (any_of HT_.out (by kernel_rfl)) (fun _ _ _ h => hP _ _ _ _ _ h) (Or.inl ⟨by rfl, ?_⟩) ?_ ?_
                      rotate_left
                      · intro w'
                        go_simp
                        with_reducible rfl
                      rotate_left
                      · simp only [Act.put, sA_, s0_, sS_, i64_w, i32_w]
                        rfl
                      exact norm_ (by first | (simp only [putAll, Act.put, sA_, s0_, sS_]; done) | (simp only [putAll, Act.put, sA_, s0_, sS_]; rfl)) (hJ_0 () _ hHeld)
                    rintro _ u hHeld
                    refine norm_ (a' := ?_) ?_ ?_
                    rotate_left
                    · simp only [putAll, Act.put, sA_, s0_, sS_]
                      rfl
                    refine one_ (i := 4) (N := some 299) (bm_ 23 31) rfl rfl (one_of HT_.out (by kernel_rfl)) (by decide) (fun K hK => ?_)
                    refine goes_ Try.func12 (by kernel_rfl) rfl #[.slice A19 32 A19c] (by rfl) rfl rfl (by (try simp only [List.map_toArray, List.map_cons, List.map_nil]); first | done | rfl) ?_
                    (with_reducible refine (check_calls3 A19 32 A19c (List.replicate 32 (⟨1, (⟨#[1, 97, 0]⟩ : ByteArray), (⟨#[1, 98, 0]⟩ : ByteArray), 0, 0⟩ : S38)) (List.length_replicate ..) 0 _ (Kd.C_below HA19d.out.1 hHeld) HA19d.out.2 chk_most).mono ?_)
                    rintro e v ⟨rfl, hb⟩
                    refine ⟨_, rfl, ?_⟩
                    refine hK.out _ _ (hHeld.trans (below_to hb hHeld.size)) (fun hHeld => ?_)
                    clear hK K
                    refine norm_ (a' := ?_) ?_ ?_
                    rotate_left
                    · show Act.put _ (some 299) _ = _
                      simp only [Act.put, sA_, s0_, sS_, i64_w, i32_w]
                      rfl
                    refine pure_ (i := 5) (N := some 300) (v := ?_) (a' := ?_) (bm_ 23 63) rfl rfl (any_of HT_.out (by kernel_rfl)) (fun _ _ _ h => hP _ _ _ _ _ h) (Or.inl ⟨by rfl, ?_⟩) ?_ ?_
                    rotate_left
                    · intro w'
                      go_simp
                      with_reducible rfl
                    rotate_left
                    · simp only [Act.put, sA_, s0_, sS_, i64_w, i32_w]
                      rfl
                    refine pure_ (i := 6) (N := some 301) (v := ?_) (a' := ?_) (bm_ 23 127) rfl rfl (any_of HT_.out (by kernel_rfl)) (fun _ _ _ h => hP _ _ _ _ _ h) (Or.inl ⟨by rfl, ?_⟩) ?_ ?_
                    rotate_left
                    · intro w'
                      go_simp
                      with_reducible rfl
                    rotate_left
                    · simp only [Act.put, sA_, s0_, sS_, i64_w, i32_w]
                      rfl
                    refine pure_ (i := 7) (N := some 302) (v := ?_) (a' := ?_) (bm_ 23 255) rfl rfl (any_of HT_.out (by kernel_rfl)) (fun _ _ _ h => hP _ _ _ _ _ h) (Or.inl ⟨by rfl, ?_⟩) ?_ ?_
                    rotate_left
                    · intro w'
                      go_simp
                      with_reducible rfl
                    rotate_left
                    · simp only [Act.put, sA_, s0_, sS_, i64_w, i32_w]
                      rfl
                    refine pure_ (i := 9) (N := some 304) (v := ?_) (a' := ?_) (bm_ 23 767) rfl rfl (any_of HT_.out (by kernel_rfl)) (fun _ _ _ h => hP _ _ _ _ _ h) (Or.inl ⟨by rfl, ?_⟩) ?_ ?_
                    rotate_left
                    · intro w'
                      go_simp
                      with_reducible rfl
                    rotate_left
                    · simp only [Act.put, sA_, s0_, sS_, i64_w, i32_w]
                      rfl
                    refine pure_ (i := 11) (N := some 306) (v := ?_) (a' := ?_) (bm_ 23 2815) rfl rfl (any_of HT_.out (by kernel_rfl)) (fun _ _ _ h => hP _ _ _ _ _ h) (Or.inl ⟨by rfl, ?_⟩) ?_ ?_
                    rotate_left
                    · intro w'
                      go_simp
                      with_reducible rfl
                    rotate_left
                    · simp only [Act.put, sA_, s0_, sS_, i64_w, i32_w]
                      rfl
                    refine pure_ (i := 12) (N := some 307) (v := ?_) (a' := ?_) (bm_ 23 6911) rfl rfl (any_of HT_.out (by kernel_rfl)) (fun _ _ _ h => hP _ _ _ _ _ h) (Or.inl ⟨by rfl, ?_⟩) ?_ ?_
                    rotate_left
                    · intro w'
                      go_simp
                      with_reducible rfl
                    rotate_left
                    · simp only [Act.put, sA_, s0_, sS_, i64_w, i32_w]
                      rfl
                    refine take_ (i := 13) (N := some 308) (v := ?_) (a' := ?_) (bm_ 23 15103) rfl rfl (take_ofW HT_.out HW_.out (by kernel_rfl)) (fun _ _ _ h => hP _ _ _ _ _ h) (Or.inl ⟨by rfl, ?_⟩) hHeld ?_ ?_
                    rotate_left
                    · rintro w' hs
                      obtain ⟨ad_, e_, c_0, c_1, c_2, c_3, c_4⟩ := at_T38 (Kd.C_below HA21d.out.1 hs) 0 (by omega) (by omega); rw [HXB.out] at c_0 c_1 c_2 c_3 c_4; cases e_; have c0 : w'.cell? ad21 = some (.int .u8 xb.f0) := (by have h_ := c_0; rw [show ((0 : Int)).toNat * 5 = 0 from rfl, Addr.add_zero'] at h_; exact h_); have c1 : w'.cell? ⟨ad21.block, ad21.off + 1, none⟩ = some (.string xb.f1) := (by have h_ := c_1; rw [show ((0 : Int)).toNat * 5 = 0 from rfl, Addr.add_zero'] at h_; exact h_); have c2 : w'.cell? ⟨ad21.block, ad21.off + 2, none⟩ = some (.string xb.f2) := (by have h_ := c_2; rw [show ((0 : Int)).toNat * 5 = 0 from rfl, Addr.add_zero'] at h_; exact h_); have c3 : w'.cell? ⟨ad21.block, ad21.off + 3, none⟩ = some (.int .u16 xb.f3) := (by have h_ := c_3; rw [show ((0 : Int)).toNat * 5 = 0 from rfl, Addr.add_zero'] at h_; exact h_); have c4 : w'.cell? ⟨ad21.block, ad21.off + 4, none⟩ = some (.int .u16 xb.f4) := (by have h_ := c_4; rw [show ((0 : Int)).toNat * 5 = 0 from rfl, Addr.add_zero'] at h_; exact h_); clear c_0 c_1 c_2 c_3 c_4; go_simp
                      with_reducible rfl
                    rotate_left
                    · simp only [Act.put, sA_, s0_, sS_, i64_w, i32_w]
                      rfl
                    exact norm_ (by first | (simp only [putAll, Act.put, sA_, s0_, sS_]; done) | (simp only [putAll, Act.put, sA_, s0_, sS_]; rfl)) (hJ_0_4 () _ hHeld)
                  rintro _ u hHeld
                  refine norm_ (a' := ?_) ?_ ?_
                  rotate_left
                  · simp only [putAll, Act.put, sA_, s0_, sS_]
                    rfl
                  refine two_ (i := 8) (j := 14) (Ni := some 303) (Nj := some 309) (bm_ 23 15359) (bm_ 23 31487) rfl rfl rfl rfl (two_of HT_.out (by kernel_rfl)) (by decide) (by decide) (fun K hK => ?_) (fun K hK => ?_)
                  · refine Kd.R_lit_step k38 _ 38 ?hg (N := 303) ?hd (xs := ([] : List S38)) (inner := []) (ok := fun _ => True) (okp := fun _ => True) ?hr ?hp (fun _ hk => hk) trivial (Below.refl _ _) (Nat.le_refl _) (by simp) ?_; (case hd => rfl); (case hg => rfl); (case hr => first | (go_simp; done) | (go_simp; rfl)); (case hp => exact (Reps.none _ _))
                    intro v8 v ho hb hg_ hnew_
                    have hN_0 := Kd.R_lower ho hHeld.size
                    refine hK.out _ _ (hHeld.trans (below_to hb hHeld.size)) (fun hHeld => ?_)
                    clear hK K
                    refine norm_ (a' := ?_) ?_ ?_
                    rotate_left
                    · show Act.put _ (some 303) _ = _
                      simp only [Act.put, sA_, s0_, sS_, i64_w, i32_w]
                      rfl
                    exact norm_ (by first | (simp only [putAll, Act.put, sA_, s0_, sS_]; done) | (simp only [putAll, Act.put, sA_, s0_, sS_]; rfl)) (hJ_0_4_8 (v8) _ ⟨hHeld, hN_0⟩)
                  · refine Kd.R_lit_step k38 _ 38 ?hg (N := 309) ?hd (xs := ([xb] : List S38)) (inner := [.int .u8 xb.f0, .string xb.f1, .string xb.f2, .int .u16 xb.f3, .int .u16 xb.f4]) (ok := fun _ => True) (okp := fun _ => True) ?hr ?hp (fun _ hk => hk) trivial (Below.refl _ _) (Nat.le_refl _) (by simp) ?_; (case hd => rfl); (case hg => rfl); (case hr => first | (go_simp; done) | (go_simp; rfl)); (case hp => exact (Reps.c5 (show Kd.M k38 _ _ _ xb [.int .u8 xb.f0, .string xb.f1, .string xb.f2, .int .u16 xb.f3, .int .u16 xb.f4] from (k38_mkM _ _ _ xb)) (Reps.none _ _)))
                    intro v14 v ho hb hg_ hnew_
                    obtain ⟨A14, c14, e14, _, _⟩ := Kd.R_reads ho
                    subst e14
                    have hN_0 : Kd.R k38 38 v wr.drew.heap.size (fun _ => True) (.slice A14 1 c14) [xb] := Kd.R_lower ho hHeld.size
                    refine hK.out _ _ (hHeld.trans (below_to hb hHeld.size)) (fun hHeld => ?_)
                    clear hK K
                    refine norm_ (a' := ?_) ?_ ?_
                    rotate_left
                    · show Act.put _ (some 309) _ = _
                      simp only [Act.put, sA_, s0_, sS_, i64_w, i32_w]
                      rfl
                    exact norm_ (by first | (simp only [putAll, Act.put, sA_, s0_, sS_]; done) | (simp only [putAll, Act.put, sA_, s0_, sS_]; rfl)) (hJ_0_4_14 (A14, c14) _ ⟨hHeld, hN_0⟩)
                rintro ⟨A14, c14⟩ u ⟨hHeld, hF_14_0⟩
                have HF_14_0 := Aside0.mk hF_14_0
                clear hF_14_0
                refine norm_ (a' := ?_) ?_ ?_
                rotate_left
                · simp only [putAll, Act.put, sA_, s0_, sS_]
                  rfl
                refine one_ (i := 8) (N := some 303) (bm_ 23 31743) rfl rfl (one_of HT_.out (by kernel_rfl)) (by decide) (fun K hK => ?_)
                refine Kd.R_lit_step k38 _ 38 ?hg (N := 303) ?hd (xs := ([] : List S38)) (inner := []) (ok := fun _ => True) (okp := fun _ => True) ?hr ?hp (fun _ hk => hk) trivial (Below.refl _ _) (Nat.le_refl _) (by simp) ?_; (case hd => rfl); (case hg => rfl); (case hr => first | (go_simp; done) | (go_simp; rfl)); (case hp => exact (Reps.none _ _))
                intro v8 v ho hb hg_ hnew_
                have hN_0 := Kd.R_lower ho hHeld.size
                have hG_14_0 := Kd.R_mono (Kd.R_elder' HF_14_0.out (Kd.R_base ho) hb) (fun _ hk => hk.2)
                refine hK.out _ _ (hHeld.trans (below_to hb hHeld.size)) (fun hHeld => ?_)
                clear hK K
                refine norm_ (a' := ?_) ?_ ?_
                rotate_left
                · show Act.put _ (some 303) _ = _
                  simp only [Act.put, sA_, s0_, sS_, i64_w, i32_w]
                  rfl
                exact norm_ (by first | (simp only [putAll, Act.put, sA_, s0_, sS_]; done) | (simp only [putAll, Act.put, sA_, s0_, sS_]; rfl)) (hJ_0_4_8_14 (v8, A14, c14) _ ⟨hHeld, hN_0, hG_14_0⟩)
              rintro v8 u ⟨hHeld, hF_8_0⟩
              have HF_8_0 := Aside0.mk hF_8_0
              clear hF_8_0
              refine norm_ (a' := ?_) ?_ ?_
              rotate_left
              · simp only [putAll, Act.put, sA_, s0_, sS_]
                rfl
              refine two_ (i := 10) (j := 14) (Ni := some 305) (Nj := some 309) (bm_ 23 16383) (bm_ 23 31743) rfl rfl rfl rfl (two_of HT_.out (by kernel_rfl)) (by decide) (by decide) (fun K hK => ?_) (fun K hK => ?_)
              · refine Kd.R_append_rows_step k38 (w0 := wr.drew) wr.drew.heap.size ?hg (.tmp 303) (.tmp 304) 22 38 (.agg #[(.int .u8 0), (.string ⟨#[]⟩), (.string ⟨#[]⟩), (.int .u16 0), (.int .u16 0)]) 48 ?ho Try.underlying22 info38 rfl (by decide) (by omega) v8 [] (List.replicate 32 (⟨1, (⟨#[1, 97, 0]⟩ : ByteArray), (⟨#[1, 98, 0]⟩ : ByteArray), 0, 0⟩ : S38)) A19 32 A19c (fun _ => True) (fun _ => False) ?h1 ?h2 HF_8_0.out (Kd.C_below HA19d.out.1 hHeld) (fun _ _ h => h) (fun _ h => h.elim) (fun _ _ => trivial) hHeld hHeld.size (by simp) ?_; (case hg => rfl); (case ho => rfl); (case h1 => rfl); (case h2 => rfl)
                intro v10 v ho hb hg hat
                have hN_0 : Kd.R k38 38 v wr.drew.heap.size (fun _ => True) v10 (List.replicate 32 (⟨1, (⟨#[1, 97, 0]⟩ : ByteArray), (⟨#[1, 98, 0]⟩ : ByteArray), 0, 0⟩ : S38)) := ho
                refine hK.out _ _ hb (fun hHeld => ?_)
                clear hK K
                refine norm_ (a' := ?_) ?_ ?_
                rotate_left
                · show Act.put _ (some 305) _ = _
                  simp only [Act.put, sA_, s0_, sS_, i64_w, i32_w]
                  rfl
                exact norm_ (by first | (simp only [putAll, Act.put, sA_, s0_, sS_]; done) | (simp only [putAll, Act.put, sA_, s0_, sS_]; rfl)) (hJ_0_4_8_10 (v8, v10) _ ⟨hHeld, hN_0⟩)
              · refine Kd.R_lit_step k38 _ 38 ?hg (N := 309) ?hd (xs := ([xb] : List S38)) (inner := [.int .u8 xb.f0, .string xb.f1, .string xb.f2, .int .u16 xb.f3, .int .u16 xb.f4]) (ok := fun _ => True) (okp := fun _ => True) ?hr ?hp (fun _ hk => hk) trivial (Below.refl _ _) (Nat.le_refl _) (by simp) ?_; (case hd => rfl); (case hg => rfl); (case hr => first | (go_simp; done) | (go_simp; rfl)); (case hp => exact (Reps.c5 (show Kd.M k38 _ _ _ xb [.int .u8 xb.f0, .string xb.f1, .string xb.f2, .int .u16 xb.f3, .int .u16 xb.f4] from (k38_mkM _ _ _ xb)) (Reps.none _ _)))
                intro v14 v ho hb hg_ hnew_
                obtain ⟨A14, c14, e14, _, _⟩ := Kd.R_reads ho
                subst e14
                have hN_0 : Kd.R k38 38 v wr.drew.heap.size (fun k => some k ≠ v8.ownBlock) (.slice A14 1 c14) [xb] := Kd.R_mono (Kd.R_lower (Kd.R_new' ho (Kd.R_lt HF_8_0.out)) hHeld.size) (fun _ hk => hk.2)
                have hG_8_0 := Kd.R_below HF_8_0.out hb
                refine hK.out _ _ (hHeld.trans (below_to hb hHeld.size)) (fun hHeld => ?_)
                clear hK K
                refine norm_ (a' := ?_) ?_ ?_
                rotate_left
                · show Act.put _ (some 309) _ = _
                  simp only [Act.put, sA_, s0_, sS_, i64_w, i32_w]
                  rfl
                exact norm_ (by first | (simp only [putAll, Act.put, sA_, s0_, sS_]; done) | (simp only [putAll, Act.put, sA_, s0_, sS_]; rfl)) (hJ_0_4_8_14 (v8, A14, c14) _ ⟨hHeld, hG_8_0, hN_0⟩)
            rintro ⟨v8, A14, c14⟩ u ⟨hHeld, hF_8_0, hF_14_0⟩
            have HF_8_0 := Aside0.mk hF_8_0
            have HF_14_0 := Aside0.mk hF_14_0
            clear hF_8_0 hF_14_0
            refine norm_ (a' := ?_) ?_ ?_
            rotate_left
            · simp only [putAll, Act.put, sA_, s0_, sS_]
              rfl
            refine one_ (i := 10) (N := some 305) (bm_ 23 32767) rfl rfl (one_of HT_.out (by kernel_rfl)) (by decide) (fun K hK => ?_)
            refine Kd.R_append_rows_step k38 (w0 := wr.drew) wr.drew.heap.size ?hg (.tmp 303) (.tmp 304) 22 38 (.agg #[(.int .u8 0), (.string ⟨#[]⟩), (.string ⟨#[]⟩), (.int .u16 0), (.int .u16 0)]) 48 ?ho Try.underlying22 info38 rfl (by decide) (by omega) v8 [] (List.replicate 32 (⟨1, (⟨#[1, 97, 0]⟩ : ByteArray), (⟨#[1, 98, 0]⟩ : ByteArray), 0, 0⟩ : S38)) A19 32 A19c (fun _ => True) (fun _ => False) ?h1 ?h2 HF_8_0.out (Kd.C_below HA19d.out.1 hHeld) (fun _ _ h => h) (fun _ h => h.elim) (fun _ _ => trivial) hHeld hHeld.size (by simp) ?_; (case hg => rfl); (case ho => rfl); (case h1 => rfl); (case h2 => rfl)
            intro v10 v ho hb hg hat
            have hN_0 : Kd.R k38 38 v wr.drew.heap.size (fun _ => True) v10 (List.replicate 32 (⟨1, (⟨#[1, 97, 0]⟩ : ByteArray), (⟨#[1, 98, 0]⟩ : ByteArray), 0, 0⟩ : S38)) := ho
            have hG_14_0 := Kd.R_mono (Kd.R_grown HF_14_0.out hg (fun _ hk => hk)) (fun _ _ => trivial)
            refine hK.out _ _ hb (fun hHeld => ?_)
            clear hK K
            refine norm_ (a' := ?_) ?_ ?_
            rotate_left
            · show Act.put _ (some 305) _ = _
              simp only [Act.put, sA_, s0_, sS_, i64_w, i32_w]
              rfl
            exact norm_ (by first | (simp only [putAll, Act.put, sA_, s0_, sS_]; done) | (simp only [putAll, Act.put, sA_, s0_, sS_]; rfl)) (hJ_0_4_8_10_14 (v8, v10, A14, c14) _ ⟨hHeld, hN_0, hG_14_0⟩)
          rintro ⟨v8, v10⟩ u ⟨hHeld, hF_10_0⟩
          have HF_10_0 := Aside0.mk hF_10_0
          clear hF_10_0
          refine norm_ (a' := ?_) ?_ ?_
          rotate_left
          · simp only [putAll, Act.put, sA_, s0_, sS_]
            rfl
          refine one_ (i := 14) (N := some 309) (bm_ 23 32767) rfl rfl (one_of HT_.out (by kernel_rfl)) (by decide) (fun K hK => ?_)
          refine Kd.R_lit_step k38 _ 38 ?hg (N := 309) ?hd (xs := ([xb] : List S38)) (inner := [.int .u8 xb.f0, .string xb.f1, .string xb.f2, .int .u16 xb.f3, .int .u16 xb.f4]) (ok := fun _ => True) (okp := fun _ => True) ?hr ?hp (fun _ hk => hk) trivial (Below.refl _ _) (Nat.le_refl _) (by simp) ?_; (case hd => rfl); (case hg => rfl); (case hr => first | (go_simp; done) | (go_simp; rfl)); (case hp => exact (Reps.c5 (show Kd.M k38 _ _ _ xb [.int .u8 xb.f0, .string xb.f1, .string xb.f2, .int .u16 xb.f3, .int .u16 xb.f4] from (k38_mkM _ _ _ xb)) (Reps.none _ _)))
          intro v14 v ho hb hg_ hnew_
          obtain ⟨A14, c14, e14, _, _⟩ := Kd.R_reads ho
          subst e14
          have hN_0 : Kd.R k38 38 v wr.drew.heap.size (fun _ => True) (.slice A14 1 c14) [xb] := Kd.R_lower ho hHeld.size
          have hG_10_0 := Kd.R_below HF_10_0.out hb
          refine hK.out _ _ (hHeld.trans (below_to hb hHeld.size)) (fun hHeld => ?_)
          clear hK K
          refine norm_ (a' := ?_) ?_ ?_
          rotate_left
          · show Act.put _ (some 309) _ = _
            simp only [Act.put, sA_, s0_, sS_, i64_w, i32_w]
            rfl
          exact norm_ (by first | (simp only [putAll, Act.put, sA_, s0_, sS_]; done) | (simp only [putAll, Act.put, sA_, s0_, sS_]; rfl)) (hJ_0_4_8_10_14 (v8, v10, A14, c14) _ ⟨hHeld, hG_10_0, hN_0⟩)
        rintro ⟨v8, v10, A14, c14⟩ u ⟨hHeld, hF_10_0, hF_14_0⟩
        have HF_10_0 := Aside0.mk hF_10_0
        have HF_14_0 := Aside0.mk hF_14_0
        clear hF_10_0 hF_14_0
        refine norm_ (a' := ?_) ?_ ?_
        rotate_left
        · simp only [putAll, Act.put, sA_, s0_, sS_]
          rfl
        refine one_ (i := 15) (N := some 310) (bm_ 23 65535) rfl rfl (one_of HT_.out (by kernel_rfl)) (by decide) (fun K hK => ?_)
        refine Kd.R_append_rows_step k38 (w0 := wr.drew) wr.drew.heap.size ?hg (.tmp 305) (.tmp 309) 22 38 (.agg #[(.int .u8 0), (.string ⟨#[]⟩), (.string ⟨#[]⟩), (.int .u16 0), (.int .u16 0)]) 48 ?ho Try.underlying22 info38 rfl (by decide) (by omega) v10 (List.replicate 32 (⟨1, (⟨#[1, 97, 0]⟩ : ByteArray), (⟨#[1, 98, 0]⟩ : ByteArray), 0, 0⟩ : S38)) [xb] A14 1 c14 (fun _ => True) (fun _ => False) ?h1 ?h2 HF_10_0.out (Kd.R_reads' HF_14_0.out).2.2 (fun _ _ h => h) (fun _ h => h.elim) (fun _ _ => trivial) hHeld hHeld.size (by simp) ?_; (case hg => rfl); (case ho => rfl); (case h1 => rfl); (case h2 => rfl)
        intro v15 v ho hb hg hat
        obtain ⟨A15, c15, e15, hl15, hC15⟩ := Kd.R_reads ho
        rw [len33] at e15 hl15 hC15
        subst e15
        have hN_0 := hC15
        have hN_1 := hl15
        refine hK.out _ _ hb (fun hHeld => ?_)
        clear hK K
        refine norm_ (a' := ?_) ?_ ?_
        rotate_left
        · show Act.put _ (some 310) _ = _
          simp only [Act.put, sA_, s0_, sS_, i64_w, i32_w]
          rfl
        exact norm_ (by first | (simp only [putAll, Act.put, sA_, s0_, sS_]; done) | (simp only [putAll, Act.put, sA_, s0_, sS_]; rfl)) (hJ_0_4_8_10_14_15 (v8, v10, A14, c14, A15, c15) _ ⟨hHeld, hN_0, hN_1⟩)
      rintro ⟨v8, v10, A14, c14, A15, c15⟩ u ⟨hHeld, hF_15_0, hF_15_1⟩
      have HF_15_0 := Aside0.mk hF_15_0
      have HF_15_1 := Aside0.mk hF_15_1
      clear hF_15_0 hF_15_1
      refine norm_ (a' := ?_) ?_ ?_
      rotate_left
      · simp only [putAll, Act.put, sA_, s0_, sS_]
        rfl
      refine one_ (i := 16) (N := some 311) (bm_ 23 131071) rfl rfl (one_of HT_.out (by kernel_rfl)) (by decide) (fun K hK => ?_)
      refine goes_ Try.func12 (by kernel_rfl) rfl #[.slice A15 33 c15] (by rfl) rfl rfl (by (try simp only [List.map_toArray, List.map_cons, List.map_nil]); first | done | rfl) ?_
      (with_reducible refine (check_calls3 A15 33 c15 ((List.replicate 32 (⟨1, (⟨#[1, 97, 0]⟩ : ByteArray), (⟨#[1, 98, 0]⟩ : ByteArray), 0, 0⟩ : S38)) ++ [xb]) len33 2 _ HF_15_0.out HF_15_1.out (chk_more xb)).mono ?_)
      rintro e v ⟨rfl, hb⟩
      refine ⟨_, rfl, ?_⟩
      have hG_15_0 := Kd.C_below HF_15_0.out hb
      have hG_15_1 := HF_15_1.out
      refine hK.out _ _ (hHeld.trans (below_to hb hHeld.size)) (fun hHeld => ?_)
      clear hK K
      refine norm_ (a' := ?_) ?_ ?_
      rotate_left
      · show Act.put _ (some 311) _ = _
        simp only [Act.put, sA_, s0_, sS_, i64_w, i32_w]
        rfl
      refine pure_ (i := 17) (N := some 312) (v := ?_) (a' := ?_) (bm_ 23 262143) rfl rfl (any_of HT_.out (by kernel_rfl)) (fun _ _ _ h => hP _ _ _ _ _ h) (Or.inl ⟨by rfl, ?_⟩) ?_ ?_
      rotate_left
      · intro w'
        go_simp
        with_reducible rfl
      rotate_left
      · simp only [Act.put, sA_, s0_, sS_, i64_w, i32_w]
        rfl
      refine pure_ (i := 18) (N := some 313) (v := ?_) (a' := ?_) (bm_ 23 524287) rfl rfl (any_of HT_.out (by kernel_rfl)) (fun _ _ _ h => hP _ _ _ _ _ h) (Or.inl ⟨by rfl, ?_⟩) ?_ ?_
      rotate_left
      · intro w'
        go_simp
        with_reducible rfl
      rotate_left
      · simp only [Act.put, sA_, s0_, sS_, i64_w, i32_w]
        rfl
      refine pure_ (i := 19) (N := some 314) (v := ?_) (a' := ?_) (bm_ 23 1048575) rfl rfl (any_of HT_.out (by kernel_rfl)) (fun _ _ _ h => hP _ _ _ _ _ h) (Or.inl ⟨by rfl, ?_⟩) ?_ ?_
      rotate_left
      · intro w'
        go_simp
        with_reducible rfl
      rotate_left
      · simp only [Act.put, sA_, s0_, sS_, i64_w, i32_w]
        rfl
      exact norm_ (by first | (simp only [putAll, Act.put, sA_, s0_, sS_]; done) | (simp only [putAll, Act.put, sA_, s0_, sS_]; rfl)) (hJ_0_4_8_10_14_15_16 (v8, v10, A14, c14, A15, c15) _ ⟨hHeld, hG_15_0, hG_15_1⟩)
    rintro ⟨v8, v10, A14, c14, A15, c15⟩ u ⟨hHeld, hF_15_0, hF_15_1⟩
    have HF_15_0 := Aside0.mk hF_15_0
    have HF_15_1 := Aside0.mk hF_15_1
    clear hF_15_0 hF_15_1
    refine norm_ (a' := ?_) ?_ ?_
    rotate_left
    · simp only [putAll, Act.put, sA_, s0_, sS_]
      rfl
    refine one_ (i := 20) (N := some 315) (bm_ 23 2097151) rfl rfl (one_of HT_.out (by kernel_rfl)) (by decide) (fun K hK => ?_)
    refine goes_ Try.func15 (by kernel_rfl) rfl #[] (by rfl) rfl rfl (by (try simp only [List.map_toArray, List.map_cons, List.map_nil]); first | done | rfl) ?_
    (with_reducible refine (hearsaylaw25_asks.calls true _ asks_f).mono ?_)
    rintro e v ⟨rfl, hb⟩
    refine ⟨_, rfl, ?_⟩
    have hG_15_0 := Kd.C_below HF_15_0.out hb
    have hG_15_1 := HF_15_1.out
    refine hK.out _ _ (hHeld.trans (below_to hb hHeld.size)) (fun hHeld => ?_)
    clear hK K
    refine norm_ (a' := ?_) ?_ ?_
    rotate_left
    · show Act.put _ (some 315) _ = _
      simp only [Act.put, sA_, s0_, sS_, i64_w, i32_w]
      rfl
    exact norm_ (by first | (simp only [putAll, Act.put, sA_, s0_, sS_]; done) | (simp only [putAll, Act.put, sA_, s0_, sS_]; rfl)) (hJ_0_4_8_10_14_15_16_20 (v8, v10, A14, c14, A15, c15) _ ⟨hHeld, hG_15_0, hG_15_1⟩)
  rintro ⟨v8, v10, A14, c14, A15, c15⟩ u ⟨hHeld, hF_15_0, hF_15_1⟩
  have HF_15_0 := Aside0.mk hF_15_0
  have HF_15_1 := Aside0.mk hF_15_1
  clear hF_15_0 hF_15_1
  refine norm_ (a' := ?_) ?_ ?_
  rotate_left
  · simp only [putAll, Act.put, sA_, s0_, sS_]
    rfl
  refine pure_ (i := 21) (N := some 316) (v := ?_) (a' := ?_) (bm_ 23 4194303) rfl rfl (any_of HT_.out (by kernel_rfl)) (fun _ _ _ h => hP _ _ _ _ _ h) (Or.inl ⟨by rfl, ?_⟩) ?_ ?_
  rotate_left
  · intro w'
    go_simp
    with_reducible rfl
  rotate_left
  · simp only [Act.put, sA_, s0_, sS_, i64_w, i32_w]
    rfl
  refine pure_ (i := 22) (N := some 0) (v := ?_) (a' := ?_) (bm_ 23 8388607) rfl rfl (any_of HT_.out (by kernel_rfl)) (fun _ _ _ h => hP _ _ _ _ _ h) (Or.inl ⟨by rfl, ?_⟩) ?_ ?_
  rotate_left
  · intro w'
    go_simp
    with_reducible rfl
  rotate_left
  · simp only [Act.put, sA_, s0_, sS_, i64_w, i32_w]
    rfl
  refine done_ (done_of HT_.out (by kernel_rfl)) ?_
  exact hk _ _ _ _ _ _ _ _ _ _ _ _ _ _ _ _ _ _ _ _ _ _ _ hHeld
set_option maxHeartbeats 100000000 in
set_option maxRecDepth 100000 in
theorem rewriteKnown_calls (w : World) : Calls Try.prog 9 #[] w fun e w' => e = .returned (.bool true) ∧ Below w.heap.size w w' := by
  obtain ⟨Rw, hRw⟩ : ∃ l : List S62, l = rowsK := ⟨_, rfl⟩
  have HRW := Aside0.mk hRw
  have HALL := Aside0.mk (show ∀ x ∈ Rw, rowOk x = true from by rw [hRw]; exact List.all_eq_true.1 rows_ok)
  clear hRw
  go_enter Try.func9, Try.ntmps9
  go_wp2_with (first | ((with_reducible refine gate_dst (N := 36) rfl ?_); refine Kd.R_lit k62 _ 62 ?hg (N := 36) ?hd (xs := ([(⟨1, (⟨#[97, 46, 98, 46]⟩ : ByteArray), (⟨#[99, 46]⟩ : ByteArray), (⟨#[65, 46, 98, 46]⟩ : ByteArray), (⟨#[99, 46]⟩ : ByteArray)⟩ : S62), (⟨1, (⟨#[97, 46, 98, 46]⟩ : ByteArray), (⟨#[99, 46]⟩ : ByteArray), (⟨#[120, 46, 97, 46, 98, 46]⟩ : ByteArray), (⟨#[]⟩ : ByteArray)⟩ : S62), (⟨2, (⟨#[98, 46]⟩ : ByteArray), (⟨#[99, 46, 100, 46]⟩ : ByteArray), (⟨#[88, 46, 97, 46, 66, 46]⟩ : ByteArray), (⟨#[88, 46, 97, 46, 99, 46, 100, 46]⟩ : ByteArray)⟩ : S62), (⟨2, (⟨#[98, 46]⟩ : ByteArray), (⟨#[99, 46, 100, 46]⟩ : ByteArray), (⟨#[98, 46]⟩ : ByteArray), (⟨#[99, 46, 100, 46]⟩ : ByteArray)⟩ : S62), (⟨2, (⟨#[98, 46]⟩ : ByteArray), (⟨#[99, 46, 100, 46]⟩ : ByteArray), (⟨#[98, 98, 46]⟩ : ByteArray), (⟨#[]⟩ : ByteArray)⟩ : S62), (⟨3, (⟨#[97, 46]⟩ : ByteArray), (⟨#[98, 46, 99, 46]⟩ : ByteArray), (⟨#[65, 46, 120, 46]⟩ : ByteArray), (⟨#[98, 46, 99, 46, 120, 46]⟩ : ByteArray)⟩ : S62), (⟨3, (⟨#[97, 46]⟩ : ByteArray), (⟨#[98, 46, 99, 46]⟩ : ByteArray), (⟨#[120, 46, 97, 46]⟩ : ByteArray), (⟨#[]⟩ : ByteArray)⟩ : S62), (⟨3, (⟨#[97, 46]⟩ : ByteArray), (⟨#[98, 46, 99, 46]⟩ : ByteArray), (⟨#[97, 46]⟩ : ByteArray), (⟨#[98, 46, 99, 46]⟩ : ByteArray)⟩ : S62), (⟨3, (⟨#[46]⟩ : ByteArray), (⟨#[98, 46]⟩ : ByteArray), (⟨#[120, 46]⟩ : ByteArray), (⟨#[98, 46, 120, 46]⟩ : ByteArray)⟩ : S62), (⟨2, (⟨#[46]⟩ : ByteArray), (⟨#[98, 46]⟩ : ByteArray), (⟨#[120, 46]⟩ : ByteArray), (⟨#[120, 46, 98, 46]⟩ : ByteArray)⟩ : S62), (⟨1, (⟨#[46]⟩ : ByteArray), (⟨#[46]⟩ : ByteArray), (⟨#[46]⟩ : ByteArray), (⟨#[46]⟩ : ByteArray)⟩ : S62), (⟨3, (⟨#[97, 46, 98, 46]⟩ : ByteArray), (⟨#[46]⟩ : ByteArray), (⟨#[97, 46]⟩ : ByteArray), (⟨#[]⟩ : ByteArray)⟩ : S62), (⟨3, (⟨#[97, 46, 98, 46]⟩ : ByteArray), (⟨#[46]⟩ : ByteArray), (⟨#[97, 46, 66, 46, 99, 46]⟩ : ByteArray), (⟨#[99, 46]⟩ : ByteArray)⟩ : S62)] : List S62)) (inner := [.int .u8 1, .string (⟨#[97, 46, 98, 46]⟩ : ByteArray), .string (⟨#[99, 46]⟩ : ByteArray), .string (⟨#[65, 46, 98, 46]⟩ : ByteArray), .string (⟨#[99, 46]⟩ : ByteArray), .int .u8 1, .string (⟨#[97, 46, 98, 46]⟩ : ByteArray), .string (⟨#[99, 46]⟩ : ByteArray), .string (⟨#[120, 46, 97, 46, 98, 46]⟩ : ByteArray), .string (⟨#[]⟩ : ByteArray), .int .u8 2, .string (⟨#[98, 46]⟩ : ByteArray), .string (⟨#[99, 46, 100, 46]⟩ : ByteArray), .string (⟨#[88, 46, 97, 46, 66, 46]⟩ : ByteArray), .string (⟨#[88, 46, 97, 46, 99, 46, 100, 46]⟩ : ByteArray), .int .u8 2, .string (⟨#[98, 46]⟩ : ByteArray), .string (⟨#[99, 46, 100, 46]⟩ : ByteArray), .string (⟨#[98, 46]⟩ : ByteArray), .string (⟨#[99, 46, 100, 46]⟩ : ByteArray), .int .u8 2, .string (⟨#[98, 46]⟩ : ByteArray), .string (⟨#[99, 46, 100, 46]⟩ : ByteArray), .string (⟨#[98, 98, 46]⟩ : ByteArray), .string (⟨#[]⟩ : ByteArray), .int .u8 3, .string (⟨#[97, 46]⟩ : ByteArray), .string (⟨#[98, 46, 99, 46]⟩ : ByteArray), .string (⟨#[65, 46, 120, 46]⟩ : ByteArray), .string (⟨#[98, 46, 99, 46, 120, 46]⟩ : ByteArray), .int .u8 3, .string (⟨#[97, 46]⟩ : ByteArray), .string (⟨#[98, 46, 99, 46]⟩ : ByteArray), .string (⟨#[120, 46, 97, 46]⟩ : ByteArray), .string (⟨#[]⟩ : ByteArray), .int .u8 3, .string (⟨#[97, 46]⟩ : ByteArray), .string (⟨#[98, 46, 99, 46]⟩ : ByteArray), .string (⟨#[97, 46]⟩ : ByteArray), .string (⟨#[98, 46, 99, 46]⟩ : ByteArray), .int .u8 3, .string (⟨#[46]⟩ : ByteArray), .string (⟨#[98, 46]⟩ : ByteArray), .string (⟨#[120, 46]⟩ : ByteArray), .string (⟨#[98, 46, 120, 46]⟩ : ByteArray), .int .u8 2, .string (⟨#[46]⟩ : ByteArray), .string (⟨#[98, 46]⟩ : ByteArray), .string (⟨#[120, 46]⟩ : ByteArray), .string (⟨#[120, 46, 98, 46]⟩ : ByteArray), .int .u8 1, .string (⟨#[46]⟩ : ByteArray), .string (⟨#[46]⟩ : ByteArray), .string (⟨#[46]⟩ : ByteArray), .string (⟨#[46]⟩ : ByteArray), .int .u8 3, .string (⟨#[97, 46, 98, 46]⟩ : ByteArray), .string (⟨#[46]⟩ : ByteArray), .string (⟨#[97, 46]⟩ : ByteArray), .string (⟨#[]⟩ : ByteArray), .int .u8 3, .string (⟨#[97, 46, 98, 46]⟩ : ByteArray), .string (⟨#[46]⟩ : ByteArray), .string (⟨#[97, 46, 66, 46, 99, 46]⟩ : ByteArray), .string (⟨#[99, 46]⟩ : ByteArray)]) (ok := fun _ => True) (okp := fun _ => True) ?hr ?hp (fun _ hk => hk) trivial (Below.refl _ _) (Nat.le_refl _) (by simp) ?_; (case hd => rfl); (case hg => rfl); (case hr => first | (go_simp; done) | (go_simp; rfl)); (case hp => exact (Reps.c5 (show Kd.M k62 _ _ _ (⟨1, (⟨#[97, 46, 98, 46]⟩ : ByteArray), (⟨#[99, 46]⟩ : ByteArray), (⟨#[65, 46, 98, 46]⟩ : ByteArray), (⟨#[99, 46]⟩ : ByteArray)⟩ : S62) [.int .u8 1, .string (⟨#[97, 46, 98, 46]⟩ : ByteArray), .string (⟨#[99, 46]⟩ : ByteArray), .string (⟨#[65, 46, 98, 46]⟩ : ByteArray), .string (⟨#[99, 46]⟩ : ByteArray)] from (k62_mkM _ _ _ (⟨1, (⟨#[97, 46, 98, 46]⟩ : ByteArray), (⟨#[99, 46]⟩ : ByteArray), (⟨#[65, 46, 98, 46]⟩ : ByteArray), (⟨#[99, 46]⟩ : ByteArray)⟩ : S62))) (Reps.c5 (show Kd.M k62 _ _ _ (⟨1, (⟨#[97, 46, 98, 46]⟩ : ByteArray), (⟨#[99, 46]⟩ : ByteArray), (⟨#[120, 46, 97, 46, 98, 46]⟩ : ByteArray), (⟨#[]⟩ : ByteArray)⟩ : S62) [.int .u8 1, .string (⟨#[97, 46, 98, 46]⟩ : ByteArray), .string (⟨#[99, 46]⟩ : ByteArray), .string (⟨#[120, 46, 97, 46, 98, 46]⟩ : ByteArray), .string (⟨#[]⟩ : ByteArray)] from (k62_mkM _ _ _ (⟨1, (⟨#[97, 46, 98, 46]⟩ : ByteArray), (⟨#[99, 46]⟩ : ByteArray), (⟨#[120, 46, 97, 46, 98, 46]⟩ : ByteArray), (⟨#[]⟩ : ByteArray)⟩ : S62))) (Reps.c5 (show Kd.M k62 _ _ _ (⟨2, (⟨#[98, 46]⟩ : ByteArray), (⟨#[99, 46, 100, 46]⟩ : ByteArray), (⟨#[88, 46, 97, 46, 66, 46]⟩ : ByteArray), (⟨#[88, 46, 97, 46, 99, 46, 100, 46]⟩ : ByteArray)⟩ : S62) [.int .u8 2, .string (⟨#[98, 46]⟩ : ByteArray), .string (⟨#[99, 46, 100, 46]⟩ : ByteArray), .string (⟨#[88, 46, 97, 46, 66, 46]⟩ : ByteArray), .string (⟨#[88, 46, 97, 46, 99, 46, 100, 46]⟩ : ByteArray)] from (k62_mkM _ _ _ (⟨2, (⟨#[98, 46]⟩ : ByteArray), (⟨#[99, 46, 100, 46]⟩ : ByteArray), (⟨#[88, 46, 97, 46, 66, 46]⟩ : ByteArray), (⟨#[88, 46, 97, 46, 99, 46, 100, 46]⟩ : ByteArray)⟩ : S62))) (Reps.c5 (show Kd.M k62 _ _ _ (⟨2, (⟨#[98, 46]⟩ : ByteArray), (⟨#[99, 46, 100, 46]⟩ : ByteArray), (⟨#[98, 46]⟩ : ByteArray), (⟨#[99, 46, 100, 46]⟩ : ByteArray)⟩ : S62) [.int .u8 2, .string (⟨#[98, 46]⟩ : ByteArray), .string (⟨#[99, 46, 100, 46]⟩ : ByteArray), .string (⟨#[98, 46]⟩ : ByteArray), .string (⟨#[99, 46, 100, 46]⟩ : ByteArray)] from (k62_mkM _ _ _ (⟨2, (⟨#[98, 46]⟩ : ByteArray), (⟨#[99, 46, 100, 46]⟩ : ByteArray), (⟨#[98, 46]⟩ : ByteArray), (⟨#[99, 46, 100, 46]⟩ : ByteArray)⟩ : S62))) (Reps.c5 (show Kd.M k62 _ _ _ (⟨2, (⟨#[98, 46]⟩ : ByteArray), (⟨#[99, 46, 100, 46]⟩ : ByteArray), (⟨#[98, 98, 46]⟩ : ByteArray), (⟨#[]⟩ : ByteArray)⟩ : S62) [.int .u8 2, .string (⟨#[98, 46]⟩ : ByteArray), .string (⟨#[99, 46, 100, 46]⟩ : ByteArray), .string (⟨#[98, 98, 46]⟩ : ByteArray), .string (⟨#[]⟩ : ByteArray)] from (k62_mkM _ _ _ (⟨2, (⟨#[98, 46]⟩ : ByteArray), (⟨#[99, 46, 100, 46]⟩ : ByteArray), (⟨#[98, 98, 46]⟩ : ByteArray), (⟨#[]⟩ : ByteArray)⟩ : S62))) (Reps.c5 (show Kd.M k62 _ _ _ (⟨3, (⟨#[97, 46]⟩ : ByteArray), (⟨#[98, 46, 99, 46]⟩ : ByteArray), (⟨#[65, 46, 120, 46]⟩ : ByteArray), (⟨#[98, 46, 99, 46, 120, 46]⟩ : ByteArray)⟩ : S62) [.int .u8 3, .string (⟨#[97, 46]⟩ : ByteArray), .string (⟨#[98, 46, 99, 46]⟩ : ByteArray), .string (⟨#[65, 46, 120, 46]⟩ : ByteArray), .string (⟨#[98, 46, 99, 46, 120, 46]⟩ : ByteArray)] from (k62_mkM _ _ _ (⟨3, (⟨#[97, 46]⟩ : ByteArray), (⟨#[98, 46, 99, 46]⟩ : ByteArray), (⟨#[65, 46, 120, 46]⟩ : ByteArray), (⟨#[98, 46, 99, 46, 120, 46]⟩ : ByteArray)⟩ : S62))) (Reps.c5 (show Kd.M k62 _ _ _ (⟨3, (⟨#[97, 46]⟩ : ByteArray), (⟨#[98, 46, 99, 46]⟩ : ByteArray), (⟨#[120, 46, 97, 46]⟩ : ByteArray), (⟨#[]⟩ : ByteArray)⟩ : S62) [.int .u8 3, .string (⟨#[97, 46]⟩ : ByteArray), .string (⟨#[98, 46, 99, 46]⟩ : ByteArray), .string (⟨#[120, 46, 97, 46]⟩ : ByteArray), .string (⟨#[]⟩ : ByteArray)] from (k62_mkM _ _ _ (⟨3, (⟨#[97, 46]⟩ : ByteArray), (⟨#[98, 46, 99, 46]⟩ : ByteArray), (⟨#[120, 46, 97, 46]⟩ : ByteArray), (⟨#[]⟩ : ByteArray)⟩ : S62))) (Reps.c5 (show Kd.M k62 _ _ _ (⟨3, (⟨#[97, 46]⟩ : ByteArray), (⟨#[98, 46, 99, 46]⟩ : ByteArray), (⟨#[97, 46]⟩ : ByteArray), (⟨#[98, 46, 99, 46]⟩ : ByteArray)⟩ : S62) [.int .u8 3, .string (⟨#[97, 46]⟩ : ByteArray), .string (⟨#[98, 46, 99, 46]⟩ : ByteArray), .string (⟨#[97, 46]⟩ : ByteArray), .string (⟨#[98, 46, 99, 46]⟩ : ByteArray)] from (k62_mkM _ _ _ (⟨3, (⟨#[97, 46]⟩ : ByteArray), (⟨#[98, 46, 99, 46]⟩ : ByteArray), (⟨#[97, 46]⟩ : ByteArray), (⟨#[98, 46, 99, 46]⟩ : ByteArray)⟩ : S62))) (Reps.c5 (show Kd.M k62 _ _ _ (⟨3, (⟨#[46]⟩ : ByteArray), (⟨#[98, 46]⟩ : ByteArray), (⟨#[120, 46]⟩ : ByteArray), (⟨#[98, 46, 120, 46]⟩ : ByteArray)⟩ : S62) [.int .u8 3, .string (⟨#[46]⟩ : ByteArray), .string (⟨#[98, 46]⟩ : ByteArray), .string (⟨#[120, 46]⟩ : ByteArray), .string (⟨#[98, 46, 120, 46]⟩ : ByteArray)] from (k62_mkM _ _ _ (⟨3, (⟨#[46]⟩ : ByteArray), (⟨#[98, 46]⟩ : ByteArray), (⟨#[120, 46]⟩ : ByteArray), (⟨#[98, 46, 120, 46]⟩ : ByteArray)⟩ : S62))) (Reps.c5 (show Kd.M k62 _ _ _ (⟨2, (⟨#[46]⟩ : ByteArray), (⟨#[98, 46]⟩ : ByteArray), (⟨#[120, 46]⟩ : ByteArray), (⟨#[120, 46, 98, 46]⟩ : ByteArray)⟩ : S62) [.int .u8 2, .string (⟨#[46]⟩ : ByteArray), .string (⟨#[98, 46]⟩ : ByteArray), .string (⟨#[120, 46]⟩ : ByteArray), .string (⟨#[120, 46, 98, 46]⟩ : ByteArray)] from (k62_mkM _ _ _ (⟨2, (⟨#[46]⟩ : ByteArray), (⟨#[98, 46]⟩ : ByteArray), (⟨#[120, 46]⟩ : ByteArray), (⟨#[120, 46, 98, 46]⟩ : ByteArray)⟩ : S62))) (Reps.c5 (show Kd.M k62 _ _ _ (⟨1, (⟨#[46]⟩ : ByteArray), (⟨#[46]⟩ : ByteArray), (⟨#[46]⟩ : ByteArray), (⟨#[46]⟩ : ByteArray)⟩ : S62) [.int .u8 1, .string (⟨#[46]⟩ : ByteArray), .string (⟨#[46]⟩ : ByteArray), .string (⟨#[46]⟩ : ByteArray), .string (⟨#[46]⟩ : ByteArray)] from (k62_mkM _ _ _ (⟨1, (⟨#[46]⟩ : ByteArray), (⟨#[46]⟩ : ByteArray), (⟨#[46]⟩ : ByteArray), (⟨#[46]⟩ : ByteArray)⟩ : S62))) (Reps.c5 (show Kd.M k62 _ _ _ (⟨3, (⟨#[97, 46, 98, 46]⟩ : ByteArray), (⟨#[46]⟩ : ByteArray), (⟨#[97, 46]⟩ : ByteArray), (⟨#[]⟩ : ByteArray)⟩ : S62) [.int .u8 3, .string (⟨#[97, 46, 98, 46]⟩ : ByteArray), .string (⟨#[46]⟩ : ByteArray), .string (⟨#[97, 46]⟩ : ByteArray), .string (⟨#[]⟩ : ByteArray)] from (k62_mkM _ _ _ (⟨3, (⟨#[97, 46, 98, 46]⟩ : ByteArray), (⟨#[46]⟩ : ByteArray), (⟨#[97, 46]⟩ : ByteArray), (⟨#[]⟩ : ByteArray)⟩ : S62))) (Reps.c5 (show Kd.M k62 _ _ _ (⟨3, (⟨#[97, 46, 98, 46]⟩ : ByteArray), (⟨#[46]⟩ : ByteArray), (⟨#[97, 46, 66, 46, 99, 46]⟩ : ByteArray), (⟨#[99, 46]⟩ : ByteArray)⟩ : S62) [.int .u8 3, .string (⟨#[97, 46, 98, 46]⟩ : ByteArray), .string (⟨#[46]⟩ : ByteArray), .string (⟨#[97, 46, 66, 46, 99, 46]⟩ : ByteArray), .string (⟨#[99, 46]⟩ : ByteArray)] from (k62_mkM _ _ _ (⟨3, (⟨#[97, 46, 98, 46]⟩ : ByteArray), (⟨#[46]⟩ : ByteArray), (⟨#[97, 46, 66, 46, 99, 46]⟩ : ByteArray), (⟨#[99, 46]⟩ : ByteArray)⟩ : S62))) (Reps.none _ _))))))))))))))); intro v1 w1 ho hb hg_ hnew_; (first | rw [← show Rw = _ from HRW.out] at ho | (have hrw_ := HRW.out; unfold rowsK at hrw_; rw [← hrw_] at ho; clear hrw_)); obtain ⟨A1, c1, e1, hle1, hC1⟩ := Kd.R_reads ho; subst e1; have HC1 := Aside0.mk hC1; have HB := Aside0.mk (hb : Below w.heap.size w w1); clear ho hb hg_ hnew_ hC1))
  have hml : Rw.length ≤ 100 := by rw [HRW.out]; decide
  go_loopw [2] (fun i wr => ∃ k : Nat, k ≤ Rw.length ∧ i = .int .i64 k ∧ Aside0 (Kd.C k62 wr A1 Rw.length Rw) ∧ Aside0 (Below w.heap.size w wr)) (fun i _ => Rw.length - (intOf i).toNat)
  case atStart => exact ⟨0, Nat.zero_le _, rfl, HC1, HB⟩
  case round =>
    clear HC1 HB
    obtain ⟨k, hk, rfl, HC, HB⟩ := hrel
    by_cases hlt : k < Rw.length
    · obtain ⟨x, hx⟩ : ∃ x, Rw[k]? = some x := ⟨Rw[k], List.getElem?_eq_getElem hlt⟩
      obtain ⟨hn1, hn2, hn3, hy⟩ := row_says (HALL.out x (List.mem_of_getElem? hx))
      have HN1 := Aside0.mk (nm_of hn1)
      have HN2 := Aside0.mk (nm_of hn2)
      have HN3 := Aside0.mk (nm_of hn3)
      have HXK := Aside0.mk hx
      obtain ⟨ad, hA, _⟩ := at_T62 HC.out (k : Int) (by omega) (by omega)
      subst hA
      obtain ⟨y0, y1, y2, yb, hask, hye⟩ : ∃ y0 y1 y2 yb, askP [(⟨x.f0, nm x.f1, nm x.f2, 0, 0⟩ : S38)] ⟨nm x.f3, 5, 3⟩ = (⟨y0, y1, y2⟩, yb) ∧ ((x.f4.size = 0 ∧ y0 = ⟨#[]⟩ ∧ y1 = 0 ∧ y2 = 0 ∧ yb = false) ∨ (¬ x.f4.size = 0 ∧ isNm x.f4 = true ∧ y0 = nm x.f4 ∧ y1 = 5 ∧ y2 = 3 ∧ yb = true)) := by
        rcases hy with ⟨h0, h1⟩ | ⟨h0, h1, h2⟩
        · exact ⟨_, _, _, _, h1, Or.inl ⟨h0, rfl, rfl, rfl, rfl⟩⟩
        · exact ⟨_, _, _, _, h2, Or.inr ⟨h0, h1, rfl, rfl, rfl, rfl⟩⟩
      have HASK := Aside0.mk hask
      have HYE := Aside0.mk hye
      clear hx hn1 hn2 hn3 hy hask hye
      have hlt1 : (k : Int) < (Rw.length : Int) := by omega
      have hlt2 : decide ((k : Int) < (Rw.length : Int)) = true := decide_eq_true hlt1
      go_wp2
      have HCd := Aside0.mk (Kd.C_drew HC.out)
      have HBd := Aside0.mk (below_drew1 HB.out)
      refine start_ (n := 33) (S := (fun w' => Below wr.drew.heap.size wr.drew w')) (ds := []) (bm_ 33 0) (by kernel_rfl) rfl rfl (Below.refl _ _) (fun hHeld => ?_)
      refine with_tabW known.tab5 known.bits5 (fun HT_ HW_ => ?_)
      refine pure_ (i := 0) (N := some 44) (v := ?_) (a' := ?_) (bm_ 33 1) rfl rfl (any_of HT_.out (by kernel_rfl)) (fun _ _ _ h => h) (Or.inl ⟨by rfl, ?_⟩) ?_ ?_
      rotate_left
      · intro w'
        go_simp
        with_reducible rfl
      rotate_left
      · simp only [Act.put, sA_, s0_, sS_, i64_w, i32_w]
        rfl
      refine pure_ (i := 1) (N := some 45) (v := ?_) (a' := ?_) (bm_ 33 3) rfl rfl (any_of HT_.out (by kernel_rfl)) (fun _ _ _ h => h) (Or.inl ⟨by rfl, ?_⟩) ?_ ?_
      rotate_left
      · intro w'
        go_simp
        with_reducible rfl
      rotate_left
      · simp only [Act.put, sA_, s0_, sS_, i64_w, i32_w]
        rfl
      refine pure_ (i := 2) (N := some 46) (v := ?_) (a' := ?_) (bm_ 33 7) rfl rfl (any_of HT_.out (by kernel_rfl)) (fun _ _ _ h => h) (Or.inl ⟨by rfl, ?_⟩) ?_ ?_
      rotate_left
      · intro w'
        go_simp
        with_reducible rfl
      rotate_left
      · simp only [Act.put, sA_, s0_, sS_, i64_w, i32_w]
        rfl
      refine pure_ (i := 3) (N := some 47) (v := ?_) (a' := ?_) (bm_ 33 15) rfl rfl (any_of HT_.out (by kernel_rfl)) (fun _ _ _ h => h) (Or.inl ⟨by rfl, ?_⟩) ?_ ?_
      rotate_left
      · intro w'
        go_simp
        with_reducible rfl
      rotate_left
      · simp only [Act.put, sA_, s0_, sS_, i64_w, i32_w]
        rfl
      refine take_ (i := 4) (N := some 48) (v := ?_) (a' := ?_) (bm_ 33 31) rfl rfl (take_ofW HT_.out HW_.out (by kernel_rfl)) (fun _ _ _ h => h) (Or.inl ⟨by rfl, ?_⟩) hHeld ?_ ?_
      rotate_left
      · rintro w' hs
        obtain ⟨ad_, e_, c_0, c_1, c_2, c_3, c_4⟩ := at_T62 (Kd.C_below HCd.out hs) (k : Int) (by omega) (by omega); rw [rd_T62_at HXK.out] at c_0 c_1 c_2 c_3 c_4; simp only [Int.toNat_natCast] at c_0 c_1 c_2 c_3 c_4; cases e_; go_simp
        with_reducible rfl
      rotate_left
      · simp only [Act.put, sA_, s0_, sS_, i64_w, i32_w]
        rfl
      refine pure_ (i := 5) (N := some 49) (v := ?_) (a' := ?_) (bm_ 33 63) rfl rfl (any_of HT_.out (by kernel_rfl)) (fun _ _ _ h => h) (Or.inl ⟨by rfl, ?_⟩) ?_ ?_
      rotate_left
      · intro w'
        go_simp
        with_reducible rfl
      rotate_left
      · simp only [Act.put, sA_, s0_, sS_, i64_w, i32_w]
        rfl
      refine pure_ (i := 6) (N := some 50) (v := ?_) (a' := ?_) (bm_ 33 127) rfl rfl (any_of HT_.out (by kernel_rfl)) (fun _ _ _ h => h) (Or.inl ⟨by rfl, ?_⟩) ?_ ?_
      rotate_left
      · intro w'
        go_simp
        with_reducible rfl
      rotate_left
      · simp only [Act.put, sA_, s0_, sS_, i64_w, i32_w]
        rfl
      refine pure_ (i := 7) (N := some 51) (v := ?_) (a' := ?_) (bm_ 33 255) rfl rfl (any_of HT_.out (by kernel_rfl)) (fun _ _ _ h => h) (Or.inl ⟨by rfl, ?_⟩) ?_ ?_
      rotate_left
      · intro w'
        go_simp
        with_reducible rfl
      rotate_left
      · simp only [Act.put, sA_, s0_, sS_, i64_w, i32_w]
        rfl
      refine pure_ (i := 8) (N := some 52) (v := ?_) (a' := ?_) (bm_ 33 511) rfl rfl (any_of HT_.out (by kernel_rfl)) (fun _ _ _ h => h) (Or.inl ⟨by rfl, ?_⟩) ?_ ?_
      rotate_left
      · intro w'
        go_simp
        with_reducible rfl
      rotate_left
      · simp only [Act.put, sA_, s0_, sS_, i64_w, i32_w]
        rfl
      refine take_ (i := 9) (N := some 53) (v := ?_) (a' := ?_) (bm_ 33 1023) rfl rfl (take_ofW HT_.out HW_.out (by kernel_rfl)) (fun _ _ _ h => h) (Or.inl ⟨by rfl, ?_⟩) hHeld ?_ ?_
      rotate_left
      · rintro w' hs
        obtain ⟨ad_, e_, c_0, c_1, c_2, c_3, c_4⟩ := at_T62 (Kd.C_below HCd.out hs) (k : Int) (by omega) (by omega); rw [rd_T62_at HXK.out] at c_0 c_1 c_2 c_3 c_4; simp only [Int.toNat_natCast] at c_0 c_1 c_2 c_3 c_4; cases e_; go_simp
        with_reducible rfl
      rotate_left
      · simp only [Act.put, sA_, s0_, sS_, i64_w, i32_w]
        rfl
      refine pure_ (i := 11) (N := some 55) (v := ?_) (a' := ?_) (bm_ 33 3071) rfl rfl (any_of HT_.out (by kernel_rfl)) (fun _ _ _ h => h) (Or.inl ⟨by rfl, ?_⟩) ?_ ?_
      rotate_left
      · intro w'
        go_simp
        with_reducible rfl
      rotate_left
      · simp only [Act.put, sA_, s0_, sS_, i64_w, i32_w]
        rfl
      refine pure_ (i := 12) (N := some 56) (v := ?_) (a' := ?_) (bm_ 33 7167) rfl rfl (any_of HT_.out (by kernel_rfl)) (fun _ _ _ h => h) (Or.inl ⟨by rfl, ?_⟩) ?_ ?_
      rotate_left
      · intro w'
        go_simp
        with_reducible rfl
      rotate_left
      · simp only [Act.put, sA_, s0_, sS_, i64_w, i32_w]
        rfl
      refine pure_ (i := 13) (N := some 57) (v := ?_) (a' := ?_) (bm_ 33 15359) rfl rfl (any_of HT_.out (by kernel_rfl)) (fun _ _ _ h => h) (Or.inl ⟨by rfl, ?_⟩) ?_ ?_
      rotate_left
      · intro w'
        go_simp
        with_reducible rfl
      rotate_left
      · simp only [Act.put, sA_, s0_, sS_, i64_w, i32_w]
        rfl
      refine pure_ (i := 14) (N := some 58) (v := ?_) (a' := ?_) (bm_ 33 31743) rfl rfl (any_of HT_.out (by kernel_rfl)) (fun _ _ _ h => h) (Or.inl ⟨by rfl, ?_⟩) ?_ ?_
      rotate_left
      · intro w'
        go_simp
        with_reducible rfl
      rotate_left
      · simp only [Act.put, sA_, s0_, sS_, i64_w, i32_w]
        rfl
      refine take_ (i := 15) (N := some 59) (v := ?_) (a' := ?_) (bm_ 33 64511) rfl rfl (take_ofW HT_.out HW_.out (by kernel_rfl)) (fun _ _ _ h => h) (Or.inl ⟨by rfl, ?_⟩) hHeld ?_ ?_
      rotate_left
      · rintro w' hs
        obtain ⟨ad_, e_, c_0, c_1, c_2, c_3, c_4⟩ := at_T62 (Kd.C_below HCd.out hs) (k : Int) (by omega) (by omega); rw [rd_T62_at HXK.out] at c_0 c_1 c_2 c_3 c_4; simp only [Int.toNat_natCast] at c_0 c_1 c_2 c_3 c_4; cases e_; go_simp
        with_reducible rfl
      rotate_left
      · simp only [Act.put, sA_, s0_, sS_, i64_w, i32_w]
        rfl
      refine pure_ (i := 19) (N := some 63) (v := ?_) (a' := ?_) (bm_ 33 588799) rfl rfl (any_of HT_.out (by kernel_rfl)) (fun _ _ _ h => h) (Or.inl ⟨by rfl, ?_⟩) ?_ ?_
      rotate_left
      · intro w'
        go_simp
        with_reducible rfl
      rotate_left
      · simp only [Act.put, sA_, s0_, sS_, i64_w, i32_w]
        rfl
      refine pure_ (i := 20) (N := some 64) (v := ?_) (a' := ?_) (bm_ 33 1637375) rfl rfl (any_of HT_.out (by kernel_rfl)) (fun _ _ _ h => h) (Or.inl ⟨by rfl, ?_⟩) ?_ ?_
      rotate_left
      · intro w'
        go_simp
        with_reducible rfl
      rotate_left
      · simp only [Act.put, sA_, s0_, sS_, i64_w, i32_w]
        rfl
      refine pure_ (i := 21) (N := some 65) (v := ?_) (a' := ?_) (bm_ 33 3734527) rfl rfl (any_of HT_.out (by kernel_rfl)) (fun _ _ _ h => h) (Or.inl ⟨by rfl, ?_⟩) ?_ ?_
      rotate_left
      · intro w'
        go_simp
        with_reducible rfl
      rotate_left
      · simp only [Act.put, sA_, s0_, sS_, i64_w, i32_w]
        rfl
      refine pure_ (i := 22) (N := some 66) (v := ?_) (a' := ?_) (bm_ 33 7928831) rfl rfl (any_of HT_.out (by kernel_rfl)) (fun _ _ _ h => h) (Or.inl ⟨by rfl, ?_⟩) ?_ ?_
      rotate_left
      · intro w'
        go_simp
        with_reducible rfl
      rotate_left
      · simp only [Act.put, sA_, s0_, sS_, i64_w, i32_w]
        rfl
      refine take_ (i := 23) (N := some 67) (v := ?_) (a' := ?_) (bm_ 33 16317439) rfl rfl (take_ofW HT_.out HW_.out (by kernel_rfl)) (fun _ _ _ h => h) (Or.inl ⟨by rfl, ?_⟩) hHeld ?_ ?_
      rotate_left
      · rintro w' hs
        obtain ⟨ad_, e_, c_0, c_1, c_2, c_3, c_4⟩ := at_T62 (Kd.C_below HCd.out hs) (k : Int) (by omega) (by omega); rw [rd_T62_at HXK.out] at c_0 c_1 c_2 c_3 c_4; simp only [Int.toNat_natCast] at c_0 c_1 c_2 c_3 c_4; cases e_; go_simp
        with_reducible rfl
      rotate_left
      · simp only [Act.put, sA_, s0_, sS_, i64_w, i32_w]
        rfl
      refine join_ (σ := Option Addr × Nat × Nat) 2 (bm_ 33 2147483647) (fun s_ => [(54, .string (nm x.f1)), (60, .string (nm x.f2)), (61, .agg #[.int .u8 x.f0, .string (nm x.f1), .string (nm x.f2), .int .u16 0, .int .u16 0]), (62, .slice s_.1 1 s_.2.1), (68, .string (nm x.f3)), (69, .agg #[.string (nm x.f3), .int .u16 5, .int .u16 3]), (70, .tuple #[.agg #[.string y0, .int .u16 y1, .int .u16 y2], .bool yb]), (43, .tuple #[.agg #[.string y0, .int .u16 y1, .int .u16 y2], .bool yb]), (71, .agg #[.string y0, .int .u16 y1, .int .u16 y2]), (72, .bool yb), (3, .pointer (some ⟨s_.2.2, 0, none⟩))]) (fun s_ w' => Below wr.drew.heap.size wr.drew w' ∧ (Kd.C k38 w' s_.1 1 [(⟨x.f0, nm x.f1, nm x.f2, 0, 0⟩ : S38)]) ∧ (1 ≤ s_.2.1) ∧ (Bx w' s_.2.2 #[.string ⟨#[]⟩, .int .u16 0, .int .u16 0] 32) ∧ (wr.drew.heap.size ≤ s_.2.2)) ?_ ?_
      rotate_left
      · intro hJ_10_16_18_24_26_30
        refine join_ (σ := Option Addr × Nat) 3 (bm_ 33 1073741823) (fun s_ => [(54, .string (nm x.f1)), (60, .string (nm x.f2)), (61, .agg #[.int .u8 x.f0, .string (nm x.f1), .string (nm x.f2), .int .u16 0, .int .u16 0]), (62, .slice s_.1 1 s_.2), (68, .string (nm x.f3)), (69, .agg #[.string (nm x.f3), .int .u16 5, .int .u16 3]), (70, .tuple #[.agg #[.string y0, .int .u16 y1, .int .u16 y2], .bool yb]), (43, .tuple #[.agg #[.string y0, .int .u16 y1, .int .u16 y2], .bool yb]), (71, .agg #[.string y0, .int .u16 y1, .int .u16 y2]), (72, .bool yb)]) (fun s_ w' => Below wr.drew.heap.size wr.drew w' ∧ (Kd.C k38 w' s_.1 1 [(⟨x.f0, nm x.f1, nm x.f2, 0, 0⟩ : S38)]) ∧ (1 ≤ s_.2)) ?_ ?_
        rotate_left
        · intro hJ_10_16_18_24_26
          refine join_ (σ := Option Addr × Nat × Nat) 6 (bm_ 33 1140850687) (fun s_ => [(54, .string (nm x.f1)), (60, .string (nm x.f2)), (61, .agg #[.int .u8 x.f0, .string (nm x.f1), .string (nm x.f2), .int .u16 0, .int .u16 0]), (62, .slice s_.1 1 s_.2.1), (68, .string (nm x.f3)), (69, .agg #[.string (nm x.f3), .int .u16 5, .int .u16 3]), (3, .pointer (some ⟨s_.2.2, 0, none⟩))]) (fun s_ w' => Below wr.drew.heap.size wr.drew w' ∧ (Kd.C k38 w' s_.1 1 [(⟨x.f0, nm x.f1, nm x.f2, 0, 0⟩ : S38)]) ∧ (1 ≤ s_.2.1) ∧ (Bx w' s_.2.2 #[.string ⟨#[]⟩, .int .u16 0, .int .u16 0] 32) ∧ (wr.drew.heap.size ≤ s_.2.2)) ?_ ?_
          rotate_left
          · intro hJ_10_16_18_24_30
            refine join_ (σ := Option Addr × Nat) 7 (bm_ 33 67108863) (fun s_ => [(54, .string (nm x.f1)), (60, .string (nm x.f2)), (61, .agg #[.int .u8 x.f0, .string (nm x.f1), .string (nm x.f2), .int .u16 0, .int .u16 0]), (62, .slice s_.1 1 s_.2), (68, .string (nm x.f3)), (69, .agg #[.string (nm x.f3), .int .u16 5, .int .u16 3])]) (fun s_ w' => Below wr.drew.heap.size wr.drew w' ∧ (Kd.C k38 w' s_.1 1 [(⟨x.f0, nm x.f1, nm x.f2, 0, 0⟩ : S38)]) ∧ (1 ≤ s_.2)) ?_ ?_
            rotate_left
            · intro hJ_10_16_18_24
              refine join_ (σ := Option Addr × Nat × Nat) 8 (bm_ 33 1090519039) (fun s_ => [(54, .string (nm x.f1)), (60, .string (nm x.f2)), (61, .agg #[.int .u8 x.f0, .string (nm x.f1), .string (nm x.f2), .int .u16 0, .int .u16 0]), (62, .slice s_.1 1 s_.2.1), (3, .pointer (some ⟨s_.2.2, 0, none⟩))]) (fun s_ w' => Below wr.drew.heap.size wr.drew w' ∧ (Kd.C k38 w' s_.1 1 [(⟨x.f0, nm x.f1, nm x.f2, 0, 0⟩ : S38)]) ∧ (1 ≤ s_.2.1) ∧ (Bx w' s_.2.2 #[.string ⟨#[]⟩, .int .u16 0, .int .u16 0] 32) ∧ (wr.drew.heap.size ≤ s_.2.2)) ?_ ?_
              rotate_left
              · intro hJ_10_16_18_30
                refine join_ (σ := Nat) 7 (bm_ 33 1140588543) (fun s_ => [(54, .string (nm x.f1)), (60, .string (nm x.f2)), (61, .agg #[.int .u8 x.f0, .string (nm x.f1), .string (nm x.f2), .int .u16 0, .int .u16 0]), (68, .string (nm x.f3)), (69, .agg #[.string (nm x.f3), .int .u16 5, .int .u16 3]), (3, .pointer (some ⟨s_, 0, none⟩))]) (fun s_ w' => Below wr.drew.heap.size wr.drew w' ∧ (Bx w' s_ #[.string ⟨#[]⟩, .int .u16 0, .int .u16 0] 32) ∧ (wr.drew.heap.size ≤ s_)) ?_ ?_
                rotate_left
                · intro hJ_10_16_24_30
                  refine join_ (σ := Option Addr × Nat) 9 (bm_ 33 16777215) (fun s_ => [(54, .string (nm x.f1)), (60, .string (nm x.f2)), (61, .agg #[.int .u8 x.f0, .string (nm x.f1), .string (nm x.f2), .int .u16 0, .int .u16 0]), (62, .slice s_.1 1 s_.2)]) (fun s_ w' => Below wr.drew.heap.size wr.drew w' ∧ (Kd.C k38 w' s_.1 1 [(⟨x.f0, nm x.f1, nm x.f2, 0, 0⟩ : S38)]) ∧ (1 ≤ s_.2)) ?_ ?_
                  rotate_left
                  · intro hJ_10_16_18
                    refine join_ (σ := Unit) 8 (bm_ 33 66846719) (fun s_ => [(54, .string (nm x.f1)), (60, .string (nm x.f2)), (61, .agg #[.int .u8 x.f0, .string (nm x.f1), .string (nm x.f2), .int .u16 0, .int .u16 0]), (68, .string (nm x.f3)), (69, .agg #[.string (nm x.f3), .int .u16 5, .int .u16 3])]) (fun s_ w' => Below wr.drew.heap.size wr.drew w') ?_ ?_
                    rotate_left
                    · intro hJ_10_16_24
                      refine join_ (σ := Nat) 9 (bm_ 33 1090256895) (fun s_ => [(54, .string (nm x.f1)), (60, .string (nm x.f2)), (61, .agg #[.int .u8 x.f0, .string (nm x.f1), .string (nm x.f2), .int .u16 0, .int .u16 0]), (3, .pointer (some ⟨s_, 0, none⟩))]) (fun s_ w' => Below wr.drew.heap.size wr.drew w' ∧ (Bx w' s_ #[.string ⟨#[]⟩, .int .u16 0, .int .u16 0] 32) ∧ (wr.drew.heap.size ≤ s_)) ?_ ?_
                      rotate_left
                      · intro hJ_10_16_30
                        refine join_ (σ := Unit) 10 (bm_ 33 16515071) (fun s_ => [(54, .string (nm x.f1)), (60, .string (nm x.f2)), (61, .agg #[.int .u8 x.f0, .string (nm x.f1), .string (nm x.f2), .int .u16 0, .int .u16 0])]) (fun s_ w' => Below wr.drew.heap.size wr.drew w') ?_ ?_
                        rotate_left
                        · intro hJ_10_16
                          refine join_ (σ := Nat) 11 (bm_ 33 1090060287) (fun s_ => [(54, .string (nm x.f1)), (3, .pointer (some ⟨s_, 0, none⟩))]) (fun s_ w' => Below wr.drew.heap.size wr.drew w' ∧ (Bx w' s_ #[.string ⟨#[]⟩, .int .u16 0, .int .u16 0] 32) ∧ (wr.drew.heap.size ≤ s_)) ?_ ?_
                          rotate_left
                          · intro hJ_10_30
                            refine join_ (σ := Unit) 12 (bm_ 33 16318463) (fun s_ => [(54, .string (nm x.f1))]) (fun s_ w' => Below wr.drew.heap.size wr.drew w') ?_ ?_
                            rotate_left
                            · intro hJ_10
                              refine join_ (σ := Nat) 12 (bm_ 33 1090059263) (fun s_ => [(3, .pointer (some ⟨s_, 0, none⟩))]) (fun s_ w' => Below wr.drew.heap.size wr.drew w' ∧ (Bx w' s_ #[.string ⟨#[]⟩, .int .u16 0, .int .u16 0] 32) ∧ (wr.drew.heap.size ≤ s_)) ?_ ?_
                              rotate_left
                              · intro hJ_30
                                refine two_ (i := 10) (j := 30) (Ni := some 54) (Nj := some 3) (bm_ 33 16318463) (bm_ 33 1090059263) rfl rfl rfl rfl (two_of HT_.out (by kernel_rfl)) (by decide) (by decide) (fun K hK => ?_) (fun K hK => ?_)
                                · refine goes_ Try.func28 (by kernel_rfl) rfl #[.string x.f1] (by rfl) rfl rfl (by (try simp only [List.map_toArray, List.map_cons, List.map_nil]); first | done | rfl) ?_
                                  (with_reducible refine (hearsaylaw25_named.calls 60 x.f1 (nm x.f1) _ HN1.out).mono ?_)
                                  rintro e v ⟨rfl, hb⟩
                                  refine ⟨_, rfl, ?_⟩
                                  refine hK.out _ _ (hHeld.trans (below_to hb hHeld.size)) (fun hHeld => ?_)
                                  clear hK K
                                  refine norm_ (a' := ?_) ?_ ?_
                                  rotate_left
                                  · show Act.put _ (some 54) _ = _
                                    simp only [Act.put, sA_, s0_, sS_, i64_w, i32_w]
                                    rfl
                                  exact norm_ (by first | (simp only [putAll, Act.put, sA_, s0_, sS_]; done) | (simp only [putAll, Act.put, sA_, s0_, sS_]; rfl)) (hJ_10 () _ hHeld)
                                · refine box_step ?hg (N := 3) ?hd (cs := #[.string (⟨#[]⟩ : ByteArray), .int .u16 0, .int .u16 0]) (t := 32) ?hr ?_; (case hd => rfl); (case hg => rfl); (case hr => first | (go_simp; done) | (go_simp; rfl))
                                  intro B30 hg v hbox hb
                                  have hN_0 : Bx v B30 #[.string ⟨#[]⟩, .int .u16 0, .int .u16 0] 32 := hbox
                                  have hN_1 : wr.drew.heap.size ≤ B30 := by rw [hg]; exact hHeld.size
                                  clear hbox
                                  refine hK.out _ _ (hHeld.trans (below_to hb hHeld.size)) (fun hHeld => ?_)
                                  clear hK K
                                  refine norm_ (a' := ?_) ?_ ?_
                                  rotate_left
                                  · show Act.put _ (some 3) _ = _
                                    simp only [Act.put, sA_, s0_, sS_, i64_w, i32_w]
                                    rfl
                                  exact norm_ (by first | (simp only [putAll, Act.put, sA_, s0_, sS_]; done) | (simp only [putAll, Act.put, sA_, s0_, sS_]; rfl)) (hJ_30 (B30) _ ⟨hHeld, hN_0, hN_1⟩)
                              rintro B30 u ⟨hHeld, hF_30_0, hF_30_1⟩
                              have HF_30_0 := Aside0.mk hF_30_0
                              have HF_30_1 := Aside0.mk hF_30_1
                              clear hF_30_0 hF_30_1
                              refine norm_ (a' := ?_) ?_ ?_
                              rotate_left
                              · simp only [putAll, Act.put, sA_, s0_, sS_]
                                rfl
                              refine one_ (i := 10) (N := some 54) (bm_ 33 1090060287) rfl rfl (one_of HT_.out (by kernel_rfl)) (by decide) (fun K hK => ?_)
                              refine goes_ Try.func28 (by kernel_rfl) rfl #[.string x.f1] (by rfl) rfl rfl (by (try simp only [List.map_toArray, List.map_cons, List.map_nil]); first | done | rfl) ?_
                              (with_reducible refine (hearsaylaw25_named.calls 60 x.f1 (nm x.f1) _ HN1.out).mono ?_)
                              rintro e v ⟨rfl, hb⟩
                              refine ⟨_, rfl, ?_⟩
                              have hG_30_0 := Bx.below HF_30_0.out hb
                              have hG_30_1 := HF_30_1.out
                              refine hK.out _ _ (hHeld.trans (below_to hb hHeld.size)) (fun hHeld => ?_)
                              clear hK K
                              refine norm_ (a' := ?_) ?_ ?_
                              rotate_left
                              · show Act.put _ (some 54) _ = _
                                simp only [Act.put, sA_, s0_, sS_, i64_w, i32_w]
                                rfl
                              exact norm_ (by first | (simp only [putAll, Act.put, sA_, s0_, sS_]; done) | (simp only [putAll, Act.put, sA_, s0_, sS_]; rfl)) (hJ_10_30 (B30) _ ⟨hHeld, hG_30_0, hG_30_1⟩)
                            rintro _ u hHeld
                            refine norm_ (a' := ?_) ?_ ?_
                            rotate_left
                            · simp only [putAll, Act.put, sA_, s0_, sS_]
                              rfl
                            refine two_ (i := 16) (j := 30) (Ni := some 60) (Nj := some 3) (bm_ 33 16383999) (bm_ 33 1090060287) rfl rfl rfl rfl (two_of HT_.out (by kernel_rfl)) (by decide) (by decide) (fun K hK => ?_) (fun K hK => ?_)
                            · refine goes_ Try.func28 (by kernel_rfl) rfl #[.string x.f2] (by rfl) rfl rfl (by (try simp only [List.map_toArray, List.map_cons, List.map_nil]); first | done | rfl) ?_
                              (with_reducible refine (hearsaylaw25_named.calls 60 x.f2 (nm x.f2) _ HN2.out).mono ?_)
                              rintro e v ⟨rfl, hb⟩
                              refine ⟨_, rfl, ?_⟩
                              refine hK.out _ _ (hHeld.trans (below_to hb hHeld.size)) (fun hHeld => ?_)
                              clear hK K
                              refine norm_ (a' := ?_) ?_ ?_
                              rotate_left
                              · show Act.put _ (some 60) _ = _
                                simp only [Act.put, sA_, s0_, sS_, i64_w, i32_w]
                                rfl
                              refine pure_ (i := 17) (N := some 61) (v := ?_) (a' := ?_) (bm_ 33 16515071) rfl rfl (any_of HT_.out (by kernel_rfl)) (fun _ _ _ h => h) (Or.inl ⟨by rfl, ?_⟩) ?_ ?_
                              rotate_left
                              · intro w'
                                go_simp
                                with_reducible rfl
                              rotate_left
                              · simp only [Act.put, sA_, s0_, sS_, i64_w, i32_w]
                                rfl
                              exact norm_ (by first | (simp only [putAll, Act.put, sA_, s0_, sS_]; done) | (simp only [putAll, Act.put, sA_, s0_, sS_]; rfl)) (hJ_10_16 () _ hHeld)
                            · refine box_step ?hg (N := 3) ?hd (cs := #[.string (⟨#[]⟩ : ByteArray), .int .u16 0, .int .u16 0]) (t := 32) ?hr ?_; (case hd => rfl); (case hg => rfl); (case hr => first | (go_simp; done) | (go_simp; rfl))
                              intro B30 hg v hbox hb
                              have hN_0 : Bx v B30 #[.string ⟨#[]⟩, .int .u16 0, .int .u16 0] 32 := hbox
                              have hN_1 : wr.drew.heap.size ≤ B30 := by rw [hg]; exact hHeld.size
                              clear hbox
                              refine hK.out _ _ (hHeld.trans (below_to hb hHeld.size)) (fun hHeld => ?_)
                              clear hK K
                              refine norm_ (a' := ?_) ?_ ?_
                              rotate_left
                              · show Act.put _ (some 3) _ = _
                                simp only [Act.put, sA_, s0_, sS_, i64_w, i32_w]
                                rfl
                              exact norm_ (by first | (simp only [putAll, Act.put, sA_, s0_, sS_]; done) | (simp only [putAll, Act.put, sA_, s0_, sS_]; rfl)) (hJ_10_30 (B30) _ ⟨hHeld, hN_0, hN_1⟩)
                          rintro B30 u ⟨hHeld, hF_30_0, hF_30_1⟩
                          have HF_30_0 := Aside0.mk hF_30_0
                          have HF_30_1 := Aside0.mk hF_30_1
                          clear hF_30_0 hF_30_1
                          refine norm_ (a' := ?_) ?_ ?_
                          rotate_left
                          · simp only [putAll, Act.put, sA_, s0_, sS_]
                            rfl
                          refine one_ (i := 16) (N := some 60) (bm_ 33 1090125823) rfl rfl (one_of HT_.out (by kernel_rfl)) (by decide) (fun K hK => ?_)
                          refine goes_ Try.func28 (by kernel_rfl) rfl #[.string x.f2] (by rfl) rfl rfl (by (try simp only [List.map_toArray, List.map_cons, List.map_nil]); first | done | rfl) ?_
                          (with_reducible refine (hearsaylaw25_named.calls 60 x.f2 (nm x.f2) _ HN2.out).mono ?_)
                          rintro e v ⟨rfl, hb⟩
                          refine ⟨_, rfl, ?_⟩
                          have hG_30_0 := Bx.below HF_30_0.out hb
                          have hG_30_1 := HF_30_1.out
                          refine hK.out _ _ (hHeld.trans (below_to hb hHeld.size)) (fun hHeld => ?_)
                          clear hK K
                          refine norm_ (a' := ?_) ?_ ?_
                          rotate_left
                          · show Act.put _ (some 60) _ = _
                            simp only [Act.put, sA_, s0_, sS_, i64_w, i32_w]
                            rfl
                          refine pure_ (i := 17) (N := some 61) (v := ?_) (a' := ?_) (bm_ 33 1090256895) rfl rfl (any_of HT_.out (by kernel_rfl)) (fun _ _ _ h => h) (Or.inl ⟨by rfl, ?_⟩) ?_ ?_
                          rotate_left
                          · intro w'
                            go_simp
                            with_reducible rfl
                          rotate_left
                          · simp only [Act.put, sA_, s0_, sS_, i64_w, i32_w]
                            rfl
                          exact norm_ (by first | (simp only [putAll, Act.put, sA_, s0_, sS_]; done) | (simp only [putAll, Act.put, sA_, s0_, sS_]; rfl)) (hJ_10_16_30 (B30) _ ⟨hHeld, hG_30_0, hG_30_1⟩)
                        rintro _ u hHeld
                        refine norm_ (a' := ?_) ?_ ?_
                        rotate_left
                        · simp only [putAll, Act.put, sA_, s0_, sS_]
                          rfl
                        refine three_ (i := 18) (j := 24) (k := 30) (Ni := some 62) (Nj := some 68) (Nk := some 3) (bm_ 33 16777215) (bm_ 33 33292287) (bm_ 33 1090256895) rfl rfl rfl rfl rfl rfl (three_of HT_.out (by kernel_rfl)) (by decide) (by decide) (by decide) (fun K hK => ?_) (fun K hK => ?_) (fun K hK => ?_)
                        · refine Kd.R_lit_step k38 _ 38 ?hg (N := 62) ?hd (xs := ([(⟨x.f0, nm x.f1, nm x.f2, 0, 0⟩ : S38)] : List S38)) (inner := [.int .u8 x.f0, .string (nm x.f1), .string (nm x.f2), .int .u16 0, .int .u16 0]) (ok := fun _ => True) (okp := fun _ => True) ?hr ?hp (fun _ hk => hk) trivial (Below.refl _ _) (Nat.le_refl _) (by simp) ?_; (case hd => rfl); (case hg => rfl); (case hr => first | (go_simp; done) | (go_simp; rfl)); (case hp => exact (Reps.c5 (show Kd.M k38 _ _ _ (⟨x.f0, nm x.f1, nm x.f2, 0, 0⟩ : S38) [.int .u8 x.f0, .string (nm x.f1), .string (nm x.f2), .int .u16 0, .int .u16 0] from (k38_mkM _ _ _ (⟨x.f0, nm x.f1, nm x.f2, 0, 0⟩ : S38))) (Reps.none _ _)))
                          intro v0 v ho hb hg_ hnew_
                          obtain ⟨A18, c18, e18, hN_1, hN_0⟩ := Kd.R_reads ho
                          subst e18
                          clear ho hg_ hnew_
                          refine hK.out _ _ (hHeld.trans (below_to hb hHeld.size)) (fun hHeld => ?_)
                          clear hK K
                          refine norm_ (a' := ?_) ?_ ?_
                          rotate_left
                          · show Act.put _ (some 62) _ = _
                            simp only [Act.put, sA_, s0_, sS_, i64_w, i32_w]
                            rfl
                          exact norm_ (by first | (simp only [putAll, Act.put, sA_, s0_, sS_]; done) | (simp only [putAll, Act.put, sA_, s0_, sS_]; rfl)) (hJ_10_16_18 (A18, c18) _ ⟨hHeld, hN_0, hN_1⟩)
                        · refine goes_ Try.func28 (by kernel_rfl) rfl #[.string x.f3] (by rfl) rfl rfl (by (try simp only [List.map_toArray, List.map_cons, List.map_nil]); first | done | rfl) ?_
                          (with_reducible refine (hearsaylaw25_named.calls 60 x.f3 (nm x.f3) _ HN3.out).mono ?_)
                          rintro e v ⟨rfl, hb⟩
                          refine ⟨_, rfl, ?_⟩
                          refine hK.out _ _ (hHeld.trans (below_to hb hHeld.size)) (fun hHeld => ?_)
                          clear hK K
                          refine norm_ (a' := ?_) ?_ ?_
                          rotate_left
                          · show Act.put _ (some 68) _ = _
                            simp only [Act.put, sA_, s0_, sS_, i64_w, i32_w]
                            rfl
                          refine pure_ (i := 25) (N := some 69) (v := ?_) (a' := ?_) (bm_ 33 66846719) rfl rfl (any_of HT_.out (by kernel_rfl)) (fun _ _ _ h => h) (Or.inl ⟨by rfl, ?_⟩) ?_ ?_
                          rotate_left
                          · intro w'
                            go_simp
                            with_reducible rfl
                          rotate_left
                          · simp only [Act.put, sA_, s0_, sS_, i64_w, i32_w]
                            rfl
                          exact norm_ (by first | (simp only [putAll, Act.put, sA_, s0_, sS_]; done) | (simp only [putAll, Act.put, sA_, s0_, sS_]; rfl)) (hJ_10_16_24 () _ hHeld)
                        · refine box_step ?hg (N := 3) ?hd (cs := #[.string (⟨#[]⟩ : ByteArray), .int .u16 0, .int .u16 0]) (t := 32) ?hr ?_; (case hd => rfl); (case hg => rfl); (case hr => first | (go_simp; done) | (go_simp; rfl))
                          intro B30 hg v hbox hb
                          have hN_0 : Bx v B30 #[.string ⟨#[]⟩, .int .u16 0, .int .u16 0] 32 := hbox
                          have hN_1 : wr.drew.heap.size ≤ B30 := by rw [hg]; exact hHeld.size
                          clear hbox
                          refine hK.out _ _ (hHeld.trans (below_to hb hHeld.size)) (fun hHeld => ?_)
                          clear hK K
                          refine norm_ (a' := ?_) ?_ ?_
                          rotate_left
                          · show Act.put _ (some 3) _ = _
                            simp only [Act.put, sA_, s0_, sS_, i64_w, i32_w]
                            rfl
                          exact norm_ (by first | (simp only [putAll, Act.put, sA_, s0_, sS_]; done) | (simp only [putAll, Act.put, sA_, s0_, sS_]; rfl)) (hJ_10_16_30 (B30) _ ⟨hHeld, hN_0, hN_1⟩)
                      rintro B30 u ⟨hHeld, hF_30_0, hF_30_1⟩
                      have HF_30_0 := Aside0.mk hF_30_0
                      have HF_30_1 := Aside0.mk hF_30_1
                      clear hF_30_0 hF_30_1
                      refine norm_ (a' := ?_) ?_ ?_
                      rotate_left
                      · simp only [putAll, Act.put, sA_, s0_, sS_]
                        rfl
                      refine two_ (i := 18) (j := 24) (Ni := some 62) (Nj := some 68) (bm_ 33 1090519039) (bm_ 33 1107034111) rfl rfl rfl rfl (two_of HT_.out (by kernel_rfl)) (by decide) (by decide) (fun K hK => ?_) (fun K hK => ?_)
                      · refine Kd.R_lit_step k38 _ 38 ?hg (N := 62) ?hd (xs := ([(⟨x.f0, nm x.f1, nm x.f2, 0, 0⟩ : S38)] : List S38)) (inner := [.int .u8 x.f0, .string (nm x.f1), .string (nm x.f2), .int .u16 0, .int .u16 0]) (ok := fun _ => True) (okp := fun _ => True) ?hr ?hp (fun _ hk => hk) trivial (Below.refl _ _) (Nat.le_refl _) (by simp) ?_; (case hd => rfl); (case hg => rfl); (case hr => first | (go_simp; done) | (go_simp; rfl)); (case hp => exact (Reps.c5 (show Kd.M k38 _ _ _ (⟨x.f0, nm x.f1, nm x.f2, 0, 0⟩ : S38) [.int .u8 x.f0, .string (nm x.f1), .string (nm x.f2), .int .u16 0, .int .u16 0] from (k38_mkM _ _ _ (⟨x.f0, nm x.f1, nm x.f2, 0, 0⟩ : S38))) (Reps.none _ _)))
                        intro v0 v ho hb hg_ hnew_
                        obtain ⟨A18, c18, e18, hN_1, hN_0⟩ := Kd.R_reads ho
                        subst e18
                        clear ho hg_ hnew_
                        have hG_30_0 := Bx.below HF_30_0.out hb
                        have hG_30_1 := HF_30_1.out
                        refine hK.out _ _ (hHeld.trans (below_to hb hHeld.size)) (fun hHeld => ?_)
                        clear hK K
                        refine norm_ (a' := ?_) ?_ ?_
                        rotate_left
                        · show Act.put _ (some 62) _ = _
                          simp only [Act.put, sA_, s0_, sS_, i64_w, i32_w]
                          rfl
                        exact norm_ (by first | (simp only [putAll, Act.put, sA_, s0_, sS_]; done) | (simp only [putAll, Act.put, sA_, s0_, sS_]; rfl)) (hJ_10_16_18_30 (A18, c18, B30) _ ⟨hHeld, hN_0, hN_1, hG_30_0, hG_30_1⟩)
                      · refine goes_ Try.func28 (by kernel_rfl) rfl #[.string x.f3] (by rfl) rfl rfl (by (try simp only [List.map_toArray, List.map_cons, List.map_nil]); first | done | rfl) ?_
                        (with_reducible refine (hearsaylaw25_named.calls 60 x.f3 (nm x.f3) _ HN3.out).mono ?_)
                        rintro e v ⟨rfl, hb⟩
                        refine ⟨_, rfl, ?_⟩
                        have hG_30_0 := Bx.below HF_30_0.out hb
                        have hG_30_1 := HF_30_1.out
                        refine hK.out _ _ (hHeld.trans (below_to hb hHeld.size)) (fun hHeld => ?_)
                        clear hK K
                        refine norm_ (a' := ?_) ?_ ?_
                        rotate_left
                        · show Act.put _ (some 68) _ = _
                          simp only [Act.put, sA_, s0_, sS_, i64_w, i32_w]
                          rfl
                        refine pure_ (i := 25) (N := some 69) (v := ?_) (a' := ?_) (bm_ 33 1140588543) rfl rfl (any_of HT_.out (by kernel_rfl)) (fun _ _ _ h => h) (Or.inl ⟨by rfl, ?_⟩) ?_ ?_
                        rotate_left
                        · intro w'
                          go_simp
                          with_reducible rfl
                        rotate_left
                        · simp only [Act.put, sA_, s0_, sS_, i64_w, i32_w]
                          rfl
                        exact norm_ (by first | (simp only [putAll, Act.put, sA_, s0_, sS_]; done) | (simp only [putAll, Act.put, sA_, s0_, sS_]; rfl)) (hJ_10_16_24_30 (B30) _ ⟨hHeld, hG_30_0, hG_30_1⟩)
                    rintro _ u hHeld
                    refine norm_ (a' := ?_) ?_ ?_
                    rotate_left
                    · simp only [putAll, Act.put, sA_, s0_, sS_]
                      rfl
                    refine two_ (i := 18) (j := 30) (Ni := some 62) (Nj := some 3) (bm_ 33 67108863) (bm_ 33 1140588543) rfl rfl rfl rfl (two_of HT_.out (by kernel_rfl)) (by decide) (by decide) (fun K hK => ?_) (fun K hK => ?_)
                    · refine Kd.R_lit_step k38 _ 38 ?hg (N := 62) ?hd (xs := ([(⟨x.f0, nm x.f1, nm x.f2, 0, 0⟩ : S38)] : List S38)) (inner := [.int .u8 x.f0, .string (nm x.f1), .string (nm x.f2), .int .u16 0, .int .u16 0]) (ok := fun _ => True) (okp := fun _ => True) ?hr ?hp (fun _ hk => hk) trivial (Below.refl _ _) (Nat.le_refl _) (by simp) ?_; (case hd => rfl); (case hg => rfl); (case hr => first | (go_simp; done) | (go_simp; rfl)); (case hp => exact (Reps.c5 (show Kd.M k38 _ _ _ (⟨x.f0, nm x.f1, nm x.f2, 0, 0⟩ : S38) [.int .u8 x.f0, .string (nm x.f1), .string (nm x.f2), .int .u16 0, .int .u16 0] from (k38_mkM _ _ _ (⟨x.f0, nm x.f1, nm x.f2, 0, 0⟩ : S38))) (Reps.none _ _)))
                      intro v0 v ho hb hg_ hnew_
                      obtain ⟨A18, c18, e18, hN_1, hN_0⟩ := Kd.R_reads ho
                      subst e18
                      clear ho hg_ hnew_
                      refine hK.out _ _ (hHeld.trans (below_to hb hHeld.size)) (fun hHeld => ?_)
                      clear hK K
                      refine norm_ (a' := ?_) ?_ ?_
                      rotate_left
                      · show Act.put _ (some 62) _ = _
                        simp only [Act.put, sA_, s0_, sS_, i64_w, i32_w]
                        rfl
                      exact norm_ (by first | (simp only [putAll, Act.put, sA_, s0_, sS_]; done) | (simp only [putAll, Act.put, sA_, s0_, sS_]; rfl)) (hJ_10_16_18_24 (A18, c18) _ ⟨hHeld, hN_0, hN_1⟩)
                    · refine box_step ?hg (N := 3) ?hd (cs := #[.string (⟨#[]⟩ : ByteArray), .int .u16 0, .int .u16 0]) (t := 32) ?hr ?_; (case hd => rfl); (case hg => rfl); (case hr => first | (go_simp; done) | (go_simp; rfl))
                      intro B30 hg v hbox hb
                      have hN_0 : Bx v B30 #[.string ⟨#[]⟩, .int .u16 0, .int .u16 0] 32 := hbox
                      have hN_1 : wr.drew.heap.size ≤ B30 := by rw [hg]; exact hHeld.size
                      clear hbox
                      refine hK.out _ _ (hHeld.trans (below_to hb hHeld.size)) (fun hHeld => ?_)
                      clear hK K
                      refine norm_ (a' := ?_) ?_ ?_
                      rotate_left
                      · show Act.put _ (some 3) _ = _
                        simp only [Act.put, sA_, s0_, sS_, i64_w, i32_w]
                        rfl
                      exact norm_ (by first | (simp only [putAll, Act.put, sA_, s0_, sS_]; done) | (simp only [putAll, Act.put, sA_, s0_, sS_]; rfl)) (hJ_10_16_24_30 (B30) _ ⟨hHeld, hN_0, hN_1⟩)
                  rintro ⟨A18, c18⟩ u ⟨hHeld, hF_18_0, hF_18_1⟩
                  have HF_18_0 := Aside0.mk hF_18_0
                  have HF_18_1 := Aside0.mk hF_18_1
                  clear hF_18_0 hF_18_1
                  refine norm_ (a' := ?_) ?_ ?_
                  rotate_left
                  · simp only [putAll, Act.put, sA_, s0_, sS_]
                    rfl
                  refine two_ (i := 24) (j := 30) (Ni := some 68) (Nj := some 3) (bm_ 33 33554431) (bm_ 33 1090519039) rfl rfl rfl rfl (two_of HT_.out (by kernel_rfl)) (by decide) (by decide) (fun K hK => ?_) (fun K hK => ?_)
                  · refine goes_ Try.func28 (by kernel_rfl) rfl #[.string x.f3] (by rfl) rfl rfl (by (try simp only [List.map_toArray, List.map_cons, List.map_nil]); first | done | rfl) ?_
                    (with_reducible refine (hearsaylaw25_named.calls 60 x.f3 (nm x.f3) _ HN3.out).mono ?_)
                    rintro e v ⟨rfl, hb⟩
                    refine ⟨_, rfl, ?_⟩
                    have hG_18_0 := Kd.C_below HF_18_0.out hb
                    have hG_18_1 := HF_18_1.out
                    refine hK.out _ _ (hHeld.trans (below_to hb hHeld.size)) (fun hHeld => ?_)
                    clear hK K
                    refine norm_ (a' := ?_) ?_ ?_
                    rotate_left
                    · show Act.put _ (some 68) _ = _
                      simp only [Act.put, sA_, s0_, sS_, i64_w, i32_w]
                      rfl
                    refine pure_ (i := 25) (N := some 69) (v := ?_) (a' := ?_) (bm_ 33 67108863) rfl rfl (any_of HT_.out (by kernel_rfl)) (fun _ _ _ h => h) (Or.inl ⟨by rfl, ?_⟩) ?_ ?_
                    rotate_left
                    · intro w'
                      go_simp
                      with_reducible rfl
                    rotate_left
                    · simp only [Act.put, sA_, s0_, sS_, i64_w, i32_w]
                      rfl
                    exact norm_ (by first | (simp only [putAll, Act.put, sA_, s0_, sS_]; done) | (simp only [putAll, Act.put, sA_, s0_, sS_]; rfl)) (hJ_10_16_18_24 (A18, c18) _ ⟨hHeld, hG_18_0, hG_18_1⟩)
                  · refine box_step ?hg (N := 3) ?hd (cs := #[.string (⟨#[]⟩ : ByteArray), .int .u16 0, .int .u16 0]) (t := 32) ?hr ?_; (case hd => rfl); (case hg => rfl); (case hr => first | (go_simp; done) | (go_simp; rfl))
                    intro B30 hg v hbox hb
                    have hN_0 : Bx v B30 #[.string ⟨#[]⟩, .int .u16 0, .int .u16 0] 32 := hbox
                    have hN_1 : wr.drew.heap.size ≤ B30 := by rw [hg]; exact hHeld.size
                    clear hbox
                    have hG_18_0 := Kd.C_below HF_18_0.out hb
                    have hG_18_1 := HF_18_1.out
                    refine hK.out _ _ (hHeld.trans (below_to hb hHeld.size)) (fun hHeld => ?_)
                    clear hK K
                    refine norm_ (a' := ?_) ?_ ?_
                    rotate_left
                    · show Act.put _ (some 3) _ = _
                      simp only [Act.put, sA_, s0_, sS_, i64_w, i32_w]
                      rfl
                    exact norm_ (by first | (simp only [putAll, Act.put, sA_, s0_, sS_]; done) | (simp only [putAll, Act.put, sA_, s0_, sS_]; rfl)) (hJ_10_16_18_30 (A18, c18, B30) _ ⟨hHeld, hG_18_0, hG_18_1, hN_0, hN_1⟩)
                rintro B30 u ⟨hHeld, hF_30_0, hF_30_1⟩
                have HF_30_0 := Aside0.mk hF_30_0
                have HF_30_1 := Aside0.mk hF_30_1
                clear hF_30_0 hF_30_1
                refine norm_ (a' := ?_) ?_ ?_
                rotate_left
                · simp only [putAll, Act.put, sA_, s0_, sS_]
                  rfl
                refine one_ (i := 18) (N := some 62) (bm_ 33 1140850687) rfl rfl (one_of HT_.out (by kernel_rfl)) (by decide) (fun K hK => ?_)
                refine Kd.R_lit_step k38 _ 38 ?hg (N := 62) ?hd (xs := ([(⟨x.f0, nm x.f1, nm x.f2, 0, 0⟩ : S38)] : List S38)) (inner := [.int .u8 x.f0, .string (nm x.f1), .string (nm x.f2), .int .u16 0, .int .u16 0]) (ok := fun _ => True) (okp := fun _ => True) ?hr ?hp (fun _ hk => hk) trivial (Below.refl _ _) (Nat.le_refl _) (by simp) ?_; (case hd => rfl); (case hg => rfl); (case hr => first | (go_simp; done) | (go_simp; rfl)); (case hp => exact (Reps.c5 (show Kd.M k38 _ _ _ (⟨x.f0, nm x.f1, nm x.f2, 0, 0⟩ : S38) [.int .u8 x.f0, .string (nm x.f1), .string (nm x.f2), .int .u16 0, .int .u16 0] from (k38_mkM _ _ _ (⟨x.f0, nm x.f1, nm x.f2, 0, 0⟩ : S38))) (Reps.none _ _)))
                intro v0 v ho hb hg_ hnew_
                obtain ⟨A18, c18, e18, hN_1, hN_0⟩ := Kd.R_reads ho
                subst e18
                clear ho hg_ hnew_
                have hG_30_0 := Bx.below HF_30_0.out hb
                have hG_30_1 := HF_30_1.out
                refine hK.out _ _ (hHeld.trans (below_to hb hHeld.size)) (fun hHeld => ?_)
                clear hK K
                refine norm_ (a' := ?_) ?_ ?_
                rotate_left
                · show Act.put _ (some 62) _ = _
                  simp only [Act.put, sA_, s0_, sS_, i64_w, i32_w]
                  rfl
                exact norm_ (by first | (simp only [putAll, Act.put, sA_, s0_, sS_]; done) | (simp only [putAll, Act.put, sA_, s0_, sS_]; rfl)) (hJ_10_16_18_24_30 (A18, c18, B30) _ ⟨hHeld, hN_0, hN_1, hG_30_0, hG_30_1⟩)
              rintro ⟨A18, c18, B30⟩ u ⟨hHeld, hF_18_0, hF_18_1, hF_30_0, hF_30_1⟩
              have HF_18_0 := Aside0.mk hF_18_0
              have HF_18_1 := Aside0.mk hF_18_1
              have HF_30_0 := Aside0.mk hF_30_0
              have HF_30_1 := Aside0.mk hF_30_1
              clear hF_18_0 hF_18_1 hF_30_0 hF_30_1
              refine norm_ (a' := ?_) ?_ ?_
              rotate_left
              · simp only [putAll, Act.put, sA_, s0_, sS_]
                rfl
              refine one_ (i := 24) (N := some 68) (bm_ 33 1107296255) rfl rfl (one_of HT_.out (by kernel_rfl)) (by decide) (fun K hK => ?_)
              refine goes_ Try.func28 (by kernel_rfl) rfl #[.string x.f3] (by rfl) rfl rfl (by (try simp only [List.map_toArray, List.map_cons, List.map_nil]); first | done | rfl) ?_
              (with_reducible refine (hearsaylaw25_named.calls 60 x.f3 (nm x.f3) _ HN3.out).mono ?_)
              rintro e v ⟨rfl, hb⟩
              refine ⟨_, rfl, ?_⟩
              have hG_18_0 := Kd.C_below HF_18_0.out hb
              have hG_18_1 := HF_18_1.out
              have hG_30_0 := Bx.below HF_30_0.out hb
              have hG_30_1 := HF_30_1.out
              refine hK.out _ _ (hHeld.trans (below_to hb hHeld.size)) (fun hHeld => ?_)
              clear hK K
              refine norm_ (a' := ?_) ?_ ?_
              rotate_left
              · show Act.put _ (some 68) _ = _
                simp only [Act.put, sA_, s0_, sS_, i64_w, i32_w]
                rfl
              refine pure_ (i := 25) (N := some 69) (v := ?_) (a' := ?_) (bm_ 33 1140850687) rfl rfl (any_of HT_.out (by kernel_rfl)) (fun _ _ _ h => h) (Or.inl ⟨by rfl, ?_⟩) ?_ ?_
              rotate_left
              · intro w'
                go_simp
                with_reducible rfl
              rotate_left
              · simp only [Act.put, sA_, s0_, sS_, i64_w, i32_w]
                rfl
              exact norm_ (by first | (simp only [putAll, Act.put, sA_, s0_, sS_]; done) | (simp only [putAll, Act.put, sA_, s0_, sS_]; rfl)) (hJ_10_16_18_24_30 (A18, c18, B30) _ ⟨hHeld, hG_18_0, hG_18_1, hG_30_0, hG_30_1⟩)
            rintro ⟨A18, c18⟩ u ⟨hHeld, hF_18_0, hF_18_1⟩
            have HF_18_0 := Aside0.mk hF_18_0
            have HF_18_1 := Aside0.mk hF_18_1
            clear hF_18_0 hF_18_1
            refine norm_ (a' := ?_) ?_ ?_
            rotate_left
            · simp only [putAll, Act.put, sA_, s0_, sS_]
              rfl
            refine two_ (i := 26) (j := 30) (Ni := some 70) (Nj := some 3) (bm_ 33 134217727) (bm_ 33 1140850687) rfl rfl rfl rfl (two_of HT_.out (by kernel_rfl)) (by decide) (by decide) (fun K hK => ?_) (fun K hK => ?_)
            · refine goes_ Try.func16 (by kernel_rfl) rfl #[.slice A18 1 c18, .agg #[.string (nm x.f3), .int .u16 5, .int .u16 3]] (by rfl) rfl rfl (by (try simp only [List.map_toArray, List.map_cons, List.map_nil]); first | done | rfl) ?_
              (with_reducible refine (ask_calls3 A18 1 c18 [(⟨x.f0, nm x.f1, nm x.f2, 0, 0⟩ : S38)] rfl (nm x.f3) 5 3 y0 y1 y2 yb _ HF_18_0.out HF_18_1.out HASK.out).mono ?_)
              rintro e v ⟨rfl, hb⟩
              refine ⟨_, rfl, ?_⟩
              have hG_18_0 := Kd.C_below HF_18_0.out hb
              have hG_18_1 := HF_18_1.out
              refine hK.out _ _ (hHeld.trans (below_to hb hHeld.size)) (fun hHeld => ?_)
              clear hK K
              refine norm_ (a' := ?_) ?_ ?_
              rotate_left
              · show Act.put _ (some 70) _ = _
                simp only [Act.put, sA_, s0_, sS_, i64_w, i32_w]
                rfl
              refine pure_ (i := 27) (N := some 43) (v := ?_) (a' := ?_) (bm_ 33 268435455) rfl rfl (any_of HT_.out (by kernel_rfl)) (fun _ _ _ h => h) (Or.inl ⟨by rfl, ?_⟩) ?_ ?_
              rotate_left
              · intro w'
                go_simp
                with_reducible rfl
              rotate_left
              · simp only [Act.put, sA_, s0_, sS_, i64_w, i32_w]
                rfl
              refine pure_ (i := 28) (N := some 71) (v := ?_) (a' := ?_) (bm_ 33 536870911) rfl rfl (any_of HT_.out (by kernel_rfl)) (fun _ _ _ h => h) (Or.inl ⟨by rfl, ?_⟩) ?_ ?_
              rotate_left
              · intro w'
                go_simp
                with_reducible rfl
              rotate_left
              · simp only [Act.put, sA_, s0_, sS_, i64_w, i32_w]
                rfl
              refine pure_ (i := 29) (N := some 72) (v := ?_) (a' := ?_) (bm_ 33 1073741823) rfl rfl (any_of HT_.out (by kernel_rfl)) (fun _ _ _ h => h) (Or.inl ⟨by rfl, ?_⟩) ?_ ?_
              rotate_left
              · intro w'
                go_simp
                with_reducible rfl
              rotate_left
              · simp only [Act.put, sA_, s0_, sS_, i64_w, i32_w]
                rfl
              exact norm_ (by first | (simp only [putAll, Act.put, sA_, s0_, sS_]; done) | (simp only [putAll, Act.put, sA_, s0_, sS_]; rfl)) (hJ_10_16_18_24_26 (A18, c18) _ ⟨hHeld, hG_18_0, hG_18_1⟩)
            · refine box_step ?hg (N := 3) ?hd (cs := #[.string (⟨#[]⟩ : ByteArray), .int .u16 0, .int .u16 0]) (t := 32) ?hr ?_; (case hd => rfl); (case hg => rfl); (case hr => first | (go_simp; done) | (go_simp; rfl))
              intro B30 hg v hbox hb
              have hN_0 : Bx v B30 #[.string ⟨#[]⟩, .int .u16 0, .int .u16 0] 32 := hbox
              have hN_1 : wr.drew.heap.size ≤ B30 := by rw [hg]; exact hHeld.size
              clear hbox
              have hG_18_0 := Kd.C_below HF_18_0.out hb
              have hG_18_1 := HF_18_1.out
              refine hK.out _ _ (hHeld.trans (below_to hb hHeld.size)) (fun hHeld => ?_)
              clear hK K
              refine norm_ (a' := ?_) ?_ ?_
              rotate_left
              · show Act.put _ (some 3) _ = _
                simp only [Act.put, sA_, s0_, sS_, i64_w, i32_w]
                rfl
              exact norm_ (by first | (simp only [putAll, Act.put, sA_, s0_, sS_]; done) | (simp only [putAll, Act.put, sA_, s0_, sS_]; rfl)) (hJ_10_16_18_24_30 (A18, c18, B30) _ ⟨hHeld, hG_18_0, hG_18_1, hN_0, hN_1⟩)
          rintro ⟨A18, c18, B30⟩ u ⟨hHeld, hF_18_0, hF_18_1, hF_30_0, hF_30_1⟩
          have HF_18_0 := Aside0.mk hF_18_0
          have HF_18_1 := Aside0.mk hF_18_1
          have HF_30_0 := Aside0.mk hF_30_0
          have HF_30_1 := Aside0.mk hF_30_1
          clear hF_18_0 hF_18_1 hF_30_0 hF_30_1
          refine norm_ (a' := ?_) ?_ ?_
          rotate_left
          · simp only [putAll, Act.put, sA_, s0_, sS_]
            rfl
          refine one_ (i := 26) (N := some 70) (bm_ 33 1207959551) rfl rfl (one_of HT_.out (by kernel_rfl)) (by decide) (fun K hK => ?_)
          refine goes_ Try.func16 (by kernel_rfl) rfl #[.slice A18 1 c18, .agg #[.string (nm x.f3), .int .u16 5, .int .u16 3]] (by rfl) rfl rfl (by (try simp only [List.map_toArray, List.map_cons, List.map_nil]); first | done | rfl) ?_
          (with_reducible refine (ask_calls3 A18 1 c18 [(⟨x.f0, nm x.f1, nm x.f2, 0, 0⟩ : S38)] rfl (nm x.f3) 5 3 y0 y1 y2 yb _ HF_18_0.out HF_18_1.out HASK.out).mono ?_)
          rintro e v ⟨rfl, hb⟩
          refine ⟨_, rfl, ?_⟩
          have hG_18_0 := Kd.C_below HF_18_0.out hb
          have hG_18_1 := HF_18_1.out
          have hG_30_0 := Bx.below HF_30_0.out hb
          have hG_30_1 := HF_30_1.out
          refine hK.out _ _ (hHeld.trans (below_to hb hHeld.size)) (fun hHeld => ?_)
          clear hK K
          refine norm_ (a' := ?_) ?_ ?_
          rotate_left
          · show Act.put _ (some 70) _ = _
            simp only [Act.put, sA_, s0_, sS_, i64_w, i32_w]
            rfl
          refine pure_ (i := 27) (N := some 43) (v := ?_) (a' := ?_) (bm_ 33 1342177279) rfl rfl (any_of HT_.out (by kernel_rfl)) (fun _ _ _ h => h) (Or.inl ⟨by rfl, ?_⟩) ?_ ?_
          rotate_left
          · intro w'
            go_simp
            with_reducible rfl
          rotate_left
          · simp only [Act.put, sA_, s0_, sS_, i64_w, i32_w]
            rfl
          refine pure_ (i := 28) (N := some 71) (v := ?_) (a' := ?_) (bm_ 33 1610612735) rfl rfl (any_of HT_.out (by kernel_rfl)) (fun _ _ _ h => h) (Or.inl ⟨by rfl, ?_⟩) ?_ ?_
          rotate_left
          · intro w'
            go_simp
            with_reducible rfl
          rotate_left
          · simp only [Act.put, sA_, s0_, sS_, i64_w, i32_w]
            rfl
          refine pure_ (i := 29) (N := some 72) (v := ?_) (a' := ?_) (bm_ 33 2147483647) rfl rfl (any_of HT_.out (by kernel_rfl)) (fun _ _ _ h => h) (Or.inl ⟨by rfl, ?_⟩) ?_ ?_
          rotate_left
          · intro w'
            go_simp
            with_reducible rfl
          rotate_left
          · simp only [Act.put, sA_, s0_, sS_, i64_w, i32_w]
            rfl
          exact norm_ (by first | (simp only [putAll, Act.put, sA_, s0_, sS_]; done) | (simp only [putAll, Act.put, sA_, s0_, sS_]; rfl)) (hJ_10_16_18_24_26_30 (A18, c18, B30) _ ⟨hHeld, hG_18_0, hG_18_1, hG_30_0, hG_30_1⟩)
        rintro ⟨A18, c18⟩ u ⟨hHeld, hF_18_0, hF_18_1⟩
        have HF_18_0 := Aside0.mk hF_18_0
        have HF_18_1 := Aside0.mk hF_18_1
        clear hF_18_0 hF_18_1
        refine norm_ (a' := ?_) ?_ ?_
        rotate_left
        · simp only [putAll, Act.put, sA_, s0_, sS_]
          rfl
        refine one_ (i := 30) (N := some 3) (bm_ 33 2147483647) rfl rfl (one_of HT_.out (by kernel_rfl)) (by decide) (fun K hK => ?_)
        refine box_step ?hg (N := 3) ?hd (cs := #[.string (⟨#[]⟩ : ByteArray), .int .u16 0, .int .u16 0]) (t := 32) ?hr ?_; (case hd => rfl); (case hg => rfl); (case hr => first | (go_simp; done) | (go_simp; rfl))
        intro B30 hg v hbox hb
        have hN_0 : Bx v B30 #[.string ⟨#[]⟩, .int .u16 0, .int .u16 0] 32 := hbox
        have hN_1 : wr.drew.heap.size ≤ B30 := by rw [hg]; exact hHeld.size
        clear hbox
        have hG_18_0 := Kd.C_below HF_18_0.out hb
        have hG_18_1 := HF_18_1.out
        refine hK.out _ _ (hHeld.trans (below_to hb hHeld.size)) (fun hHeld => ?_)
        clear hK K
        refine norm_ (a' := ?_) ?_ ?_
        rotate_left
        · show Act.put _ (some 3) _ = _
          simp only [Act.put, sA_, s0_, sS_, i64_w, i32_w]
          rfl
        exact norm_ (by first | (simp only [putAll, Act.put, sA_, s0_, sS_]; done) | (simp only [putAll, Act.put, sA_, s0_, sS_]; rfl)) (hJ_10_16_18_24_26_30 (A18, c18, B30) _ ⟨hHeld, hG_18_0, hG_18_1, hN_0, hN_1⟩)
      rintro ⟨A18, c18, B30⟩ u ⟨hHeld, hF_18_0, hF_18_1, hF_30_0, hF_30_1⟩
      have HF_18_0 := Aside0.mk hF_18_0
      have HF_18_1 := Aside0.mk hF_18_1
      have HF_30_0 := Aside0.mk hF_30_0
      have HF_30_1 := Aside0.mk hF_30_1
      clear hF_18_0 hF_18_1 hF_30_0 hF_30_1
      refine norm_ (a' := ?_) ?_ ?_
      rotate_left
      · simp only [putAll, Act.put, sA_, s0_, sS_]
        rfl
      refine one_ (i := 31) (N := none) (bm_ 33 4294967295) rfl rfl (one_of HT_.out (by kernel_rfl)) (by decide) (fun K hK => ?_)
      have s0 := HF_30_0.out.cell 0 _ rfl
      have s1 := HF_30_0.out.cell 1 _ rfl
      have s2 := HF_30_0.out.cell 2 _ rfl
      have sf := fun j => HF_30_0.out.frozen j
      refine skip_ (w1 := ?_) (by rfl) rfl ?_ ?_
      rotate_left
      · go_simp
        rfl
      refine hK.out _ _ (((hHeld.setCell (p := ⟨B30, 0, none⟩) HF_30_1.out _).setCell (p := ⟨B30, 1, none⟩) HF_30_1.out _).setCell (p := ⟨B30, 2, none⟩) HF_30_1.out _) (fun hHeld => ?_)
      clear hK K
      refine pure_ (i := 32) (N := some 4) (v := ?_) (a' := ?_) (bm_ 33 8589934591) rfl rfl (any_of HT_.out (by kernel_rfl)) (fun _ _ _ h => h) (Or.inl ⟨by rfl, ?_⟩) ?_ ?_
      rotate_left
      · intro w'
        go_simp
        with_reducible rfl
      rotate_left
      · simp only [Act.put, sA_, s0_, sS_, i64_w, i32_w]
        rfl
      refine done_ (done_of HT_.out (by kernel_rfl)) ?_
      have X3 := Aside0.mk (((HF_30_0.out.set 0 (.string y0)).set 1 (.int .u16 y1)).set 2 (.int .u16 y2))
      have HBf := Aside0.mk (HBd.out.trans (below_to hHeld HBd.out.size))
      have HCf := Aside0.mk (Kd.C_below HCd.out hHeld)
      clear hHeld HF_18_0 HF_18_1 HF_30_0 HF_30_1 HCd HBd HC HB
      generalize ((u.setCell ⟨B30, 0, none⟩ (.string y0)).setCell ⟨B30, 1, none⟩ (.int .u16 y1)).setCell ⟨B30, 2, none⟩ (.int .u16 y2) = u2 at X3 HBf HCf ⊢
      have lt3 := X3.out.lt
      have t0 := X3.out.cell 0 (.string y0) rfl
      have t1 := X3.out.cell 1 (.int .u16 y1) rfl
      have t2 := X3.out.cell 2 (.int .u16 y2) rfl
      obtain ⟨ad2, hA2, c_0, c_1, c_2, c_3, c_4⟩ := at_T62 HCf.out (k : Int) (by omega) (by omega)
      rw [rd_T62_at HXK.out] at c_0 c_1 c_2 c_3 c_4
      simp only [Int.toNat_natCast] at c_0 c_1 c_2 c_3 c_4
      cases hA2
      have had := World.block_lt_of_cell? _ _ c_0
      have HBL := Aside0.mk had
      clear HN1 HN2 HN3 HASK
      rcases HYE.out with ⟨h0, rfl, rfl, rfl, rfl⟩ | ⟨h0, hn4, rfl, rfl, rfl, rfl⟩
      · have he : x.f4 = ⟨#[]⟩ := empty_of h0
        rw [he] at c_4
        clear HYE h0 he HXK
        go_wp2
        go_roundw
        case rel => exact ⟨k + 1, by omega, by go_num, ⟨Kd.C_alloc HCf.out _⟩, ⟨below_alloc HBf.out _⟩⟩
        case measure => simp [intOf]; omega
      · have HN4 := Aside0.mk (nm_of hn4)
        clear HYE hn4
        have HXK2 := Aside0.mk (show ∃ x', Rw[k]? = some x' ∧ x'.f4 = x.f4 from ⟨x, HXK.out, rfl⟩)
        generalize x.f4 = s4 at *
        have e1 : (s4.toList == ([] : List UInt8)) = false := by rw [beq_eq_false_iff_ne]; exact fun h => h0 ((size_nil s4).1 h)
        have e2 : (s4.toList != ([] : List UInt8)) = true := by rw [bne_iff_ne]; exact fun h => h0 ((size_nil s4).1 h)
        have e3 : s4.toList.isEmpty = false := by cases h : s4.toList with | nil => exact absurd ((size_nil s4).1 h) h0 | cons a b => rfl
        go_wp2_with (first | (go_at_call 28; (with_reducible refine (hearsaylaw25_named.calls 60 s4 (nm s4) _ HN4.out).mono ?_); rintro e v ⟨rfl, hb⟩; have X3' := Aside0.mk ((X3.out.alloc (.cells #[.string ⟨#[]⟩, .int .u16 0, .int .u16 0] 32)).below hb); have X5 := Aside0.mk ((Bx.new u2 #[.string ⟨#[]⟩, .int .u16 0, .int .u16 0] 32).below hb); have HCv := Aside0.mk (Kd.C_below (Kd.C_alloc HCf.out (.cells #[.string ⟨#[]⟩, .int .u16 0, .int .u16 0] 32)) hb); have HBu := Aside0.mk (below_step (below_alloc (Below.refl u2.heap.size u2) (.cells #[.string ⟨#[]⟩, .int .u16 0, .int .u16 0] 32)) hb); have HBv := Aside0.mk (below_step (below_alloc HBf.out (.cells #[.string ⟨#[]⟩, .int .u16 0, .int .u16 0] 32)) hb); clear hb c_0 c_1 c_2 c_3 c_4 had t0 t1 t2 lt3; have hne3 : ¬ B30 = u2.heap.size := (by have := X3.out.lt; omega); have hne4 : ¬ u2.heap.size = B30 := (by have := X3.out.lt; omega); have lt3 := X3'.out.lt; have lt5 := X5.out.lt; have t0 := X3'.out.cell 0 (.string (nm s4)) rfl; have t1 := X3'.out.cell 1 (.int .u16 5) rfl; have t2 := X3'.out.cell 2 (.int .u16 3) rfl; have z0 := X5.out.cell 0 _ rfl; have z1 := X5.out.cell 1 _ rfl; have z2 := X5.out.cell 2 _ rfl; have zf := fun j => X5.out.frozen j; obtain ⟨x', hx', hf'⟩ := HXK2.out; obtain ⟨ad3, hA3, c_0, c_1, c_2, c_3, c_4⟩ := at_T62 HCv.out (k : Int) (by omega) (by omega); rw [rd_T62_at hx'] at c_0 c_1 c_2 c_3 c_4; simp only [Int.toNat_natCast] at c_0 c_1 c_2 c_3 c_4; cases hA3; rw [hf'] at c_4; have had := World.block_lt_of_cell? _ _ c_0; have hnb1 : ¬ u2.heap.size = (ad.add (k * 5)).block := (by have := HBL.out; omega); have hnb2 : ¬ (ad.add (k * 5)).block = u2.heap.size := (by have := HBL.out; omega)))
        have HBw := Aside0.mk (((HBu.out.setCell (p := ⟨u2.heap.size, 0, none⟩) (Nat.le_refl _) (.string (nm s4))).setCell (p := ⟨u2.heap.size, 1, none⟩) (Nat.le_refl _) (.int .u16 5)).setCell (p := ⟨u2.heap.size, 2, none⟩) (Nat.le_refl _) (.int .u16 3))
        go_roundw
        case rel => exact ⟨k + 1, by omega, by go_num, ⟨Kd.C_below HCf.out HBw.out⟩, ⟨HBf.out.trans (below_to HBw.out HBf.out.size)⟩⟩
        case measure => simp [intOf]; omega
    · obtain rfl : k = Rw.length := by omega
      clear HC HALL HRW hlt hk
      go_upto_region 13 with (first | (go_at_call 28; (with_reducible refine (hearsaylaw25_named.calls 60 (⟨#[97, 46]⟩ : ByteArray) (⟨#[1, 97, 0]⟩ : ByteArray) _ nv_0).mono ?_); rintro e v ⟨rfl, hb⟩; have HB_ := Aside0.mk (below_step (by repeat (first | (with_reducible first | exact HB.out | apply below_alloc | apply pw_below_drewN | apply below_drew1) | exact HB.out)) hb); clear HB; have HB := HB_; clear HB_; have HA6_ := Aside0.mk (And.intro (Kd.C_below (by repeat (first | exact HA6.out.1 | refine Kd.C_alloc ?_ _)) hb) HA6.out.2); clear HA6; have HA6 := HA6_; clear HA6_;  clear hb) | (go_at_call 28; (with_reducible refine (hearsaylaw25_named.calls 60 (⟨#[97, 46]⟩ : ByteArray) (⟨#[1, 97, 0]⟩ : ByteArray) _ nv_0).mono ?_); rintro e v ⟨rfl, hb⟩; have HB_ := Aside0.mk (below_step (by repeat (first | (with_reducible first | exact HB.out | apply below_alloc | apply pw_below_drewN | apply below_drew1) | exact HB.out)) hb); clear HB; have HB := HB_; clear HB_;  clear hb) | (go_at_call 28; (with_reducible refine (hearsaylaw25_named.calls 60 (⟨#[98, 46]⟩ : ByteArray) (⟨#[1, 98, 0]⟩ : ByteArray) _ nv_1).mono ?_); rintro e v ⟨rfl, hb⟩; have HB_ := Aside0.mk (below_step (by repeat (first | (with_reducible first | exact HB.out | apply below_alloc | apply pw_below_drewN | apply below_drew1) | exact HB.out)) hb); clear HB; have HB := HB_; clear HB_;  clear hb) | (go_at_call 28; (with_reducible refine (hearsaylaw25_named.calls 60 (⟨#[99, 46]⟩ : ByteArray) (⟨#[1, 99, 0]⟩ : ByteArray) _ nv_2).mono ?_); rintro e v ⟨rfl, hb⟩; have HB_ := Aside0.mk (below_step (by repeat (first | (with_reducible first | exact HB.out | apply below_alloc | apply pw_below_drewN | apply below_drew1) | exact HB.out)) hb); clear HB; have HB := HB_; clear HB_;  clear hb) | ((with_reducible refine gate_dst (N := 106) rfl ?_); refine Kd.R_lit k38 _ 38 ?hg (N := 106) ?hd (xs := ([(⟨1, (⟨#[1, 97, 0]⟩ : ByteArray), (⟨#[1, 98, 0]⟩ : ByteArray), 0, 0⟩ : S38), (⟨1, (⟨#[1, 98, 0]⟩ : ByteArray), (⟨#[1, 99, 0]⟩ : ByteArray), 0, 0⟩ : S38)] : List S38)) (inner := [.int .u8 1, .string (⟨#[1, 97, 0]⟩ : ByteArray), .string (⟨#[1, 98, 0]⟩ : ByteArray), .int .u16 0, .int .u16 0, .int .u8 1, .string (⟨#[1, 98, 0]⟩ : ByteArray), .string (⟨#[1, 99, 0]⟩ : ByteArray), .int .u16 0, .int .u16 0]) (ok := fun _ => True) (okp := fun _ => True) ?hr ?hp (fun _ hk => hk) trivial (Below.refl _ _) (Nat.le_refl _) (by simp) ?_; (case hd => rfl); (case hg => rfl); (case hr => first | (go_simp; done) | (go_simp; rfl)); (case hp => exact (Reps.c5 (show Kd.M k38 _ _ _ (⟨1, (⟨#[1, 97, 0]⟩ : ByteArray), (⟨#[1, 98, 0]⟩ : ByteArray), 0, 0⟩ : S38) [.int .u8 1, .string (⟨#[1, 97, 0]⟩ : ByteArray), .string (⟨#[1, 98, 0]⟩ : ByteArray), .int .u16 0, .int .u16 0] from (k38_mkM _ _ _ (⟨1, (⟨#[1, 97, 0]⟩ : ByteArray), (⟨#[1, 98, 0]⟩ : ByteArray), 0, 0⟩ : S38))) (Reps.c5 (show Kd.M k38 _ _ _ (⟨1, (⟨#[1, 98, 0]⟩ : ByteArray), (⟨#[1, 99, 0]⟩ : ByteArray), 0, 0⟩ : S38) [.int .u8 1, .string (⟨#[1, 98, 0]⟩ : ByteArray), .string (⟨#[1, 99, 0]⟩ : ByteArray), .int .u16 0, .int .u16 0] from (k38_mkM _ _ _ (⟨1, (⟨#[1, 98, 0]⟩ : ByteArray), (⟨#[1, 99, 0]⟩ : ByteArray), 0, 0⟩ : S38))) (Reps.none _ _)))); intro v0 v ho hb hg_ hnew_; obtain ⟨A6, A6c, e0, A6l, A6r⟩ := Kd.R_reads ho; subst e0; have HA6 : Aside0 (Kd.C k38 v A6 2 [(⟨1, (⟨#[1, 97, 0]⟩ : ByteArray), (⟨#[1, 98, 0]⟩ : ByteArray), 0, 0⟩ : S38), (⟨1, (⟨#[1, 98, 0]⟩ : ByteArray), (⟨#[1, 99, 0]⟩ : ByteArray), 0, 0⟩ : S38)] ∧ 2 ≤ A6c) := ⟨And.intro A6r A6l⟩; clear ho A6r A6l hg_ hnew_; have HB_ := Aside0.mk (below_step (by repeat (first | (with_reducible first | exact HB.out | apply below_alloc | apply pw_below_drewN | apply below_drew1) | exact HB.out)) hb); clear HB; have HB := HB_; clear HB_;  clear hb) | (go_at_call 16; (with_reducible refine (ask_calls3 A6 2 A6c [(⟨1, (⟨#[1, 97, 0]⟩ : ByteArray), (⟨#[1, 98, 0]⟩ : ByteArray), 0, 0⟩ : S38), (⟨1, (⟨#[1, 98, 0]⟩ : ByteArray), (⟨#[1, 99, 0]⟩ : ByteArray), 0, 0⟩ : S38)] rfl (⟨#[1, 97, 0]⟩ : ByteArray) 0 0 (⟨#[1, 98, 0]⟩ : ByteArray) 0 0 true _ (by repeat (first | exact HA6.out.1 | refine Kd.C_alloc ?_ _)) HA6.out.2 nk_two).mono ?_); rintro e v6 ⟨rfl, hb⟩; have HB_ := Aside0.mk (below_step (by repeat (first | (with_reducible first | exact HB.out | apply below_alloc | apply pw_below_drewN | apply below_drew1) | exact HB.out)) hb); clear HB; have HB := HB_; clear HB_;  clear hb))
      have X7 := Aside0.mk (Bx.new v6 #[.string (⟨#[1, 98, 0]⟩ : ByteArray), .int .u16 0, .int .u16 0] 32)
      have HB_ := Aside0.mk (below_alloc HB.out (.cells #[.string (⟨#[1, 98, 0]⟩ : ByteArray), .int .u16 0, .int .u16 0] 32))
      clear HB
      have HB := HB_
      clear HB_
      generalize v6.alloc (.cells #[.string (⟨#[1, 98, 0]⟩ : ByteArray), .int .u16 0, .int .u16 0] 32) = v13 at X7 HB  ⊢
      generalize v6.heap.size = B7 at X7 ⊢
      go_upto_region 14 with (first | (go_at_call 28; (with_reducible refine (hearsaylaw25_named.calls 60 (⟨#[97, 46]⟩ : ByteArray) (⟨#[1, 97, 0]⟩ : ByteArray) _ nv_0).mono ?_); rintro e v ⟨rfl, hb⟩; have HB_ := Aside0.mk (below_step (by repeat (first | (with_reducible first | exact HB.out | apply below_alloc | apply pw_below_drewN | apply below_drew1) | exact HB.out)) hb); clear HB; have HB := HB_; clear HB_; have HA9_ := Aside0.mk (And.intro (Kd.C_below (by repeat (first | exact HA9.out.1 | refine Kd.C_alloc ?_ _)) hb) HA9.out.2); clear HA9; have HA9 := HA9_; clear HA9_; have X7_ := Aside0.mk (Bx.below (by repeat (first | exact X7.out | refine Bx.alloc ?_ _)) hb); clear X7; have X7 := X7_; clear X7_;  clear hb) | ((with_reducible refine gate_dst (N := 116) rfl ?_); refine Kd.R_lit k38 _ 38 ?hg (N := 116) ?hd (xs := ([(⟨4, (⟨#[]⟩ : ByteArray), (⟨#[]⟩ : ByteArray), 1, 28⟩ : S38)] : List S38)) (inner := [.int .u8 4, .string (⟨#[]⟩ : ByteArray), .string (⟨#[]⟩ : ByteArray), .int .u16 1, .int .u16 28]) (ok := fun _ => True) (okp := fun _ => True) ?hr ?hp (fun _ hk => hk) trivial (Below.refl _ _) (Nat.le_refl _) (by simp) ?_; (case hd => rfl); (case hg => rfl); (case hr => first | (go_simp; done) | (go_simp; rfl)); (case hp => exact (Reps.c5 (show Kd.M k38 _ _ _ (⟨4, (⟨#[]⟩ : ByteArray), (⟨#[]⟩ : ByteArray), 1, 28⟩ : S38) [.int .u8 4, .string (⟨#[]⟩ : ByteArray), .string (⟨#[]⟩ : ByteArray), .int .u16 1, .int .u16 28] from (k38_mkM _ _ _ (⟨4, (⟨#[]⟩ : ByteArray), (⟨#[]⟩ : ByteArray), 1, 28⟩ : S38))) (Reps.none _ _))); intro v0 v ho hb hg_ hnew_; obtain ⟨A9, A9c, e0, A9l, A9r⟩ := Kd.R_reads ho; subst e0; have HA9 : Aside0 (Kd.C k38 v A9 1 [(⟨4, (⟨#[]⟩ : ByteArray), (⟨#[]⟩ : ByteArray), 1, 28⟩ : S38)] ∧ 1 ≤ A9c) := ⟨And.intro A9r A9l⟩; clear ho A9r A9l hg_ hnew_; have HB_ := Aside0.mk (below_step (by repeat (first | (with_reducible first | exact HB.out | apply below_alloc | apply pw_below_drewN | apply below_drew1) | exact HB.out)) hb); clear HB; have HB := HB_; clear HB_; have X7_ := Aside0.mk (Bx.below (by repeat (first | exact X7.out | refine Bx.alloc ?_ _)) hb); clear X7; have X7 := X7_; clear X7_;  clear hb) | (go_at_call 16; (with_reducible refine (ask_calls3 A9 1 A9c [(⟨4, (⟨#[]⟩ : ByteArray), (⟨#[]⟩ : ByteArray), 1, 28⟩ : S38)] rfl (⟨#[1, 97, 0]⟩ : ByteArray) 1 1 (⟨#[1, 97, 0]⟩ : ByteArray) 28 1 true _ (by repeat (first | exact HA9.out.1 | refine Kd.C_alloc ?_ _)) HA9.out.2 nk_knd).mono ?_); rintro e v9 ⟨rfl, hb⟩; have HB_ := Aside0.mk (below_step (by repeat (first | (with_reducible first | exact HB.out | apply below_alloc | apply pw_below_drewN | apply below_drew1) | exact HB.out)) hb); clear HB; have HB := HB_; clear HB_; have X7_ := Aside0.mk (Bx.below (by repeat (first | exact X7.out | refine Bx.alloc ?_ _)) hb); clear X7; have X7 := X7_; clear X7_;  clear hb))
      have X9 := Aside0.mk (Bx.new v9 #[.string (⟨#[1, 97, 0]⟩ : ByteArray), .int .u16 28, .int .u16 1] 32)
      have HB_ := Aside0.mk (below_alloc HB.out (.cells #[.string (⟨#[1, 97, 0]⟩ : ByteArray), .int .u16 28, .int .u16 1] 32))
      clear HB
      have HB := HB_
      clear HB_
      have X7_ := Aside0.mk (X7.out.alloc (.cells #[.string (⟨#[1, 97, 0]⟩ : ByteArray), .int .u16 28, .int .u16 1] 32))
      clear X7
      have X7 := X7_
      clear X7_
      generalize v9.alloc (.cells #[.string (⟨#[1, 97, 0]⟩ : ByteArray), .int .u16 28, .int .u16 1] 32) = v14 at X9 HB X7 ⊢
      generalize v9.heap.size = B9 at X9 ⊢
      have X7d := Aside0.mk (X7.out.drew)
      have X9d := Aside0.mk (X9.out.drew)
      have HBd := Aside0.mk (below_drew1 HB.out)
      refine start_ (n := 18) (S := (fun w' => Below v14.drew.heap.size v14.drew w')) (ds := []) (bm_ 18 0) (by kernel_rfl) rfl rfl (Below.refl _ _) (fun hHeld => ?_)
      refine with_tabW known.tab14 known.bits14 (fun HT_ HW_ => ?_)
      refine pure_ (i := 0) (N := some 122) (v := ?_) (a' := ?_) (bm_ 18 1) rfl rfl (any_of HT_.out (by kernel_rfl)) (fun _ _ _ h => h) (Or.inl ⟨by rfl, ?_⟩) ?_ ?_
      rotate_left
      · intro w'
        go_simp
        with_reducible rfl
      rotate_left
      · simp only [Act.put, sA_, s0_, sS_, i64_w, i32_w]
        rfl
      refine pure_ (i := 1) (N := some 123) (v := ?_) (a' := ?_) (bm_ 18 3) rfl rfl (any_of HT_.out (by kernel_rfl)) (fun _ _ _ h => h) (Or.inl ⟨by rfl, ?_⟩) ?_ ?_
      rotate_left
      · intro w'
        go_simp
        with_reducible rfl
      rotate_left
      · simp only [Act.put, sA_, s0_, sS_, i64_w, i32_w]
        rfl
      refine pure_ (i := 2) (N := some 124) (v := ?_) (a' := ?_) (bm_ 18 7) rfl rfl (any_of HT_.out (by kernel_rfl)) (fun _ _ _ h => h) (Or.inl ⟨by rfl, ?_⟩) ?_ ?_
      rotate_left
      · intro w'
        go_simp
        with_reducible rfl
      rotate_left
      · simp only [Act.put, sA_, s0_, sS_, i64_w, i32_w]
        rfl
      refine pure_ (i := 3) (N := some 125) (v := ?_) (a' := ?_) (bm_ 18 15) rfl rfl (any_of HT_.out (by kernel_rfl)) (fun _ _ _ h => h) (Or.inl ⟨by rfl, ?_⟩) ?_ ?_
      rotate_left
      · intro w'
        go_simp
        with_reducible rfl
      rotate_left
      · simp only [Act.put, sA_, s0_, sS_, i64_w, i32_w]
        rfl
      refine take_ (i := 4) (N := some 126) (v := ?_) (a' := ?_) (bm_ 18 31) rfl rfl (take_ofW HT_.out HW_.out (by kernel_rfl)) (fun _ _ _ h => h) (Or.inl ⟨by rfl, ?_⟩) hHeld ?_ ?_
      rotate_left
      · rintro w' hs
        have b_ := Bx.blw X7d.out hs X7d.out.lt; have c_0 := b_.cell 0 _ rfl; have c_1 := b_.cell 1 _ rfl; have c_2 := b_.cell 2 _ rfl; go_simp
        with_reducible rfl
      rotate_left
      · simp only [Act.put, sA_, s0_, sS_, i64_w, i32_w]
        rfl
      refine one_ (i := 5) (N := some 127) (bm_ 18 63) rfl rfl (one_of HT_.out (by kernel_rfl)) (by decide) (fun K hK => ?_)
      refine goes_ Try.func28 (by kernel_rfl) rfl #[.string (⟨#[98, 46]⟩ : ByteArray)] (by rfl) rfl rfl (by (try simp only [List.map_toArray, List.map_cons, List.map_nil]); first | done | rfl) ?_
      (with_reducible refine (hearsaylaw25_named.calls 60 (⟨#[98, 46]⟩ : ByteArray) (⟨#[1, 98, 0]⟩ : ByteArray) _ nv_1).mono ?_)
      rintro e u1 ⟨rfl, hbf⟩
      refine ⟨_, rfl, ?_⟩
      refine hK.out _ _ (hHeld.trans (below_to hbf hHeld.size)) (fun hHeld => ?_)
      clear hK K
      refine norm_ (a' := ?_) ?_ ?_
      rotate_left
      · show Act.put _ (some 127) _ = _
        simp only [Act.put, sA_, s0_, sS_, i64_w, i32_w]
        rfl
      refine pure_ (i := 6) (N := some 128) (v := ?_) (a' := ?_) (bm_ 18 127) rfl rfl (any_of HT_.out (by kernel_rfl)) (fun _ _ _ h => h) (Or.inl ⟨by rfl, ?_⟩) ?_ ?_
      rotate_left
      · intro w'
        go_simp
        with_reducible rfl
      rotate_left
      · simp only [Act.put, sA_, s0_, sS_, i64_w, i32_w]
        rfl
      refine pure_ (i := 7) (N := some 129) (v := ?_) (a' := ?_) (bm_ 18 255) rfl rfl (any_of HT_.out (by kernel_rfl)) (fun _ _ _ h => h) (Or.inl ⟨by rfl, ?_⟩) ?_ ?_
      rotate_left
      · intro w'
        go_simp
        with_reducible rfl
      rotate_left
      · simp only [Act.put, sA_, s0_, sS_, i64_w, i32_w]
        rfl
      refine pure_ (i := 8) (N := some 130) (v := ?_) (a' := ?_) (bm_ 18 511) rfl rfl (any_of HT_.out (by kernel_rfl)) (fun _ _ _ h => h) (Or.inl ⟨by rfl, ?_⟩) ?_ ?_
      rotate_left
      · intro w'
        go_simp
        with_reducible rfl
      rotate_left
      · simp only [Act.put, sA_, s0_, sS_, i64_w, i32_w]
        rfl
      refine pure_ (i := 9) (N := some 131) (v := ?_) (a' := ?_) (bm_ 18 1023) rfl rfl (any_of HT_.out (by kernel_rfl)) (fun _ _ _ h => h) (Or.inl ⟨by rfl, ?_⟩) ?_ ?_
      rotate_left
      · intro w'
        go_simp
        with_reducible rfl
      rotate_left
      · simp only [Act.put, sA_, s0_, sS_, i64_w, i32_w]
        rfl
      refine pure_ (i := 10) (N := some 132) (v := ?_) (a' := ?_) (bm_ 18 2047) rfl rfl (any_of HT_.out (by kernel_rfl)) (fun _ _ _ h => h) (Or.inl ⟨by rfl, ?_⟩) ?_ ?_
      rotate_left
      · intro w'
        go_simp
        with_reducible rfl
      rotate_left
      · simp only [Act.put, sA_, s0_, sS_, i64_w, i32_w]
        rfl
      refine pure_ (i := 11) (N := some 133) (v := ?_) (a' := ?_) (bm_ 18 4095) rfl rfl (any_of HT_.out (by kernel_rfl)) (fun _ _ _ h => h) (Or.inl ⟨by rfl, ?_⟩) ?_ ?_
      rotate_left
      · intro w'
        go_simp
        with_reducible rfl
      rotate_left
      · simp only [Act.put, sA_, s0_, sS_, i64_w, i32_w]
        rfl
      refine pure_ (i := 12) (N := some 134) (v := ?_) (a' := ?_) (bm_ 18 8191) rfl rfl (any_of HT_.out (by kernel_rfl)) (fun _ _ _ h => h) (Or.inl ⟨by rfl, ?_⟩) ?_ ?_
      rotate_left
      · intro w'
        go_simp
        with_reducible rfl
      rotate_left
      · simp only [Act.put, sA_, s0_, sS_, i64_w, i32_w]
        rfl
      refine take_ (i := 13) (N := some 135) (v := ?_) (a' := ?_) (bm_ 18 16383) rfl rfl (take_ofW HT_.out HW_.out (by kernel_rfl)) (fun _ _ _ h => h) (Or.inl ⟨by rfl, ?_⟩) hHeld ?_ ?_
      rotate_left
      · rintro w' hs
        have b_ := Bx.blw X9d.out hs X9d.out.lt; have c_0 := b_.cell 0 _ rfl; have c_1 := b_.cell 1 _ rfl; have c_2 := b_.cell 2 _ rfl; go_simp
        with_reducible rfl
      rotate_left
      · simp only [Act.put, sA_, s0_, sS_, i64_w, i32_w]
        rfl
      refine one_ (i := 14) (N := some 136) (bm_ 18 32767) rfl rfl (one_of HT_.out (by kernel_rfl)) (by decide) (fun K hK => ?_)
      refine goes_ Try.func28 (by kernel_rfl) rfl #[.string (⟨#[97, 46]⟩ : ByteArray)] (by rfl) rfl rfl (by (try simp only [List.map_toArray, List.map_cons, List.map_nil]); first | done | rfl) ?_
      (with_reducible refine (hearsaylaw25_named.calls 60 (⟨#[97, 46]⟩ : ByteArray) (⟨#[1, 97, 0]⟩ : ByteArray) _ nv_0).mono ?_)
      rintro e u2 ⟨rfl, hbf⟩
      refine ⟨_, rfl, ?_⟩
      refine hK.out _ _ (hHeld.trans (below_to hbf hHeld.size)) (fun hHeld => ?_)
      clear hK K
      refine norm_ (a' := ?_) ?_ ?_
      rotate_left
      · show Act.put _ (some 136) _ = _
        simp only [Act.put, sA_, s0_, sS_, i64_w, i32_w]
        rfl
      refine pure_ (i := 15) (N := some 137) (v := ?_) (a' := ?_) (bm_ 18 65535) rfl rfl (any_of HT_.out (by kernel_rfl)) (fun _ _ _ h => h) (Or.inl ⟨by rfl, ?_⟩) ?_ ?_
      rotate_left
      · intro w'
        go_simp
        with_reducible rfl
      rotate_left
      · simp only [Act.put, sA_, s0_, sS_, i64_w, i32_w]
        rfl
      refine pure_ (i := 16) (N := some 138) (v := ?_) (a' := ?_) (bm_ 18 131071) rfl rfl (any_of HT_.out (by kernel_rfl)) (fun _ _ _ h => h) (Or.inl ⟨by rfl, ?_⟩) ?_ ?_
      rotate_left
      · intro w'
        go_simp
        with_reducible rfl
      rotate_left
      · simp only [Act.put, sA_, s0_, sS_, i64_w, i32_w]
        rfl
      refine pure_ (i := 17) (N := some 139) (v := ?_) (a' := ?_) (bm_ 18 262143) rfl rfl (any_of HT_.out (by kernel_rfl)) (fun _ _ _ h => h) (Or.inl ⟨by rfl, ?_⟩) ?_ ?_
      rotate_left
      · intro w'
        go_simp
        with_reducible rfl
      rotate_left
      · simp only [Act.put, sA_, s0_, sS_, i64_w, i32_w]
        rfl
      refine done_ (done_of HT_.out (by kernel_rfl)) ?_
      clear HB
      have HB := Aside0.mk (HBd.out.trans (below_to hHeld HBd.out.size))
      clear X7
      have X7 := Aside0.mk (Bx.blw X7d.out hHeld X7d.out.lt)
      clear X9
      have X9 := Aside0.mk (Bx.blw X9d.out hHeld X9d.out.lt)
      clear HBd X7d X9d hHeld
      clear X7 X9
      go_upto_region 17 with (first | fail)
      obtain ⟨lab, hlab⟩ : ∃ l, l = labK := ⟨_, rfl⟩
      have hl0 : (⟨#[63, 97, 97, 97, 97, 97, 97, 97, 97, 97, 97, 97, 97, 97, 97, 97, 97, 97, 97, 97, 97, 97, 97, 97, 97, 97, 97, 97, 97, 97, 97, 97, 97, 97, 97, 97, 97, 97, 97, 97, 97, 97, 97, 97, 97, 97, 97, 97, 97, 97, 97, 97, 97, 97, 97, 97, 97, 97, 97, 97, 97, 97, 97, 97]⟩ : ByteArray) = lab := hlab.symm
      rw [hl0]
      clear hl0
      have hls : lab.size = 64 := by rw [hlab]; rfl
      have HLAB := Aside0.mk hlab
      clear hlab
      go_upto_region 19 with (first | fail)
      obtain ⟨sh, hsh⟩ : ∃ l, l = lab ++ lab ++ lab ++ (⟨#[0]⟩ : ByteArray) := ⟨_, rfl⟩
      obtain ⟨fu, hfu⟩ : ∃ l, l = lab ++ lab ++ lab ++ (⟨#[61, 98, 98, 98, 98, 98, 98, 98, 98, 98, 98, 98, 98, 98, 98, 98, 98, 98, 98, 98, 98, 98, 98, 98, 98, 98, 98, 98, 98, 98, 98, 98, 98, 98, 98, 98, 98, 98, 98, 98, 98, 98, 98, 98, 98, 98, 98, 98, 98, 98, 98, 98, 98, 98, 98, 98, 98, 98, 98, 98, 98, 98, 0]⟩ : ByteArray) := ⟨_, rfl⟩
      rw [← hsh, ← hfu]
      have hss : sh.size = 193 := by rw [hsh]; simp [ByteArray.size_append, hls]; rfl
      have HNK : Aside0 (askP [(⟨2, sh, fu, 0, 0⟩ : S38), (⟨2, sh, ((⟨#[1, 122]⟩ : ByteArray) ++ sh), 0, 0⟩ : S38), (⟨1, sh, (⟨#[1, 113, 0]⟩ : ByteArray), 0, 0⟩ : S38)] ⟨(⟨#[1, 120]⟩ : ByteArray) ++ sh, 0, 0⟩ = (⟨(⟨#[1, 120, 1, 122]⟩ : ByteArray) ++ sh, 0, 0⟩, true)) := ⟨by rw [hsh, hfu, HLAB.out]; exact nk_full⟩
      clear hsh hfu HLAB
      go_upto_region 20 with (first | (go_at_call 28; (with_reducible refine (hearsaylaw25_named.calls 60 (⟨#[113, 46]⟩ : ByteArray) (⟨#[1, 113, 0]⟩ : ByteArray) _ nv_3).mono ?_); rintro e v ⟨rfl, hb⟩; have HB_ := Aside0.mk (below_step (by repeat (first | (with_reducible first | exact HB.out | apply below_alloc | apply pw_below_drewN | apply below_drew1) | exact HB.out)) hb); clear HB; have HB := HB_; clear HB_;  clear hb) | ((with_reducible refine gate_dst (N := 163) rfl ?_); refine Kd.R_lit k38 _ 38 ?hg (N := 163) ?hd (xs := ([(⟨2, sh, fu, 0, 0⟩ : S38), (⟨2, sh, ((⟨#[1, 122]⟩ : ByteArray) ++ sh), 0, 0⟩ : S38), (⟨1, sh, (⟨#[1, 113, 0]⟩ : ByteArray), 0, 0⟩ : S38)] : List S38)) (inner := [.int .u8 2, .string sh, .string fu, .int .u16 0, .int .u16 0, .int .u8 2, .string sh, .string ((⟨#[1, 122]⟩ : ByteArray) ++ sh), .int .u16 0, .int .u16 0, .int .u8 1, .string sh, .string (⟨#[1, 113, 0]⟩ : ByteArray), .int .u16 0, .int .u16 0]) (ok := fun _ => True) (okp := fun _ => True) ?hr ?hp (fun _ hk => hk) trivial (Below.refl _ _) (Nat.le_refl _) (by simp) ?_; (case hd => rfl); (case hg => rfl); (case hr => first | (go_simp; done) | (go_simp; rfl)); (case hp => exact (Reps.c5 (show Kd.M k38 _ _ _ (⟨2, sh, fu, 0, 0⟩ : S38) [.int .u8 2, .string sh, .string fu, .int .u16 0, .int .u16 0] from (k38_mkM _ _ _ (⟨2, sh, fu, 0, 0⟩ : S38))) (Reps.c5 (show Kd.M k38 _ _ _ (⟨2, sh, ((⟨#[1, 122]⟩ : ByteArray) ++ sh), 0, 0⟩ : S38) [.int .u8 2, .string sh, .string ((⟨#[1, 122]⟩ : ByteArray) ++ sh), .int .u16 0, .int .u16 0] from (k38_mkM _ _ _ (⟨2, sh, ((⟨#[1, 122]⟩ : ByteArray) ++ sh), 0, 0⟩ : S38))) (Reps.c5 (show Kd.M k38 _ _ _ (⟨1, sh, (⟨#[1, 113, 0]⟩ : ByteArray), 0, 0⟩ : S38) [.int .u8 1, .string sh, .string (⟨#[1, 113, 0]⟩ : ByteArray), .int .u16 0, .int .u16 0] from (k38_mkM _ _ _ (⟨1, sh, (⟨#[1, 113, 0]⟩ : ByteArray), 0, 0⟩ : S38))) (Reps.none _ _))))); intro v0 v ho hb hg_ hnew_; obtain ⟨A13, A13c, e0, A13l, A13r⟩ := Kd.R_reads ho; subst e0; have HA13 : Aside0 (Kd.C k38 v A13 3 [(⟨2, sh, fu, 0, 0⟩ : S38), (⟨2, sh, ((⟨#[1, 122]⟩ : ByteArray) ++ sh), 0, 0⟩ : S38), (⟨1, sh, (⟨#[1, 113, 0]⟩ : ByteArray), 0, 0⟩ : S38)] ∧ 3 ≤ A13c) := ⟨And.intro A13r A13l⟩; clear ho A13r A13l hg_ hnew_; have HB_ := Aside0.mk (below_step (by repeat (first | (with_reducible first | exact HB.out | apply below_alloc | apply pw_below_drewN | apply below_drew1) | exact HB.out)) hb); clear HB; have HB := HB_; clear HB_;  clear hb) | (go_at_call 16; (with_reducible refine (ask_calls3 A13 3 A13c [(⟨2, sh, fu, 0, 0⟩ : S38), (⟨2, sh, ((⟨#[1, 122]⟩ : ByteArray) ++ sh), 0, 0⟩ : S38), (⟨1, sh, (⟨#[1, 113, 0]⟩ : ByteArray), 0, 0⟩ : S38)] rfl ((⟨#[1, 120]⟩ : ByteArray) ++ sh) 0 0 ((⟨#[1, 120, 1, 122]⟩ : ByteArray) ++ sh) 0 0 true _ (by repeat (first | exact HA13.out.1 | refine Kd.C_alloc ?_ _)) HA13.out.2 HNK.out).mono ?_); rintro e v15 ⟨rfl, hb⟩; have HB_ := Aside0.mk (below_step (by repeat (first | (with_reducible first | exact HB.out | apply below_alloc | apply pw_below_drewN | apply below_drew1) | exact HB.out)) hb); clear HB; have HB := HB_; clear HB_;  clear hb))
      have X14 := Aside0.mk (Bx.new v15 #[.string ((⟨#[1, 120, 1, 122]⟩ : ByteArray) ++ sh), .int .u16 0, .int .u16 0] 32)
      have HB_ := Aside0.mk (below_alloc HB.out (.cells #[.string ((⟨#[1, 120, 1, 122]⟩ : ByteArray) ++ sh), .int .u16 0, .int .u16 0] 32))
      clear HB
      have HB := HB_
      clear HB_
      generalize v15.alloc (.cells #[.string ((⟨#[1, 120, 1, 122]⟩ : ByteArray) ++ sh), .int .u16 0, .int .u16 0] 32) = v20 at X14 HB  ⊢
      generalize v15.heap.size = B14 at X14 ⊢
      clear HNK
      have d0 := X14.out.cell 0 _ rfl
      go_upto_region 25 with (first | (go_at_call 28; (with_reducible refine (hearsaylaw25_named.calls 60 (⟨#[97, 46]⟩ : ByteArray) (⟨#[1, 97, 0]⟩ : ByteArray) _ nv_0).mono ?_); rintro e v ⟨rfl, hb⟩; have HB_ := Aside0.mk (below_step (by repeat (first | (with_reducible first | exact HB.out | apply below_alloc | apply pw_below_drewN | apply below_drew1) | exact HB.out)) hb); clear HB; have HB := HB_; clear HB_;  clear hb) | (go_at_call 28; (with_reducible refine (hearsaylaw25_named.calls 60 (⟨#[98, 46]⟩ : ByteArray) (⟨#[1, 98, 0]⟩ : ByteArray) _ nv_1).mono ?_); rintro e v ⟨rfl, hb⟩; have HB_ := Aside0.mk (below_step (by repeat (first | (with_reducible first | exact HB.out | apply below_alloc | apply pw_below_drewN | apply below_drew1) | exact HB.out)) hb); clear HB; have HB := HB_; clear HB_;  clear hb) | ((with_reducible refine gate_dst (N := 183) rfl ?_); refine Kd.R_lit k38 _ 38 ?hg (N := 183) ?hd (xs := ([(⟨1, (⟨#[1, 97, 0]⟩ : ByteArray), (⟨#[1, 98, 0]⟩ : ByteArray), 0, 0⟩ : S38)] : List S38)) (inner := [.int .u8 1, .string (⟨#[1, 97, 0]⟩ : ByteArray), .string (⟨#[1, 98, 0]⟩ : ByteArray), .int .u16 0, .int .u16 0]) (ok := fun _ => True) (okp := fun _ => True) ?hr ?hp (fun _ hk => hk) trivial (Below.refl _ _) (Nat.le_refl _) (by simp) ?_; (case hd => rfl); (case hg => rfl); (case hr => first | (go_simp; done) | (go_simp; rfl)); (case hp => exact (Reps.c5 (show Kd.M k38 _ _ _ (⟨1, (⟨#[1, 97, 0]⟩ : ByteArray), (⟨#[1, 98, 0]⟩ : ByteArray), 0, 0⟩ : S38) [.int .u8 1, .string (⟨#[1, 97, 0]⟩ : ByteArray), .string (⟨#[1, 98, 0]⟩ : ByteArray), .int .u16 0, .int .u16 0] from (k38_mkM _ _ _ (⟨1, (⟨#[1, 97, 0]⟩ : ByteArray), (⟨#[1, 98, 0]⟩ : ByteArray), 0, 0⟩ : S38))) (Reps.none _ _))); intro v0 v ho hb hg_ hnew_; obtain ⟨A16, A16c, e0, A16l, A16r⟩ := Kd.R_reads ho; subst e0; have HA16 : Aside0 (Kd.C k38 v A16 1 [(⟨1, (⟨#[1, 97, 0]⟩ : ByteArray), (⟨#[1, 98, 0]⟩ : ByteArray), 0, 0⟩ : S38)] ∧ 1 ≤ A16c) := ⟨And.intro A16r A16l⟩; clear ho A16r A16l hg_ hnew_; have HB_ := Aside0.mk (below_step (by repeat (first | (with_reducible first | exact HB.out | apply below_alloc | apply pw_below_drewN | apply below_drew1) | exact HB.out)) hb); clear HB; have HB := HB_; clear HB_;  clear hb) | (go_at_call 16; (with_reducible refine (ask_calls3 A16 1 A16c [(⟨1, (⟨#[1, 97, 0]⟩ : ByteArray), (⟨#[1, 98, 0]⟩ : ByteArray), 0, 0⟩ : S38)] rfl (⟨#[97, 46]⟩ : ByteArray) 0 0 (⟨#[]⟩ : ByteArray) 0 0 false _ (by repeat (first | exact HA16.out.1 | refine Kd.C_alloc ?_ _)) HA16.out.2 nk_no).mono ?_); rintro e v17 ⟨rfl, hb⟩; have HB_ := Aside0.mk (below_step (by repeat (first | (with_reducible first | exact HB.out | apply below_alloc | apply pw_below_drewN | apply below_drew1) | exact HB.out)) hb); clear HB; have HB := HB_; clear HB_;  clear hb))
      go_upto_region 26 with (first | (go_at_call 28; (with_reducible refine (hearsaylaw25_named.calls 60 (⟨#[98, 46]⟩ : ByteArray) (⟨#[1, 98, 0]⟩ : ByteArray) _ nv_1).mono ?_); rintro e v ⟨rfl, hb⟩; have HB_ := Aside0.mk (below_step (by repeat (first | (with_reducible first | exact HB.out | apply below_alloc | apply pw_below_drewN | apply below_drew1) | exact HB.out)) hb); clear HB; have HB := HB_; clear HB_; have HR2_ := Aside0.mk (And.intro (Kd.C_below (by repeat (first | exact HR2.out.1 | refine Kd.C_alloc ?_ _)) hb) HR2.out.2); clear HR2; have HR2 := HR2_; clear HR2_;  clear hb) | (go_at_call 28; (with_reducible refine (hearsaylaw25_named.calls 60 (⟨#[66, 46]⟩ : ByteArray) (⟨#[1, 66, 0]⟩ : ByteArray) _ nv_5).mono ?_); rintro e v ⟨rfl, hb⟩; have HB_ := Aside0.mk (below_step (by repeat (first | (with_reducible first | exact HB.out | apply below_alloc | apply pw_below_drewN | apply below_drew1) | exact HB.out)) hb); clear HB; have HB := HB_; clear HB_;  clear hb) | (go_at_call 28; (with_reducible refine (hearsaylaw25_named.calls 60 (⟨#[99, 46]⟩ : ByteArray) (⟨#[1, 99, 0]⟩ : ByteArray) _ nv_2).mono ?_); rintro e v ⟨rfl, hb⟩; have HB_ := Aside0.mk (below_step (by repeat (first | (with_reducible first | exact HB.out | apply below_alloc | apply pw_below_drewN | apply below_drew1) | exact HB.out)) hb); clear HB; have HB := HB_; clear HB_;  clear hb) | (go_at_call 28; (with_reducible refine (hearsaylaw25_named.calls 60 (⟨#[98, 46]⟩ : ByteArray) (⟨#[1, 98, 0]⟩ : ByteArray) _ nv_1).mono ?_); rintro e v ⟨rfl, hb⟩; have HB_ := Aside0.mk (below_step (by repeat (first | (with_reducible first | exact HB.out | apply below_alloc | apply pw_below_drewN | apply below_drew1) | exact HB.out)) hb); clear HB; have HB := HB_; clear HB_;  clear hb) | (go_at_call 28; (with_reducible refine (hearsaylaw25_named.calls 60 (⟨#[81, 46, 97, 46]⟩ : ByteArray) (⟨#[1, 81, 1, 97, 0]⟩ : ByteArray) _ nv_4).mono ?_); rintro e v ⟨rfl, hb⟩; have HB_ := Aside0.mk (below_step (by repeat (first | (with_reducible first | exact HB.out | apply below_alloc | apply pw_below_drewN | apply below_drew1) | exact HB.out)) hb); clear HB; have HB := HB_; clear HB_;  clear hb) | ((with_reducible refine gate_dst (N := 197) rfl ?_); refine Kd.R_lit k59 _ 59 ?hg (N := 197) ?hd (xs := ([(⟨(⟨#[1, 66, 0]⟩ : ByteArray), 0, 0, 0, (⟨(⟨#[]⟩ : ByteArray), (⟨#[]⟩ : ByteArray), (⟨#[]⟩ : ByteArray), (⟨0, 0, 0, 0, 0⟩ : S55)⟩ : S57)⟩ : S59), (⟨(⟨#[1, 99, 0]⟩ : ByteArray), 0, 0, 0, (⟨(⟨#[]⟩ : ByteArray), (⟨#[]⟩ : ByteArray), (⟨#[]⟩ : ByteArray), (⟨0, 0, 0, 0, 0⟩ : S55)⟩ : S57)⟩ : S59)] : List S59)) (inner := [.string (⟨#[1, 66, 0]⟩ : ByteArray), .int .u16 0, .int .u16 0, .int .u32 0, .string (⟨#[]⟩ : ByteArray), .string (⟨#[]⟩ : ByteArray), .string (⟨#[]⟩ : ByteArray), .int .u32 0, .int .u32 0, .int .u32 0, .int .u32 0, .int .u32 0, .string (⟨#[1, 99, 0]⟩ : ByteArray), .int .u16 0, .int .u16 0, .int .u32 0, .string (⟨#[]⟩ : ByteArray), .string (⟨#[]⟩ : ByteArray), .string (⟨#[]⟩ : ByteArray), .int .u32 0, .int .u32 0, .int .u32 0, .int .u32 0, .int .u32 0]) (ok := fun _ => True) (okp := fun _ => True) ?hr ?hp (fun _ hk => hk) trivial (Below.refl _ _) (Nat.le_refl _) (by simp) ?_; (case hd => rfl); (case hg => rfl); (case hr => first | (go_simp; done) | (go_simp; rfl)); (case hp => exact (Reps.front (show Kd.M k59 _ _ _ (⟨(⟨#[1, 66, 0]⟩ : ByteArray), 0, 0, 0, (⟨(⟨#[]⟩ : ByteArray), (⟨#[]⟩ : ByteArray), (⟨#[]⟩ : ByteArray), (⟨0, 0, 0, 0, 0⟩ : S55)⟩ : S57)⟩ : S59) [.string (⟨#[1, 66, 0]⟩ : ByteArray), .int .u16 0, .int .u16 0, .int .u32 0, .string (⟨#[]⟩ : ByteArray), .string (⟨#[]⟩ : ByteArray), .string (⟨#[]⟩ : ByteArray), .int .u32 0, .int .u32 0, .int .u32 0, .int .u32 0, .int .u32 0] from (k59_mkM _ _ _ (⟨(⟨#[1, 66, 0]⟩ : ByteArray), 0, 0, 0, (⟨(⟨#[]⟩ : ByteArray), (⟨#[]⟩ : ByteArray), (⟨#[]⟩ : ByteArray), (⟨0, 0, 0, 0, 0⟩ : S55)⟩ : S57)⟩ : S59))) rfl (Reps.front (show Kd.M k59 _ _ _ (⟨(⟨#[1, 99, 0]⟩ : ByteArray), 0, 0, 0, (⟨(⟨#[]⟩ : ByteArray), (⟨#[]⟩ : ByteArray), (⟨#[]⟩ : ByteArray), (⟨0, 0, 0, 0, 0⟩ : S55)⟩ : S57)⟩ : S59) [.string (⟨#[1, 99, 0]⟩ : ByteArray), .int .u16 0, .int .u16 0, .int .u32 0, .string (⟨#[]⟩ : ByteArray), .string (⟨#[]⟩ : ByteArray), .string (⟨#[]⟩ : ByteArray), .int .u32 0, .int .u32 0, .int .u32 0, .int .u32 0, .int .u32 0] from (k59_mkM _ _ _ (⟨(⟨#[1, 99, 0]⟩ : ByteArray), 0, 0, 0, (⟨(⟨#[]⟩ : ByteArray), (⟨#[]⟩ : ByteArray), (⟨#[]⟩ : ByteArray), (⟨0, 0, 0, 0, 0⟩ : S55)⟩ : S57)⟩ : S59))) rfl (Reps.none _ _) rfl) rfl)); intro v0 v ho hb hg_ hnew_; obtain ⟨R2, R2c, e0, R2l, R2r⟩ := Kd.R_reads ho; subst e0; have HR2 : Aside0 (Kd.C k59 v R2 2 [(⟨(⟨#[1, 66, 0]⟩ : ByteArray), 0, 0, 0, (⟨(⟨#[]⟩ : ByteArray), (⟨#[]⟩ : ByteArray), (⟨#[]⟩ : ByteArray), (⟨0, 0, 0, 0, 0⟩ : S55)⟩ : S57)⟩ : S59), (⟨(⟨#[1, 99, 0]⟩ : ByteArray), 0, 0, 0, (⟨(⟨#[]⟩ : ByteArray), (⟨#[]⟩ : ByteArray), (⟨#[]⟩ : ByteArray), (⟨0, 0, 0, 0, 0⟩ : S55)⟩ : S57)⟩ : S59)] ∧ 2 ≤ R2c) := ⟨And.intro R2r R2l⟩; clear ho R2r R2l hg_ hnew_; have HB_ := Aside0.mk (below_step (by repeat (first | (with_reducible first | exact HB.out | apply below_alloc | apply pw_below_drewN | apply below_drew1) | exact HB.out)) hb); clear HB; have HB := HB_; clear HB_;  clear hb) | ((with_reducible refine gate_dst (N := 200) rfl ?_); refine Kd.R_lit k59 _ 59 ?hg (N := 200) ?hd (xs := ([(⟨(⟨#[1, 98, 0]⟩ : ByteArray), 0, 0, 0, (⟨(⟨#[]⟩ : ByteArray), (⟨#[]⟩ : ByteArray), (⟨#[]⟩ : ByteArray), (⟨0, 0, 0, 0, 0⟩ : S55)⟩ : S57)⟩ : S59)] : List S59)) (inner := [.string (⟨#[1, 98, 0]⟩ : ByteArray), .int .u16 0, .int .u16 0, .int .u32 0, .string (⟨#[]⟩ : ByteArray), .string (⟨#[]⟩ : ByteArray), .string (⟨#[]⟩ : ByteArray), .int .u32 0, .int .u32 0, .int .u32 0, .int .u32 0, .int .u32 0]) (ok := fun _ => True) (okp := fun _ => True) ?hr ?hp (fun _ hk => hk) trivial (Below.refl _ _) (Nat.le_refl _) (by simp) ?_; (case hd => rfl); (case hg => rfl); (case hr => first | (go_simp; done) | (go_simp; rfl)); (case hp => exact (Reps.front (show Kd.M k59 _ _ _ (⟨(⟨#[1, 98, 0]⟩ : ByteArray), 0, 0, 0, (⟨(⟨#[]⟩ : ByteArray), (⟨#[]⟩ : ByteArray), (⟨#[]⟩ : ByteArray), (⟨0, 0, 0, 0, 0⟩ : S55)⟩ : S57)⟩ : S59) [.string (⟨#[1, 98, 0]⟩ : ByteArray), .int .u16 0, .int .u16 0, .int .u32 0, .string (⟨#[]⟩ : ByteArray), .string (⟨#[]⟩ : ByteArray), .string (⟨#[]⟩ : ByteArray), .int .u32 0, .int .u32 0, .int .u32 0, .int .u32 0, .int .u32 0] from (k59_mkM _ _ _ (⟨(⟨#[1, 98, 0]⟩ : ByteArray), 0, 0, 0, (⟨(⟨#[]⟩ : ByteArray), (⟨#[]⟩ : ByteArray), (⟨#[]⟩ : ByteArray), (⟨0, 0, 0, 0, 0⟩ : S55)⟩ : S57)⟩ : S59))) rfl (Reps.none _ _) rfl)); intro v0 v ho hb hg_ hnew_; obtain ⟨R4, R4c, e0, R4l, R4r⟩ := Kd.R_reads ho; subst e0; have HR4 : Aside0 (Kd.C k59 v R4 1 [(⟨(⟨#[1, 98, 0]⟩ : ByteArray), 0, 0, 0, (⟨(⟨#[]⟩ : ByteArray), (⟨#[]⟩ : ByteArray), (⟨#[]⟩ : ByteArray), (⟨0, 0, 0, 0, 0⟩ : S55)⟩ : S57)⟩ : S59)] ∧ 1 ≤ R4c) := ⟨And.intro R4r R4l⟩; clear ho R4r R4l hg_ hnew_; have HB_ := Aside0.mk (below_step (by repeat (first | (with_reducible first | exact HB.out | apply below_alloc | apply pw_below_drewN | apply below_drew1) | exact HB.out)) hb); clear HB; have HB := HB_; clear HB_; have HR2_ := Aside0.mk (And.intro (Kd.C_below (by repeat (first | exact HR2.out.1 | refine Kd.C_alloc ?_ _)) hb) HR2.out.2); clear HR2; have HR2 := HR2_; clear HR2_;  clear hb) | (go_at_call 22; (with_reducible refine (back_known R2 R2c R4 R4c _ (by repeat (first | exact HR2.out.1 | refine Kd.C_alloc ?_ _)) HR2.out.2 (by repeat (first | exact HR4.out.1 | refine Kd.C_alloc ?_ _)) HR4.out.2).mono ?_); rintro e v19 ⟨E2, e2, E3, e3, E4, e4, rfl, le2, le4, hE2, hE4, hb⟩; have HE2 := Aside0.mk (And.intro hE2 le2); have HE4 := Aside0.mk (And.intro hE4 le4); clear hE2 hE4 le2 le4; have HB_ := Aside0.mk (below_step (by repeat (first | (with_reducible first | exact HB.out | apply below_alloc | apply pw_below_drewN | apply below_drew1) | exact HB.out)) hb); clear HB; have HB := HB_; clear HB_;  clear hb))
      have X18 := Aside0.mk (Bx.new v19 #[.int .u16 3, .bool true, .slice E2 2 e2, .slice E3 0 e3, .slice E4 1 e4] 45)
      have HB_ := Aside0.mk (below_alloc HB.out (.cells #[.int .u16 3, .bool true, .slice E2 2 e2, .slice E3 0 e3, .slice E4 1 e4] 45))
      clear HB
      have HB := HB_
      clear HB_
      have HE2_ := Aside0.mk (And.intro (Kd.C_alloc HE2.out.1 (.cells #[.int .u16 3, .bool true, .slice E2 2 e2, .slice E3 0 e3, .slice E4 1 e4] 45)) HE2.out.2)
      clear HE2
      have HE2 := HE2_
      clear HE2_
      have HE4_ := Aside0.mk (And.intro (Kd.C_alloc HE4.out.1 (.cells #[.int .u16 3, .bool true, .slice E2 2 e2, .slice E3 0 e3, .slice E4 1 e4] 45)) HE4.out.2)
      clear HE4
      have HE4 := HE4_
      clear HE4_
      generalize v19.alloc (.cells #[.int .u16 3, .bool true, .slice E2 2 e2, .slice E3 0 e3, .slice E4 1 e4] 45) = v26 at X18 HB HE2 HE4 ⊢
      generalize v19.heap.size = B18 at X18 ⊢
      obtain ⟨ad2, hE2, _⟩ := at_T59 HE2.out.1 0 (by omega) (by omega)
      subst hE2
      obtain ⟨ad4, hE4, _⟩ := at_T59 HE4.out.1 0 (by omega) (by omega)
      subst hE4
      have X18d := Aside0.mk (X18.out.drew)
      have HE2d := Aside0.mk (And.intro (Kd.C_drew HE2.out.1) HE2.out.2)
      have HE4d := Aside0.mk (And.intro (Kd.C_drew HE4.out.1) HE4.out.2)
      have HBd := Aside0.mk (below_drew1 HB.out)
      refine start_ (n := 47) (S := (fun w' => Below v26.drew.heap.size v26.drew w')) (ds := []) (bm_ 47 0) (by kernel_rfl) rfl rfl (Below.refl _ _) (fun hHeld => ?_)
      refine with_tabW known.tab26 known.bits26 (fun HT_ HW_ => ?_)
      refine pure_ (i := 0) (N := some 203) (v := ?_) (a' := ?_) (bm_ 47 1) rfl rfl (any_of HT_.out (by kernel_rfl)) (fun _ _ _ h => h) (Or.inl ⟨by rfl, ?_⟩) ?_ ?_
      rotate_left
      · intro w'
        go_simp
        with_reducible rfl
      rotate_left
      · simp only [Act.put, sA_, s0_, sS_, i64_w, i32_w]
        rfl
      refine take_ (i := 1) (N := some 204) (v := ?_) (a' := ?_) (bm_ 47 3) rfl rfl (take_ofW HT_.out HW_.out (by kernel_rfl)) (fun _ _ _ h => h) (Or.inl ⟨by rfl, ?_⟩) hHeld ?_ ?_
      rotate_left
      · rintro w' hs
        have b_ := Bx.blw X18d.out hs X18d.out.lt; have c_0 := b_.cell 0 _ rfl; have c_1 := b_.cell 1 _ rfl; have c_2 := b_.cell 2 _ rfl; have c_3 := b_.cell 3 _ rfl; have c_4 := b_.cell 4 _ rfl; go_simp
        with_reducible rfl
      rotate_left
      · simp only [Act.put, sA_, s0_, sS_, i64_w, i32_w]
        rfl
      refine pure_ (i := 2) (N := some 205) (v := ?_) (a' := ?_) (bm_ 47 7) rfl rfl (any_of HT_.out (by kernel_rfl)) (fun _ _ _ h => h) (Or.inl ⟨by rfl, ?_⟩) ?_ ?_
      rotate_left
      · intro w'
        go_simp
        with_reducible rfl
      rotate_left
      · simp only [Act.put, sA_, s0_, sS_, i64_w, i32_w]
        rfl
      refine pure_ (i := 3) (N := some 206) (v := ?_) (a' := ?_) (bm_ 47 15) rfl rfl (any_of HT_.out (by kernel_rfl)) (fun _ _ _ h => h) (Or.inl ⟨by rfl, ?_⟩) ?_ ?_
      rotate_left
      · intro w'
        go_simp
        with_reducible rfl
      rotate_left
      · simp only [Act.put, sA_, s0_, sS_, i64_w, i32_w]
        rfl
      refine pure_ (i := 4) (N := some 207) (v := ?_) (a' := ?_) (bm_ 47 31) rfl rfl (any_of HT_.out (by kernel_rfl)) (fun _ _ _ h => h) (Or.inl ⟨by rfl, ?_⟩) ?_ ?_
      rotate_left
      · intro w'
        go_simp
        with_reducible rfl
      rotate_left
      · simp only [Act.put, sA_, s0_, sS_, i64_w, i32_w]
        rfl
      refine take_ (i := 5) (N := some 208) (v := ?_) (a' := ?_) (bm_ 47 63) rfl rfl (take_ofW HT_.out HW_.out (by kernel_rfl)) (fun _ _ _ h => h) (Or.inl ⟨by rfl, ?_⟩) hHeld ?_ ?_
      rotate_left
      · rintro w' hs
        have b_ := Bx.blw X18d.out hs X18d.out.lt; have c_0 := b_.cell 0 _ rfl; have c_1 := b_.cell 1 _ rfl; have c_2 := b_.cell 2 _ rfl; have c_3 := b_.cell 3 _ rfl; have c_4 := b_.cell 4 _ rfl; go_simp
        with_reducible rfl
      rotate_left
      · simp only [Act.put, sA_, s0_, sS_, i64_w, i32_w]
        rfl
      refine pure_ (i := 6) (N := some 209) (v := ?_) (a' := ?_) (bm_ 47 127) rfl rfl (any_of HT_.out (by kernel_rfl)) (fun _ _ _ h => h) (Or.inl ⟨by rfl, ?_⟩) ?_ ?_
      rotate_left
      · intro w'
        go_simp
        with_reducible rfl
      rotate_left
      · simp only [Act.put, sA_, s0_, sS_, i64_w, i32_w]
        rfl
      refine pure_ (i := 7) (N := some 210) (v := ?_) (a' := ?_) (bm_ 47 255) rfl rfl (any_of HT_.out (by kernel_rfl)) (fun _ _ _ h => h) (Or.inl ⟨by rfl, ?_⟩) ?_ ?_
      rotate_left
      · intro w'
        go_simp
        with_reducible rfl
      rotate_left
      · simp only [Act.put, sA_, s0_, sS_, i64_w, i32_w]
        rfl
      refine pure_ (i := 8) (N := some 211) (v := ?_) (a' := ?_) (bm_ 47 511) rfl rfl (any_of HT_.out (by kernel_rfl)) (fun _ _ _ h => h) (Or.inl ⟨by rfl, ?_⟩) ?_ ?_
      rotate_left
      · intro w'
        go_simp
        with_reducible rfl
      rotate_left
      · simp only [Act.put, sA_, s0_, sS_, i64_w, i32_w]
        rfl
      refine pure_ (i := 9) (N := some 212) (v := ?_) (a' := ?_) (bm_ 47 1023) rfl rfl (any_of HT_.out (by kernel_rfl)) (fun _ _ _ h => h) (Or.inl ⟨by rfl, ?_⟩) ?_ ?_
      rotate_left
      · intro w'
        go_simp
        with_reducible rfl
      rotate_left
      · simp only [Act.put, sA_, s0_, sS_, i64_w, i32_w]
        rfl
      refine take_ (i := 10) (N := some 213) (v := ?_) (a' := ?_) (bm_ 47 2047) rfl rfl (take_ofW HT_.out HW_.out (by kernel_rfl)) (fun _ _ _ h => h) (Or.inl ⟨by rfl, ?_⟩) hHeld ?_ ?_
      rotate_left
      · rintro w' hs
        have b_ := Bx.blw X18d.out hs X18d.out.lt; have c_0 := b_.cell 0 _ rfl; have c_1 := b_.cell 1 _ rfl; have c_2 := b_.cell 2 _ rfl; have c_3 := b_.cell 3 _ rfl; have c_4 := b_.cell 4 _ rfl; go_simp
        with_reducible rfl
      rotate_left
      · simp only [Act.put, sA_, s0_, sS_, i64_w, i32_w]
        rfl
      refine pure_ (i := 11) (N := some 214) (v := ?_) (a' := ?_) (bm_ 47 4095) rfl rfl (any_of HT_.out (by kernel_rfl)) (fun _ _ _ h => h) (Or.inl ⟨by rfl, ?_⟩) ?_ ?_
      rotate_left
      · intro w'
        go_simp
        with_reducible rfl
      rotate_left
      · simp only [Act.put, sA_, s0_, sS_, i64_w, i32_w]
        rfl
      refine pure_ (i := 12) (N := some 215) (v := ?_) (a' := ?_) (bm_ 47 8191) rfl rfl (any_of HT_.out (by kernel_rfl)) (fun _ _ _ h => h) (Or.inl ⟨by rfl, ?_⟩) ?_ ?_
      rotate_left
      · intro w'
        go_simp
        with_reducible rfl
      rotate_left
      · simp only [Act.put, sA_, s0_, sS_, i64_w, i32_w]
        rfl
      refine pure_ (i := 13) (N := some 216) (v := ?_) (a' := ?_) (bm_ 47 16383) rfl rfl (any_of HT_.out (by kernel_rfl)) (fun _ _ _ h => h) (Or.inl ⟨by rfl, ?_⟩) ?_ ?_
      rotate_left
      · intro w'
        go_simp
        with_reducible rfl
      rotate_left
      · simp only [Act.put, sA_, s0_, sS_, i64_w, i32_w]
        rfl
      refine pure_ (i := 14) (N := some 217) (v := ?_) (a' := ?_) (bm_ 47 32767) rfl rfl (any_of HT_.out (by kernel_rfl)) (fun _ _ _ h => h) (Or.inl ⟨by rfl, ?_⟩) ?_ ?_
      rotate_left
      · intro w'
        go_simp
        with_reducible rfl
      rotate_left
      · simp only [Act.put, sA_, s0_, sS_, i64_w, i32_w]
        rfl
      refine pure_ (i := 15) (N := some 218) (v := ?_) (a' := ?_) (bm_ 47 65535) rfl rfl (any_of HT_.out (by kernel_rfl)) (fun _ _ _ h => h) (Or.inl ⟨by rfl, ?_⟩) ?_ ?_
      rotate_left
      · intro w'
        go_simp
        with_reducible rfl
      rotate_left
      · simp only [Act.put, sA_, s0_, sS_, i64_w, i32_w]
        rfl
      refine take_ (i := 16) (N := some 219) (v := ?_) (a' := ?_) (bm_ 47 131071) rfl rfl (take_ofW HT_.out HW_.out (by kernel_rfl)) (fun _ _ _ h => h) (Or.inl ⟨by rfl, ?_⟩) hHeld ?_ ?_
      rotate_left
      · rintro w' hs
        have b_ := Bx.blw X18d.out hs X18d.out.lt; have c_0 := b_.cell 0 _ rfl; have c_1 := b_.cell 1 _ rfl; have c_2 := b_.cell 2 _ rfl; have c_3 := b_.cell 3 _ rfl; have c_4 := b_.cell 4 _ rfl; go_simp
        with_reducible rfl
      rotate_left
      · simp only [Act.put, sA_, s0_, sS_, i64_w, i32_w]
        rfl
      refine pure_ (i := 17) (N := some 220) (v := ?_) (a' := ?_) (bm_ 47 262143) rfl rfl (any_of HT_.out (by kernel_rfl)) (fun _ _ _ h => h) (Or.inl ⟨by rfl, ?_⟩) ?_ ?_
      rotate_left
      · intro w'
        go_simp
        with_reducible rfl
      rotate_left
      · simp only [Act.put, sA_, s0_, sS_, i64_w, i32_w]
        rfl
      refine pure_ (i := 18) (N := some 221) (v := ?_) (a' := ?_) (bm_ 47 524287) rfl rfl (any_of HT_.out (by kernel_rfl)) (fun _ _ _ h => h) (Or.inl ⟨by rfl, ?_⟩) ?_ ?_
      rotate_left
      · intro w'
        go_simp
        with_reducible rfl
      rotate_left
      · simp only [Act.put, sA_, s0_, sS_, i64_w, i32_w]
        rfl
      refine take_ (i := 19) (N := some 222) (v := ?_) (a' := ?_) (bm_ 47 1048575) rfl rfl (take_ofW HT_.out HW_.out (by kernel_rfl)) (fun _ _ _ h => h) (Or.inl ⟨by rfl, ?_⟩) hHeld ?_ ?_
      rotate_left
      · rintro w' hs
        obtain ⟨ad_, e_, c_0, _⟩ := at_T59 (Kd.C_below HE2d.out.1 hs) 0 (by omega) (by omega); cases e_; have c0 : w'.cell? ad2 = some (.string (⟨#[1, 81, 1, 97, 0]⟩ : ByteArray)) := (by have h_ := c_0; rw [show ((0 : Int)).toNat * 12 = 0 from rfl, Addr.add_zero'] at h_; exact h_); go_simp
        with_reducible rfl
      rotate_left
      · simp only [Act.put, sA_, s0_, sS_, i64_w, i32_w]
        rfl
      refine one_ (i := 20) (N := some 223) (bm_ 47 2097151) rfl rfl (one_of HT_.out (by kernel_rfl)) (by decide) (fun K hK => ?_)
      refine goes_ Try.func28 (by kernel_rfl) rfl #[.string (⟨#[81, 46, 97, 46]⟩ : ByteArray)] (by rfl) rfl rfl (by (try simp only [List.map_toArray, List.map_cons, List.map_nil]); first | done | rfl) ?_
      (with_reducible refine (hearsaylaw25_named.calls 60 (⟨#[81, 46, 97, 46]⟩ : ByteArray) (⟨#[1, 81, 1, 97, 0]⟩ : ByteArray) _ nv_4).mono ?_)
      rintro e u1 ⟨rfl, hbf⟩
      refine ⟨_, rfl, ?_⟩
      refine hK.out _ _ (hHeld.trans (below_to hbf hHeld.size)) (fun hHeld => ?_)
      clear hK K
      refine norm_ (a' := ?_) ?_ ?_
      rotate_left
      · show Act.put _ (some 223) _ = _
        simp only [Act.put, sA_, s0_, sS_, i64_w, i32_w]
        rfl
      refine pure_ (i := 21) (N := some 224) (v := ?_) (a' := ?_) (bm_ 47 4194303) rfl rfl (any_of HT_.out (by kernel_rfl)) (fun _ _ _ h => h) (Or.inl ⟨by rfl, ?_⟩) ?_ ?_
      rotate_left
      · intro w'
        go_simp
        with_reducible rfl
      rotate_left
      · simp only [Act.put, sA_, s0_, sS_, i64_w, i32_w]
        rfl
      refine pure_ (i := 22) (N := some 225) (v := ?_) (a' := ?_) (bm_ 47 8388607) rfl rfl (any_of HT_.out (by kernel_rfl)) (fun _ _ _ h => h) (Or.inl ⟨by rfl, ?_⟩) ?_ ?_
      rotate_left
      · intro w'
        go_simp
        with_reducible rfl
      rotate_left
      · simp only [Act.put, sA_, s0_, sS_, i64_w, i32_w]
        rfl
      refine pure_ (i := 23) (N := some 226) (v := ?_) (a' := ?_) (bm_ 47 16777215) rfl rfl (any_of HT_.out (by kernel_rfl)) (fun _ _ _ h => h) (Or.inl ⟨by rfl, ?_⟩) ?_ ?_
      rotate_left
      · intro w'
        go_simp
        with_reducible rfl
      rotate_left
      · simp only [Act.put, sA_, s0_, sS_, i64_w, i32_w]
        rfl
      refine pure_ (i := 24) (N := some 227) (v := ?_) (a' := ?_) (bm_ 47 33554431) rfl rfl (any_of HT_.out (by kernel_rfl)) (fun _ _ _ h => h) (Or.inl ⟨by rfl, ?_⟩) ?_ ?_
      rotate_left
      · intro w'
        go_simp
        with_reducible rfl
      rotate_left
      · simp only [Act.put, sA_, s0_, sS_, i64_w, i32_w]
        rfl
      refine take_ (i := 25) (N := some 228) (v := ?_) (a' := ?_) (bm_ 47 67108863) rfl rfl (take_ofW HT_.out HW_.out (by kernel_rfl)) (fun _ _ _ h => h) (Or.inl ⟨by rfl, ?_⟩) hHeld ?_ ?_
      rotate_left
      · rintro w' hs
        have b_ := Bx.blw X18d.out hs X18d.out.lt; have c_0 := b_.cell 0 _ rfl; have c_1 := b_.cell 1 _ rfl; have c_2 := b_.cell 2 _ rfl; have c_3 := b_.cell 3 _ rfl; have c_4 := b_.cell 4 _ rfl; go_simp
        with_reducible rfl
      rotate_left
      · simp only [Act.put, sA_, s0_, sS_, i64_w, i32_w]
        rfl
      refine pure_ (i := 26) (N := some 229) (v := ?_) (a' := ?_) (bm_ 47 134217727) rfl rfl (any_of HT_.out (by kernel_rfl)) (fun _ _ _ h => h) (Or.inl ⟨by rfl, ?_⟩) ?_ ?_
      rotate_left
      · intro w'
        go_simp
        with_reducible rfl
      rotate_left
      · simp only [Act.put, sA_, s0_, sS_, i64_w, i32_w]
        rfl
      refine pure_ (i := 27) (N := some 230) (v := ?_) (a' := ?_) (bm_ 47 268435455) rfl rfl (any_of HT_.out (by kernel_rfl)) (fun _ _ _ h => h) (Or.inl ⟨by rfl, ?_⟩) ?_ ?_
      rotate_left
      · intro w'
        go_simp
        with_reducible rfl
      rotate_left
      · simp only [Act.put, sA_, s0_, sS_, i64_w, i32_w]
        rfl
      refine take_ (i := 28) (N := some 231) (v := ?_) (a' := ?_) (bm_ 47 536870911) rfl rfl (take_ofW HT_.out HW_.out (by kernel_rfl)) (fun _ _ _ h => h) (Or.inl ⟨by rfl, ?_⟩) hHeld ?_ ?_
      rotate_left
      · rintro w' hs
        obtain ⟨ad_, e_, c_0, _⟩ := at_T59 (Kd.C_below HE2d.out.1 hs) 1 (by omega) (by omega); cases e_; have c0 : w'.cell? ⟨ad2.block, ad2.off + 12, none⟩ = some (.string (⟨#[1, 99, 0]⟩ : ByteArray)) := c_0; go_simp
        with_reducible rfl
      rotate_left
      · simp only [Act.put, sA_, s0_, sS_, i64_w, i32_w]
        rfl
      refine one_ (i := 29) (N := some 232) (bm_ 47 1073741823) rfl rfl (one_of HT_.out (by kernel_rfl)) (by decide) (fun K hK => ?_)
      refine goes_ Try.func28 (by kernel_rfl) rfl #[.string (⟨#[99, 46]⟩ : ByteArray)] (by rfl) rfl rfl (by (try simp only [List.map_toArray, List.map_cons, List.map_nil]); first | done | rfl) ?_
      (with_reducible refine (hearsaylaw25_named.calls 60 (⟨#[99, 46]⟩ : ByteArray) (⟨#[1, 99, 0]⟩ : ByteArray) _ nv_2).mono ?_)
      rintro e u2 ⟨rfl, hbf⟩
      refine ⟨_, rfl, ?_⟩
      refine hK.out _ _ (hHeld.trans (below_to hbf hHeld.size)) (fun hHeld => ?_)
      clear hK K
      refine norm_ (a' := ?_) ?_ ?_
      rotate_left
      · show Act.put _ (some 232) _ = _
        simp only [Act.put, sA_, s0_, sS_, i64_w, i32_w]
        rfl
      refine pure_ (i := 30) (N := some 233) (v := ?_) (a' := ?_) (bm_ 47 2147483647) rfl rfl (any_of HT_.out (by kernel_rfl)) (fun _ _ _ h => h) (Or.inl ⟨by rfl, ?_⟩) ?_ ?_
      rotate_left
      · intro w'
        go_simp
        with_reducible rfl
      rotate_left
      · simp only [Act.put, sA_, s0_, sS_, i64_w, i32_w]
        rfl
      refine pure_ (i := 31) (N := some 234) (v := ?_) (a' := ?_) (bm_ 47 4294967295) rfl rfl (any_of HT_.out (by kernel_rfl)) (fun _ _ _ h => h) (Or.inl ⟨by rfl, ?_⟩) ?_ ?_
      rotate_left
      · intro w'
        go_simp
        with_reducible rfl
      rotate_left
      · simp only [Act.put, sA_, s0_, sS_, i64_w, i32_w]
        rfl
      refine pure_ (i := 32) (N := some 235) (v := ?_) (a' := ?_) (bm_ 47 8589934591) rfl rfl (any_of HT_.out (by kernel_rfl)) (fun _ _ _ h => h) (Or.inl ⟨by rfl, ?_⟩) ?_ ?_
      rotate_left
      · intro w'
        go_simp
        with_reducible rfl
      rotate_left
      · simp only [Act.put, sA_, s0_, sS_, i64_w, i32_w]
        rfl
      refine pure_ (i := 33) (N := some 236) (v := ?_) (a' := ?_) (bm_ 47 17179869183) rfl rfl (any_of HT_.out (by kernel_rfl)) (fun _ _ _ h => h) (Or.inl ⟨by rfl, ?_⟩) ?_ ?_
      rotate_left
      · intro w'
        go_simp
        with_reducible rfl
      rotate_left
      · simp only [Act.put, sA_, s0_, sS_, i64_w, i32_w]
        rfl
      refine take_ (i := 34) (N := some 237) (v := ?_) (a' := ?_) (bm_ 47 34359738367) rfl rfl (take_ofW HT_.out HW_.out (by kernel_rfl)) (fun _ _ _ h => h) (Or.inl ⟨by rfl, ?_⟩) hHeld ?_ ?_
      rotate_left
      · rintro w' hs
        have b_ := Bx.blw X18d.out hs X18d.out.lt; have c_0 := b_.cell 0 _ rfl; have c_1 := b_.cell 1 _ rfl; have c_2 := b_.cell 2 _ rfl; have c_3 := b_.cell 3 _ rfl; have c_4 := b_.cell 4 _ rfl; go_simp
        with_reducible rfl
      rotate_left
      · simp only [Act.put, sA_, s0_, sS_, i64_w, i32_w]
        rfl
      refine pure_ (i := 35) (N := some 238) (v := ?_) (a' := ?_) (bm_ 47 68719476735) rfl rfl (any_of HT_.out (by kernel_rfl)) (fun _ _ _ h => h) (Or.inl ⟨by rfl, ?_⟩) ?_ ?_
      rotate_left
      · intro w'
        go_simp
        with_reducible rfl
      rotate_left
      · simp only [Act.put, sA_, s0_, sS_, i64_w, i32_w]
        rfl
      refine pure_ (i := 36) (N := some 239) (v := ?_) (a' := ?_) (bm_ 47 137438953471) rfl rfl (any_of HT_.out (by kernel_rfl)) (fun _ _ _ h => h) (Or.inl ⟨by rfl, ?_⟩) ?_ ?_
      rotate_left
      · intro w'
        go_simp
        with_reducible rfl
      rotate_left
      · simp only [Act.put, sA_, s0_, sS_, i64_w, i32_w]
        rfl
      refine pure_ (i := 37) (N := some 240) (v := ?_) (a' := ?_) (bm_ 47 274877906943) rfl rfl (any_of HT_.out (by kernel_rfl)) (fun _ _ _ h => h) (Or.inl ⟨by rfl, ?_⟩) ?_ ?_
      rotate_left
      · intro w'
        go_simp
        with_reducible rfl
      rotate_left
      · simp only [Act.put, sA_, s0_, sS_, i64_w, i32_w]
        rfl
      refine pure_ (i := 38) (N := some 241) (v := ?_) (a' := ?_) (bm_ 47 549755813887) rfl rfl (any_of HT_.out (by kernel_rfl)) (fun _ _ _ h => h) (Or.inl ⟨by rfl, ?_⟩) ?_ ?_
      rotate_left
      · intro w'
        go_simp
        with_reducible rfl
      rotate_left
      · simp only [Act.put, sA_, s0_, sS_, i64_w, i32_w]
        rfl
      refine pure_ (i := 39) (N := some 242) (v := ?_) (a' := ?_) (bm_ 47 1099511627775) rfl rfl (any_of HT_.out (by kernel_rfl)) (fun _ _ _ h => h) (Or.inl ⟨by rfl, ?_⟩) ?_ ?_
      rotate_left
      · intro w'
        go_simp
        with_reducible rfl
      rotate_left
      · simp only [Act.put, sA_, s0_, sS_, i64_w, i32_w]
        rfl
      refine take_ (i := 40) (N := some 243) (v := ?_) (a' := ?_) (bm_ 47 2199023255551) rfl rfl (take_ofW HT_.out HW_.out (by kernel_rfl)) (fun _ _ _ h => h) (Or.inl ⟨by rfl, ?_⟩) hHeld ?_ ?_
      rotate_left
      · rintro w' hs
        have b_ := Bx.blw X18d.out hs X18d.out.lt; have c_0 := b_.cell 0 _ rfl; have c_1 := b_.cell 1 _ rfl; have c_2 := b_.cell 2 _ rfl; have c_3 := b_.cell 3 _ rfl; have c_4 := b_.cell 4 _ rfl; go_simp
        with_reducible rfl
      rotate_left
      · simp only [Act.put, sA_, s0_, sS_, i64_w, i32_w]
        rfl
      refine pure_ (i := 41) (N := some 244) (v := ?_) (a' := ?_) (bm_ 47 4398046511103) rfl rfl (any_of HT_.out (by kernel_rfl)) (fun _ _ _ h => h) (Or.inl ⟨by rfl, ?_⟩) ?_ ?_
      rotate_left
      · intro w'
        go_simp
        with_reducible rfl
      rotate_left
      · simp only [Act.put, sA_, s0_, sS_, i64_w, i32_w]
        rfl
      refine pure_ (i := 42) (N := some 245) (v := ?_) (a' := ?_) (bm_ 47 8796093022207) rfl rfl (any_of HT_.out (by kernel_rfl)) (fun _ _ _ h => h) (Or.inl ⟨by rfl, ?_⟩) ?_ ?_
      rotate_left
      · intro w'
        go_simp
        with_reducible rfl
      rotate_left
      · simp only [Act.put, sA_, s0_, sS_, i64_w, i32_w]
        rfl
      refine take_ (i := 43) (N := some 246) (v := ?_) (a' := ?_) (bm_ 47 17592186044415) rfl rfl (take_ofW HT_.out HW_.out (by kernel_rfl)) (fun _ _ _ h => h) (Or.inl ⟨by rfl, ?_⟩) hHeld ?_ ?_
      rotate_left
      · rintro w' hs
        obtain ⟨ad_, e_, c_0, _⟩ := at_T59 (Kd.C_below HE4d.out.1 hs) 0 (by omega) (by omega); cases e_; have c0 : w'.cell? ad4 = some (.string (⟨#[1, 98, 0]⟩ : ByteArray)) := (by have h_ := c_0; rw [show ((0 : Int)).toNat * 12 = 0 from rfl, Addr.add_zero'] at h_; exact h_); go_simp
        with_reducible rfl
      rotate_left
      · simp only [Act.put, sA_, s0_, sS_, i64_w, i32_w]
        rfl
      refine one_ (i := 44) (N := some 247) (bm_ 47 35184372088831) rfl rfl (one_of HT_.out (by kernel_rfl)) (by decide) (fun K hK => ?_)
      refine goes_ Try.func28 (by kernel_rfl) rfl #[.string (⟨#[98, 46]⟩ : ByteArray)] (by rfl) rfl rfl (by (try simp only [List.map_toArray, List.map_cons, List.map_nil]); first | done | rfl) ?_
      (with_reducible refine (hearsaylaw25_named.calls 60 (⟨#[98, 46]⟩ : ByteArray) (⟨#[1, 98, 0]⟩ : ByteArray) _ nv_1).mono ?_)
      rintro e u3 ⟨rfl, hbf⟩
      refine ⟨_, rfl, ?_⟩
      refine hK.out _ _ (hHeld.trans (below_to hbf hHeld.size)) (fun hHeld => ?_)
      clear hK K
      refine norm_ (a' := ?_) ?_ ?_
      rotate_left
      · show Act.put _ (some 247) _ = _
        simp only [Act.put, sA_, s0_, sS_, i64_w, i32_w]
        rfl
      refine pure_ (i := 45) (N := some 248) (v := ?_) (a' := ?_) (bm_ 47 70368744177663) rfl rfl (any_of HT_.out (by kernel_rfl)) (fun _ _ _ h => h) (Or.inl ⟨by rfl, ?_⟩) ?_ ?_
      rotate_left
      · intro w'
        go_simp
        with_reducible rfl
      rotate_left
      · simp only [Act.put, sA_, s0_, sS_, i64_w, i32_w]
        rfl
      refine pure_ (i := 46) (N := some 249) (v := ?_) (a' := ?_) (bm_ 47 140737488355327) rfl rfl (any_of HT_.out (by kernel_rfl)) (fun _ _ _ h => h) (Or.inl ⟨by rfl, ?_⟩) ?_ ?_
      rotate_left
      · intro w'
        go_simp
        with_reducible rfl
      rotate_left
      · simp only [Act.put, sA_, s0_, sS_, i64_w, i32_w]
        rfl
      refine done_ (done_of HT_.out (by kernel_rfl)) ?_
      clear HB
      have HB := Aside0.mk (HBd.out.trans (below_to hHeld HBd.out.size))
      clear X18
      have X18 := Aside0.mk (Bx.blw X18d.out hHeld X18d.out.lt)
      clear HE2
      have HE2 := Aside0.mk (And.intro (Kd.C_below HE2d.out.1 hHeld) HE2d.out.2)
      clear HE4
      have HE4 := Aside0.mk (And.intro (Kd.C_below HE4d.out.1 hHeld) HE4d.out.2)
      clear HBd X18d HE2d HE4d hHeld
      clear X18 HE2 HE4
      go_wp2
      go_loopw [19, 20] (fun m i wr => ∃ k : Nat, k ≤ 32 ∧ i = .int .i64 k ∧ Aside0 (Kd.R k38 38 wr w.heap.size (fun _ => True) m (List.replicate k (⟨1, (⟨#[1, 97, 0]⟩ : ByteArray), (⟨#[1, 98, 0]⟩ : ByteArray), 0, 0⟩ : S38))) ∧ Aside0 (Below w.heap.size w wr)) (fun _ i _ => 32 - (intOf i).toNat)
      case atStart => exact ⟨0, Nat.zero_le _, rfl, ⟨Kd.R_nil _ _ _ _ _⟩, HB⟩
      case round =>
        clear HB
        obtain ⟨k, hk, rfl, RM, HB⟩ := hrel
        by_cases hlt : k < 32
        · go_wp2_with (first | (go_at_call 28; (with_reducible refine (hearsaylaw25_named.calls 60 (⟨#[98, 46]⟩ : ByteArray) (⟨#[1, 98, 0]⟩ : ByteArray) _ nv_1).mono ?_); rintro e v ⟨rfl, hb⟩; have HB_ := Aside0.mk (below_step (by repeat (first | (with_reducible first | exact HB.out | apply below_alloc | apply pw_below_drewN | apply below_drew1) | exact HB.out)) hb); clear HB; have HB := HB_; clear HB_; have RM_ := Aside0.mk (Kd.R_below (by repeat (first | exact RM.out | refine Kd.R_alloc ?_ _)) hb); clear RM; have RM := RM_; clear RM_;  clear hb) | (go_at_call 28; (with_reducible refine (hearsaylaw25_named.calls 60 (⟨#[97, 46]⟩ : ByteArray) (⟨#[1, 97, 0]⟩ : ByteArray) _ nv_0).mono ?_); rintro e v ⟨rfl, hb⟩; have HB_ := Aside0.mk (below_step (by repeat (first | (with_reducible first | exact HB.out | apply below_alloc | apply pw_below_drewN | apply below_drew1) | exact HB.out)) hb); clear HB; have HB := HB_; clear HB_; have RM_ := Aside0.mk (Kd.R_below (by repeat (first | exact RM.out | refine Kd.R_alloc ?_ _)) hb); clear RM; have RM := RM_; clear RM_;  clear hb) | ((with_reducible refine gate_builtin (b := .append) (xs := #[.tmp 254, .tmp 258]) rfl ?_); at_builtin; refine Kd.R_append k38 (w0 := w) w.heap.size rfl (.tmp 254) (.tmp 258) 22 38 (.agg #[(.int .u8 0), (.string ⟨#[]⟩), (.string ⟨#[]⟩), (.int .u16 0), (.int .u16 0)]) 48 rfl Try.underlying22 info38 rfl (by decide) (by omega) u19 (List.replicate k (⟨1, (⟨#[1, 97, 0]⟩ : ByteArray), (⟨#[1, 98, 0]⟩ : ByteArray), 0, 0⟩ : S38)) (⟨1, (⟨#[1, 97, 0]⟩ : ByteArray), (⟨#[1, 98, 0]⟩ : ByteArray), 0, 0⟩ : S38) [.int .u8 1, .string (⟨#[1, 97, 0]⟩ : ByteArray), .string (⟨#[1, 98, 0]⟩ : ByteArray), .int .u16 0, .int .u16 0] (fun _ => True) (fun _ => False) rfl ?hx ?aP (fun _ hk => hk.elim) ?aF ?aO ?aB ?aS ?aL ?_; (case hx => first | rfl | (simp; done)); (case aP => exact k38_mkM _ _ _ (⟨1, (⟨#[1, 97, 0]⟩ : ByteArray), (⟨#[1, 98, 0]⟩ : ByteArray), 0, 0⟩ : S38)); (case aB => exact HB.out); (case aF => exact (fun _ _ => trivial)); (case aO => exact RM.out); (case aS => exact HB.out.size); (case aL => simp; omega); intro v4 w4 ho hb hg hat; clear RM HB; have RM := Aside0.mk ho; have HB := Aside0.mk hb; clear ho hb hg hat))
          go_roundw
          case rel => exact ⟨k + 1, by omega, by go_num, ⟨by rw [show List.replicate (k + 1) (⟨1, (⟨#[1, 97, 0]⟩ : ByteArray), (⟨#[1, 98, 0]⟩ : ByteArray), 0, 0⟩ : S38) = List.replicate k (⟨1, (⟨#[1, 97, 0]⟩ : ByteArray), (⟨#[1, 98, 0]⟩ : ByteArray), 0, 0⟩ : S38) ++ [(⟨1, (⟨#[1, 97, 0]⟩ : ByteArray), (⟨#[1, 98, 0]⟩ : ByteArray), 0, 0⟩ : S38)] from List.replicate_succ']; exact RM.out⟩, HB⟩
          case measure => simp [intOf]; omega
        · obtain rfl : k = 32 := by omega
          obtain ⟨A19, A19c, rfl, le19, hC19⟩ := Kd.R_reads RM.out
          rw [List.length_replicate] at le19 hC19
          rw [List.length_replicate]
          have HA19 : Aside0 (Kd.C k38 _ A19 32 (List.replicate 32 (⟨1, (⟨#[1, 97, 0]⟩ : ByteArray), (⟨#[1, 98, 0]⟩ : ByteArray), 0, 0⟩ : S38)) ∧ 32 ≤ A19c) := ⟨And.intro hC19 le19⟩
          clear RM le19 hC19 hk hlt
          go_wp2_with (first | (go_at_call 28; (with_reducible refine (hearsaylaw25_named.calls 60 (⟨#[97, 46]⟩ : ByteArray) (⟨#[1, 97, 0]⟩ : ByteArray) _ nv_0).mono ?_); rintro e v ⟨rfl, hb⟩; have HB_ := Aside0.mk (below_step (by repeat (first | (with_reducible first | exact HB.out | apply below_alloc | apply pw_below_drewN | apply below_drew1) | exact HB.out)) hb); clear HB; have HB := HB_; clear HB_; have HA19_ := Aside0.mk (And.intro (Kd.C_below (by repeat (first | exact HA19.out.1 | refine Kd.C_alloc ?_ _)) hb) HA19.out.2); clear HA19; have HA19 := HA19_; clear HA19_;  clear hb) | (go_at_call 28; (with_reducible refine (hearsaylaw25_named.calls 60 (⟨#[98, 46]⟩ : ByteArray) (⟨#[1, 98, 0]⟩ : ByteArray) _ nv_1).mono ?_); rintro e v ⟨rfl, hb⟩; have HB_ := Aside0.mk (below_step (by repeat (first | (with_reducible first | exact HB.out | apply below_alloc | apply pw_below_drewN | apply below_drew1) | exact HB.out)) hb); clear HB; have HB := HB_; clear HB_; have HA19_ := Aside0.mk (And.intro (Kd.C_below (by repeat (first | exact HA19.out.1 | refine Kd.C_alloc ?_ _)) hb) HA19.out.2); clear HA19; have HA19 := HA19_; clear HA19_;  clear hb) | ((with_reducible refine gate_dst (N := 278) rfl ?_); refine Kd.R_lit k38 _ 38 ?hg (N := 278) ?hd (xs := ([(⟨0, (⟨#[]⟩ : ByteArray), (⟨#[]⟩ : ByteArray), 0, 0⟩ : S38), (⟨5, (⟨#[1, 97, 0]⟩ : ByteArray), (⟨#[1, 98, 0]⟩ : ByteArray), 0, 0⟩ : S38), (⟨1, (⟨#[1, 97, 0]⟩ : ByteArray), (⟨#[1, 98, 0]⟩ : ByteArray), 1, 0⟩ : S38), (⟨2, (⟨#[1, 97, 0]⟩ : ByteArray), (⟨#[1, 98, 0]⟩ : ByteArray), 0, 1⟩ : S38), (⟨4, (⟨#[1, 97, 0]⟩ : ByteArray), (⟨#[]⟩ : ByteArray), 1, 1⟩ : S38), (⟨4, (⟨#[]⟩ : ByteArray), (⟨#[]⟩ : ByteArray), 1, 0⟩ : S38), (⟨4, (⟨#[]⟩ : ByteArray), (⟨#[]⟩ : ByteArray), 0, 1⟩ : S38), (⟨3, (⟨#[1, 97, 0]⟩ : ByteArray), (⟨#[]⟩ : ByteArray), 0, 0⟩ : S38), (⟨3, (⟨#[]⟩ : ByteArray), (⟨#[1, 97, 0]⟩ : ByteArray), 0, 0⟩ : S38)] : List S38)) (inner := [.int .u8 0, .string (⟨#[]⟩ : ByteArray), .string (⟨#[]⟩ : ByteArray), .int .u16 0, .int .u16 0, .int .u8 5, .string (⟨#[1, 97, 0]⟩ : ByteArray), .string (⟨#[1, 98, 0]⟩ : ByteArray), .int .u16 0, .int .u16 0, .int .u8 1, .string (⟨#[1, 97, 0]⟩ : ByteArray), .string (⟨#[1, 98, 0]⟩ : ByteArray), .int .u16 1, .int .u16 0, .int .u8 2, .string (⟨#[1, 97, 0]⟩ : ByteArray), .string (⟨#[1, 98, 0]⟩ : ByteArray), .int .u16 0, .int .u16 1, .int .u8 4, .string (⟨#[1, 97, 0]⟩ : ByteArray), .string (⟨#[]⟩ : ByteArray), .int .u16 1, .int .u16 1, .int .u8 4, .string (⟨#[]⟩ : ByteArray), .string (⟨#[]⟩ : ByteArray), .int .u16 1, .int .u16 0, .int .u8 4, .string (⟨#[]⟩ : ByteArray), .string (⟨#[]⟩ : ByteArray), .int .u16 0, .int .u16 1, .int .u8 3, .string (⟨#[1, 97, 0]⟩ : ByteArray), .string (⟨#[]⟩ : ByteArray), .int .u16 0, .int .u16 0, .int .u8 3, .string (⟨#[]⟩ : ByteArray), .string (⟨#[1, 97, 0]⟩ : ByteArray), .int .u16 0, .int .u16 0]) (ok := fun _ => True) (okp := fun _ => True) ?hr ?hp (fun _ hk => hk) trivial (Below.refl _ _) (Nat.le_refl _) (by simp) ?_; (case hd => rfl); (case hg => rfl); (case hr => first | (go_simp; done) | (go_simp; rfl)); (case hp => exact (Reps.c5 (show Kd.M k38 _ _ _ (⟨0, (⟨#[]⟩ : ByteArray), (⟨#[]⟩ : ByteArray), 0, 0⟩ : S38) [.int .u8 0, .string (⟨#[]⟩ : ByteArray), .string (⟨#[]⟩ : ByteArray), .int .u16 0, .int .u16 0] from (k38_mkM _ _ _ (⟨0, (⟨#[]⟩ : ByteArray), (⟨#[]⟩ : ByteArray), 0, 0⟩ : S38))) (Reps.c5 (show Kd.M k38 _ _ _ (⟨5, (⟨#[1, 97, 0]⟩ : ByteArray), (⟨#[1, 98, 0]⟩ : ByteArray), 0, 0⟩ : S38) [.int .u8 5, .string (⟨#[1, 97, 0]⟩ : ByteArray), .string (⟨#[1, 98, 0]⟩ : ByteArray), .int .u16 0, .int .u16 0] from (k38_mkM _ _ _ (⟨5, (⟨#[1, 97, 0]⟩ : ByteArray), (⟨#[1, 98, 0]⟩ : ByteArray), 0, 0⟩ : S38))) (Reps.c5 (show Kd.M k38 _ _ _ (⟨1, (⟨#[1, 97, 0]⟩ : ByteArray), (⟨#[1, 98, 0]⟩ : ByteArray), 1, 0⟩ : S38) [.int .u8 1, .string (⟨#[1, 97, 0]⟩ : ByteArray), .string (⟨#[1, 98, 0]⟩ : ByteArray), .int .u16 1, .int .u16 0] from (k38_mkM _ _ _ (⟨1, (⟨#[1, 97, 0]⟩ : ByteArray), (⟨#[1, 98, 0]⟩ : ByteArray), 1, 0⟩ : S38))) (Reps.c5 (show Kd.M k38 _ _ _ (⟨2, (⟨#[1, 97, 0]⟩ : ByteArray), (⟨#[1, 98, 0]⟩ : ByteArray), 0, 1⟩ : S38) [.int .u8 2, .string (⟨#[1, 97, 0]⟩ : ByteArray), .string (⟨#[1, 98, 0]⟩ : ByteArray), .int .u16 0, .int .u16 1] from (k38_mkM _ _ _ (⟨2, (⟨#[1, 97, 0]⟩ : ByteArray), (⟨#[1, 98, 0]⟩ : ByteArray), 0, 1⟩ : S38))) (Reps.c5 (show Kd.M k38 _ _ _ (⟨4, (⟨#[1, 97, 0]⟩ : ByteArray), (⟨#[]⟩ : ByteArray), 1, 1⟩ : S38) [.int .u8 4, .string (⟨#[1, 97, 0]⟩ : ByteArray), .string (⟨#[]⟩ : ByteArray), .int .u16 1, .int .u16 1] from (k38_mkM _ _ _ (⟨4, (⟨#[1, 97, 0]⟩ : ByteArray), (⟨#[]⟩ : ByteArray), 1, 1⟩ : S38))) (Reps.c5 (show Kd.M k38 _ _ _ (⟨4, (⟨#[]⟩ : ByteArray), (⟨#[]⟩ : ByteArray), 1, 0⟩ : S38) [.int .u8 4, .string (⟨#[]⟩ : ByteArray), .string (⟨#[]⟩ : ByteArray), .int .u16 1, .int .u16 0] from (k38_mkM _ _ _ (⟨4, (⟨#[]⟩ : ByteArray), (⟨#[]⟩ : ByteArray), 1, 0⟩ : S38))) (Reps.c5 (show Kd.M k38 _ _ _ (⟨4, (⟨#[]⟩ : ByteArray), (⟨#[]⟩ : ByteArray), 0, 1⟩ : S38) [.int .u8 4, .string (⟨#[]⟩ : ByteArray), .string (⟨#[]⟩ : ByteArray), .int .u16 0, .int .u16 1] from (k38_mkM _ _ _ (⟨4, (⟨#[]⟩ : ByteArray), (⟨#[]⟩ : ByteArray), 0, 1⟩ : S38))) (Reps.c5 (show Kd.M k38 _ _ _ (⟨3, (⟨#[1, 97, 0]⟩ : ByteArray), (⟨#[]⟩ : ByteArray), 0, 0⟩ : S38) [.int .u8 3, .string (⟨#[1, 97, 0]⟩ : ByteArray), .string (⟨#[]⟩ : ByteArray), .int .u16 0, .int .u16 0] from (k38_mkM _ _ _ (⟨3, (⟨#[1, 97, 0]⟩ : ByteArray), (⟨#[]⟩ : ByteArray), 0, 0⟩ : S38))) (Reps.c5 (show Kd.M k38 _ _ _ (⟨3, (⟨#[]⟩ : ByteArray), (⟨#[1, 97, 0]⟩ : ByteArray), 0, 0⟩ : S38) [.int .u8 3, .string (⟨#[]⟩ : ByteArray), .string (⟨#[1, 97, 0]⟩ : ByteArray), .int .u16 0, .int .u16 0] from (k38_mkM _ _ _ (⟨3, (⟨#[]⟩ : ByteArray), (⟨#[1, 97, 0]⟩ : ByteArray), 0, 0⟩ : S38))) (Reps.none _ _))))))))))); intro v0 v ho hb hg_ hnew_; obtain ⟨A21, A21c, e0, A21l, A21r⟩ := Kd.R_reads ho; subst e0; have HA21 : Aside0 (Kd.C k38 v A21 9 [(⟨0, (⟨#[]⟩ : ByteArray), (⟨#[]⟩ : ByteArray), 0, 0⟩ : S38), (⟨5, (⟨#[1, 97, 0]⟩ : ByteArray), (⟨#[1, 98, 0]⟩ : ByteArray), 0, 0⟩ : S38), (⟨1, (⟨#[1, 97, 0]⟩ : ByteArray), (⟨#[1, 98, 0]⟩ : ByteArray), 1, 0⟩ : S38), (⟨2, (⟨#[1, 97, 0]⟩ : ByteArray), (⟨#[1, 98, 0]⟩ : ByteArray), 0, 1⟩ : S38), (⟨4, (⟨#[1, 97, 0]⟩ : ByteArray), (⟨#[]⟩ : ByteArray), 1, 1⟩ : S38), (⟨4, (⟨#[]⟩ : ByteArray), (⟨#[]⟩ : ByteArray), 1, 0⟩ : S38), (⟨4, (⟨#[]⟩ : ByteArray), (⟨#[]⟩ : ByteArray), 0, 1⟩ : S38), (⟨3, (⟨#[1, 97, 0]⟩ : ByteArray), (⟨#[]⟩ : ByteArray), 0, 0⟩ : S38), (⟨3, (⟨#[]⟩ : ByteArray), (⟨#[1, 97, 0]⟩ : ByteArray), 0, 0⟩ : S38)] ∧ 9 ≤ A21c) := ⟨And.intro A21r A21l⟩; clear ho A21r A21l hg_ hnew_; have HB_ := Aside0.mk (below_step (by repeat (first | (with_reducible first | exact HB.out | apply below_alloc | apply pw_below_drewN | apply below_drew1) | exact HB.out)) hb); clear HB; have HB := HB_; clear HB_; have HA19_ := Aside0.mk (And.intro (Kd.C_below (by repeat (first | exact HA19.out.1 | refine Kd.C_alloc ?_ _)) hb) HA19.out.2); clear HA19; have HA19 := HA19_; clear HA19_;  clear hb))
          obtain ⟨Bd, hBd⟩ : ∃ l : List S38, l = [(⟨0, (⟨#[]⟩ : ByteArray), (⟨#[]⟩ : ByteArray), 0, 0⟩ : S38), (⟨5, (⟨#[1, 97, 0]⟩ : ByteArray), (⟨#[1, 98, 0]⟩ : ByteArray), 0, 0⟩ : S38), (⟨1, (⟨#[1, 97, 0]⟩ : ByteArray), (⟨#[1, 98, 0]⟩ : ByteArray), 1, 0⟩ : S38), (⟨2, (⟨#[1, 97, 0]⟩ : ByteArray), (⟨#[1, 98, 0]⟩ : ByteArray), 0, 1⟩ : S38), (⟨4, (⟨#[1, 97, 0]⟩ : ByteArray), (⟨#[]⟩ : ByteArray), 1, 1⟩ : S38), (⟨4, (⟨#[]⟩ : ByteArray), (⟨#[]⟩ : ByteArray), 1, 0⟩ : S38), (⟨4, (⟨#[]⟩ : ByteArray), (⟨#[]⟩ : ByteArray), 0, 1⟩ : S38), (⟨3, (⟨#[1, 97, 0]⟩ : ByteArray), (⟨#[]⟩ : ByteArray), 0, 0⟩ : S38), (⟨3, (⟨#[]⟩ : ByteArray), (⟨#[1, 97, 0]⟩ : ByteArray), 0, 0⟩ : S38)] := ⟨_, rfl⟩
          rw [← hBd] at HA21
          have HBAD := Aside0.mk (show ∀ x ∈ Bd, checkP [(⟨1, (⟨#[1, 97, 0]⟩ : ByteArray), (⟨#[1, 98, 0]⟩ : ByteArray), 0, 0⟩ : S38), x] = 250 from by rw [hBd]; exact bad_says)
          have hbl : Bd.length = 9 := by rw [hBd]; rfl
          have HBD := Aside0.mk hBd
          clear hBd
          go_loopw [22] (fun i wr => ∃ k : Nat, k ≤ 9 ∧ i = .int .i64 k ∧ Aside0 (Kd.C k38 wr A19 32 (List.replicate 32 (⟨1, (⟨#[1, 97, 0]⟩ : ByteArray), (⟨#[1, 98, 0]⟩ : ByteArray), 0, 0⟩ : S38)) ∧ 32 ≤ A19c) ∧ Aside0 (Kd.C k38 wr A21 9 Bd ∧ 9 ≤ A21c) ∧ Aside0 (Below w.heap.size w wr)) (fun i _ => 9 - (intOf i).toNat)
          case atStart => exact ⟨0, Nat.zero_le _, rfl, HA19, HA21, HB⟩
          case round =>
            clear HA19 HA21 HB
            obtain ⟨k, hk, rfl, HA19, HA21, HB⟩ := hrel
            by_cases hlt : k < 9
            · obtain ⟨x, hx⟩ : ∃ x, Bd[k]? = some x := ⟨Bd[k], List.getElem?_eq_getElem (by omega)⟩
              have HCK := Aside0.mk (HBAD.out x (List.mem_of_getElem? hx))
              have HXK := Aside0.mk hx
              clear hx
              obtain ⟨ad19, h19, _⟩ := at_T38 HA19.out.1 0 (by omega) (by omega)
              subst h19
              obtain ⟨ad21, h21, _⟩ := at_T38 HA21.out.1 (k : Int) (by omega) (by omega)
              subst h21
              go_wp2
              have HA19d := Aside0.mk (And.intro (Kd.C_drew HA19.out.1) HA19.out.2)
              have HA21d := Aside0.mk (And.intro (Kd.C_drew HA21.out.1) HA21.out.2)
              have HBd := Aside0.mk (below_drew1 HB.out)
              refine known_r37 (fun _ _ N_ _ _ h_ => by cases N_ <;> exact h_) hlt hbl HA19d HA21d HXK HCK ?_
              intro u z285_ z286_ z287_ z288_ z289_ z290_ z291_ z292_ z293_ hHeld
              have HA19e := Aside0.mk (And.intro (Kd.C_below HA19d.out.1 hHeld) HA19d.out.2)
              have HA21e := Aside0.mk (And.intro (Kd.C_below HA21d.out.1 hHeld) HA21d.out.2)
              have HBe := Aside0.mk (HBd.out.trans (below_to hHeld HBd.out.size))
              go_wp2
              go_roundw
              case rel => exact ⟨k + 1, by omega, by go_num, HA19e, HA21e, HBe⟩
              case measure => simp [intOf]; omega
            · obtain rfl : k = 9 := by omega
              clear hk hlt HBAD
              obtain ⟨xb, hxb⟩ : ∃ x, rd_T38 Bd 0 = x := ⟨_, rfl⟩
              have HXB := Aside0.mk hxb
              clear hxb HBD
              obtain ⟨ad21, h21, _⟩ := at_T38 HA21.out.1 0 (by omega) (by omega)
              subst h21
              go_wp2
              have HA19d := Aside0.mk (And.intro (Kd.C_drew HA19.out.1) HA19.out.2)
              have HA21d := Aside0.mk (And.intro (Kd.C_drew HA21.out.1) HA21.out.2)
              have HBd := Aside0.mk (below_drew1 HB.out)
              refine known_r39 (fun _ _ N_ _ _ h_ => by cases N_ <;> exact h_) HXB hbl HA19d HA21d ?_
              intro u z295_ z296_ z297_ z298_ z299_ z300_ z301_ z302_ z303_ z304_ z305_ z306_ z307_ z308_ z309_ z310_ z311_ z312_ z313_ z314_ z315_ z316_ hHeld
              go_wp2
              go_ret
              exact ⟨rfl, HBd.out.trans (below_to hHeld HBd.out.size)⟩
end Go.Proofs.Ytfcmphigmfdceaa.Print
