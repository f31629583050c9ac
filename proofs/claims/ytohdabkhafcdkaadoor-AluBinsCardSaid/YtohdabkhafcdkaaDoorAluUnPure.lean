/- What the operations of one number, and the turning of a type's number into another's, make: the program and the document the same; for all numbers of 64 bits. -/
import Derived.Test.YtohdabkhafcdkaaDoorAluPure
import Derived.Test.YtohdabkhafcdkaaDoorPAlux8
import Derived.Test.YtohdabkhafcdkaaDoorPAlux7
namespace Go.Proofs.YtohdabkhafcdkaaDoor.PureAlu
set_option linter.unusedSimpArgs false
set_option linter.unusedVariables false
open Go Go.RowKit Go.Proofs.YtohdabkhafcdkaaDoor.PAlu Go.Proofs.YtohdabkhafcdkaaDoorW.PrintWords Go.Proofs.YtohdabkhafcdkaaDoorW.PrintLast Go.Proofs.YtohdabkhafcdkaaDoor.Given
theorem ref_right_is (t : Int) : ladderbackref01_Right.f t = some (R t) := by
  unfold ladderbackref01_Right.f R
  split <;> (congr 1; rw [Bool.eq_iff_iff]; simp; omega)
theorem tm (v m : Int) (hm : 0 < m) : ∃ q r, v.tmod m = r ∧ v = m * q + r ∧ (0 ≤ v → 0 ≤ r ∧ r < m) ∧ (v < 0 → -m < r ∧ r ≤ 0) := by
  refine ⟨v.tdiv m, v.tmod m, rfl, (Int.mul_tdiv_add_tmod v m).symm, fun h => ⟨Int.tmod_nonneg m h, Int.tmod_lt_of_pos v hm⟩, fun h => ?_⟩
  have h1 := Int.tmod_nonneg m (show 0 ≤ -v by omega)
  have h2 := Int.tmod_lt_of_pos (-v) hm
  rw [Int.neg_tmod] at h1 h2
  omega
theorem ref_wrap_is (t v : Int) (hv : -9223372036854775808 ≤ v ∧ v ≤ 9223372036854775807) : ladderbackref01_Wrap.f t v = some (W t v) := by
  obtain ⟨q1, r1, e1, h1, p1, n1⟩ := tm v 65536 (by decide)
  obtain ⟨q2, r2, e2, h2, p2, n2⟩ := tm v 4294967296 (by decide)
  unfold ladderbackref01_Wrap.f
  rw [ref_right_is, Option.bind_some]
  rcases types t with rfl | rfl | rfl | rfl | rfl | rfl | h
  · simp [R, W]; split <;> rfl
  · simp only [R, W, ladderbackref01_High.f, ladderbackref01_Low.f, wrap64, Option.bind_some]
    simp [e1]
    repeat' split
    all_goals (try (congr 1))
    all_goals omega
  · simp only [R, W, ladderbackref01_High.f, ladderbackref01_Low.f, wrap64, Option.bind_some]
    simp [e2]
    repeat' split
    all_goals (try (congr 1))
    all_goals omega
  · simp only [R, W, ladderbackref01_High.f, ladderbackref01_Low.f, wrap64, Option.bind_some]
    simp [e1]
    repeat' split
    all_goals (try (congr 1))
    all_goals omega
  · simp only [R, W, ladderbackref01_High.f, ladderbackref01_Low.f, wrap64, Option.bind_some]
    simp [e2]
    repeat' split
    all_goals (try (congr 1))
    all_goals omega
  · simp [R, W]
  · rw [h]
    simp [R] at h
    unfold W
    rw [if_neg (by simp), if_neg (by omega), if_neg (by omega), if_neg (by omega), if_neg (by omega), if_neg (by omega), if_neg (by omega)]
theorem ref_in_is (t v : Int) (hv : -9223372036854775808 ≤ v ∧ v ≤ 9223372036854775807) : ladderbackref01_In.f t v = some (R t && (W t v == v)) := by
  unfold ladderbackref01_In.f
  rw [ref_right_is]
  rcases types t with rfl | rfl | rfl | rfl | rfl | rfl | h
  · simp [R, W, ladderbackref01_High.f, ladderbackref01_Low.f]
    repeat' split
    all_goals (congr 1; rw [Bool.eq_iff_iff]; simp <;> omega)
  · simp [R, W, ladderbackref01_High.f, ladderbackref01_Low.f]
    repeat' split
    all_goals (congr 1; rw [Bool.eq_iff_iff]; simp <;> omega)
  · simp [R, W, ladderbackref01_High.f, ladderbackref01_Low.f]
    repeat' split
    all_goals (congr 1; rw [Bool.eq_iff_iff]; simp <;> omega)
  · simp [R, W, ladderbackref01_High.f, ladderbackref01_Low.f]
    repeat' split
    all_goals (congr 1; rw [Bool.eq_iff_iff]; simp <;> omega)
  · simp [R, W, ladderbackref01_High.f, ladderbackref01_Low.f]
    repeat' split
    all_goals (congr 1; rw [Bool.eq_iff_iff]; simp <;> omega)
  · simp [R, W]
  · have h6 : t ≠ 6 := by
      rintro rfl
      simp [R] at h
    rw [if_neg h6, h]
    rfl
theorem goes_table : ∀ i : Fin 18, ∀ j : Fin 6, ladderbackref07_Goes.f 12 (8 + (i.val : Int)) (1 + (j.val : Int)) = some (goesOf (8 + (i.val : Int)) (1 + (j.val : Int))) := by decide +kernel
theorem ref_goes_is (op t : Int) : ladderbackref07_Goes.f 12 op t = some (goesOf op t) := by
  by_cases ht : 1 ≤ t ∧ t ≤ 6
  · by_cases ho : 8 ≤ op ∧ op ≤ 25
    · have h := goes_table ⟨(op - 8).toNat, by omega⟩ ⟨(t - 1).toNat, by omega⟩
      rwa [show (8 : Int) + (((op - 8).toNat : Nat) : Int) = op by omega, show (1 : Int) + (((t - 1).toNat : Nat) : Int) = t by omega] at h
    · have hg : goesOf op t = false := by unfold goesOf; rw [decide_eq_false (by omega)]; rfl
      rw [hg]
      have h8 : ¬ op = 8 := by omega
      have h9 : ¬ op = 9 := by omega
      have h10 : ¬ op = 10 := by omega
      have h11 : ¬ op = 11 := by omega
      have h12 : ¬ op = 12 := by omega
      have h13 : ¬ op = 13 := by omega
      have h14 : ¬ op = 14 := by omega
      have h15 : ¬ op = 15 := by omega
      have h16 : ¬ op = 16 := by omega
      have h17 : ¬ op = 17 := by omega
      have h18 : ¬ op = 18 := by omega
      have h19 : ¬ op = 19 := by omega
      have h20 : ¬ op = 20 := by omega
      have h21 : ¬ op = 21 := by omega
      have h22 : ¬ op = 22 := by omega
      have h23 : ¬ op = 23 := by omega
      have h24 : ¬ op = 24 := by omega
      have h25 : ¬ op = 25 := by omega
      unfold ladderbackref07_Goes.f
      rw [if_neg (by omega), decide_eq_false (by omega)]
      simp [ladderbackref07_Goes.j0, ladderbackref07_Goes.j1, ladderbackref07_Goes.j2, ladderbackref07_Goes.j3, ladderbackref07_Goes.j4, ladderbackref07_Goes.j5, h8, h9, h10, h11, h12, h13, h14, h15, h16, h17, h18, h19, h20, h21, h22, h23, h24, h25]
  · rw [goes_wrong op t (by unfold R; exact decide_eq_false ht)]
    unfold ladderbackref07_Goes.f
    split
    · rfl
    · rw [decide_eq_true (by omega)]
      rfl
theorem inF_is (t v : Int) : (R t && (W t v == v)) = inF t v := rfl
/-- An operation of one number. -/
def unF (op t a : Int) : Int × Bool := if goesOf op t && inF t a then (if op = 13 then (W t (wrap64 (-a)), true) else if op = 17 then (if t = 1 then wrap64 (1 - a) else W t (Go.bits .xor .i64 (-1) a), true) else (0, false)) else (0, false)
theorem un_is (op t a : Int) (h : -9223372036854775808 ≤ op ∧ op ≤ 9223372036854775807) : alu_Un.f 2 op t a = some (unF op t a) := by
  unfold alu_Un.f unF
  rw [goes_is op t h]
  simp only [Option.bind_some, in_is, inF_is, wrap_is, alu_Un.j0]
  cases goesOf op t <;> cases inF t a <;> simp
  split
  · rfl
  split
  · split <;> rfl
  · rfl
theorem high_is (t : Int) : ladderbackref01_High.f t = some (if t = 1 then 1 else if t = 2 then 32767 else if t = 3 then 2147483647 else if t = 4 then 65535 else 4294967295) := by
  unfold ladderbackref01_High.f
  repeat' split
  all_goals rfl
theorem ref_un_is (op t a : Int) (ha : -9223372036854775808 ≤ a ∧ a ≤ 9223372036854775807) : ladderbackref07_Un.f 12 op t a = some (unF op t a) := by
  have hw : -9223372036854775808 ≤ wrap64 (-a) ∧ wrap64 (-a) ≤ 9223372036854775807 := by unfold wrap64; omega
  unfold ladderbackref07_Un.f unF
  simp only [ref_goes_is, ref_in_is t a ha, inF_is, Option.bind_some, ladderbackref07_Un.j0, ref_wrap_is t _ hw, high_is]
  by_cases h13 : op = 13
  · subst h13
    cases goesOf 13 t <;> cases inF t a <;> simp
  by_cases h17 : op = 17
  · subst h17
    cases hg : goesOf 17 t
    · simp
    cases hi : inF t a
    · simp
    have hin := hi
    unfold inF at hin
    simp only [Bool.and_eq_true, beq_iff_eq] at hin
    rcases types t with rfl | rfl | rfl | rfl | rfl | rfl | h
    · simp
    · exact absurd hg (by decide +kernel)
    · exact absurd hg (by decide +kernel)
    · have hv := hin.2
      simp [W] at hv
      obtain ⟨n, hn⟩ : ∃ n : Nat, a = n := ⟨a.toNat, by omega⟩
      subst hn
      simp [W, i64_not n (by omega), wrap64]
      omega
    · have hv := hin.2
      simp [W] at hv
      obtain ⟨n, hn⟩ : ∃ n : Nat, a = n := ⟨a.toNat, by omega⟩
      subst hn
      simp [W, i64_not n (by omega), wrap64]
      omega
    · exact absurd hg (by decide +kernel)
    · rw [goes_wrong 17 t h] at hg
      cases hg
  · simp [h13, h17]
def convF (f t v : Int) : Int × Bool := if R t && inF f v then (W t v, true) else (0, false)
theorem conv_is (f t v : Int) : alu_Conv.f f t v = some (convF f t v) := by
  unfold alu_Conv.f convF
  simp only [right_is, in_is, inF_is, wrap_is, Option.bind_some]
  cases R t <;> cases inF f v <;> simp
theorem ref_conv_is (f t v : Int) (hv : -9223372036854775808 ≤ v ∧ v ≤ 9223372036854775807) : ladderbackref07_Conv.f f t v = some (convF f t v) := by
  unfold ladderbackref07_Conv.f convF
  simp only [ref_in_is f v hv, inF_is, ref_wrap_is t v hv, Option.bind_some]
  by_cases h1 : t < 1
  · rw [if_pos h1, show R t = false by unfold R; exact decide_eq_false (by omega)]
    simp
  by_cases h6 : t > 6
  · rw [if_neg h1, if_pos h6, show R t = false by unfold R; exact decide_eq_false (by omega)]
    simp
  rw [if_neg h1, if_neg h6, show R t = true by unfold R; exact decide_eq_true (by omega)]
  cases inF f v <;> simp
theorem awake20 : ladderbacklaw07_awake.f 20 = some true := by decide +kernel
end Go.Proofs.YtohdabkhafcdkaaDoor.PureAlu
