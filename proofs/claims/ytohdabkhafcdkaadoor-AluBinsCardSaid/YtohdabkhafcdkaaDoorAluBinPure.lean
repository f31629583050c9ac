/- What the operations of two numbers make: the program and the document the same; for all numbers of 64 bits. -/
import Derived.Test.YtohdabkhafcdkaaDoorAluUnPure
import Derived.Laws.BitsLemmas
namespace Go.Proofs.YtohdabkhafcdkaaDoor.PureAlu
set_option linter.unusedSimpArgs false
set_option linter.unusedVariables false
open Go Go.RowKit Go.Proofs.YtohdabkhafcdkaaDoor.PAlu Go.Proofs.YtohdabkhafcdkaaDoorW.PrintWords Go.Proofs.YtohdabkhafcdkaaDoorW.PrintLast Go.Proofs.YtohdabkhafcdkaaDoorW.PrintMore Go.Proofs.YtohdabkhafcdkaaDoor.Given
theorem ref_goes_more (op t : Int) : ∀ d : Nat, ladderbackref07_Goes.f (12 + d) op t = some (goesOf op t)
  | 0 => ref_goes_is op t
  | d + 1 => ladderbackref07_Goes.mono op t (12 + d) _ (ref_goes_more op t d)
theorem ref_binary_is (op : Int) : ladderbackref07_Binary.f op = some (binaryF op) := by
  unfold ladderbackref07_Binary.f binaryF
  repeat' split
  all_goals (congr 1; rw [Bool.eq_iff_iff]; simp <;> omega)
theorem so_is (op a b : Int) (h : 20 ≤ op ∧ op ≤ 25) : ladderbackref07_so.f op a b = alu_holds.f op a b := by
  rcases (by omega : op = 20 ∨ op = 21 ∨ op = 22 ∨ op = 23 ∨ op = 24 ∨ op = 25) with rfl | rfl | rfl | rfl | rfl | rfl
  · by_cases h : a = b <;> simp [ladderbackref07_so.f, alu_holds.f, h]
  · by_cases h : a = b <;> simp [ladderbackref07_so.f, alu_holds.f, h]
  · by_cases h : a < b <;> simp [ladderbackref07_so.f, alu_holds.f, h]
  · by_cases h : a ≤ b <;> simp [ladderbackref07_so.f, alu_holds.f, h]
  · by_cases h : a > b <;> simp [ladderbackref07_so.f, alu_holds.f, h]
  · by_cases h : a ≥ b <;> simp [ladderbackref07_so.f, alu_holds.f, h]
theorem ref_bin_is (op t a b : Int) (ha : -9223372036854775808 ≤ a ∧ a ≤ 9223372036854775807) (hb : -9223372036854775808 ≤ b ∧ b ≤ 9223372036854775807) :
    ladderbackref07_Bin.f 103 op t a b = if binaryF op && goesOf op t && inF t a && inF (if op = 18 ∨ op = 19 then 2 else t) b then ladderbackref07_Bin.j2 101 op t a b false else some (0, 0, false) := by
  have j1 : ∀ u, ladderbackref07_Bin.j1 102 op t a b u = if binaryF op && goesOf op t && inF t a && inF u b then ladderbackref07_Bin.j2 101 op t a b false else some (0, 0, false) := by
    intro u
    have hg := ref_goes_more op t 89
    simp only [Nat.reduceAdd] at hg
    simp only [ladderbackref07_Bin.j1, ref_binary_is, hg, ref_in_is t a ha, ref_in_is u b hb, Option.bind_some]
    unfold inF
    cases binaryF op <;> cases goesOf op t <;> cases (R t && (W t a == a)) <;> cases (R u && (W u b == b)) <;> simp [ladderbackref07_Bin.j2]
  unfold ladderbackref07_Bin.f
  by_cases h1 : op = 18
  · rw [if_pos h1, show (if op = 18 ∨ op = 19 then (2 : Int) else t) = 2 from if_pos (.inl h1)]
    simp only [ladderbackref07_Bin.j0, if_true]
    exact j1 2
  · rw [if_neg h1]
    by_cases h2 : op = 19
    · rw [show (if op = 18 ∨ op = 19 then (2 : Int) else t) = 2 from if_pos (.inr h2), show (op == 19) = true by simp [h2]]
      simp only [ladderbackref07_Bin.j0, if_true]
      exact j1 2
    · rw [show (if op = 18 ∨ op = 19 then (2 : Int) else t) = t from if_neg (by omega), show (op == 19) = false by simp [h2]]
      simp only [ladderbackref07_Bin.j0]
      rw [if_neg (by decide)]
      exact j1 t
/-! bits -/
theorem bit_step (z : Nat) (j : Nat) : z % 2 ^ (j + 1) = z % 2 ^ j + 2 ^ j * (z / 2 ^ j % 2) := Nat.mod_pow_succ
theorem bits_loop (op : Int) (F : Nat → Nat → Nat) (G : Int → Bool) (hop : op = 14 ∧ G = (fun n => n == 2) ∨ op = 15 ∧ G = (fun n => decide (n > 0)) ∨ op = 16 ∧ G = (fun n => n == 1))
    (hF : ∀ a b j, F a b / 2 ^ j % 2 = if G (((a / 2 ^ j % 2 : Nat) : Int) + ((b / 2 ^ j % 2 : Nat) : Int)) then 1 else 0) (a b : Nat) (ha : a < 2 ^ 32) (hb : b < 2 ^ 32) :
    ∀ (d j k : Nat), j + d = 32 → d < k → ladderbackref07_bits.l0 k op ((a / 2 ^ j : Nat) : Int) ((b / 2 ^ j : Nat) : Int) ((F a b % 2 ^ j : Nat) : Int) ((2 ^ j : Nat) : Int) (j : Int) = some ((F a b % 2 ^ 32 : Nat) : Int)
  | 0, j, k, hj, hk => by
    obtain ⟨k, rfl⟩ : ∃ m, k = m + 1 := ⟨k - 1, by omega⟩
    obtain rfl : j = 32 := by omega
    rw [ladderbackref07_bits.l0, if_neg (by omega)]
  | d + 1, j, k, hj, hk => by
    obtain ⟨k, rfl⟩ : ∃ m, k = m + 1 := ⟨k - 1, by omega⟩
    have hj32 : ((j : Nat) : Int) < 32 := by omega
    have ih := bits_loop op F G hop hF a b ha hb d (j + 1) k (by omega) (by omega)
    have hs := bit_step (F a b) j
    have hf := hF a b j
    have hp : 2 ^ j ≤ 2 ^ 31 := Nat.pow_le_pow_right (by decide) (by omega)
    have hp1 : 2 ^ (j + 1) = 2 * 2 ^ j := by rw [Nat.pow_succ, Nat.mul_comm]
    have la : a / 2 ^ j < 2 ^ 32 := Nat.lt_of_le_of_lt (Nat.div_le_self _ _) ha
    have lb : b / 2 ^ j < 2 ^ 32 := Nat.lt_of_le_of_lt (Nat.div_le_self _ _) hb
    have da : a / 2 ^ (j + 1) = a / 2 ^ j / 2 := by rw [Nat.pow_succ, Nat.div_div_eq_div_mul]
    have db : b / 2 ^ (j + 1) = b / 2 ^ j / 2 := by rw [Nat.pow_succ, Nat.div_div_eq_div_mul]
    have hm : F a b % 2 ^ j < 2 ^ j := Nat.mod_lt _ (Nat.pow_pos (by decide))
    rw [da, db, hs, hf] at ih
    rw [hp1] at ih
    generalize hA : a / 2 ^ j = A at *
    generalize hB : b / 2 ^ j = B at *
    generalize hC : F a b % 2 ^ j = C at *
    generalize hP : 2 ^ j = Q at *
    have la' : A < 4294967296 := la
    have lb' : B < 4294967296 := lb
    have hp' : Q ≤ 2147483648 := hp
    clear la lb hp ha hb hs hf
    have t1 : Int.tmod (A : Int) 2 = ((A % 2 : Nat) : Int) := by rw [Int.tmod_eq_emod_of_nonneg (by omega)]; omega
    have t2 : Int.tmod (B : Int) 2 = ((B % 2 : Nat) : Int) := by rw [Int.tmod_eq_emod_of_nonneg (by omega)]; omega
    have q1 : wrap64 (Int.tdiv (A : Int) 2) = ((A / 2 : Nat) : Int) := by rw [Int.tdiv_eq_ediv_of_nonneg (by omega)]; unfold wrap64; omega
    have q2 : wrap64 (Int.tdiv (B : Int) 2) = ((B / 2 : Nat) : Int) := by rw [Int.tdiv_eq_ediv_of_nonneg (by omega)]; unfold wrap64; omega
    have q3 : wrap64 (2 * (Q : Int)) = ((2 * Q : Nat) : Int) := by unfold wrap64; omega
    have q4 : wrap64 ((j : Int) + 1) = ((j + 1 : Nat) : Int) := by unfold wrap64; omega
    have q5 : wrap64 ((C : Int) + (Q : Int)) = ((C + Q * 1 : Nat) : Int) := by unfold wrap64; omega
    have q6 : wrap64 (((A % 2 : Nat) : Int) + ((B % 2 : Nat) : Int)) = ((A % 2 : Nat) : Int) + ((B % 2 : Nat) : Int) := by unfold wrap64; omega
    rw [ladderbackref07_bits.l0, if_pos hj32, t1, t2, q1, q2, q3, q4, q5, q6]
    generalize ((A % 2 : Nat) : Int) + ((B % 2 : Nat) : Int) = n at *
    rcases hop with ⟨rfl, rfl⟩ | ⟨rfl, rfl⟩ | ⟨rfl, rfl⟩
    · by_cases hn : n = 2
      · simp [hn] at ih ⊢
        exact ih
      · simp [hn] at ih ⊢
        exact ih
    · by_cases hn : n > 0
      · simp [hn] at ih ⊢
        exact ih
      · simp [hn] at ih ⊢
        exact ih
    · by_cases hn : n = 1
      · simp [hn] at ih ⊢
        exact ih
      · simp [hn] at ih ⊢
        exact ih
end Go.Proofs.YtohdabkhafcdkaaDoor.PureAlu
