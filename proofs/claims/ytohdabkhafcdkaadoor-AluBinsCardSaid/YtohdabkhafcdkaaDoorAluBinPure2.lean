/- Bits of two numbers, and shifts, as the document makes them; for numbers of a type of bits. -/
import Derived.Test.YtohdabkhafcdkaaDoorAluBinPure
namespace Go.Proofs.YtohdabkhafcdkaaDoor.PureAlu
set_option linter.unusedSimpArgs false
set_option linter.unusedVariables false
open Go Go.RowKit Go.Proofs.YtohdabkhafcdkaaDoor.PAlu Go.Proofs.YtohdabkhafcdkaaDoorW.PrintWords Go.Proofs.YtohdabkhafcdkaaDoorW.PrintLast Go.Proofs.YtohdabkhafcdkaaDoorW.PrintMore Go.Proofs.YtohdabkhafcdkaaDoor.Given
theorem tb (x j : Nat) : x / 2 ^ j % 2 = if x.testBit j then 1 else 0 := by
  have h := Nat.testBit_eq_decide_div_mod_eq (x := x) (i := j)
  rw [h]
  have := Nat.mod_lt (x / 2 ^ j) (show 0 < 2 by decide)
  by_cases hx : x / 2 ^ j % 2 = 1
  · simp [hx]
  · simp [hx]
    omega
theorem ref_and (a b : Nat) (ha : a < 2 ^ 32) (hb : b < 2 ^ 32) : ladderbackref07_bits.f 99 14 a b = some ((a &&& b : Nat) : Int) := by
  have h := bits_loop 14 (fun a b => a &&& b) (fun n => n == 2) (.inl ⟨rfl, rfl⟩) (fun a b j => by
    rw [tb, tb, tb, Nat.testBit_and]
    cases a.testBit j <;> cases b.testBit j <;> rfl) a b ha hb 32 0 99 rfl (by decide)
  have hl : a &&& b < 2 ^ 32 := Nat.and_lt_two_pow _ hb
  simp only [Nat.pow_zero, Nat.div_one, Nat.mod_one, Nat.mod_eq_of_lt hl] at h
  exact h
theorem ref_or (a b : Nat) (ha : a < 2 ^ 32) (hb : b < 2 ^ 32) : ladderbackref07_bits.f 99 15 a b = some ((a ||| b : Nat) : Int) := by
  have h := bits_loop 15 (fun a b => a ||| b) (fun n => decide (n > 0)) (.inr (.inl ⟨rfl, rfl⟩)) (fun a b j => by
    rw [tb, tb, tb, Nat.testBit_or]
    cases a.testBit j <;> cases b.testBit j <;> rfl) a b ha hb 32 0 99 rfl (by decide)
  have hl : a ||| b < 2 ^ 32 := Nat.or_lt_two_pow ha hb
  simp only [Nat.pow_zero, Nat.div_one, Nat.mod_one, Nat.mod_eq_of_lt hl] at h
  exact h
theorem ref_xor (a b : Nat) (ha : a < 2 ^ 32) (hb : b < 2 ^ 32) : ladderbackref07_bits.f 99 16 a b = some ((a ^^^ b : Nat) : Int) := by
  have h := bits_loop 16 (fun a b => a ^^^ b) (fun n => n == 1) (.inr (.inr ⟨rfl, rfl⟩)) (fun a b j => by
    rw [tb, tb, tb, Nat.testBit_xor]
    cases a.testBit j <;> cases b.testBit j <;> rfl) a b ha hb 32 0 99 rfl (by decide)
  have hl : a ^^^ b < 2 ^ 32 := Nat.xor_lt_two_pow ha hb
  simp only [Nat.pow_zero, Nat.div_one, Nat.mod_one, Nat.mod_eq_of_lt hl] at h
  exact h
theorem xor64 (n m : Nat) (hn : n < 2 ^ 32) (hm : m < 2 ^ 32) : Go.bits .xor .i64 (n : Int) (m : Int) = ((n ^^^ m : Nat) : Int) := by
  have hx : n ^^^ m < 2 ^ 32 := Nat.xor_lt_two_pow hn hm
  show IntKind.i64.wrap ((BitVec.ofInt 64 (n : Int) ^^^ BitVec.ofInt 64 (m : Int)).toNat : Int) = _
  rw [BitVec.toNat_xor, ofInt_u64 n (by omega), ofInt_u64 m (by omega), i64_w]
  unfold wrap64
  omega
theorem shl_loop (t M : Int) (hM : M = 65536 ∨ M = 4294967296) (hH : ladderbackref01_High.f t = some (M - 1)) (nb : Nat) : ∀ (n i k : Nat) (x : Int), 0 ≤ x ∧ x < M → i + n = min nb 40 → 2 * n + 2 ≤ k →
    ladderbackref07_shift.l0 k 18 t x (nb : Int) (i : Int) = some (x * 2 ^ n % M)
  | 0, i, k, x, hx, hi, hk => by
    obtain ⟨k, rfl⟩ : ∃ m, k = m + 2 := ⟨k - 2, by omega⟩
    rw [Int.pow_zero, Int.mul_one, Int.emod_eq_of_lt hx.1 hx.2, ladderbackref07_shift.l0]
    split
    · rw [decide_eq_false (by omega), ladderbackref07_shift.j1, if_neg (by decide)]
    · rw [ladderbackref07_shift.j1, if_neg (by decide)]
  | n + 1, i, k, x, hx, hi, hk => by
    obtain ⟨k, rfl⟩ : ∃ m, k = m + 2 := ⟨k - 2, by omega⟩
    rw [ladderbackref07_shift.l0, if_pos (by omega), decide_eq_true (by omega), ladderbackref07_shift.j1, if_pos rfl, if_pos rfl, hH]
    simp only [Option.bind_some]
    have e1 : wrap64 (M - 1 + 1) = M := by unfold wrap64; omega
    have e2 : wrap64 (2 * x) = 2 * x := by unfold wrap64; omega
    have e3 : wrap64 ((i : Int) + 1) = ((i + 1 : Nat) : Int) := by unfold wrap64; omega
    rw [e1, if_neg (by omega), e2, e3, Int.tmod_eq_emod_of_nonneg (by omega), shl_loop t M hM hH nb n (i + 1) k _ ⟨Int.emod_nonneg _ (by omega), Int.emod_lt_of_pos _ (by omega)⟩ (by omega) (by omega)]
    congr 1
    rw [Int.mul_emod, Int.emod_emod_of_dvd _ (Int.dvd_refl M), ← Int.mul_emod, Int.pow_succ, Int.mul_comm 2 x, Int.mul_assoc, Int.mul_comm 2]
theorem shr_loop (t : Int) (nb : Nat) : ∀ (n i k : Nat) (x : Int), 0 ≤ x ∧ x < 4294967296 → i + n = min nb 40 → 2 * n + 2 ≤ k →
    ladderbackref07_shift.l0 k 19 t x (nb : Int) (i : Int) = some (x / 2 ^ n)
  | 0, i, k, x, hx, hi, hk => by
    obtain ⟨k, rfl⟩ : ∃ m, k = m + 2 := ⟨k - 2, by omega⟩
    rw [Int.pow_zero, Int.ediv_one, ladderbackref07_shift.l0]
    split
    · rw [decide_eq_false (by omega), ladderbackref07_shift.j1, if_neg (by decide)]
    · rw [ladderbackref07_shift.j1, if_neg (by decide)]
  | n + 1, i, k, x, hx, hi, hk => by
    obtain ⟨k, rfl⟩ : ∃ m, k = m + 2 := ⟨k - 2, by omega⟩
    rw [ladderbackref07_shift.l0, if_pos (by omega), decide_eq_true (by omega), ladderbackref07_shift.j1, if_pos rfl, if_neg (by decide)]
    have e2 : wrap64 (Int.tdiv x 2) = x / 2 := by rw [Int.tdiv_eq_ediv_of_nonneg hx.1]; unfold wrap64; omega
    have e3 : wrap64 ((i : Int) + 1) = ((i + 1 : Nat) : Int) := by unfold wrap64; omega
    rw [e2, e3, shr_loop t nb n (i + 1) k _ (by omega) (by omega) (by omega)]
    congr 1
    rw [Int.pow_succ, Int.mul_comm, Int.ediv_ediv_of_nonneg (by decide)]
end Go.Proofs.YtohdabkhafcdkaaDoor.PureAlu
