/- The operations of two numbers: whatever they are asked, the program and the document tell the same three things. -/
import Derived.Test.YtohdabkhafcdkaaDoorAluBinPure2
namespace Go.Proofs.YtohdabkhafcdkaaDoor.PureAlu
set_option linter.unusedSimpArgs false
set_option linter.unusedVariables false
open Go Go.RowKit Go.Proofs.YtohdabkhafcdkaaDoor.PAlu Go.Proofs.YtohdabkhafcdkaaDoorW.PrintWords Go.Proofs.YtohdabkhafcdkaaDoorW.PrintLast Go.Proofs.YtohdabkhafcdkaaDoorW.PrintMore Go.Proofs.YtohdabkhafcdkaaDoor.Given
theorem cut_count (b w : Int) (hw : 0 ≤ w) : 0 ≤ mn (mx b 0) w ∧ (mn (mx b 0) w).toNat = min b.toNat w.toNat := by
  unfold mn mx
  split <;> split <;> omega
theorem shift_left (t : Int) (w : Nat) (M : Int) (hw : w ≤ 32) (hM : M = 2 ^ w) (hM2 : M = 65536 ∨ M = 4294967296) (hW : ∀ v : Int, W t v = v % M) (hB : bitsOf t = w) (hH : ladderbackref01_High.f t = some (M - 1)) (a b : Int) (ha : 0 ≤ a ∧ a < M) :
    ∃ x, alu_makes.f 18 t a b = some x ∧ ladderbackref07_shift.f 99 18 t a b = some (W t x) := by
  have hc := cut_count b w (by omega)
  refine ⟨shl .i64 a (mn (mx b 0) w), ?_, ?_⟩
  · simp [alu_makes.f, kind_Bits.f, hB, hc.1]
  · have e1 : W t (shl .i64 a (mn (mx b 0) w)) = a * 2 ^ (min b.toNat w) % M := by
      rw [hW]
      unfold shl
      rw [hc.2, i64_w, show (w : Int).toNat = w from rfl, show IntKind.i64.bits = 64 from rfl, Nat.min_eq_left (by omega)]
      generalize a * 2 ^ (min b.toNat w) = z
      unfold wrap64
      rcases hM2 with h | h <;> rw [h] <;> omega
    rw [e1]
    unfold ladderbackref07_shift.f
    by_cases hb : 0 ≤ b
    · have h := shl_loop t M hM2 hH b.toNat (min b.toNat 40) 0 99 a ha (by omega) (by omega)
      rw [show ((b.toNat : Nat) : Int) = b by omega] at h
      rw [show ((0 : Nat) : Int) = 0 from rfl] at h
      rw [h]
      congr 1
      by_cases hbw : b.toNat ≤ w
      · rw [show min b.toNat 40 = min b.toNat w by omega]
      · obtain ⟨d, hd⟩ : ∃ d, min b.toNat 40 = w + d := ⟨min b.toNat 40 - w, by omega⟩
        rw [hd, show min b.toNat w = w by omega, Int.pow_add, ← hM, ← Int.mul_assoc, Int.mul_emod_left, Int.mul_assoc, Int.mul_comm M, ← Int.mul_assoc, Int.mul_emod_left]
    · rw [ladderbackref07_shift.l0, if_neg (by omega), ladderbackref07_shift.j1, if_neg (by decide), show min b.toNat w = 0 by omega, Int.pow_zero, Int.mul_one, Int.emod_eq_of_lt ha.1 ha.2]
theorem shift_right (t : Int) (w : Nat) (M : Int) (hw : w ≤ 32) (hM : M = 2 ^ w) (hM2 : M = 65536 ∨ M = 4294967296) (hW : ∀ v : Int, W t v = v % M) (hB : bitsOf t = w) (a b : Int) (ha : 0 ≤ a ∧ a < M) :
    ∃ x, alu_makes.f 19 t a b = some x ∧ ladderbackref07_shift.f 99 19 t a b = some (W t x) := by
  have hc := cut_count b w (by omega)
  refine ⟨shr .i64 a (mn (mx b 0) w), ?_, ?_⟩
  · simp [alu_makes.f, kind_Bits.f, hB, hc.1]
  · have low : ∀ n : Nat, 0 ≤ a / 2 ^ n ∧ a / 2 ^ n ≤ a := fun n => ⟨Int.ediv_nonneg ha.1 (Int.le_of_lt (Int.pow_pos (by decide))), Int.ediv_le_self _ ha.1⟩
    have e1 : W t (shr .i64 a (mn (mx b 0) w)) = a / 2 ^ (min b.toNat w) := by
      rw [hW]
      unfold shr
      rw [hc.2, show (w : Int).toNat = w from rfl, show IntKind.i64.bits = 64 from rfl, Nat.min_eq_left (by omega)]
      have := low (min b.toNat w)
      exact Int.emod_eq_of_lt this.1 (by omega)
    rw [e1]
    unfold ladderbackref07_shift.f
    by_cases hb : 0 ≤ b
    · have h := shr_loop t b.toNat (min b.toNat 40) 0 99 a (by rcases hM2 with h | h <;> omega) (by omega) (by omega)
      rw [show ((b.toNat : Nat) : Int) = b by omega] at h
      rw [show ((0 : Nat) : Int) = 0 from rfl] at h
      rw [h]
      congr 1
      by_cases hbw : b.toNat ≤ w
      · rw [show min b.toNat 40 = min b.toNat w by omega]
      · obtain ⟨d, hd⟩ : ∃ d, min b.toNat 40 = w + d := ⟨min b.toNat 40 - w, by omega⟩
        have hp : (1 : Int) ≤ 2 ^ d := Int.pow_pos (by decide)
        have hbig : M ≤ 2 ^ (w + d) := by
          rw [Int.pow_add, ← hM]
          have : M * 1 ≤ M * 2 ^ d := Int.mul_le_mul_of_nonneg_left hp (by rcases hM2 with h | h <;> omega)
          omega
        rw [hd, show min b.toNat w = w by omega, ← hM, Int.ediv_eq_zero_of_lt ha.1 ha.2, Int.ediv_eq_zero_of_lt ha.1 (by omega)]
    · rw [ladderbackref07_shift.l0, if_neg (by omega), ladderbackref07_shift.j1, if_neg (by decide), show min b.toNat w = 0 by omega, Int.pow_zero, Int.ediv_one]
theorem wrap_in (z : Int) : -9223372036854775808 ≤ wrap64 z ∧ wrap64 z ≤ 9223372036854775807 := by unfold wrap64; omega
theorem wrap_of (p q : Int) (h : p % 18446744073709551616 = q % 18446744073709551616) : wrap64 p = wrap64 q := by unfold wrap64; omega
theorem rest_is (t a b L : Int) (h : t = 2 ∧ L = 32768 ∨ t = 3 ∧ L = 2147483648) (ha : -L ≤ a ∧ a < L) : wrap64 (a - wrap64 (wrap64 (a.tdiv b) * b)) = W t (a.tmod b) := by
  have h0 := Int.mul_tdiv_add_tmod a b
  have hm : -L ≤ a.tmod b ∧ a.tmod b < L := by
    have h1 : (a.tmod b).natAbs ≤ a.natAbs := by
      rw [Int.natAbs_tmod]
      exact Nat.mod_le _ _
    by_cases hp : 0 ≤ a
    · have := Int.tmod_nonneg b hp
      omega
    · have := Int.tmod_nonneg b (show 0 ≤ -a by omega)
      rw [Int.neg_tmod] at this
      omega
  have hz : wrap64 (wrap64 (a.tdiv b) * b) = wrap64 (a.tdiv b * b) := by
    refine wrap_of _ _ (mul_mod_of _ _ _ _ _ ?_ rfl)
    unfold wrap64
    omega
  rw [hz, Int.mul_comm]
  generalize b * a.tdiv b = p at *
  generalize a.tmod b = m at *
  have hWm : W t m = m := by
    rcases h with ⟨rfl, rfl⟩ | ⟨rfl, rfl⟩ <;> simp [W] <;> omega
  rw [hWm]
  unfold wrap64
  rcases h with ⟨rfl, rfl⟩ | ⟨rfl, rfl⟩ <;> omega
end Go.Proofs.YtohdabkhafcdkaaDoor.PureAlu
