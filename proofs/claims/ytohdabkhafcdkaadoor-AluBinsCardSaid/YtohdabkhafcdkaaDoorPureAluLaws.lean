/- What AluLaws computes is true for all numbers of 64 bits. -/
import Derived.Test.YtohdabkhafcdkaaDoorAluPure
import Derived.Laws.BitsLemmas
namespace Go.Proofs.YtohdabkhafcdkaaDoor.PureAlu
set_option linter.unusedSimpArgs false
set_option linter.unusedVariables false
open Go Go.RowKit Go.Proofs.YtohdabkhafcdkaaDoor.PAlu Go.Proofs.YtohdabkhafcdkaaDoorW.PrintWords Go.Proofs.YtohdabkhafcdkaaDoorW.PrintLast Go.Proofs.YtohdabkhafcdkaaDoor.Given
theorem inF_W (t v : Int) : inF t (W t v) = R t := by unfold inF; rw [W_stays]; simp
theorem quot2 (a b : Int) (ha : -32768 ≤ a ∧ a ≤ 32767) : W 2 (wrap64 (W 2 (wrap64 (W 2 (wrap64 (a.tdiv b)) * b)) + W 2 (a.tmod b))) = a := by
  have h0 := Int.mul_tdiv_add_tmod a b
  generalize a.tdiv b = z at *
  generalize a.tmod b = m at *
  have h1 : (W 2 (wrap64 z)) % 65536 = z % 65536 := by simp [W, wrap64]; omega
  have h2 := mul_mod_of 65536 _ b _ b h1 rfl
  generalize W 2 (wrap64 z) * b = p at *
  rw [Int.mul_comm] at h0
  generalize z * b = r at *
  simp [W, wrap64]
  omega
theorem quot3 (a b : Int) (ha : -2147483648 ≤ a ∧ a ≤ 2147483647) : W 3 (wrap64 (W 3 (wrap64 (W 3 (wrap64 (a.tdiv b)) * b)) + W 3 (a.tmod b))) = a := by
  have h0 := Int.mul_tdiv_add_tmod a b
  generalize a.tdiv b = z at *
  generalize a.tmod b = m at *
  have h1 : (W 3 (wrap64 z)) % 4294967296 = z % 4294967296 := by simp [W, wrap64]; omega
  have h2 := mul_mod_of 4294967296 _ b _ b h1 rfl
  generalize W 3 (wrap64 z) * b = p at *
  rw [Int.mul_comm] at h0
  generalize z * b = r at *
  simp [W, wrap64]
  omega
theorem goes_pairs (t : Int) : goesOf 21 t = goesOf 20 t ∧ goesOf 25 t = goesOf 22 t ∧ goesOf 23 t = goesOf 24 t := by
  rcases types t with rfl | rfl | rfl | rfl | rfl | rfl | h
  · decide +kernel
  · decide +kernel
  · decide +kernel
  · decide +kernel
  · decide +kernel
  · decide +kernel
  · simp only [goes_wrong _ t h]
    simp
theorem pair_step (k : Nat) (t a b op u : Int) (H1 H2 : Bool) (K : Option Bool) (h1 : 20 ≤ op ∧ op ≤ 25) (h2 : 20 ≤ u ∧ u ≤ 25) (hg : goesOf u t = goesOf op t) (e1 : alu_holds.f op a b = some H1) (e2 : alu_holds.f u a b = some H2) (hne : H2 = !H1) :
    ((alu_Bin.f (k + 4) op t a b).bind fun x => (alu_Bin.f (k + 4) u t a b).bind fun y => (if x.2.2 = true then (if (wrap64 (x.1 + y.1)) = 1 then K else (some false)) else K)) = K := by
  rw [bin_cmp k op t a b h1 H1 e1, bin_cmp k u t a b h2 H2 e2, hg]
  cases (goesOf op t && inF t a && inF t b)
  · simp
  · subst hne
    cases H1 <;> simp [wrap64]
theorem l0_20 (k : Nat) (t a b : Int) : ladderbacklaw07_AluLaws.l0 (k + 5) t a b 20 = ladderbacklaw07_AluLaws.l0 (k + 4) t a b 22 := by
  rw [ladderbacklaw07_AluLaws.l0]
  rw [if_pos (by decide)]
  simp only [Option.bind_some]
  rw [if_pos (by decide +kernel), if_pos (by decide +kernel), show rd [21, 25, 23] (wrap64 (Int.tdiv (wrap64 (20 - 20)) 2)) = 21 from by decide +kernel, show wrap64 (20 + 2) = 22 from by decide +kernel]
  exact pair_step k t a b 20 21 (a == b) (a != b) _ (by decide) (by decide) (goes_pairs t).1 rfl rfl rfl
theorem l0_22 (k : Nat) (t a b : Int) : ladderbacklaw07_AluLaws.l0 (k + 5) t a b 22 = ladderbacklaw07_AluLaws.l0 (k + 4) t a b 24 := by
  rw [ladderbacklaw07_AluLaws.l0]
  rw [if_pos (by decide)]
  simp only [Option.bind_some]
  rw [if_pos (by decide +kernel), if_pos (by decide +kernel), show rd [21, 25, 23] (wrap64 (Int.tdiv (wrap64 (22 - 20)) 2)) = 25 from by decide +kernel, show wrap64 (22 + 2) = 24 from by decide +kernel]
  exact pair_step k t a b 22 25 (decide (a < b)) (decide (a ≥ b)) _ (by decide) (by decide) (goes_pairs t).2.1 rfl rfl (by rw [Bool.eq_iff_iff]; simp)
theorem l0_24 (k : Nat) (t a b : Int) : ladderbacklaw07_AluLaws.l0 (k + 5) t a b 24 = ladderbacklaw07_AluLaws.l0 (k + 4) t a b 26 := by
  rw [ladderbacklaw07_AluLaws.l0]
  rw [if_pos (by decide)]
  simp only [Option.bind_some]
  rw [if_pos (by decide +kernel), if_pos (by decide +kernel), show rd [21, 25, 23] (wrap64 (Int.tdiv (wrap64 (24 - 20)) 2)) = 23 from by decide +kernel, show wrap64 (24 + 2) = 26 from by decide +kernel]
  exact pair_step k t a b 24 23 (decide (a > b)) (decide (a ≤ b)) _ (by decide) (by decide) (goes_pairs t).2.2 rfl rfl (by rw [Bool.eq_iff_iff]; simp)
theorem compl_and (n a b : Nat) (ha : a < 2 ^ n) (hb : b < 2 ^ n) : (2 ^ n - (a + 1)) ||| (2 ^ n - (b + 1)) = 2 ^ n - ((a &&& b) + 1) := by
  apply Nat.eq_of_testBit_eq
  intro i
  have hab : a &&& b < 2 ^ n := Nat.and_lt_two_pow _ hb
  rw [Nat.testBit_or, Nat.testBit_two_pow_sub_succ ha, Nat.testBit_two_pow_sub_succ hb, Nat.testBit_two_pow_sub_succ hab, Nat.testBit_and]
  cases decide (i < n) <;> cases a.testBit i <;> cases b.testBit i <;> rfl
theorem awake_is : ladderbacklaw07_awake.f 20 = some true := by decide +kernel
theorem bits64 (n m : Nat) (hn : n < 2 ^ 32) (hm : m < 2 ^ 32) : Go.bits .and .i64 (n : Int) (m : Int) = ((n &&& m : Nat) : Int) ∧ Go.bits .or .i64 (n : Int) (m : Int) = ((n ||| m : Nat) : Int) :=
  bits_nat .i64 32 (by decide) (fun x h0 h1 => by rw [i64_w]; unfold wrap64; omega) n m hn hm
theorem morgan (t : Int) (j : Nat) (hj : j ≤ 32) (n m : Nat) (hn : n < 2 ^ j) (hm : m < 2 ^ j) (ht : t ≠ 1) (hW : ∀ v : Int, W t v = v % 2 ^ j) (g14 : goesOf 14 t = true) (g15 : goesOf 15 t = true) (g17 : goesOf 17 t = true) (hR : R t = true) :
    ladderbacklaw07_AluLaws.l0 21 t n m 26 = some true := by
  have hp : 2 ^ j ≤ 2 ^ 32 := Nat.pow_le_pow_right (by decide) hj
  have hpi : ((2 ^ j : Nat) : Int) = (2 : Int) ^ j := by norm_cast
  have small : ∀ x : Nat, x < 2 ^ j → W t (x : Int) = x := by
    intro x hx
    rw [hW, ← hpi, ← Int.natCast_emod, Nat.mod_eq_of_lt hx]
  have notv : ∀ x : Nat, x < 2 ^ j → W t (Go.bits .xor .i64 (-1) (x : Int)) = ((2 ^ j - (x + 1) : Nat) : Int) := by
    intro x hx
    rw [i64_not x (by omega), hW, ← hpi]
    have e : (-1 - (x : Int)) = ((2 ^ j - (x + 1) : Nat) : Int) + ((2 ^ j : Nat) : Int) * (-1) := by omega
    rw [e, Int.add_mul_emod_self_left, ← Int.natCast_emod, Nat.mod_eq_of_lt (by omega)]
  have hin : ∀ x : Nat, x < 2 ^ j → inF t (x : Int) = true := by
    intro x hx
    unfold inF
    rw [small x hx, hR]
    simp
  have hand : n &&& m < 2 ^ j := Nat.and_lt_two_pow _ hm
  have b1 := (bits64 n m (by omega) (by omega)).1
  have b2 := (bits64 (2 ^ j - (n + 1)) (2 ^ j - (m + 1)) (by omega) (by omega)).2
  rw [ladderbacklaw07_AluLaws.l0, if_neg (by decide), goes_is 14 t (by decide), g14]
  simp only [Option.bind_some, if_true]
  rw [bin_make 16 14 t n m ((n &&& m : Nat) : Int) (by simp) (by rw [← b1]; rfl) g14 (hin n hn) (hin m hm)]
  simp only [Option.bind_some, small _ hand]
  rw [un_not 19 t _ g17 (hin _ hand), un_not 19 t _ g17 (hin n hn), un_not 19 t _ g17 (hin m hm), if_neg ht, if_neg ht, if_neg ht, notv _ hand, notv n hn, notv m hm]
  simp only [Option.bind_some]
  rw [bin_make 16 15 t _ _ ((2 ^ j - (n + 1) ||| 2 ^ j - (m + 1) : Nat) : Int) (by simp) (by rw [← b2]; rfl) g15 (hin _ (by omega)) (hin _ (by omega))]
  simp only [Option.bind_some, if_true]
  rw [compl_and j n m hn hm, small _ (by omega), if_pos rfl, awake_is]
  rfl
theorem l0_26 (t a1 a2 : Int) (h1 : -9223372036854775808 ≤ a1 ∧ a1 ≤ 9223372036854775807) : ladderbacklaw07_AluLaws.l0 21 t (W t a1) (W t a2) 26 = some true := by
  have no : goesOf 14 t = false → ladderbacklaw07_AluLaws.l0 21 t (W t a1) (W t a2) 26 = some true := by
    intro h
    rw [ladderbacklaw07_AluLaws.l0, if_neg (by decide), goes_is 14 t (by decide), h]
    simp only [Option.bind_some, awake_is]
    rfl
  rcases types t with rfl | rfl | rfl | rfl | rfl | rfl | h
  · have hv : ∀ v, W 1 v = 0 ∨ W 1 v = 1 := by
      intro v
      unfold W
      rw [if_pos rfl]
      split
      · exact .inl rfl
      · exact .inr rfl
    rcases hv a1 with h1 | h1 <;> rcases hv a2 with h2 | h2 <;> rw [h1, h2] <;> decide +kernel
  · exact no (by decide +kernel)
  · exact no (by decide +kernel)
  · obtain ⟨n, hn⟩ : ∃ n : Nat, W 4 a1 = n := ⟨(W 4 a1).toNat, by simp [W]; omega⟩
    obtain ⟨m, hm⟩ : ∃ m : Nat, W 4 a2 = m := ⟨(W 4 a2).toNat, by simp [W]; omega⟩
    have l1 : n < 65536 := by simp [W] at hn; omega
    have l2 : m < 65536 := by simp [W] at hm; omega
    rw [hn, hm]
    exact morgan 4 16 (by decide) n m l1 l2 (by decide) (fun v => rfl) (by decide +kernel) (by decide +kernel) (by decide +kernel) (by decide)
  · obtain ⟨n, hn⟩ : ∃ n : Nat, W 5 a1 = n := ⟨(W 5 a1).toNat, by simp [W]; omega⟩
    obtain ⟨m, hm⟩ : ∃ m : Nat, W 5 a2 = m := ⟨(W 5 a2).toNat, by simp [W]; omega⟩
    have l1 : n < 4294967296 := by simp [W] at hn; omega
    have l2 : m < 4294967296 := by simp [W] at hm; omega
    rw [hn, hm]
    exact morgan 5 32 (by decide) n m l1 l2 (by decide) (fun v => rfl) (by decide +kernel) (by decide +kernel) (by decide +kernel) (by decide)
  · exact no (by decide +kernel)
  · exact no (goes_wrong 14 t h)
theorem AluLaws : ladderbacklaw07_AluLaws.Pure := by
  intro a0 a1 a2 w0 w1 w2
  have b1 := i64_of_wf a1 w1
  refine ⟨26, ?_⟩
  have rest : ladderbacklaw07_AluLaws.j1 25 a0 (W a0 a1) (W a0 a2) = some true := by
    rw [ladderbacklaw07_AluLaws.j1, l0_20, l0_22, l0_24]
    exact l0_26 a0 a1 a2 b1
  have skip : ladderbacklaw07_AluLaws.j0 26 a0 (W a0 a1) (W a0 a2) false = some true := by
    rw [ladderbacklaw07_AluLaws.j0, if_neg (by decide)]
    exact rest
  unfold ladderbacklaw07_AluLaws.f
  simp only [wrap_is, goes_is 11 a0 (by decide), Option.bind_some]
  have step : ∀ t : Int, R t = true → goesOf 11 t = true → goesOf 12 t = true → goesOf 10 t = true → goesOf 8 t = true → (∀ b, W t (wrap64 (W t (wrap64 (W t (wrap64 ((W t a1).tdiv b)) * b)) + W t ((W t a1).tmod b))) = W t a1) → ladderbacklaw07_AluLaws.j1 25 t (W t a1) (W t a2) = some true → ladderbacklaw07_AluLaws.j0 26 t (W t a1) (W t a2) (W t a2 != 0) = some true := by
    intro t hR g11 g12 g10 g8 hq hr
    by_cases hb : W t a2 = 0
    · rw [show (W t a2 != 0) = false by simp [hb], ladderbacklaw07_AluLaws.j0, if_neg (by decide)]
      exact hr
    · have hin : ∀ v, inF t (W t v) = true := fun v => by rw [inF_W, hR]
      rw [show (W t a2 != 0) = true by simp [hb], ladderbacklaw07_AluLaws.j0, if_pos rfl]
      rw [bin_make 21 11 t _ _ (wrap64 (Int.tdiv (W t a1) (W t a2))) (by simp [hb]) (by unfold alu_makes.f; simp [hb]) g11 (hin _) (hin _)]
      simp only [Option.bind_some]
      rw [bin_make 21 12 t _ _ (Int.tmod (W t a1) (W t a2)) (by simp [hb]) (by unfold alu_makes.f; simp [hb]) g12 (hin _) (hin _)]
      simp only [Option.bind_some]
      rw [bin_make 21 10 t _ _ (wrap64 (W t (wrap64 (Int.tdiv (W t a1) (W t a2))) * W t a2)) (by simp) rfl g10 (hin _) (hin _)]
      simp only [Option.bind_some]
      rw [bin_make 21 8 t _ _ (wrap64 (W t (wrap64 (W t (wrap64 (Int.tdiv (W t a1) (W t a2))) * W t a2)) + W t (Int.tmod (W t a1) (W t a2)))) (by simp) rfl g8 (hin _) (hin _)]
      simp only [Option.bind_some, if_true]
      rw [if_pos (hq _)]
      exact hr
  cases hg : goesOf 11 a0 with
  | false =>
    rw [if_neg (by decide)]
    exact skip
  | true =>
    rw [if_pos rfl]
    rcases types a0 with rfl | rfl | rfl | rfl | rfl | rfl | h
    · exact absurd hg (by decide +kernel)
    · exact step 2 (by decide) hg (by decide +kernel) (by decide +kernel) (by decide +kernel) (fun b => quot2 _ b (by simp [W]; omega)) rest
    · exact step 3 (by decide) hg (by decide +kernel) (by decide +kernel) (by decide +kernel) (fun b => quot3 _ b (by simp [W]; omega)) rest
    · exact absurd hg (by decide +kernel)
    · exact absurd hg (by decide +kernel)
    · exact absurd hg (by decide +kernel)
    · rw [goes_wrong 11 a0 h] at hg
      cases hg
end Go.Proofs.YtohdabkhafcdkaaDoor.PureAlu
