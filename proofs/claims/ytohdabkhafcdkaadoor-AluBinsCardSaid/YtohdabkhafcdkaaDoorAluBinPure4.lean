/- The operations of two numbers, all of them at once: the program and the document tell the same. -/
import Derived.Test.YtohdabkhafcdkaaDoorAluBinPure3
namespace Go.Proofs.YtohdabkhafcdkaaDoor.PureAlu
set_option linter.unusedSimpArgs false
set_option linter.unusedVariables false
open Go Go.RowKit Go.Proofs.YtohdabkhafcdkaaDoor.PAlu Go.Proofs.YtohdabkhafcdkaaDoorW.PrintWords Go.Proofs.YtohdabkhafcdkaaDoorW.PrintLast Go.Proofs.YtohdabkhafcdkaaDoorW.PrintMore Go.Proofs.YtohdabkhafcdkaaDoor.Given
theorem three (op t : Int) (ho : 14 ≤ op ∧ op ≤ 16) (hg : goesOf op t = true) : t = 1 ∨ t = 4 ∨ t = 5 := by
  rcases types t with rfl | rfl | rfl | rfl | rfl | rfl | h
  · exact .inl rfl
  · rcases (by omega : op = 14 ∨ op = 15 ∨ op = 16) with rfl | rfl | rfl <;> exact absurd hg (by decide +kernel)
  · rcases (by omega : op = 14 ∨ op = 15 ∨ op = 16) with rfl | rfl | rfl <;> exact absurd hg (by decide +kernel)
  · exact .inr (.inl rfl)
  · exact .inr (.inr rfl)
  · rcases (by omega : op = 14 ∨ op = 15 ∨ op = 16) with rfl | rfl | rfl <;> exact absurd hg (by decide +kernel)
  · rw [goes_wrong op t h] at hg; cases hg
theorem bit_types (t a : Int) (ht : t = 1 ∨ t = 4 ∨ t = 5) (ha : inF t a = true) : ∃ (j n : Nat), j ≤ 32 ∧ a = n ∧ n < 2 ^ j ∧ (∀ x : Nat, x < 2 ^ j → W t (x : Int) = x) ∧ (t = 1 → j = 1) ∧ (t = 4 → j = 16) ∧ (t = 5 → j = 32) := by
  unfold inF at ha
  simp only [Bool.and_eq_true, beq_iff_eq] at ha
  have hv := ha.2
  rcases ht with rfl | rfl | rfl
  · have h01 : a = 0 ∨ a = 1 := by
      simp [W] at hv
      split at hv <;> omega
    refine ⟨1, a.toNat, by decide, by omega, by omega, fun x hx => ?_, fun _ => rfl, fun h => by omega, fun h => by omega⟩
    rcases (by omega : x = 0 ∨ x = 1) with rfl | rfl <;> simp [W]
  · simp [W] at hv
    refine ⟨16, a.toNat, by decide, by omega, by omega, fun x hx => ?_, fun h => by omega, fun _ => rfl, fun h => by omega⟩
    simp [W]
    omega
  · simp [W] at hv
    refine ⟨32, a.toNat, by decide, by omega, by omega, fun x hx => ?_, fun h => by omega, fun h => by omega, fun _ => rfl⟩
    simp [W]
    omega
theorem bit_case (op t a b : Int) (x : Nat → Nat → Nat) (ho : op = 14 ∨ op = 15 ∨ op = 16) (hx : ∀ n m j : Nat, n < 2 ^ j → m < 2 ^ j → x n m < 2 ^ j)
    (hm : ∀ n m : Nat, n < 2 ^ 32 → m < 2 ^ 32 → alu_makes.f op t (n : Int) (m : Int) = some ((x n m : Nat) : Int)) (hr : ∀ n m : Nat, n < 2 ^ 32 → m < 2 ^ 32 → ladderbackref07_bits.f 99 op (n : Int) (m : Int) = some ((x n m : Nat) : Int))
    (hg : goesOf op t = true) (ha : inF t a = true) (hb : inF t b = true) : ∃ p, alu_Bin.j2 8 op t a b false = some p ∧ ladderbackref07_Bin.j2 101 op t a b false = some p := by
  have ht := three op t (by omega) hg
  obtain ⟨j, n, hj, rfl, hn, hW, t1, t4, t5⟩ := bit_types t a ht ha
  obtain ⟨j2, m, hj2, rfl, hm2, _, u1, u4, u5⟩ := bit_types t b ht hb
  have hjj : j2 = j := by rcases ht with rfl | rfl | rfl <;> simp_all
  subst hjj
  have hp : 2 ^ j2 ≤ 2 ^ 32 := Nat.pow_le_pow_right (by decide) hj
  have n32 : n < 2 ^ 32 := Nat.lt_of_lt_of_le hn hp
  have m32 : m < 2 ^ 32 := Nat.lt_of_lt_of_le hm2 hp
  refine ⟨(((x n m : Nat) : Int), 0, true), ?_, ?_⟩
  · have hc : alu_compares.f op = some false := by unfold alu_compares.f; rw [if_neg (by omega)]
    rw [alu_Bin.j2, if_neg (by decide), if_neg (by omega), if_neg (by omega), alu_Bin.j3, if_neg (by decide), hc, hm n m n32 m32]
    simp only [Option.bind_some, wrap_is]
    rw [if_neg (by decide), hW _ (hx n m j2 hn hm2)]
  · rw [ladderbackref07_Bin.j2, if_neg (by decide), if_neg (by omega), if_neg (by omega), if_neg (by omega), if_neg (by omega), show (op == 12) = false from beq_eq_false_iff_ne.2 (by omega), ladderbackref07_Bin.j3, if_neg (by decide), if_pos (by omega), hr n m n32 m32]
    rfl
theorem shift_case (op t a b : Int) (ho : op = 18 ∨ op = 19) (hg : goesOf op t = true) (ha : inF t a = true) : ∃ p, alu_Bin.j2 8 op t a b false = some p ∧ ladderbackref07_Bin.j2 101 op t a b false = some p := by
  have key : ∃ x, alu_makes.f op t a b = some x ∧ ladderbackref07_shift.f 99 op t a b = some (W t x) := by
    unfold inF at ha
    simp only [Bool.and_eq_true, beq_iff_eq] at ha
    have hv := ha.2
    rcases types t with rfl | rfl | rfl | rfl | rfl | rfl | h
    · rcases ho with rfl | rfl <;> exact absurd hg (by decide +kernel)
    · rcases ho with rfl | rfl <;> exact absurd hg (by decide +kernel)
    · rcases ho with rfl | rfl <;> exact absurd hg (by decide +kernel)
    · simp [W] at hv
      rcases ho with rfl | rfl
      · exact shift_left 4 16 65536 (by decide) (by decide) (.inl rfl) (fun v => rfl) rfl rfl a b (by omega)
      · exact shift_right 4 16 65536 (by decide) (by decide) (.inl rfl) (fun v => rfl) rfl a b (by omega)
    · simp [W] at hv
      rcases ho with rfl | rfl
      · exact shift_left 5 32 4294967296 (by decide) (by decide) (.inr rfl) (fun v => rfl) rfl rfl a b (by omega)
      · exact shift_right 5 32 4294967296 (by decide) (by decide) (.inr rfl) (fun v => rfl) rfl a b (by omega)
    · rcases ho with rfl | rfl <;> exact absurd hg (by decide +kernel)
    · rw [goes_wrong op t h] at hg; cases hg
  obtain ⟨x, hx, hr⟩ := key
  have hc : alu_compares.f op = some false := by unfold alu_compares.f; rw [if_neg (by omega)]
  refine ⟨(W t x, 0, true), ?_, ?_⟩
  · rw [alu_Bin.j2, if_neg (by decide), if_neg (by omega), if_neg (by omega), alu_Bin.j3, if_neg (by decide), hc, hx]
    simp only [Option.bind_some, wrap_is]
    rw [if_neg (by decide)]
  · rw [ladderbackref07_Bin.j2, if_neg (by decide), if_neg (by omega), if_neg (by omega), if_neg (by omega), if_neg (by omega), show (op == 12) = false from beq_eq_false_iff_ne.2 (by omega), ladderbackref07_Bin.j3, if_neg (by decide), if_neg (by omega), if_pos (by omega), hr]
    rfl
theorem cmp_case (op t a b : Int) (ho : 20 ≤ op ∧ op ≤ 25) : ∃ p, alu_Bin.j2 8 op t a b false = some p ∧ ladderbackref07_Bin.j2 101 op t a b false = some p := by
  have hc : alu_compares.f op = some true := by unfold alu_compares.f; rw [if_pos (by omega), decide_eq_true (by omega)]
  obtain ⟨H, hH⟩ : ∃ H, alu_holds.f op a b = some H := by
    unfold alu_holds.f
    repeat' split
    all_goals exact ⟨_, rfl⟩
  refine ⟨if H = true then (1, 0, true) else (0, 0, true), ?_, ?_⟩
  · rw [alu_Bin.j2, if_neg (by decide), if_neg (by omega), if_neg (by omega), alu_Bin.j3, if_neg (by decide), hc, hH]
    simp only [Option.bind_some, if_true]
    cases H <;> rfl
  · rw [ladderbackref07_Bin.j2, if_neg (by decide), if_neg (by omega), if_neg (by omega), if_neg (by omega), if_neg (by omega), show (op == 12) = false from beq_eq_false_iff_ne.2 (by omega), ladderbackref07_Bin.j3, if_neg (by decide), if_neg (by omega), if_neg (by omega), so_is op a b ho, hH]
    simp only [Option.bind_some]
    cases H <;> rfl
theorem bins (op t a b : Int) (ho : -9223372036854775808 ≤ op ∧ op ≤ 9223372036854775807) (ha : -9223372036854775808 ≤ a ∧ a ≤ 9223372036854775807) (hb : -9223372036854775808 ≤ b ∧ b ≤ 9223372036854775807) :
    ∃ p, alu_Bin.f 10 op t a b = some p ∧ ladderbackref07_Bin.f 103 op t a b = some p := by
  rw [bin_is 6 op t a b ho, ref_bin_is op t a b ha hb]
  by_cases C : (binaryF op && goesOf op t && inF t a && inF (if op = 18 ∨ op = 19 then 2 else t) b) = true
  · rw [if_pos C, if_pos C]
    simp only [Bool.and_eq_true] at C
    obtain ⟨⟨⟨c1, hg⟩, ia⟩, ib⟩ := C
    unfold binaryF at c1
    have c1 := of_decide_eq_true c1
    have hr := fun z => ref_wrap_is t _ (wrap_in z)
    rcases (by omega : op = 8 ∨ op = 9 ∨ op = 10 ∨ op = 11 ∨ op = 12 ∨ op = 14 ∨ op = 15 ∨ op = 16 ∨ (op = 18 ∨ op = 19) ∨ (20 ≤ op ∧ op ≤ 25)) with rfl | rfl | rfl | rfl | rfl | rfl | rfl | rfl | h | h
    · exact ⟨(W t (wrap64 (a + b)), 0, true), by simp [alu_Bin.j2, alu_Bin.j3, alu_compares.f, alu_makes.f, wrap_is], by simp [ladderbackref07_Bin.j2, hr]⟩
    · exact ⟨(W t (wrap64 (a - b)), 0, true), by simp [alu_Bin.j2, alu_Bin.j3, alu_compares.f, alu_makes.f, wrap_is], by simp [ladderbackref07_Bin.j2, hr]⟩
    · exact ⟨(W t (wrap64 (a * b)), 0, true), by simp [alu_Bin.j2, alu_Bin.j3, alu_compares.f, alu_makes.f, wrap_is], by simp [ladderbackref07_Bin.j2, hr]⟩
    · by_cases h0 : b = 0
      · exact ⟨(0, 2, true), by simp [alu_Bin.j2, alu_Bin.j3, h0], by simp [ladderbackref07_Bin.j2, ladderbackref07_Bin.j3, h0]⟩
      · exact ⟨(W t (wrap64 (a.tdiv b)), 0, true), by simp [alu_Bin.j2, alu_Bin.j3, alu_compares.f, alu_makes.f, wrap_is, h0], by simp [ladderbackref07_Bin.j2, ladderbackref07_Bin.j3, hr, h0]⟩
    · by_cases h0 : b = 0
      · exact ⟨(0, 2, true), by simp [alu_Bin.j2, alu_Bin.j3, h0], by simp [ladderbackref07_Bin.j2, ladderbackref07_Bin.j3, h0]⟩
      · have hm : wrap64 (a - wrap64 (wrap64 (a.tdiv b) * b)) = W t (a.tmod b) := by
          unfold inF at ia
          simp only [Bool.and_eq_true, beq_iff_eq] at ia
          have hv := ia.2
          rcases types t with rfl | rfl | rfl | rfl | rfl | rfl | h
          · exact absurd hg (by decide +kernel)
          · simp [W] at hv
            exact rest_is 2 a b 32768 (.inl ⟨rfl, rfl⟩) (by omega)
          · simp [W] at hv
            exact rest_is 3 a b 2147483648 (.inr ⟨rfl, rfl⟩) (by omega)
          · exact absurd hg (by decide +kernel)
          · exact absurd hg (by decide +kernel)
          · exact absurd hg (by decide +kernel)
          · rw [goes_wrong 12 t h] at hg; cases hg
        exact ⟨(W t (a.tmod b), 0, true), by simp [alu_Bin.j2, alu_Bin.j3, alu_compares.f, alu_makes.f, wrap_is, h0], by simp [ladderbackref07_Bin.j2, ladderbackref07_Bin.j3, h0, hm]⟩
    · exact bit_case 14 t a b (fun n m => n &&& m) (by simp) (fun n m j _ h2 => Nat.and_lt_two_pow _ h2) (fun n m h1 h2 => by
        have := (bits_nat .i64 32 (by decide) (fun x h0 h1 => by rw [i64_w]; unfold wrap64; omega) n m h1 h2).1
        simp [alu_makes.f, this]) (fun n m h1 h2 => ref_and n m h1 h2) hg ia (by simpa using ib)
    · exact bit_case 15 t a b (fun n m => n ||| m) (by simp) (fun n m j h1 h2 => Nat.or_lt_two_pow h1 h2) (fun n m h1 h2 => by
        have := (bits_nat .i64 32 (by decide) (fun x h0 h1 => by rw [i64_w]; unfold wrap64; omega) n m h1 h2).2
        simp [alu_makes.f, this]) (fun n m h1 h2 => ref_or n m h1 h2) hg ia (by simpa using ib)
    · exact bit_case 16 t a b (fun n m => n ^^^ m) (by simp) (fun n m j h1 h2 => Nat.xor_lt_two_pow h1 h2) (fun n m h1 h2 => by
        have := xor64 n m h1 h2
        simp [alu_makes.f, this]) (fun n m h1 h2 => ref_xor n m h1 h2) hg ia (by simpa using ib)
    · exact shift_case op t a b h hg ia
    · exact cmp_case op t a b h
  · rw [if_neg C, if_neg C]
    exact ⟨_, rfl, rfl⟩
theorem goes_low (op t : Int) (h : goesOf op t = true) : op ≤ 25 := by
  unfold goesOf at h
  simp only [Bool.and_eq_true] at h
  have := of_decide_eq_true h.1
  omega
def resF (op t : Int) : Int := if goesOf op t then (if op ≥ 20 then 1 else t) else 0
theorem res_is (op t : Int) (ho : -9223372036854775808 ≤ op ∧ op ≤ 9223372036854775807) : alu_Result.f op t = some (resF op t) := by
  unfold alu_Result.f resF
  rw [goes_is op t ho]
  simp only [Option.bind_some]
  cases hg : goesOf op t with
  | false => rfl
  | true =>
    have := goes_low op t hg
    unfold alu_compares.f
    by_cases h : op ≥ 20
    · simp [h, this]
    · simp [h]
theorem ref_res_is (op t : Int) : ladderbackref07_Result.f 12 op t = some (resF op t) := by
  unfold ladderbackref07_Result.f resF
  rw [ref_goes_is]
  simp only [Option.bind_some]
  cases goesOf op t with
  | false => rfl
  | true =>
    by_cases h : op ≥ 20 <;> simp [h]
end Go.Proofs.YtohdabkhafcdkaaDoor.PureAlu
