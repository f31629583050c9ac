/- The sum of bytes as a shift register: a step by the table is eight steps by bits, and no two states become one; for states below 2^32. -/
import Derived.Test.YtiedifemnodneaaCrcTab
namespace Go.Proofs.Ytiedifemnodneaa
open Go
def r1 (n : Nat) : Nat := if n % 2 = 1 then (n / 2) ^^^ 3988292384 else n / 2
def r4 (n : Nat) : Nat := r1 (r1 (r1 (r1 n)))
theorem r1_xor (a b : Nat) : r1 (a ^^^ b) = r1 a ^^^ r1 b := by
  unfold r1
  rw [Nat.xor_div_two]
  have h := Nat.xor_mod_two_eq_one (a := a) (b := b)
  by_cases ha : a % 2 = 1 <;> by_cases hb : b % 2 = 1 <;> simp only [ha, hb] at h ⊢ <;> simp at h <;> simp [h]
  · rw [Nat.xor_assoc, Nat.xor_comm 3988292384, Nat.xor_assoc, Nat.xor_self, Nat.xor_zero]
  · rw [Nat.xor_assoc, Nat.xor_comm (b / 2), Nat.xor_assoc]
  · rw [Nat.xor_assoc]
theorem r4_xor (a b : Nat) : r4 (a ^^^ b) = r4 a ^^^ r4 b := by unfold r4; simp only [r1_xor]
theorem r1_even (n : Nat) : r1 (2 * n) = n := by unfold r1; rw [if_neg (by omega)]; omega
theorem r4_even (n : Nat) : r4 (16 * n) = n := by
  unfold r4
  rw [show 16 * n = 2 * (2 * (2 * (2 * n))) by omega, r1_even, r1_even, r1_even, r1_even]
theorem r1_lt (n : Nat) (h : n < 4294967296) : r1 n < 4294967296 := by
  unfold r1
  split
  · exact Nat.xor_lt_two_pow (n := 32) (by omega) (by decide)
  · omega
theorem r4_lt (n : Nat) (h : n < 4294967296) : r4 n < 4294967296 := r1_lt _ (r1_lt _ (r1_lt _ (r1_lt _ h)))
theorem r1_inj (a b : Nat) (ha : a < 4294967296) (hb : b < 4294967296) (h : r1 a = r1 b) : a = b := by
  have big : ∀ n, n < 2147483648 → (n ^^^ 3988292384).testBit 31 = true := by
    intro n hn
    rw [Nat.testBit_xor, Nat.testBit_lt_two_pow (show n < 2 ^ 31 by omega)]
    decide
  have small : ∀ n, n < 2147483648 → n.testBit 31 = false := fun n hn => Nat.testBit_lt_two_pow (by omega)
  unfold r1 at h
  split at h <;> split at h
  · have : a / 2 = b / 2 := by
      have := congrArg (· ^^^ 3988292384) h
      simpa [Nat.xor_assoc] using this
    omega
  · have h1 := big (a / 2) (by omega)
    rw [h, small _ (by omega)] at h1
    cases h1
  · have h1 := big (b / 2) (by omega)
    rw [← h, small _ (by omega)] at h1
    cases h1
  · omega
theorem r4_inj (a b : Nat) (ha : a < 4294967296) (hb : b < 4294967296) (h : r4 a = r4 b) : a = b :=
  r1_inj _ _ ha hb (r1_inj _ _ (r1_lt _ ha) (r1_lt _ hb) (r1_inj _ _ (r1_lt _ (r1_lt _ ha)) (r1_lt _ (r1_lt _ hb)) (r1_inj _ _ (r1_lt _ (r1_lt _ (r1_lt _ ha))) (r1_lt _ (r1_lt _ (r1_lt _ hb))) h)))
theorem tab_r4 (r : Nat) (h : r < 16) : tab.getD r 0 = (r4 r : Int) := by
  rcases (by omega : r = 0 ∨ r = 1 ∨ r = 2 ∨ r = 3 ∨ r = 4 ∨ r = 5 ∨ r = 6 ∨ r = 7 ∨ r = 8 ∨ r = 9 ∨ r = 10 ∨ r = 11 ∨ r = 12 ∨ r = 13 ∨ r = 14 ∨ r = 15) with rfl | rfl | rfl | rfl | rfl | rfl | rfl | rfl | rfl | rfl | rfl | rfl | rfl | rfl | rfl | rfl <;> decide +kernel
theorem parts16 (s : Nat) : s = (16 * (s / 16)) ^^^ (s % 16) := by
  apply Nat.eq_of_testBit_eq
  intro i
  rw [Nat.testBit_xor, show 16 * (s / 16) = 2 ^ 4 * (s / 2 ^ 4) from rfl, show s % 16 = s % 2 ^ 4 from rfl, Nat.testBit_mod_two_pow, Nat.testBit_two_pow_mul, Nat.testBit_div_two_pow]
  by_cases h : i < 4
  · simp [h, show ¬ 4 ≤ i by omega]
  · simp [h, show 4 ≤ i by omega, show i - 4 + 4 = i by omega]
theorem halfStep_nat (s : Nat) (h : s < 4294967296) : halfStep (s : Int) = (r4 s : Int) := by
  unfold halfStep
  have e1 : Go.bits .and .u32 (s : Int) 15 = ((s % 16 : Nat) : Int) := by
    rw [u32_and _ _ (by omega) (by omega) (by decide) (by decide)]
    have : (15 : Int).toNat = 2 ^ 4 - 1 := rfl
    rw [this, Int.toNat_natCast, Nat.and_two_pow_sub_one_eq_mod]
  rw [e1, Int.toNat_natCast, tab_r4 _ (Nat.mod_lt _ (by decide))]
  have e2 : (s : Int) / 16 = ((s / 16 : Nat) : Int) := by omega
  rw [e2, u32_xor_nat _ _ (by omega) (r4_lt _ (by omega))]
  congr 1
  have := parts16 s
  conv => rhs; rw [this]
  rw [r4_xor, r4_even]
theorem stepF_nat (s c : Nat) (h : s < 4294967296) (hc : c < 4294967296) : stepF (s : Int) (c : Int) = (r4 (r4 (s ^^^ c)) : Int) := by
  unfold stepF
  have hx : s ^^^ c < 4294967296 := Nat.xor_lt_two_pow (n := 32) (by omega) (by omega)
  rw [u32_xor_nat _ _ h hc, halfStep_nat _ hx, halfStep_nat _ (r4_lt _ hx)]
theorem xor_inj (a b c : Nat) (h : a ^^^ c = b ^^^ c) : a = b := by
  have := congrArg (· ^^^ c) h
  simpa [Nat.xor_assoc] using this
theorem stepF_inj (s t c d : Int) (hs : 0 ≤ s ∧ s < 4294967296) (ht : 0 ≤ t ∧ t < 4294967296) (hc : 0 ≤ c ∧ c < 256) (hd : 0 ≤ d ∧ d < 256) (h : stepF s c = stepF t d) : s.toNat ^^^ c.toNat = t.toNat ^^^ d.toNat := by
  obtain ⟨s, rfl⟩ := Int.eq_ofNat_of_zero_le hs.1
  obtain ⟨t, rfl⟩ := Int.eq_ofNat_of_zero_le ht.1
  obtain ⟨c, rfl⟩ := Int.eq_ofNat_of_zero_le hc.1
  obtain ⟨d, rfl⟩ := Int.eq_ofNat_of_zero_le hd.1
  rw [stepF_nat _ _ (by omega) (by omega), stepF_nat _ _ (by omega) (by omega)] at h
  have l1 : s ^^^ c < 4294967296 := Nat.xor_lt_two_pow (n := 32) (by omega) (by omega)
  have l2 : t ^^^ d < 4294967296 := Nat.xor_lt_two_pow (n := 32) (by omega) (by omega)
  exact r4_inj _ _ l1 l2 (r4_inj _ _ (r4_lt _ l1) (r4_lt _ l2) (by exact_mod_cast h))
theorem stepF_state (s t c : Int) (hs : 0 ≤ s ∧ s < 4294967296) (ht : 0 ≤ t ∧ t < 4294967296) (hc : 0 ≤ c ∧ c < 256) (h : stepF s c = stepF t c) : s = t := by
  have := xor_inj _ _ _ (stepF_inj s t c c hs ht hc hc h)
  omega
theorem stepF_byte (s c d : Int) (hs : 0 ≤ s ∧ s < 4294967296) (hc : 0 ≤ c ∧ c < 256) (hd : 0 ≤ d ∧ d < 256) (h : stepF s c = stepF s d) : c = d := by
  have := stepF_inj s s c d hs hs hc hd h
  rw [Nat.xor_comm s.toNat, Nat.xor_comm s.toNat] at this
  have := xor_inj _ _ _ this
  omega
theorem overF_state (l : List Int) (hl : ∀ a ∈ l, 0 ≤ a ∧ a < 256) : ∀ s t : Int, (0 ≤ s ∧ s < 4294967296) → (0 ≤ t ∧ t < 4294967296) → overF s l = overF t l → s = t := by
  induction l with
  | nil => exact fun s t _ _ h => h
  | cons a l ih => exact fun s t hs ht h => stepF_state s t a hs ht (hl a (by simp)) (ih (fun b hb => hl b (by simp [hb])) _ _ (stepF_lim s a) (stepF_lim t a) h)
theorem overF_append (s : Int) (a b : List Int) : overF s (a ++ b) = overF (overF s a) b := by unfold overF; rw [List.foldl_append]
/-- One byte changed is told. -/
theorem overF_tells (s : Int) (hs : 0 ≤ s ∧ s < 4294967296) (l : List Int) (hl : ∀ a ∈ l, 0 ≤ a ∧ a < 256) (i : Nat) (hi : i < l.length) (c : Int) (hc : 0 ≤ c ∧ c < 256) (hne : l[i] ≠ c) : overF s (l.set i c) ≠ overF s l := by
  intro h
  have e1 : l = l.take i ++ l[i] :: l.drop (i + 1) := by
    rw [← List.drop_eq_getElem_cons hi, List.take_append_drop]
  have e2 : l.set i c = l.take i ++ c :: l.drop (i + 1) := by rw [List.set_eq_take_append_cons_drop, if_pos hi]
  rw [e2] at h
  conv at h => rhs; rw [e1]
  rw [overF_append, overF_append] at h
  have h2 := overF_state (l.drop (i + 1)) (fun a ha => hl a (List.mem_of_mem_drop ha)) (stepF (overF s (l.take i)) c) (stepF (overF s (l.take i)) l[i]) (stepF_lim _ _) (stepF_lim _ _) h
  exact hne (stepF_byte _ _ _ (overF_lim s hs _) hc (hl _ (List.getElem_mem hi)) h2).symm
end Go.Proofs.Ytiedifemnodneaa
