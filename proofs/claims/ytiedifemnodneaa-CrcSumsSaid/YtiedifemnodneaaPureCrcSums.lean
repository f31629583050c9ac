/- What CrcSums computes is true for any state and any bytes. -/
import Derived.Test.YtiedifemnodneaaPureCrcParts
import Derived.Test.YtiedifemnodneaaPCrcx2
namespace Go.Proofs.Ytiedifemnodneaa.Pure
open Go.RowKit Go.Proofs.Ytiedifemnodneaa.PCrc Go.Proofs.YtiedifemnodneaaW.PrintWords Go.Proofs.YtiedifemnodneaaW.PrintLast Go.Proofs.Ytiedifemnodneaa.Given
def rs : Nat → Nat → Nat
  | 0, s => s
  | n + 1, s => rs n (r1 s)
theorem ref_bits : ∀ (d k : Nat) (s : Nat) (j : Nat), s < 4294967296 → j + d = 8 → d < k → ladderbackref02_Next.l0 k (s : Int) (j : Int) = some (rs d s : Int)
  | 0, k, s, j, hs, hj, hk => by
    obtain ⟨k, rfl⟩ : ∃ m, k = m + 1 := ⟨k - 1, by omega⟩
    simp only [ladderbackref02_Next.l0]
    rw [if_neg (by omega)]
    rfl
  | d + 1, k, s, j, hs, hj, hk => by
    obtain ⟨k, rfl⟩ : ∃ m, k = m + 1 := ⟨k - 1, by omega⟩
    simp only [ladderbackref02_Next.l0]
    rw [if_pos (by omega)]
    have e1 : Int.tmod (s : Int) 2 = ((s % 2 : Nat) : Int) := by rw [Int.tmod_eq_emod_of_nonneg (by omega)]; omega
    have e2 : Int.tdiv (s : Int) 2 % 4294967296 = ((s / 2 : Nat) : Int) := by rw [Int.tdiv_eq_ediv_of_nonneg (by omega)]; omega
    have e3 : wrap64 ((j : Int) + 1) = ((j + 1 : Nat) : Int) := by unfold wrap64; omega
    have ih := ref_bits d k (r1 s) (j + 1) (r1_lt s hs) (by omega) (by omega)
    rw [e1, e2, e3]
    unfold rs
    rw [← ih]
    by_cases h : s % 2 = 1
    · rw [if_pos (by omega), show (3988292384 : Int) = ((3988292384 : Nat) : Int) from rfl, u32_xor_nat _ _ (by omega) (by decide)]
      congr 2
      unfold r1
      rw [if_pos h]
    · rw [if_neg (by omega)]
      congr 2
      unfold r1
      rw [if_neg h]
theorem ref_next (s c : Int) (hs : 0 ≤ s ∧ s < 4294967296) (hc : 0 ≤ c ∧ c < 256) (k : Nat) (hk : 9 ≤ k) : ladderbackref02_Next.f k s c = some (stepF s c) := by
  obtain ⟨s, rfl⟩ := Int.eq_ofNat_of_zero_le hs.1
  obtain ⟨c, rfl⟩ := Int.eq_ofNat_of_zero_le hc.1
  unfold ladderbackref02_Next.f
  rw [show (c : Int) % 4294967296 = (c : Int) by omega, u32_xor_nat _ _ (by omega) (by omega), stepF_nat _ _ (by omega) (by omega)]
  exact ref_bits 8 k _ 0 (Nat.xor_lt_two_pow (n := 32) (by omega) (by omega)) rfl (by omega)
theorem ref_over (l : List Int) (hl : ∀ a ∈ l, 0 ≤ a ∧ a < 256) (hb : l.length ≤ 1000) : ∀ (d k j : Nat) (s : Int), 0 ≤ s ∧ s < 4294967296 → j + d = l.length → d + 9 < k → ladderbackref02_Over.l0 k s l (j : Int) = some (overF s (l.drop j))
  | 0, k, j, s, hs, hj, hk => by
    obtain ⟨k, rfl⟩ : ∃ m, k = m + 1 := ⟨k - 1, by omega⟩
    simp only [ladderbackref02_Over.l0]
    rw [if_neg (by omega), List.drop_eq_nil_of_le (by omega)]
    rfl
  | d + 1, k, j, s, hs, hj, hk => by
    obtain ⟨k, rfl⟩ : ∃ m, k = m + 1 := ⟨k - 1, by omega⟩
    have hlt : j < l.length := by omega
    have hrd : rd l (j : Int) = l[j] := by simp [rd, List.getD_eq_getElem?_getD, hlt]
    have e3 : wrap64 ((j : Int) + 1) = ((j + 1 : Nat) : Int) := by unfold wrap64; omega
    simp only [ladderbackref02_Over.l0]
    rw [if_pos (by omega), if_pos (by omega), hrd, ref_next s l[j] hs (hl _ (List.getElem_mem hlt)) k (by omega)]
    simp only [Option.bind_some]
    rw [e3, ref_over l hl hb d k (j + 1) _ (stepF_lim s _) (by omega) (by omega), List.drop_eq_getElem_cons hlt]
    rfl
theorem CrcSums : ladderbacklaw02_CrcSums.Pure := by
  intro a0 l1 w0 h1 _ w1
  refine ⟨l1.length + 20, ?_⟩
  have b1 := fun x hx => byte_of_wf x (w1 x hx)
  have b0 : 0 ≤ a0 ∧ a0 < 4294967296 := by
    have h := (Lit.wf_int_iff .u32 a0).1 w0
    have h1 : IntKind.u32.min = 0 := by decide
    have h2 : IntKind.u32.max = 4294967295 := by decide
    omega
  unfold ladderbacklaw02_CrcSums.f
  by_cases c1 : (l1.length : Int) > 500
  · rw [if_pos c1]
    rfl
  rw [if_neg c1]
  have o1 : okB l1 := ⟨by omega, b1⟩
  have over : ∀ s, 0 ≤ s ∧ s < 4294967296 → ladderbackref02_Over.f (l1.length + 19) s l1 = some (overF s l1) := by
    intro s hs
    exact ref_over l1 b1 (by omega) l1.length (l1.length + 19) 0 s hs (by omega) (by omega)
  have rest : ladderbacklaw02_CrcSums.j0 (l1.length + 20) a0 l1 false = some true := by
    have hl := overF_lim 4294967295 (by decide) l1
    simp only [ladderbacklaw02_CrcSums.j0, crc_Over.f, crc_Of.f, ladderbackref02_Of.f, ladderbacklaw02_awake.f]
    rw [if_neg (by decide), if_pos o1, over a0 b0, over 4294967295 (by decide), if_pos o1]
    simp only [Option.bind_some]
    rw [if_pos trivial, if_pos (by omega)]
  by_cases c2 : (l1.length : Int) > 0
  · have hlt : 0 < l1.length := by omega
    have hrd : rd l1 0 = l1[0] := by simp [rd, List.getD_eq_getElem?_getD, hlt]
    have hb := b1 _ (List.getElem_mem hlt)
    rw [if_pos c2, if_pos (by omega), hrd, ref_next a0 l1[0] b0 hb _ (by omega)]
    unfold crc_Next.f
    rw [if_pos hb]
    simp only [Option.bind_some]
    rw [show (stepF a0 l1[0] != stepF a0 l1[0]) = false by simp]
    exact rest
  · rw [if_neg c2]
    exact rest
end Go.Proofs.Ytiedifemnodneaa.Pure
