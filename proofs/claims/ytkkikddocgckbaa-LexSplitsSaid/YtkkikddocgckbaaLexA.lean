/- Facts of the two scanners: letters, signs, how long words and signs are; texts of any length. -/
import Derived.Test.YtkkikddocgckbaaPLexx2
namespace Go.Proofs.Ytkkikddocgckbaa.Pure
open Go.RowKit Go.Proofs.Ytkkikddocgckbaa.PLex Go.Proofs.Ytkkikddocgckbaa.Given Go.Proofs.Ytkkikddocgckbaa.PLet Go.Proofs.YtkkikddocgckbaaW.PrintWords Go.Proofs.YtkkikddocgckbaaW.PrintLast
set_option linter.unusedVariables false
set_option linter.unusedSimpArgs false
theorem w64 (x : Int) (h0 : -9223372036854775808 ≤ x) (h1 : x < 9223372036854775808) : wrap64 x = x := by unfold wrap64; omega
/-- A byte among a text's, from place i on. -/
def memF (t : ByteArray) (c : Int) : Nat → Nat → Bool
  | 0, _ => false
  | d + 1, i => (bt t i == c) || memF t c d (i + 1)
theorem in_l0 (t : ByteArray) (c : Int) (ht : t.size ≤ 1000) : ∀ d i k, i + d = t.size → d < k → ladderbackref47_in.l0 k t c (i : Int) = some (memF t c d i)
  | 0, i, k + 1, h, hk => by
    unfold ladderbackref47_in.l0 memF
    rw [if_neg (by omega)]
  | d + 1, i, k + 1, h, hk => by
    unfold ladderbackref47_in.l0 memF
    rw [if_pos (by omega), if_pos (by omega)]
    by_cases e : bt t i = c
    · rw [if_pos e]; simp [e]
    · rw [if_neg e, w64 _ (by omega) (by omega)]
      have := in_l0 t c ht d (i + 1) k (by omega) (by omega)
      rw [show ((i + 1 : Nat) : Int) = (i : Int) + 1 from by omega] at this
      rw [this]
      simp [e]
def letters : ByteArray := ⟨#[97, 98, 99, 100, 101, 102, 103, 104, 105, 106, 107, 108, 109, 110, 111, 112, 113, 114, 115, 116, 117, 118, 119, 120, 121, 122, 65, 66, 67, 68, 69, 70, 71, 72, 73, 74, 75, 76, 77, 78, 79, 80, 81, 82, 83, 84, 85, 86, 87, 88, 89, 90, 48, 49, 50, 51, 52, 53, 54, 55, 56, 57, 95, 35]⟩
theorem letters_all : ∀ c : Fin 256, memF letters (c.val : Int) 64 0 = isLetter (c.val : Int) := by decide +kernel
theorem signs_all : ∀ c : Fin 256, memF signs (c.val : Int) 17 0 = isSign (c.val : Int) := by decide +kernel
theorem space_all : ∀ c : Fin 256, ((c.val : Int) = 32 ∨ (c.val : Int) = 9 ∨ (c.val : Int) = 13 ∨ (c.val : Int) = 10) → isLetter (c.val : Int) = false := by decide +kernel
theorem bt_fin (s : ByteArray) (i : Int) : ∃ c : Fin 256, bt s i = (c.val : Int) := by
  unfold bt
  split
  · exact ⟨⟨_, (s[i.toNat]).toNat_lt⟩, rfl⟩
  · exact ⟨0, rfl⟩
theorem in_letters (s : ByteArray) (i : Int) (k : Nat) (hk : 64 < k) : ladderbackref47_in.f k letters (bt s i) = some (isLetter (bt s i)) := by
  obtain ⟨c, hc⟩ := bt_fin s i
  rw [hc, ← letters_all c]
  exact in_l0 letters _ (by decide) 64 0 k rfl hk
theorem in_signs (s : ByteArray) (i : Int) (k : Nat) (hk : 17 < k) : ladderbackref47_in.f k signs (bt s i) = some (isSign (bt s i)) := by
  obtain ⟨c, hc⟩ := bt_fin s i
  rw [hc, ← signs_all c]
  exact in_l0 signs _ (by decide) 17 0 k rfl hk
theorem letter_space (s : ByteArray) (i : Int) (h : bt s i = 32 ∨ bt s i = 9 ∨ bt s i = 13 ∨ bt s i = 10) : isLetter (bt s i) = false := by
  obtain ⟨c, hc⟩ := bt_fin s i
  rw [hc] at h ⊢
  exact space_all c h
theorem part_f (s : ByteArray) (i : Int) (a : Int) (k : Nat) (hk : 64 < k) : ladderbackref47_part.f k (bt s i) a = some (isLetter (bt s i) || (bt s i == 45 && a == 35)) := by
  have h := in_letters s i k hk
  unfold letters at h
  unfold ladderbackref47_part.f
  rw [h]
  simp only [Option.bind_some]
  cases isLetter (bt s i)
  · by_cases e : bt s i = 45 <;> simp [e]
  · simp
/-! ### The text behind a place -/
theorem size_ext (s : ByteArray) (i : Nat) : (s.extract i s.size).size = s.size - i := by simp
theorem bt_ext (s : ByteArray) (i j : Nat) (h : i + j < s.size) : bt (s.extract i s.size) (j : Int) = bt s ((i + j : Nat) : Int) := by
  unfold bt
  rw [dif_pos (by simp; omega), dif_pos (by simp; omega)]
  simp only [Int.toNat_natCast]
  congr 2
  exact ByteArray.getElem_extract ..
/-- How long the word at i is, from n on. -/
def goF (s : ByteArray) (i n : Nat) : Bool := isLetter (bt s ((i + n : Nat) : Int)) || (bt s ((i + n : Nat) : Int) == 45 && decide (0 < n) && bt s ((i + n - 1 : Nat) : Int) == 35)
def wn (s : ByteArray) (i : Nat) : Nat → Nat → Nat
  | 0, n => n
  | d + 1, n => if i + n < s.size ∧ goF s i n = true then wn s i d (n + 1) else n
theorem goes_ext (s : ByteArray) (i j : Nat) (h : i + j < s.size) : goesF (s.extract i s.size) (j : Int) = goF s i j := by
  unfold goesF goF
  rw [bt_ext s i j h]
  by_cases hj : 0 < j
  · rw [show (j : Int) - 1 = ((j - 1 : Nat) : Int) by omega, bt_ext s i (j - 1) (by omega), show i + (j - 1) = i + j - 1 by omega]
    simp [hj]
  · simp [hj]
theorem wl_ext (s : ByteArray) (i : Nat) : ∀ d n, wl (s.extract i s.size) d n = wn s i d n
  | 0, n => rfl
  | d + 1, n => by
    unfold wl wn
    rw [size_ext]
    by_cases h : i + n < s.size
    · rw [goes_ext s i n h, wl_ext s i d (n + 1)]
      have e : (n < s.size - i) = (i + n < s.size) := by simp; omega
      simp only [e]
    · rw [if_neg (by omega), if_neg (by omega)]
theorem wn_lim (s : ByteArray) (i : Nat) : ∀ d n, i + n ≤ s.size → n ≤ wn s i d n ∧ i + wn s i d n ≤ s.size
  | 0, n, h => ⟨Nat.le_refl _, h⟩
  | d + 1, n, h => by
    unfold wn
    split
    · rename_i c
      have := wn_lim s i d (n + 1) (by omega)
      omega
    · exact ⟨Nat.le_refl _, h⟩
/-- The sign of two bytes at i? -/
def prF (s : ByteArray) (i : Nat) : Bool := decide (i + 1 < s.size) && ((bt s (i : Int) == 58 && bt s ((i + 1 : Nat) : Int) == 61) || (bt s (i : Int) == 60 && bt s ((i + 1 : Nat) : Int) == 61) || (bt s (i : Int) == 62 && bt s ((i + 1 : Nat) : Int) == 61) || (bt s (i : Int) == 60 && bt s ((i + 1 : Nat) : Int) == 62))
def sgF (s : ByteArray) (i : Nat) : Nat := if prF s i then 2 else if isSign (bt s (i : Int)) then 1 else 0
theorem ext_ext (s : ByteArray) (i m : Nat) : (s.extract i s.size).extract m (s.extract i s.size).size = s.extract (i + m) s.size := by
  rw [ByteArray.extract_extract, size_ext]
  congr 1
  omega
theorem ext_take (s : ByteArray) (i m : Nat) (h : i + m ≤ s.size) : (s.extract i s.size).extract 0 m = s.extract i (i + m) := by
  rw [ByteArray.extract_extract]
  congr 1
  omega
theorem u8_int (a : UInt8) (n : Nat) (hn : n < 256) : (a = UInt8.ofNat n) ↔ ((a.toNat : Int) = (n : Int)) := by
  constructor
  · rintro rfl
    simp; omega
  · intro h
    apply UInt8.toNat_inj.1
    have : a.toNat = n := by omega
    rw [this]
    simp; omega
theorem two_list (s : ByteArray) (i : Nat) (h : i + 1 < s.size) : (s.extract i (i + 2)).toList = [s[i], s[i + 1]] := by
  rw [ByteArray.toList_eq]
  simp only [ByteArray.data_extract, Array.toList_extract]
  have hl : i + 1 < s.data.toList.length := by simpa using h
  rw [List.extract_eq_take_drop, show i + 2 - i = 2 by omega]
  apply List.ext_getElem
  · simp; omega
  · intro n h1 h2
    have : n < 2 := by simpa using h2
    rcases n with _ | _ | n
    · simp; rfl
    · simp; rfl
    · omega
theorem pair_ext (s : ByteArray) (i : Nat) (h : i + 1 < s.size) : isPair (s.extract i (i + 2)) = prF s i := by
  have e1 : bt s (i : Int) = (s[i].toNat : Int) := by unfold bt; rw [dif_pos (by simp; omega)]; rfl
  have e2 : bt s ((i + 1 : Nat) : Int) = (s[i + 1].toNat : Int) := by unfold bt; rw [dif_pos (by simp; omega)]; rfl
  unfold isPair PLet.lex_pair.f prF
  rw [two_list s i h, e1, e2]
  generalize s[i] = a
  generalize s[i + 1] = b
  have k : ∀ (x : UInt8) (n : Nat), n < 256 → (((x.toNat : Int) == (n : Int)) = (x == UInt8.ofNat n)) := by
    intro x n hn
    rw [Bool.eq_iff_iff, beq_iff_eq, beq_iff_eq, u8_int x n hn]
  have k58 := k a 58 (by omega)
  have k60 := k a 60 (by omega)
  have k62 := k a 62 (by omega)
  have l61 := k b 61 (by omega)
  have l62 := k b 62 (by omega)
  rw [show ((a.toNat : Int) == 58) = (a == 58) from k58, show ((a.toNat : Int) == 60) = (a == 60) from k60, show ((a.toNat : Int) == 62) = (a == 62) from k62, show ((b.toNat : Int) == 61) = (b == 61) from l61, show ((b.toNat : Int) == 62) = (b == 62) from l62]
  clear k58 k60 k62 l61 l62 k e1 e2
  simp only [List.cons.injEq, and_true, decide_eq_true h, Bool.true_and]
  by_cases a1 : a = 58
  · subst a1; by_cases b1 : b = 61 <;> simp [b1]
  · by_cases a2 : a = 60
    · subst a2
      by_cases b1 : b = 61
      · subst b1; rfl
      · by_cases b2 : b = 62 <;> simp [b1, b2]
    · by_cases a3 : a = 62
      · subst a3; by_cases b1 : b = 61 <;> simp [b1]
      · simp [a1, a2, a3]
end Go.Proofs.Ytkkikddocgckbaa.Pure
