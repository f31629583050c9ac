/- The program's scanner tells what a plain scanner tells; texts of at most 1000 bytes. -/
import Derived.Test.YtkkikddocgckbaaLexA
namespace Go.Proofs.Ytkkikddocgckbaa.Pure
open Go.RowKit Go.Proofs.Ytkkikddocgckbaa.PLex Go.Proofs.Ytkkikddocgckbaa.Given Go.Proofs.YtkkikddocgckbaaW.PrintWords Go.Proofs.YtkkikddocgckbaaW.PrintLast
set_option linter.unusedVariables false
set_option linter.unusedSimpArgs false
def spF (c : Int) : Bool := c == 32 || c == 9 || c == 13 || c == 10
def tk (s : ByteArray) : Nat → Nat → List S58 → Int → List S58 × Int
  | 0, _, out, _ => (out, 0)
  | d + 1, i, out, line =>
    if i < s.size then
      if spF (bt s (i : Int)) = true then tk s d (i + 1) out (if bt s (i : Int) = 10 then line + 1 else line)
      else if wn s i (s.size - i) 0 = 0 then
        (if sgF s i = 0 then ([], line) else tk s d (i + sgF s i) (out ++ [⟨2, line, s.extract i (i + sgF s i)⟩]) line)
      else tk s d (i + wn s i (s.size - i) 0) (out ++ [⟨1, line, s.extract i (i + wn s i (s.size - i) 0)⟩]) line
    else (out, 0)
theorem sg_lim (s : ByteArray) (i : Nat) (h : i < s.size) : i + sgF s i ≤ s.size := by
  unfold sgF
  split
  · rename_i c
    unfold prF at c
    simp at c
    omega
  · split <;> omega
theorem word_ext (s : ByteArray) (hz : s.size ≤ 1000000) (i : Nat) : lex_word.f (s.extract i s.size) = some (wn s i (s.size - i) 0 : Int) := by
  unfold lex_word.f
  rw [size_ext, if_pos (by omega), wl_ext]
theorem sign_ext (s : ByteArray) (hz : s.size ≤ 1000000) (i : Nat) (h : i < s.size) : lex_sign.f (s.extract i s.size) = some (sgF s i : Int) := by
  unfold lex_sign.f
  rw [size_ext, if_pos (by omega)]
  unfold signF sgF
  rw [size_ext]
  have e0 := bt_ext s i 0 (by omega)
  rw [show ((0 : Nat) : Int) = 0 from rfl, Nat.add_zero] at e0
  rw [e0]
  by_cases h1 : i + 1 < s.size
  · rw [ext_take s i 2 (by omega), pair_ext s i h1]
    rw [show decide (s.size - i > 1) = true from decide_eq_true (by omega)]
    cases prF s i <;> cases isSign (bt s (i : Int)) <;> rfl
  · have : prF s i = false := by unfold prF; simp [h1]
    rw [this, show decide (s.size - i > 1) = false from decide_eq_false (by omega)]
    cases isSign (bt s (i : Int)) <;> rfl
theorem prog_l0 (s : ByteArray) (hz : s.size ≤ 1000) : ∀ (d i k : Nat) (out : List S58) (line : Int), s.size ≤ i + d → i ≤ s.size → out.length ≤ i → 0 ≤ line → line ≤ i + 1 → 2 * d + 2 ≤ k → lex_Split.l0 k (s.extract i s.size) out line = some (tk s (d + 1) i out line) := by
  intro d
  induction d with
  | zero =>
    intro i k out line h1 h2 h3 h4 h5 h6
    obtain ⟨k, rfl⟩ : ∃ m, k = m + 1 := ⟨k - 1, by omega⟩
    unfold lex_Split.l0 tk
    rw [size_ext, if_neg (by omega), if_neg (by omega)]
  | succ d ih =>
    intro i k out line h1 h2 h3 h4 h5 h6
    obtain ⟨k, rfl⟩ : ∃ m, k = m + 2 := ⟨k - 2, by omega⟩
    by_cases hi : i < s.size
    · have e0 := bt_ext s i 0 (by omega)
      rw [show ((0 : Nat) : Int) = 0 from rfl, Nat.add_zero] at e0
      have step : lex_Split.l0 (k + 2) (s.extract i s.size) out line = lex_Split.j1 (k + 1) (s.extract i s.size) out line (bt s (i : Int)) (spF (bt s (i : Int))) := by
        rw [show k + 2 = (k + 1) + 1 from rfl]
        unfold lex_Split.l0
        rw [size_ext, if_pos (by omega), if_pos (by omega), e0]
        by_cases a1 : bt s (i : Int) = 32
        · rw [if_pos a1, show spF (bt s (i : Int)) = true by simp [spF, a1]]
        · rw [if_neg a1]
          by_cases a2 : bt s (i : Int) = 9
          · rw [if_pos a2, show spF (bt s (i : Int)) = true by simp [spF, a2]]
          · rw [if_neg a2]
            by_cases a3 : bt s (i : Int) = 13
            · rw [if_pos a3, show spF (bt s (i : Int)) = true by simp [spF, a3]]
            · rw [if_neg a3, show spF (bt s (i : Int)) = (bt s (i : Int) == 10) by simp [spF, a1, a2, a3]]
      rw [step]
      unfold lex_Split.j1
      rw [show d + 1 + 1 = (d + 1) + 1 from rfl, tk.eq_2, if_pos hi]
      simp only [size_ext]
      by_cases hs : spF (bt s (i : Int)) = true
      · rw [if_pos hs, if_pos hs]
        have ee := ext_ext s i 1
        rw [size_ext] at ee
        by_cases hn : bt s (i : Int) = 10
        · rw [if_pos hn, if_pos hn, if_pos (by omega), ee, w64 _ (by omega) (by omega)]
          exact ih (i + 1) k out (line + 1) (by omega) (by omega) (by omega) (by omega) (by omega) (by omega)
        · rw [if_neg hn, if_neg hn, if_pos (by omega), ee]
          exact ih (i + 1) k out line (by omega) (by omega) (by omega) (by omega) (by omega) (by omega)
      · rw [if_neg hs, if_neg hs, word_ext s (by omega) i]
        simp only [Option.bind_some]
        have hw := wn_lim s i (s.size - i) 0 (by omega)
        by_cases hw0 : wn s i (s.size - i) 0 = 0
        · rw [if_pos (by omega), if_pos hw0, sign_ext s (by omega) i hi]
          simp only [Option.bind_some]
          have hg := sg_lim s i hi
          by_cases hg0 : sgF s i = 0
          · rw [if_pos (by omega), if_pos hg0]
          · rw [if_neg (by omega), if_neg hg0, if_pos (by omega), if_pos (by omega), if_pos (by omega)]
            have ee := ext_ext s i (sgF s i)
            rw [size_ext] at ee
            rw [Int.toNat_natCast, ee, ext_take s i (sgF s i) hg]
            exact ih (i + sgF s i) k _ line (by omega) (by omega) (by simp; omega) (by omega) (by omega) (by omega)
        · rw [if_neg (by omega), if_neg hw0, if_pos (by omega), if_pos (by omega), if_pos (by omega)]
          have ee := ext_ext s i (wn s i (s.size - i) 0)
          rw [size_ext] at ee
          rw [Int.toNat_natCast, ee, ext_take s i _ hw.2]
          exact ih (i + wn s i (s.size - i) 0) k _ line (by omega) (by omega) (by simp; omega) (by omega) (by omega) (by omega)
    · unfold lex_Split.l0 tk
      rw [size_ext, if_neg (by omega), if_neg (by omega)]
end Go.Proofs.Ytkkikddocgckbaa.Pure
