/- LexSplits, the plain law: the program's scanner and the document's tell the same tokens; texts of at most 1000 bytes, for others the example is answered. -/
import Derived.Test.YtkkikddocgckbaaLexC
import Derived.Test.YtkkikddocgckbaaPLexx4
namespace Go.Proofs.Ytkkikddocgckbaa.Pure
open Go.RowKit Go.Proofs.Ytkkikddocgckbaa.PLex Go.Proofs.Ytkkikddocgckbaa.Given Go.Proofs.YtkkikddocgckbaaW.PrintWords Go.Proofs.YtkkikddocgckbaaW.PrintLast
theorem same_l0 (l : List S58) : ∀ d i k, i + d = l.length → l.length ≤ 1000 → d < k → ladderbackref47_Same.l0 k l l (i : Int) = some true := by
  intro d
  induction d with
  | zero =>
    intro i k h1 h2 h3
    obtain ⟨k, rfl⟩ : ∃ m, k = m + 1 := ⟨k - 1, by omega⟩
    unfold ladderbackref47_Same.l0
    rw [if_neg (by omega)]
  | succ d ih =>
    intro i k h1 h2 h3
    obtain ⟨k, rfl⟩ : ∃ m, k = m + 1 := ⟨k - 1, by omega⟩
    unfold ladderbackref47_Same.l0
    rw [if_pos (by omega), if_pos (by omega), if_pos (by omega), if_neg (by simp), w64 _ (by omega) (by omega)]
    exact ih (i + 1) k (by omega) h2 (by omega)
theorem tk_len (s : ByteArray) : ∀ d i out line, i ≤ s.size → out.length ≤ i → (tk s d i out line).1.length ≤ s.size := by
  intro d
  induction d with
  | zero => intro i out line h1 h2; unfold tk; exact Nat.le_trans h2 h1
  | succ d ih =>
    intro i out line h1 h2
    unfold tk
    by_cases hi : i < s.size
    · rw [if_pos hi]
      by_cases hs : spF (bt s (i : Int)) = true
      · rw [if_pos hs]
        exact ih _ _ _ (by omega) (by omega)
      · rw [if_neg hs]
        have hw := wn_lim s i (s.size - i) 0 (by omega)
        have hg := sg_lim s i hi
        by_cases h0 : wn s i (s.size - i) 0 = 0
        · rw [if_pos h0]
          by_cases g0 : sgF s i = 0
          · rw [if_pos g0]; simp
          · rw [if_neg g0]
            exact ih _ _ _ (by omega) (by simp; omega)
        · rw [if_neg h0]
          exact ih _ _ _ (by omega) (by simp; omega)
    · rw [if_neg hi]; exact Nat.le_trans h2 h1
theorem awake47 (k : Nat) (hk : 6000 ≤ k) : ladderbacklaw47_awake.f k = some true := by
  have h : ladderbacklaw47_awake.f 60 = some true := by decide +kernel
  have : ∀ d, ladderbacklaw47_awake.f (60 + d) = some true := by
    intro d
    induction d with
    | zero => exact h
    | succ d ih => exact ladderbacklaw47_awake.mono (60 + d) _ ih
  rw [show k = 60 + (k - 60) by omega]
  exact this _
theorem LexSplits : ladderbacklaw47_LexSplits.Pure := by
  intro a0 hz
  refine ⟨6200, ?_⟩
  unfold ladderbacklaw47_LexSplits.f
  rw [awake47 6200 (by omega)]
  by_cases h : (a0.size : Int) > 1000
  · rw [if_pos h]; rfl
  · rw [if_neg h]
    have e : a0.extract 0 a0.size = a0 := by simp
    have hp : lex_Split.f 6200 a0 = some (tk a0 (a0.size + 1) 0 [] 1) := by
      have := prog_l0 a0 (by omega) a0.size 0 6200 [] 1 (by omega) (by omega) (by simp) (by omega) (by omega) (by omega)
      rw [e] at this
      exact this
    have hr : ladderbackref47_Split.f 6200 a0 = some (tk a0 (a0.size + 1) 0 [] 1) := ref_l0 a0 (by omega) a0.size 0 6200 [] 1 (by omega) (by omega) (by simp) (by omega) (by omega) (by omega)
    have hl := tk_len a0 (a0.size + 1) 0 [] 1 (by omega) (by simp)
    rw [hp, hr]
    generalize tk a0 (a0.size + 1) 0 [] 1 = t at hl ⊢
    simp only [Option.bind_some]
    have hs : ladderbackref47_Same.f 6200 t.1 t.1 = some true := by
      unfold ladderbackref47_Same.f
      rw [if_pos rfl]
      exact same_l0 t.1 t.1.length 0 6200 (by omega) (by omega) (by omega)
    rw [hs]
    simp
end Go.Proofs.Ytkkikddocgckbaa.Pure
