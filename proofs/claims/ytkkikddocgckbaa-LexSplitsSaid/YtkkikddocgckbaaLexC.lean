/- The document's scanner tells what a plain scanner tells; texts of at most 1000 bytes. -/
import Derived.Test.YtkkikddocgckbaaLexB
import Derived.Test.YtkkikddocgckbaaPLexx3
namespace Go.Proofs.Ytkkikddocgckbaa.Pure
open Go.RowKit Go.Proofs.Ytkkikddocgckbaa.PLex Go.Proofs.Ytkkikddocgckbaa.Given Go.Proofs.YtkkikddocgckbaaW.PrintWords Go.Proofs.YtkkikddocgckbaaW.PrintLast
set_option linter.unusedVariables false
set_option linter.unusedSimpArgs false
theorem app_ext (s : ByteArray) (i j k : Nat) (h1 : i ≤ j) (h2 : j ≤ k) (h3 : k ≤ s.size) : s.extract i j ++ s.extract j k = s.extract i k := by
  rw [ByteArray.extract_append_extract]
  congr 1 <;> omega
theorem rd_last (xs : List S58) (x : S58) : rd_T58 (xs ++ [x]) (xs.length : Int) = x := by
  unfold rd_T58
  simp
theorem set_last (xs : List S58) (x y : S58) : (xs ++ [x]).set xs.length y = xs ++ [y] := by
  simp
/-- Behind a word's end it's all one whether the word is open. -/
theorem ref_stop (s : ByteArray) (hz : s.size ≤ 1000) (i k : Nat) (X : List S58) (line : Int) (hk : 70 ≤ k) (h1 : 1 ≤ i) (h2 : i ≤ s.size)
    (hp : i < s.size → isLetter (bt s (i : Int)) = false ∧ ¬ (bt s (i : Int) = 45 ∧ bt s ((i - 1 : Nat) : Int) = 35)) :
    ladderbackref47_Split.l0 k s X line true (i : Int) = ladderbackref47_Split.l0 k s X line false (i : Int) := by
  obtain ⟨k, rfl⟩ : ∃ m, k = m + 2 := ⟨k - 2, by omega⟩
  rw [show k + 2 = (k + 1) + 1 from rfl]
  unfold ladderbackref47_Split.l0
  by_cases hi : i < s.size
  · obtain ⟨hL, hM⟩ := hp hi
    have p1 : (i : Int) < (s.size : Int) := by omega
    have p2 : (0 : Int) ≤ (i : Int) := by omega
    have p3 : (0 : Int) ≤ (i : Int) - 1 := by omega
    have p4 : (i : Int) - 1 < (s.size : Int) := by omega
    rw [w64 _ (by omega) (by omega)]
    simp only [if_pos p1, if_pos p2, if_pos p3, if_pos p4, if_true, Bool.false_eq_true, if_false]
    clear p1 p2 p3 p4
    unfold ladderbackref47_Split.j1
    rw [part_f s i _ k (by omega), part_f s i _ k (by omega)]
    have e1 : (isLetter (bt s (i : Int)) || (bt s (i : Int) == 45 && bt s ((i : Int) - 1) == 35)) = false := by
      rw [show (i : Int) - 1 = ((i - 1 : Nat) : Int) by omega, hL]
      simpa using fun h => fun h2 => hM ⟨h, h2⟩
    have e2 : (isLetter (bt s (i : Int)) || (bt s (i : Int) == 45 && (0 : Int) == 35)) = false := by
      rw [hL]; simp
    rw [e1, e2]
    simp only [Option.bind_some, Bool.false_eq_true, if_false]
  · rw [if_neg (by omega), if_neg (by omega)]
/-- One more byte of a word. -/
theorem ref_more (s : ByteArray) (hz : s.size ≤ 1000) (i m k : Nat) (out : List S58) (line : Int) (hl : out.length ≤ 1000) (hk : 70 ≤ k) (hm : 1 ≤ m) (h2 : i + m < s.size) (hg : goF s i m = true) :
    ladderbackref47_Split.l0 (k + 2) s (out ++ [⟨1, line, s.extract i (i + m)⟩]) line true ((i + m : Nat) : Int) = ladderbackref47_Split.l0 k s (out ++ [⟨1, line, s.extract i (i + (m + 1))⟩]) line true ((i + (m + 1) : Nat) : Int) := by
  rw [show k + 2 = (k + 1) + 1 from rfl]
  conv => lhs; unfold ladderbackref47_Split.l0
  rw [if_pos (by omega), if_pos (by omega), if_pos rfl, w64 _ (by omega) (by omega), if_pos (by omega), if_pos (by omega)]
  unfold ladderbackref47_Split.j1
  rw [part_f s _ _ k (by omega)]
  have e1 : (isLetter (bt s ((i + m : Nat) : Int)) || (bt s ((i + m : Nat) : Int) == 45 && bt s (((i + m : Nat) : Int) - 1) == 35)) = true := by
    rw [show ((i + m : Nat) : Int) - 1 = ((i + m - 1 : Nat) : Int) by omega]
    unfold goF at hg
    simpa [show 0 < m from hm] using hg
  rw [e1]
  simp only [Option.bind_some, if_true]
  have el : wrap64 (((out ++ [(⟨1, line, s.extract i (i + m)⟩ : S58)]).length : Int) - 1) = (out.length : Int) := by
    rw [w64 _ (by simp only [List.length_append, List.length_cons, List.length_nil]; omega) (by simp only [List.length_append, List.length_cons, List.length_nil]; omega)]
    simp
  rw [el, rd_last, if_pos (by omega), if_pos (by simp only [List.length_append, List.length_cons, List.length_nil]; omega), if_pos (by omega), w64 _ (by omega) (by omega), if_pos (by omega), if_pos (by omega)]
  have e3 : (((i + m : Nat) : Int) + 1).toNat = i + (m + 1) := by omega
  simp only [e3, Int.toNat_natCast, set_last]
  rw [app_ext s i (i + m) (i + (m + 1)) (by omega) (by omega) (by omega), if_pos (by simp only [ByteArray.size_extract]; omega)]
  rw [show ((i + m : Nat) : Int) + 1 = ((i + (m + 1) : Nat) : Int) by omega]
/-- The first byte of a word. -/
theorem ref_first (s : ByteArray) (hz : s.size ≤ 1000) (i k : Nat) (out : List S58) (line : Int) (hk : 70 ≤ k) (h2 : i < s.size) (hl : out.length ≤ 1000) (hg : isLetter (bt s (i : Int)) = true) :
    ladderbackref47_Split.l0 (k + 2) s out line false (i : Int) = ladderbackref47_Split.l0 k s (out ++ [⟨1, line, s.extract i (i + 1)⟩]) line true ((i + 1 : Nat) : Int) := by
  rw [show k + 2 = (k + 1) + 1 from rfl]
  conv => lhs; unfold ladderbackref47_Split.l0
  rw [if_pos (by omega), if_pos (by omega), if_neg (by simp)]
  unfold ladderbackref47_Split.j1
  rw [part_f s _ _ k (by omega), hg]
  simp only [Bool.true_or, Option.bind_some, if_true]
  rw [if_neg (by simp), if_pos (by omega)]
  have el : wrap64 (((out ++ [(⟨1, line, ⟨#[]⟩⟩ : S58)]).length : Int) - 1) = (out.length : Int) := by
    rw [w64 _ (by simp only [List.length_append, List.length_cons, List.length_nil]; omega) (by simp only [List.length_append, List.length_cons, List.length_nil]; omega)]
    simp
  rw [el, rd_last, if_pos (by omega), if_pos (by simp only [List.length_append, List.length_cons, List.length_nil]; omega), if_pos (by omega), w64 _ (by omega) (by omega), if_pos (by omega), if_pos (by omega)]
  have e3 : ((i : Int) + 1).toNat = i + 1 := by omega
  simp only [e3, Int.toNat_natCast, set_last]
  rw [if_pos (by rw [show (⟨#[]⟩ : ByteArray).size = 0 from rfl, ByteArray.size_extract]; omega), show (⟨#[]⟩ : ByteArray) ++ s.extract i (i + 1) = s.extract i (i + 1) from ByteArray.empty_append]
  rw [show ((i : Nat) : Int) + 1 = ((i + 1 : Nat) : Int) by omega]
theorem ref_word (s : ByteArray) (hz : s.size ≤ 1000) (i : Nat) (out : List S58) (line : Int) (hl : out.length ≤ 1000) (r : List S58 × Int) : ∀ (d m K : Nat), 1 ≤ m → i + m + d = s.size → 74 + 2 * d ≤ K →
    (∀ K', K ≤ K' + 2 * (wn s i d m - m) → ladderbackref47_Split.l0 K' s (out ++ [⟨1, line, s.extract i (i + wn s i d m)⟩]) line false ((i + wn s i d m : Nat) : Int) = some r) →
    ladderbackref47_Split.l0 K s (out ++ [⟨1, line, s.extract i (i + m)⟩]) line true ((i + m : Nat) : Int) = some r := by
  intro d
  induction d with
  | zero =>
    intro m K h1 h2 h3 H
    rw [ref_stop s hz (i + m) K _ line (by omega) (by omega) (by omega) (fun h => by omega)]
    exact H K (by omega)
  | succ d ih =>
    intro m K h1 h2 h3 H
    by_cases hg : goF s i m = true
    · obtain ⟨K, rfl⟩ : ∃ n, K = n + 2 := ⟨K - 2, by omega⟩
      rw [ref_more s hz i m K out line hl (by omega) h1 (by omega) hg]
      have e : wn s i (d + 1) m = wn s i d (m + 1) := by
        conv => lhs; unfold wn
        rw [if_pos ⟨by omega, hg⟩]
      rw [e] at H
      have hl := wn_lim s i d (m + 1) (by omega)
      exact ih (m + 1) K (by omega) (by omega) (by omega) (fun K' hK => H K' (by omega))
    · have e : wn s i (d + 1) m = m := by
        unfold wn
        rw [if_neg (fun h => hg h.2)]
      rw [e] at H
      rw [ref_stop s hz (i + m) K _ line (by omega) (by omega) (by omega) (fun h => ?_)]
      · exact H K (by omega)
      · unfold goF at hg
        simp only [Bool.or_eq_true, Bool.and_eq_true, beq_iff_eq, decide_eq_true_eq, not_or, not_and] at hg
        exact ⟨by simpa using hg.1, fun hh => hg.2 ⟨hh.1, by omega⟩ hh.2⟩
theorem j3_sign (s : ByteArray) (hz : s.size ≤ 1000) (i k : Nat) (out : List S58) (line : Int) (hk : 17 < k) (hi : i < s.size) (hl : out.length ≤ 1000) :
    ladderbackref47_Split.j3 (k + 1) s out line false (i : Int) (bt s (i : Int)) false = if isSign (bt s (i : Int)) = true then ladderbackref47_Split.l0 k s (out ++ [⟨2, line, s.extract i (i + (if prF s i then 2 else 1))⟩]) line false ((i + (if prF s i then 2 else 1) : Nat) : Int) else some ([], line) := by
  have hs := in_signs s (i : Int) k hk
  unfold signs at hs
  have W1 : wrap64 ((i : Int) + 1) = ((i + 1 : Nat) : Int) := by rw [w64 _ (by omega) (by omega)]; omega
  have W2 : wrap64 (((i + 1 : Nat) : Int) - 1) = (i : Int) := by rw [w64 _ (by omega) (by omega)]; omega
  have W3 : wrap64 (((i + 1 : Nat) : Int) + 1) = ((i + 2 : Nat) : Int) := by rw [w64 _ (by omega) (by omega)]; omega
  unfold ladderbackref47_Split.j3
  rw [if_neg (by simp), hs]
  simp only [Option.bind_some]
  by_cases h0 : isSign (bt s (i : Int)) = true
  · rw [if_pos h0, if_pos h0]
    clear hs h0
    simp only [W1, W2, W3, Int.toNat_natCast]
    have q0 : (0 : Int) ≤ ((i + 1 : Nat) : Int) := by omega
    have q1 : (0 : Int) ≤ (i : Int) := by omega
    have q2 : (i : Int) ≤ ((i + 2 : Nat) : Int) := by omega
    have q3 : (i : Int) ≤ ((i + 1 : Nat) : Int) := by omega
    have q4 : out.length < 4398046511104 := by omega
    have q5 : ((i + 1 : Nat) : Int) ≤ (s.size : Int) := by omega
    simp only [if_pos q0, if_pos q1, if_pos q2, if_pos q3, if_pos q4, if_pos q5]
    clear W1 W2 W3 q0 q1 q2 q3 q4 q5
    unfold prF
    by_cases h1 : i + 1 < s.size
    · have q6 : ((i + 1 : Nat) : Int) < (s.size : Int) := by omega
      have q7 : ((i + 2 : Nat) : Int) ≤ (s.size : Int) := by omega
      simp only [if_pos q6, if_pos q7, decide_eq_true h1, Bool.true_and]
      clear q6 q7
      generalize bt s (i : Int) = c
      generalize bt s ((i + 1 : Nat) : Int) = d
      by_cases c1 : c = 58
      · subst c1; by_cases d1 : d = 61 <;> simp [d1]
      · by_cases c2 : c = 60
        · subst c2; by_cases d1 : d = 61
          · simp [d1]
          · by_cases d2 : d = 62 <;> simp [d1, d2]
        · by_cases c3 : c = 62
          · subst c3; by_cases d1 : d = 61 <;> simp [d1]
          · simp [c1, c2, c3]
    · have q6 : ¬ ((i + 1 : Nat) : Int) < (s.size : Int) := by omega
      simp only [if_neg q6, decide_eq_false h1, Bool.false_and]
      simp
  · rw [if_neg h0, if_neg h0]
theorem ref_l0 (s : ByteArray) (hz : s.size ≤ 1000) : ∀ (d i K : Nat) (out : List S58) (line : Int), s.size ≤ i + d → i ≤ s.size → out.length ≤ i → 0 ≤ line → line ≤ i + 1 → 100 + 5 * (s.size - i) ≤ K →
    ladderbackref47_Split.l0 K s out line false (i : Int) = some (tk s (d + 1) i out line) := by
  intro d
  induction d with
  | zero =>
    intro i K out line h1 h2 h3 h4 h5 h6
    obtain ⟨K, rfl⟩ : ∃ m, K = m + 1 := ⟨K - 1, by omega⟩
    unfold ladderbackref47_Split.l0 tk
    rw [if_neg (by omega), if_neg (by omega)]
  | succ d ih =>
    intro i K out line h1 h2 h3 h4 h5 h6
    by_cases hi : i < s.size
    · rw [show d + 1 + 1 = (d + 1) + 1 from rfl, tk.eq_2, if_pos hi]
      by_cases hL : isLetter (bt s (i : Int)) = true
      · have hs : ¬ spF (bt s (i : Int)) = true := by
          intro h
          have := letter_space s (i : Int) (by unfold spF at h; simpa [or_assoc] using h)
          rw [this] at hL
          cases hL
        have hg0 : goF s i 0 = true := by unfold goF; simp [hL]
        have e : wn s i (s.size - i) 0 = wn s i (s.size - i - 1) 1 := by
          rw [show s.size - i = (s.size - i - 1) + 1 by omega]
          conv => lhs; unfold wn
          rw [if_pos ⟨by omega, hg0⟩]
          rfl
        have hlim := wn_lim s i (s.size - i - 1) 1 (by omega)
        rw [if_neg hs, e, if_neg (by omega)]
        obtain ⟨K, rfl⟩ : ∃ m, K = m + 2 := ⟨K - 2, by omega⟩
        rw [ref_first s hz i K out line (by omega) hi (by omega) hL]
        exact ref_word s hz i out line (by omega) _ (s.size - i - 1) 1 K (by omega) (by omega) (by omega) (fun K' hK => ih _ K' _ line (by omega) (by omega) (by simp; omega) (by omega) (by omega) (by omega))
      · have hL' : isLetter (bt s (i : Int)) = false := by simpa using hL
        obtain ⟨K, rfl⟩ : ∃ m, K = m + 4 := ⟨K - 4, by omega⟩
        rw [show K + 4 = (((K + 1) + 1) + 1) + 1 from rfl]
        conv => lhs; unfold ladderbackref47_Split.l0
        rw [if_pos (by omega), if_pos (by omega), if_neg (by simp)]
        unfold ladderbackref47_Split.j1
        rw [part_f s _ _ (K + 1 + 1) (by omega), hL']
        rw [show (false || (bt s (i : Int) == 45 && (0 : Int) == 35)) = false by simp]
        simp only [Option.bind_some]
        rw [if_neg (by simp)]
        by_cases hs : spF (bt s (i : Int)) = true
        · rw [if_pos hs]
          have J : ∀ l : Int, ladderbackref47_Split.j2 (K + 1 + 1) s out l false (i : Int) (bt s (i : Int)) = ladderbackref47_Split.l0 K s out l false ((i + 1 : Nat) : Int) := by
            intro l
            have J3 : ladderbackref47_Split.j3 (K + 1) s out l false (i : Int) (bt s (i : Int)) true = ladderbackref47_Split.l0 K s out l false ((i + 1 : Nat) : Int) := by
              unfold ladderbackref47_Split.j3
              rw [if_pos rfl, w64 _ (by omega) (by omega)]
              rfl
            unfold ladderbackref47_Split.j2
            unfold spF at hs
            by_cases a1 : bt s (i : Int) = 32
            · rw [if_pos a1, J3]
            · rw [if_neg a1]
              by_cases a2 : bt s (i : Int) = 9
              · rw [if_pos a2, J3]
              · rw [if_neg a2]
                by_cases a3 : bt s (i : Int) = 13
                · rw [if_pos a3, J3]
                · rw [if_neg a3, show (bt s (i : Int) == 10) = true by simpa [a1, a2, a3] using hs, J3]
          by_cases hn : bt s (i : Int) = 10
          · rw [if_pos hn, if_pos hn, J, w64 _ (by omega) (by omega)]
            exact ih (i + 1) K out _ (by omega) (by omega) (by omega) (by omega) (by omega) (by omega)
          · rw [if_neg hn, if_neg hn, J]
            exact ih (i + 1) K out _ (by omega) (by omega) (by omega) (by omega) (by omega) (by omega)
        · have hs' := hs
          unfold spF at hs'
          simp only [Bool.or_eq_true, beq_iff_eq, not_or] at hs'
          obtain ⟨⟨⟨a1, a2⟩, a3⟩, a4⟩ := hs'
          have hg0 : ¬ goF s i 0 = true := by unfold goF; simp [hL']
          have e : wn s i (s.size - i) 0 = 0 := by
            rw [show s.size - i = (s.size - i - 1) + 1 by omega]
            unfold wn
            rw [if_neg (fun h => hg0 h.2)]
          rw [if_neg hs, if_pos e, if_neg a4]
          unfold ladderbackref47_Split.j2
          rw [if_neg a1, if_neg a2, if_neg a3, show (bt s (i : Int) == 10) = false by simpa using a4, j3_sign s hz i K out line (by omega) hi (by omega)]
          have hsg : sgF s i = if prF s i then 2 else if isSign (bt s (i : Int)) then 1 else 0 := rfl
          have hps : prF s i = true → isSign (bt s (i : Int)) = true := by
            intro h
            unfold prF at h
            simp only [Bool.and_eq_true, Bool.or_eq_true, beq_iff_eq] at h
            have : bt s (i : Int) = 58 ∨ bt s (i : Int) = 60 ∨ bt s (i : Int) = 62 := by
              rcases h.2 with ((h | h) | h) | h <;> simp [h.1]
            rcases this with h | h | h <;> rw [h] <;> decide +kernel
          have hlim := sg_lim s i hi
          by_cases hS : isSign (bt s (i : Int)) = true
          · have e2 : sgF s i = if prF s i then 2 else 1 := by rw [hsg, hS]; simp
            rw [if_pos hS, ← e2, if_neg (by rw [e2]; split <;> omega)]
            have : 1 ≤ sgF s i := by rw [e2]; split <;> omega
            exact ih _ K _ line (by omega) (by omega) (by simp; omega) (by omega) (by omega) (by omega)
          · have e2 : prF s i = false := by
              cases hp : prF s i
              · rfl
              · exact absurd (hps hp) hS
            have e3 : sgF s i = 0 := by rw [hsg, e2]; simp [hS]
            rw [if_neg hS, if_pos e3]
    · obtain ⟨K, rfl⟩ : ∃ m, K = m + 1 := ⟨K - 1, by omega⟩
      unfold ladderbackref47_Split.l0 tk
      rw [if_neg (by omega), if_neg (by omega)]
end Go.Proofs.Ytkkikddocgckbaa.Pure
