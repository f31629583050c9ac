/- decl.Scope walked by hand: what a unit stands in. -/
import Derived.Laws.CopyOwn
import Derived.Test.YtghhbdmggmdffaaZDeclChecksab
import Derived.Test.YtghhbdmggmdffaaZDeclChecksae
import Derived.Test.YtghhbdmggmdffaaZDeclChecksaf
import Derived.Test.YtghhbdmggmdffaaZDeclChecksag
import Derived.Test.YtghhbdmggmdffaaZDeclChecksah
section
/- The document's answers for declarations are the program's: plainly. -/
namespace Go.Proofs.Ytghhbdmggmdffaa.RPure
open Go.RowKit Go.Proofs.Ytghhbdmggmdffaa.PDe Go.Proofs.Ytghhbdmggmdffaa.Given Go.Proofs.YtghhbdmggmdffaaW.PrintWords Go.Proofs.YtghhbdmggmdffaaW.PrintLast Go.Proofs.YtghhbdmggmdffaaW.PrintMore
set_option linter.unusedVariables false
set_option linter.unusedSimpArgs false
theorem inB_is (t v : Int) : inB t v = inF t v := Option.some.inj ((in_is t v).symm.trans (kin_is t v))
theorem good_is (x : S45) : goodV x = varB x := by
  unfold goodV varB
  rw [inB_is]
  rw [Bool.eq_iff_iff]
  simp only [Bool.and_eq_true, decide_eq_true_eq]
  constructor
  · rintro ⟨⟨h1, h2⟩, h3, h4, h5, h6⟩; exact ⟨⟨⟨⟨⟨h1, h3⟩, h4⟩, h5⟩, h6⟩, h2⟩
  · rintro ⟨⟨⟨⟨⟨h1, h3⟩, h4⟩, h5⟩, h6⟩, h2⟩; exact ⟨⟨h1, h2⟩, h3, h4, h5, h6⟩
theorem goodb_is (x : S47) : goodB x = blkB x := rfl
def tabE (V : LV) (B : LB) : Int := firstF [errF (manyF V B) 5, okE (V.all varB && B.all blkB)]
theorem tab_is (V : LV) (B : LB) : tabF V B = tabE V B := by
  unfold tabF tabE
  rw [show V.all goodV = V.all varB from congrArg _ (funext good_is), show B.all goodB = B.all blkB from congrArg _ (funext goodb_is)]
  by_cases h : 64 < V.length ∨ 32 < B.length
  · have hm : manyF V B = true := by unfold manyF; rw [Bool.or_eq_true, decide_eq_true_eq, decide_eq_true_eq]; omega
    rw [if_pos h, hm]
    rfl
  · have hm : manyF V B = false := by unfold manyF; rw [Bool.or_eq_false_iff, decide_eq_false_iff_not, decide_eq_false_iff_not]; omega
    rw [if_neg h, hm]
    cases V.all varB <;> cases B.all blkB <;> rfl
theorem types_app (a b : List Int) : typesF (a ++ b) = (typesF a && typesF b) := by unfold typesF; rw [List.all_append]
theorem slots_typ (P : List Int) (R : Int) (L : List Int) : typesF (slotsF P R L) = (typesF P && ((R == 0) || decide (1 ≤ R ∧ R ≤ 6)) && typesF L) := by
  unfold slotsF
  rw [types_app, types_app]
  by_cases h : R = 0
  · rw [if_pos h, beq_iff_eq.2 h]; rfl
  · rw [if_neg h, beq_eq_false_iff_ne.2 h, Bool.false_or]
    congr 1
    congr 1
    unfold typesF
    simp
theorem rhead_l1 (P : List Int) (R : Int) (L : List Int) (main : Bool) (hL : L.length ≤ 10000) : ∀ m i k : Nat, i + m = L.length → m < k →
    ladderbackref17_Head.l1 k P R L main (i : Int) = some (if (((R == 0) || decide (1 ≤ R ∧ R ≤ 6)) && typesF (L.drop i)) = true then errF (main && (decide (0 < P.length) || (R != 0))) 10 else 10)
  | 0, i, k, h, hk => by
    obtain ⟨k, rfl⟩ : ∃ m, k = m + 1 := ⟨k - 1, by omega⟩
    rw [ladderbackref17_Head.l1, if_neg (by omega), List.drop_of_length_le (by omega)]
    rw [show typesF [] = true from rfl, Bool.and_true, rright_is, Option.bind_some]
    by_cases h1 : R = 0
    · rw [if_pos h1, beq_iff_eq.2 h1, Bool.true_or, if_pos rfl, show (R != 0) = false by simp [h1], Bool.or_false]
      cases main
      · rfl
      · rw [if_pos rfl, Bool.true_and]
        by_cases h2 : 0 < P.length
        · rw [if_pos (by omega), decide_eq_true h2]; rfl
        · rw [if_neg (by omega), decide_eq_false h2]; rfl
    · rw [if_neg h1, beq_eq_false_iff_ne.2 h1, Bool.false_or, show (R != 0) = true by simpa using h1, Bool.or_true, Bool.and_true]
      by_cases h2 : 1 ≤ R ∧ R ≤ 6
      · rw [decide_eq_true h2, if_pos rfl, if_pos rfl]
        cases main
        · rfl
        · rw [if_pos rfl]; split <;> rfl
      · rw [decide_eq_false h2, if_neg (by decide), if_neg (by decide)]
  | m + 1, i, k, h, hk => by
    obtain ⟨k, rfl⟩ : ∃ m, k = m + 1 := ⟨k - 1, by omega⟩
    rw [ladderbackref17_Head.l1, if_pos (by omega), if_pos (by omega), rright_is, Option.bind_some, w64 _ (by omega) (by omega)]
    have ih := rhead_l1 P R L main hL m (i + 1) k (by omega) (by omega)
    rw [show ((i + 1 : Nat) : Int) = (i : Int) + 1 by omega] at ih
    rw [ih, rd_drop L i (by omega)]
    have e : typesF (rd L (i : Int) :: L.drop (i + 1)) = (decide (1 ≤ rd L (i : Int) ∧ rd L (i : Int) ≤ 6) && typesF (L.drop (i + 1))) := rfl
    rw [e]
    by_cases h2 : 1 ≤ rd L (i : Int) ∧ rd L (i : Int) ≤ 6
    · rw [decide_eq_true h2, if_pos rfl, Bool.true_and]
    · rw [decide_eq_false h2, if_neg (by decide), Bool.false_and, Bool.and_false, if_neg (by decide)]
theorem rhead_l0 (P : List Int) (R : Int) (L : List Int) (main : Bool) (hP : P.length ≤ 10000) (hL : L.length ≤ 10000) : ∀ m i k : Nat, i + m = P.length → m + 10001 < k →
    ladderbackref17_Head.l0 k P R L main (i : Int) = some (if (typesF (P.drop i) && ((R == 0) || decide (1 ≤ R ∧ R ≤ 6)) && typesF L) = true then errF (main && (decide (0 < P.length) || (R != 0))) 10 else 10)
  | 0, i, k, h, hk => by
    obtain ⟨k, rfl⟩ : ∃ m, k = m + 1 := ⟨k - 1, by omega⟩
    rw [ladderbackref17_Head.l0, if_neg (by omega), List.drop_of_length_le (by omega)]
    have := rhead_l1 P R L main hL L.length 0 k (by omega) (by omega)
    rw [List.drop_zero] at this
    exact this
  | m + 1, i, k, h, hk => by
    obtain ⟨k, rfl⟩ : ∃ m, k = m + 1 := ⟨k - 1, by omega⟩
    rw [ladderbackref17_Head.l0, if_pos (by omega), if_pos (by omega), rright_is, Option.bind_some, w64 _ (by omega) (by omega)]
    have ih := rhead_l0 P R L main hP hL m (i + 1) k (by omega) (by omega)
    rw [show ((i + 1 : Nat) : Int) = (i : Int) + 1 by omega] at ih
    rw [ih, rd_drop P i (by omega)]
    have e : typesF (rd P (i : Int) :: P.drop (i + 1)) = (decide (1 ≤ rd P (i : Int) ∧ rd P (i : Int) ≤ 6) && typesF (P.drop (i + 1))) := rfl
    rw [e]
    by_cases h2 : 1 ≤ rd P (i : Int) ∧ rd P (i : Int) ≤ 6
    · rw [decide_eq_true h2, if_pos rfl, Bool.true_and]
    · rw [decide_eq_false h2, if_neg (by decide), Bool.false_and, Bool.false_and, Bool.false_and, if_neg (by decide)]
theorem rhead_is (P : List Int) (R : Int) (L : List Int) (main : Bool) (hP : P.length ≤ 10000) (hL : L.length ≤ 10000) (k : Nat) (hk : 21000 ≤ k) : ladderbackref17_Head.f k P R L main = some (headF P R L main) := by
  obtain ⟨k, rfl⟩ : ∃ m, k = m + 2 := ⟨k - 2, by omega⟩
  have j1t : ∀ k, 1 ≤ k → ladderbackref17_Head.j1 k P R L main true = some 5 := fun k hk => by
    obtain ⟨k, rfl⟩ : ∃ m, k = m + 1 := ⟨k - 1, by omega⟩
    rw [ladderbackref17_Head.j1, if_pos rfl]
  have ln : ((slotsF P R L).length : Int) = if R = 0 then (P.length : Int) + (L.length : Int) else (P.length : Int) + (L.length : Int) + 1 := by
    unfold slotsF
    split <;> simp <;> omega
  have hj : ∀ n : Int, n = ((slotsF P R L).length : Int) → ladderbackref17_Head.j0 (k + 2) P R L main n = some (headF P R L main) := fun n hn => by
    subst hn
    rw [ladderbackref17_Head.j0]
    unfold headF
    rw [slots_typ]
    by_cases a : (P.length : Int) > 8
    · rw [if_pos a, j1t _ (by omega), decide_eq_true (show 8 < (P.length : Int) from a), Bool.true_or]; rfl
    · rw [if_neg a, decide_eq_false (show ¬ 8 < (P.length : Int) from a), Bool.false_or]
      by_cases b : ((slotsF P R L).length : Int) > 1024
      · rw [decide_eq_true b, j1t _ (by omega)]; rfl
      · rw [decide_eq_false b, ladderbackref17_Head.j1, if_neg (by decide)]
        have := rhead_l0 P R L main hP hL P.length 0 k (by omega) (by omega)
        rw [List.drop_zero] at this
        rw [show ((0 : Nat) : Int) = 0 from rfl] at this
        rw [this]
        generalize (typesF P && ((R == 0) || decide (1 ≤ R ∧ R ≤ 6)) && typesF L) = t
        generalize (main && (decide (0 < P.length) || (R != 0))) = m
        cases t <;> cases m <;> rfl
  unfold ladderbackref17_Head.f
  by_cases h : R = 0
  · rw [if_pos h]
    exact hj _ (by rw [ln, if_pos h, w64 _ (by omega) (by omega)])
  · rw [if_neg h]
    exact hj _ (by rw [ln, if_neg h, w64 ((P.length : Int) + (L.length : Int)) (by omega) (by omega), w64 _ (by omega) (by omega)])
theorem rcheck_l1 (C : LC) (V : LV) (B : LB) (U : LU) (hl : U.length ≤ 9000) (hU : Ok U) : ∀ m i k : Nat, i + m = U.length → m + 21000 < k → ladderbackref17_Check.l1 k (i : Int) C V B U = some (headsF ((i : Int) == 0) (U.drop i))
  | 0, i, k, h, hk => by
    obtain ⟨k, rfl⟩ : ∃ m, k = m + 1 := ⟨k - 1, by omega⟩
    rw [ladderbackref17_Check.l1, if_neg (by omega), List.drop_of_length_le (by omega)]
    rfl
  | m + 1, i, k, h, hk => by
    obtain ⟨k, rfl⟩ : ∃ m, k = m + 1 := ⟨k - 1, by omega⟩
    have hm : rd_T41 U (i : Int) ∈ U := List.mem_of_mem_drop (i := i) (by rw [rdu U i (by omega)]; exact List.mem_cons_self)
    obtain ⟨o1, o2, o3⟩ := hU _ hm
    rw [ladderbackref17_Check.l1, if_pos (by omega), if_pos (by omega), rhead_is _ _ _ _ (by omega) (by omega) k (by omega), Option.bind_some, w64 _ (by omega) (by omega)]
    have ih := rcheck_l1 C V B U hl hU m (i + 1) k (by omega) (by omega)
    rw [show ((i + 1 : Nat) : Int) = (i : Int) + 1 by omega, show (((i : Int) + 1) == 0) = false from beq_eq_false_iff_ne.2 (by omega)] at ih
    rw [ih, rdu U i (by omega)]
    generalize rd_T41 U (i : Int) = X at *
    rw [headsF]
    by_cases a : headF X.f1 X.f2 X.f3 ((i : Int) == 0) = 0
    · rw [if_pos a]
      unfold unitE
      rw [if_pos a]
      by_cases b : (X.f4.length : Int) < 1
      · rw [if_pos b, decide_eq_true b]; rfl
      · rw [if_neg b, decide_eq_false b]
        by_cases c : (X.f4.length : Int) > 16384
        · rw [if_pos c, decide_eq_true (show 16384 < (X.f4.length : Int) from c)]; rfl
        · rw [if_neg c, decide_eq_false (show ¬ 16384 < (X.f4.length : Int) from c)]; rfl
    · rw [if_neg a]
      have : unitE X ((i : Int) == 0) = headF X.f1 X.f2 X.f3 ((i : Int) == 0) := by unfold unitE; rw [if_neg a]
      rw [this, if_neg a]
theorem in_right {t v : Int} (h : inF t v = true) : 1 ≤ t ∧ t ≤ 6 := by
  rw [← inB_is] at h
  have e := in_is t v
  unfold kind_In.f at e
  rw [kright_is, Option.bind_some] at e
  by_cases a : 1 ≤ t ∧ t ≤ 6
  · exact a
  · rw [decide_eq_false a, if_neg (by decide)] at e
    have := Option.some.inj e
    rw [← this] at h
    cases h
theorem rcheck_l0 (C : LC) (V : LV) (B : LB) (U : LU) (hC : C.length ≤ 9000) (hl : U.length ≤ 9000) (hU : Ok U) : ∀ m i k : Nat, i + m = C.length → m + 30002 < k → ladderbackref17_Check.l0 k (i : Int) C V B U = some (if (C.drop i).all constB = true then (if tabF V B = 0 then headsF true U else tabF V B) else 10)
  | 0, i, k, h, hk => by
    obtain ⟨k, rfl⟩ : ∃ m, k = m + 1 := ⟨k - 1, by omega⟩
    rw [ladderbackref17_Check.l0, if_neg (by omega), List.drop_of_length_le (by omega)]
    have e := rcheck_l1 C V B U hl hU U.length 0 k (by omega) (by omega)
    rw [List.drop_zero, show ((0 : Nat) : Int) = 0 from rfl, show ((0 : Int) == 0) = true from rfl] at e
    rw [show ladderbackref17_Tables.f V B = some (tabF V B) from rfl, Option.bind_some, e, List.all_nil, if_pos rfl]
    split <;> rfl
  | m + 1, i, k, h, hk => by
    obtain ⟨k, rfl⟩ : ∃ m, k = m + 1 := ⟨k - 1, by omega⟩
    rw [ladderbackref17_Check.l0, if_pos (by omega), if_pos (by omega), rright_is, Option.bind_some, rin_is, Option.bind_some, w64 _ (by omega) (by omega)]
    have ih := rcheck_l0 C V B U hC hl hU m (i + 1) k (by omega) (by omega)
    rw [show ((i + 1 : Nat) : Int) = (i : Int) + 1 by omega] at ih
    rw [ih, rdc C i (by omega), List.all_cons]
    generalize rd_T61 C (i : Int) = c
    have e : constB c = inF c.f0 c.f1 := inB_is _ _
    rw [e]
    by_cases a : inF c.f0 c.f1 = true
    · rw [decide_eq_true (in_right a), if_pos rfl, if_pos a, a, Bool.true_and]
    · rw [if_neg a, show inF c.f0 c.f1 = false by simpa using a, Bool.false_and, if_neg (show ¬ (false = true) by decide)]
      split <;> rfl
theorem rcheck_is (C : LC) (V : LV) (B : LB) (U : LU) (hC : C.length ≤ 9000) (hl : U.length ≤ 9000) (hU : Ok U) (k : Nat) (hk : 40000 ≤ k) : ladderbackref17_Check.f k C V B U = some (checkF C V B U) := by
  obtain ⟨k, rfl⟩ : ∃ m, k = m + 1 := ⟨k - 1, by omega⟩
  unfold ladderbackref17_Check.f checkF
  have jt : ladderbackref17_Check.j0 (k + 1) true C V B U = some 5 := by rw [ladderbackref17_Check.j0, if_pos rfl]
  by_cases h1 : (U.length : Int) < 1
  · rw [if_pos h1, jt, show lims C V B U = true by unfold lims; rw [decide_eq_true h1]; rfl]; rfl
  rw [if_neg h1]
  by_cases h2 : (U.length : Int) > 8
  · rw [if_pos h2, jt, show lims C V B U = true by unfold lims; rw [decide_eq_true (show 8 < (U.length : Int) from h2), Bool.or_true]; rfl]; rfl
  rw [if_neg h2]
  by_cases h3 : (C.length : Int) > 1024
  · rw [if_pos h3, jt, show lims C V B U = true by unfold lims; rw [decide_eq_true (show 1024 < (C.length : Int) from h3), Bool.or_true]; rfl]; rfl
  rw [if_neg h3]
  have hl_ : lims C V B U = manyF V B := by unfold lims; rw [decide_eq_false h1, decide_eq_false (show ¬ 8 < (U.length : Int) from h2), decide_eq_false (show ¬ 1024 < (C.length : Int) from h3)]; rfl
  rw [hl_]
  by_cases h4 : (V.length : Int) > 64
  · rw [if_pos h4, jt, show manyF V B = true by unfold manyF; rw [decide_eq_true (show 64 < (V.length : Int) from h4)]; rfl]; rfl
  rw [if_neg h4]
  by_cases h5 : (B.length : Int) > 32
  · rw [decide_eq_true h5, jt, show manyF V B = true by unfold manyF; rw [decide_eq_true (show 32 < (B.length : Int) from h5), Bool.or_true]]; rfl
  have hm : manyF V B = false := by unfold manyF; rw [decide_eq_false (show ¬ 64 < (V.length : Int) from h4), decide_eq_false (show ¬ 32 < (B.length : Int) from h5)]; rfl
  rw [decide_eq_false h5, ladderbackref17_Check.j0, if_neg (by decide), hm]
  have e := rcheck_l0 C V B U hC hl hU C.length 0 k (by omega) (by omega)
  rw [List.drop_zero, show ((0 : Nat) : Int) = 0 from rfl] at e
  rw [e, tab_is]
  unfold tabE
  rw [hm]
  cases C.all constB
  · rfl
  · rw [if_pos rfl]
    cases (V.all varB && B.all blkB)
    · rfl
    · show some (headsF true U) = some (firstF [0, 0, 0, headsF true U])
      unfold firstF firstF firstF firstF firstF
      by_cases h : headsF true U = 0
      · simp [h]
      · simp [h]
theorem ints_l0 (l : List Int) (hl : l.length ≤ 100000) : ∀ m i k : Nat, i + m = l.length → m < k → ladderbackref15_Ints.l0 k l l (i : Int) = some true
  | 0, i, k, h, hk => by
    obtain ⟨k, rfl⟩ : ∃ m, k = m + 1 := ⟨k - 1, by omega⟩
    rw [ladderbackref15_Ints.l0, if_neg (by omega)]
  | m + 1, i, k, h, hk => by
    obtain ⟨k, rfl⟩ : ∃ m, k = m + 1 := ⟨k - 1, by omega⟩
    have ih := ints_l0 l hl m (i + 1) k (by omega) (by omega)
    rw [show ((i + 1 : Nat) : Int) = (i : Int) + 1 by omega] at ih
    rw [ladderbackref15_Ints.l0, if_pos (by omega), if_pos (by omega), if_pos (by omega), if_pos rfl, w64 _ (by omega) (by omega), ih]
theorem ints_is (l : List Int) (hl : l.length ≤ 100000) (k : Nat) (hk : l.length < k) : ladderbackref15_Ints.f k l l = some true := by
  unfold ladderbackref15_Ints.f
  rw [if_pos rfl]
  exact ints_l0 l hl l.length 0 k (by omega) hk
theorem vars_l0 (l : LV) (hl : l.length ≤ 100000) : ∀ m i k : Nat, i + m = l.length → m < k → ladderbackref14_SameVars.l0 k l l (i : Int) = some true
  | 0, i, k, h, hk => by
    obtain ⟨k, rfl⟩ : ∃ m, k = m + 1 := ⟨k - 1, by omega⟩
    rw [ladderbackref14_SameVars.l0, if_neg (by omega)]
  | m + 1, i, k, h, hk => by
    obtain ⟨k, rfl⟩ : ∃ m, k = m + 1 := ⟨k - 1, by omega⟩
    have ih := vars_l0 l hl m (i + 1) k (by omega) (by omega)
    rw [show ((i + 1 : Nat) : Int) = (i : Int) + 1 by omega] at ih
    rw [ladderbackref14_SameVars.l0, if_pos (by omega), if_pos (by omega), if_pos (by omega), if_neg (by simp), w64 _ (by omega) (by omega), ih]
theorem blocks_l0 (l : LB) (hl : l.length ≤ 100000) : ∀ m i k : Nat, i + m = l.length → m < k → ladderbackref14_SameBlocks.l0 k l l (i : Int) = some true
  | 0, i, k, h, hk => by
    obtain ⟨k, rfl⟩ : ∃ m, k = m + 1 := ⟨k - 1, by omega⟩
    rw [ladderbackref14_SameBlocks.l0, if_neg (by omega)]
  | m + 1, i, k, h, hk => by
    obtain ⟨k, rfl⟩ : ∃ m, k = m + 1 := ⟨k - 1, by omega⟩
    have ih := blocks_l0 l hl m (i + 1) k (by omega) (by omega)
    rw [show ((i + 1 : Nat) : Int) = (i : Int) + 1 by omega] at ih
    rw [ladderbackref14_SameBlocks.l0, if_pos (by omega), if_pos (by omega), if_pos (by omega), if_neg (by simp), w64 _ (by omega) (by omega), ih]
theorem scope_l0 (V : LV) (B : LB) (G : List S66) (S : List Int) (hl : G.length ≤ 10000) (hG : ∀ x ∈ G, x.f0.length ≤ 10000) : ∀ m i k : Nat, i + m = G.length → m + 10001 < k → ladderbackref17_SameScope.l0 k (i : Int) V B G S V B G S = some true
  | 0, i, k, h, hk => by
    obtain ⟨k, rfl⟩ : ∃ m, k = m + 1 := ⟨k - 1, by omega⟩
    rw [ladderbackref17_SameScope.l0, if_neg (by omega)]
  | m + 1, i, k, h, hk => by
    obtain ⟨k, rfl⟩ : ∃ m, k = m + 1 := ⟨k - 1, by omega⟩
    have ih := scope_l0 V B G S hl hG m (i + 1) k (by omega) (by omega)
    rw [show ((i + 1 : Nat) : Int) = (i : Int) + 1 by omega] at ih
    have hm : rd_T66 G (i : Int) ∈ G := by
      unfold rd_T66
      rw [Int.toNat_natCast, List.getD_eq_getElem?_getD, List.getElem?_eq_getElem (show i < G.length by omega)]
      exact List.getElem_mem _
    have := hG _ hm
    rw [ladderbackref17_SameScope.l0, if_pos (by omega), if_pos (by omega), if_pos (by omega), if_pos rfl, ints_is _ (by omega) k (by omega), Option.bind_some, if_pos rfl, w64 _ (by omega) (by omega), ih]
theorem same_is (V : LV) (B : LB) (G : List S66) (S : List Int) (hV : V.length ≤ 10000) (hB : B.length ≤ 10000) (hl : G.length ≤ 10000) (hG : ∀ x ∈ G, x.f0.length ≤ 10000) (hS : S.length ≤ 30000) (k : Nat) (hk : 40000 ≤ k) : ladderbackref17_SameScope.f k V B G S V B G S = some true := by
  obtain ⟨k, rfl⟩ : ∃ m, k = m + 1 := ⟨k - 1, by omega⟩
  have e1 : ladderbackref14_SameVars.f (k + 1) V V = some true := by unfold ladderbackref14_SameVars.f; rw [if_pos rfl]; exact vars_l0 V (by omega) V.length 0 (k + 1) (by omega) (by omega)
  have e2 : ladderbackref14_SameBlocks.f (k + 1) B B = some true := by unfold ladderbackref14_SameBlocks.f; rw [if_pos rfl]; exact blocks_l0 B (by omega) B.length 0 (k + 1) (by omega) (by omega)
  unfold ladderbackref17_SameScope.f
  rw [e1, Option.bind_some, if_pos rfl, e2, Option.bind_some, if_pos rfl, ints_is S (by omega) (k + 1) (by omega), Option.bind_some, if_pos rfl, bne_self_eq_false, ladderbackref17_SameScope.j0, if_neg (by decide)]
  exact scope_l0 V B G S hl hG G.length 0 k (by omega) (by omega)
end Go.Proofs.Ytghhbdmggmdffaa.RPure
end

section
/- Printed by a program of this session (wip/pg.py, over the print of the kit): functions, their Lean twins, and the proofs that the calls come to them; each under the conditions that it names. -/
namespace Go.Proofs.Ytghhbdmggmdffaa.PDe
open Go.Proofs.Ytghhbdmggmdffaa.Given
open Go.RowKit Go.Proofs.YtghhbdmggmdffaaW.PrintWords Go.Proofs.YtghhbdmggmdffaaW.PrintLast Go.Proofs.YtghhbdmggmdffaaW.PrintMore
attribute [local go_sem] max2_int min2_int max_two min_two max_three min_three max_four min_four   -- for this text's walks alone
set_option linter.unusedVariables false
set_option linter.unusedSimpArgs false

/-! ### ladderbacklaw17_awake: function 7 -/
def ladderbacklaw17_awake.f (k : Nat)  : Option (Bool) := (decl_Check.f ([] : List (S61)) ([] : List (S45)) ([] : List (S47)) ([] : List (S41))).bind fun t151 => (if t151 = 5 then ((decl_Check.f ([] : List (S61)) ([] : List (S45)) ([] : List (S47)) (([(⟨(⟨#[]⟩ : ByteArray), ([] : List Int), 0, ([] : List Int), (([(⟨34, 0, 0⟩ : S56)] : List (S56)))⟩ : S41)] : List (S41)))).bind fun t158 => (if t158 = 0 then (if 2 ≤ 2932031007402 then ((decl_Sigs.f k (List.replicate 2 z41)).bind fun t162 => (some ((t162.length : Int) == 2))) else (none)) else (some false))) else (some false))
set_option maxHeartbeats 8000000 in
set_option maxRecDepth 100000 in
theorem ladderbacklaw17_awake.calls (k : Nat)  (r : Bool) (w : World) (h : ladderbacklaw17_awake.f k  = some r) :
    Calls Try.prog 7 #[] w fun e w' => e = .returned (.bool r) ∧ Below w.heap.size w w' := by
  have hu27 := Try.underlying27
  have hu56 := Try.underlying56
  have hu41 := Try.underlying41
  have HB := Aside0.mk (Below.refl w.heap.size w)
  have H : ((decl_Check.f ([] : List (S61)) ([] : List (S45)) ([] : List (S47)) ([] : List (S41))).bind fun t151 => (if t151 = 5 then ((decl_Check.f ([] : List (S61)) ([] : List (S45)) ([] : List (S47)) (([(⟨(⟨#[]⟩ : ByteArray), ([] : List Int), 0, ([] : List Int), (([(⟨34, 0, 0⟩ : S56)] : List (S56)))⟩ : S41)] : List (S41)))).bind fun t158 => (if t158 = 0 then (if 2 ≤ 2932031007402 then ((decl_Sigs.f k (List.replicate 2 z41)).bind fun t162 => (some ((t162.length : Int) == 2))) else (none)) else (some false))) else (some false))) = some r := h
  clear h
  replace H := Option.bind_eq_some_iff.mp H
  obtain ⟨t151, A10, H⟩ := H
  replace H : (if t151 = 5 then ((decl_Check.f ([] : List (S61)) ([] : List (S45)) ([] : List (S47)) (([(⟨(⟨#[]⟩ : ByteArray), ([] : List Int), 0, ([] : List Int), (([(⟨34, 0, 0⟩ : S56)] : List (S56)))⟩ : S41)] : List (S41)))).bind fun t158 => (if t158 = 0 then (if 2 ≤ 2932031007402 then ((decl_Sigs.f k (List.replicate 2 z41)).bind fun t162 => (some ((t162.length : Int) == 2))) else (none)) else (some false))) else (some false)) = some r := H
  have A1 := Aside0.mk A10
  clear A10
  by_cases c2 : t151 = 5
  · rw [if_pos c2] at H
    have c2b0 : (t151 == 5) = true := beq_iff_eq.mpr c2
    have c2b1 : (t151 != 5) = false := bne_eq_false_iff_eq.mpr c2
    clear c2
    obtain ⟨y152, hy152⟩ : ∃ y_ : List (S56), y_ = (([(⟨34, 0, 0⟩ : S56)] : List (S56))) := ⟨_, rfl⟩
    replace H : ((decl_Check.f ([] : List (S61)) ([] : List (S45)) ([] : List (S47)) (([(⟨(⟨#[]⟩ : ByteArray), ([] : List Int), 0, ([] : List Int), y152⟩ : S41)] : List (S41)))).bind fun t158 => (if t158 = 0 then (if 2 ≤ 2932031007402 then ((decl_Sigs.f k (List.replicate 2 z41)).bind fun t162 => (some ((t162.length : Int) == 2))) else (none)) else (some false))) = some r := by first | (rw [hy152]; with_reducible exact H) | (have H2_ := (Option.bind_some _ _).symm.trans H; rw [hy152]; with_reducible exact H2_) | (have H2_ := (Option.bind_some _ _).symm.trans H; with_reducible exact H2_) | with_reducible exact H | (rw [hy152]; exact H) | exact H
    have Ny152 := Aside0.mk hy152
    clear hy152
    obtain ⟨y155, hy155⟩ : ∃ y_ : List (S41), y_ = (([(⟨(⟨#[]⟩ : ByteArray), ([] : List Int), 0, ([] : List Int), y152⟩ : S41)] : List (S41))) := ⟨_, rfl⟩
    replace H : ((decl_Check.f ([] : List (S61)) ([] : List (S45)) ([] : List (S47)) y155).bind fun t158 => (if t158 = 0 then (if 2 ≤ 2932031007402 then ((decl_Sigs.f k (List.replicate 2 z41)).bind fun t162 => (some ((t162.length : Int) == 2))) else (none)) else (some false))) = some r := by first | (rw [hy155]; with_reducible exact H) | (have H2_ := (Option.bind_some _ _).symm.trans H; rw [hy155]; with_reducible exact H2_) | (have H2_ := (Option.bind_some _ _).symm.trans H; with_reducible exact H2_) | with_reducible exact H | (rw [hy155]; exact H) | exact H
    have Ny155 := Aside0.mk hy155
    clear hy155
    replace H := Option.bind_eq_some_iff.mp H
    obtain ⟨t158, A30, H⟩ := H
    replace H : (if t158 = 0 then (if 2 ≤ 2932031007402 then ((decl_Sigs.f k (List.replicate 2 z41)).bind fun t162 => (some ((t162.length : Int) == 2))) else (none)) else (some false)) = some r := H
    have A3 := Aside0.mk A30
    clear A30
    by_cases c4 : t158 = 0
    · rw [if_pos c4] at H
      have c4b0 : (t158 == 0) = true := beq_iff_eq.mpr c4
      have c4b1 : (t158 != 0) = false := bne_eq_false_iff_eq.mpr c4
      clear c4
      by_cases c5 : 2 ≤ 2932031007402
      · rw [if_pos c5] at H
        have c5b0 := eq_true c5
        have c5b1 : decide (2 ≤ 2932031007402) = true := decide_eq_true c5
        clear c5
        obtain ⟨y159, hy159⟩ : ∃ y_ : List (S41), y_ = (List.replicate 2 z41) := ⟨_, rfl⟩
        replace H : ((decl_Sigs.f k y159).bind fun t162 => (some ((t162.length : Int) == 2))) = some r := by first | (rw [hy159]; with_reducible exact H) | (have H2_ := (Option.bind_some _ _).symm.trans H; rw [hy159]; with_reducible exact H2_) | (have H2_ := (Option.bind_some _ _).symm.trans H; with_reducible exact H2_) | with_reducible exact H | (rw [hy159]; exact H) | exact H
        have Ny159 := Aside0.mk hy159
        clear hy159
        replace H := Option.bind_eq_some_iff.mp H
        obtain ⟨t162, A60, H⟩ := H
        replace H : (some ((t162.length : Int) == 2)) = some r := H
        have A6 := Aside0.mk A60
        clear A60
        obtain rfl := Option.some.inj H
        go_enter Try.func7, Try.ntmps7
        go_wp2_with (first | ((with_reducible refine gate_callee (f := 6) rfl ?_); refine goesL_ (some 2) rfl rfl Try.func6 (by kernel_rfl) rfl #[.agg #[.slice none 0 0, .slice none 0 0, .slice none 0 0, .slice none 0 0]] rfl (by (try simp only [List.map_toArray, List.map_cons, List.map_nil]); first | done | rfl | (simp only [List.length_drop, List.length_take]; rfl)) ?_; (refine (decl_Check.calls _ _ ([] : List (S61)) _ _ ([] : List (S45)) _ _ ([] : List (S47)) _ _ ([] : List (S41)) t151 _ ?side1 ?side2 ?side3 ?side4 ?side5 ?side6 ?side7 ?side8 A1.out).mono ?_); (case side1 => exact Kd.C_nil _ _); (case side2 => exact Nat.le_refl _); (case side3 => exact Kd.C_nil _ _); (case side4 => exact Nat.le_refl _); (case side5 => exact Kd.C_nil _ _); (case side6 => exact Nat.le_refl _); (case side7 => exact Kd.C_nil _ _); (case side8 => exact Nat.le_refl _); rintro e w7 ⟨rfl, hb⟩; refine ⟨_, rfl, ?_⟩; have n0_ := Aside0.mk (below_step (by repeat (first | (with_reducible first | exact HB.out | apply below_alloc | apply pw_below_drewN | apply below_drew1) | exact HB.out)) hb); clear HB; have HB := n0_; clear n0_; (try clear hb); (try clear hb2); (try clear hk); (try clear hi)) | ((with_reducible refine gate_dst (N := 6) rfl ?_); (try (refine gate_guard (by rfl) ?_; dsimp only)); refine Kd.R_lit k56 _ 56 ?hg (N := 6) ?hd (xs := ([(⟨34, 0, 0⟩ : S56)] : List (S56))) (inner := [.int .i64 34, .int .i64 0, .int .i64 0]) (ok := fun _ => True) (okp := fun _ => True) ?hr ?hp (fun _ hk => hk) trivial (Below.refl _ _) (Nat.le_refl _) (by simp) ?_; (case hd => rfl); (case hg => rfl); (case hr => first | (go_simp; done) | (go_simp; rfl)); (case hp => exact (Reps.c3 (show Kd.M k56 _ _ _ (⟨34, 0, 0⟩ : S56) [.int .i64 34, .int .i64 0, .int .i64 0] from (k56_mkM _ _ _ (⟨34, 0, 0⟩ : S56) )) (Reps.none _ _))); intro v153 w8 ho9 hb hg_ hnew_; clear hg_ hnew_; (first | rw [← Ny152.out] at ho9 | (simp only [Int.reduceToNat] at ho9; rw [← Ny152.out] at ho9)); have n0_ := Aside0.mk (Kd.R_lower ho9 (below_size (by repeat (first | (with_reducible first | exact HB.out | apply below_alloc | apply pw_below_drewN | apply below_drew1) | exact HB.out)))); have n1_ := Aside0.mk (below_step (by repeat (first | (with_reducible first | exact HB.out | apply below_alloc | apply pw_below_drewN | apply below_drew1) | exact HB.out)) hb); clear HB; have HO154 := n0_; have HB := n1_; clear n0_ n1_; clear hb ho9; obtain ⟨Ao10, co10, eo10⟩ := Kd.R_slice HO154.out; subst eo10) | ((with_reducible refine gate_dst (N := 8) rfl ?_); (try (refine gate_guard (by rfl) ?_; dsimp only)); refine Kd.N_lit k41 _ 41 ?hg (N' := 8) ?hd (xs := ([(⟨(⟨#[]⟩ : ByteArray), ([] : List Int), 0, ([] : List Int), y152⟩ : S41)] : List (S41))) (inner := [.string (⟨#[]⟩ : ByteArray), .slice none 0 0, .int .i64 0, .slice none 0 0, .slice Ao10 y152.length co10]) (ok := (fun _ => True)) (okp := (fun _ => True)) ?hr ?hp (fun _ hk => hk) ((show ∀ k_, w8.heap.size ≤ k_ → (fun _ => True) k_ from fun k_ hk => trivial) _ (Nat.le_refl _)) (Below.refl _ _) (Nat.le_refl _) (by simp) ?_; (case hd => rfl); (case hg => rfl); (case hr => first | (go_simp; done) | (go_simp; rfl)); (case hp => exact (Reps.c5 (show Kd.FK k41 _ _ (⟨(⟨#[]⟩ : ByteArray), ([] : List Int), 0, ([] : List Int), y152⟩ : S41) [.string (⟨#[]⟩ : ByteArray), .slice none 0 0, .int .i64 0, .slice none 0 0, .slice Ao10 y152.length co10] from (k41_mkF _ _ (⟨(⟨#[]⟩ : ByteArray), ([] : List Int), 0, ([] : List Int), y152⟩ : S41) (Nat.le_refl _) (Kd.F_nil _ _ _) (Nat.le_refl _) (Kd.F_nil _ _ _) (Kd.R_reads' (Kd.R_mono (ok' := (fun _ => True)) (HO154.out) (fun k_ hk => trivial))).2.1 (Kd.R_F (Kd.R_mono (ok' := (fun _ => True)) (HO154.out) (fun k_ hk => trivial))))) (Reps.none _ _))); intro v156 w11 ho12 hb hg_ hnew_; clear hg_ hnew_; (first | rw [← Ny155.out] at ho12 | (simp only [Int.reduceToNat] at ho12; rw [← Ny155.out] at ho12)); have n0_ := Aside0.mk (Kd.N_lower ho12 (below_size (by repeat (first | (with_reducible first | exact HB.out | apply below_alloc | apply pw_below_drewN | apply below_drew1) | exact HB.out)))); have n1_ := Aside0.mk (below_step (by repeat (first | (with_reducible first | exact HB.out | apply below_alloc | apply pw_below_drewN | apply below_drew1) | exact HB.out)) hb); clear HB; clear HO154; have HO157 := n0_; have HB := n1_; clear n0_ n1_; clear hb ho12; obtain ⟨Ao13, co13, eo13⟩ := Kd.N_slice HO157.out; subst eo13) | (go_at_call 6; (refine (decl_Check.calls _ _ ([] : List (S61)) _ _ ([] : List (S45)) _ _ ([] : List (S47)) _ _ y155 t158 _ ?side1 ?side2 ?side3 ?side4 ?side5 ?side6 ?side7 ?side8 A3.out).mono ?_); (case side1 => exact Kd.C_nil _ _); (case side2 => exact Nat.le_refl _); (case side3 => exact Kd.C_nil _ _); (case side4 => exact Nat.le_refl _); (case side5 => exact Kd.C_nil _ _); (case side6 => exact Nat.le_refl _); (case side7 => repeat (first | exact (Kd.N_reads' HO157.out).2.2 | (with_reducible refine Kd.C_alloc ?_ _) | (with_reducible refine Kd.C_drewN ?_ _) | (with_reducible refine Kd.C_drew ?_))); (case side8 => exact (Kd.N_reads' HO157.out).2.1); rintro e w14 ⟨rfl, hb⟩; have n0_ := Aside0.mk (Kd.N_below (by (with_reducible repeat (first | apply Kd.N_alloc | apply Kd.N_drewN | apply Kd.N_drew)); exact HO157.out) hb); have n1_ := Aside0.mk (below_step (by repeat (first | (with_reducible first | exact HB.out | apply below_alloc | apply pw_below_drewN | apply below_drew1) | exact HB.out)) hb); clear HO157; clear HB; have HO157 := n0_; have HB := n1_; clear n0_ n1_; (try clear hb); (try clear hb2); (try clear hk); (try clear hi)) | ((with_reducible refine gate_dst (N := 14) rfl ?_); (try (refine gate_guard (by rfl) ?_; dsimp only)); refine Kd.N_make k41 _ 41 rfl (N' := 14) rfl 25 _ _ rfl 2 rfl rfl Try.underlying25 (.agg #[(.string ⟨#[]⟩), (.slice none 0 0), (.int .i64 0), (.slice none 0 0), (.slice none 0 0)]) 96 info41 rfl (by decide) (by omega) z41 (ok := fun k_ => w14.heap.size ≤ k_) (okp := fun _ => False) (k41_mkF _ _ z41 (Nat.le_refl _) (Kd.F_nil _ _ _) (Nat.le_refl _) (Kd.F_nil _ _ _) (Nat.le_refl _) (Kd.F_nil _ _ _)) (fun _ hk => hk.elim) (Nat.le_refl _) (by omega) (by omega) (Below.refl _ _) (Nat.le_refl _) ?_; intro v160 w15 ho16 hb hg_ hnew_; clear hg_ hnew_; (first | rw [← Ny159.out] at ho16 | (simp only [Int.reduceToNat] at ho16; rw [← Ny159.out] at ho16)); have n0_ := Aside0.mk (Kd.N_elder' (by (with_reducible repeat (first | apply Kd.N_alloc | apply Kd.N_drewN | apply Kd.N_drew)); exact HO157.out) (Kd.N_base ho16) hb); have n1_ := Aside0.mk (Kd.N_lower (Kd.N_mono (ok' := fun k_ => some k_ ≠ (.slice Ao13 y155.length co13 : Value).ownBlock) ho16 (fun k_ hk_ => (Kd.fresh' (Kd.N_lt (by (with_reducible repeat (first | apply Kd.N_alloc | apply Kd.N_drewN | apply Kd.N_drew)); exact HO157.out)) k_ hk_))) (below_size (by repeat (first | (with_reducible first | exact HB.out | apply below_alloc | apply pw_below_drewN | apply below_drew1) | exact HB.out)))); have n2_ := Aside0.mk (below_step (by repeat (first | (with_reducible first | exact HB.out | apply below_alloc | apply pw_below_drewN | apply below_drew1) | exact HB.out)) hb); clear HO157; clear HB; have HO157 := n0_; have HO161 := n1_; have HB := n2_; clear n0_ n1_ n2_; clear hb ho16; obtain ⟨Ao17, co17, eo17⟩ := Kd.N_slice HO161.out; subst eo17) | (go_at_call 27; (with_reducible refine (decl_Sigs.calls k _ _ y159 t162 _ ?side1 ?side2 A6.out).mono ?_); (case side1 => repeat (first | exact (Kd.N_reads' HO161.out).2.2 | (with_reducible refine Kd.C_alloc ?_ _) | (with_reducible refine Kd.C_drewN ?_ _) | (with_reducible refine Kd.C_drew ?_))); (case side2 => exact (Kd.N_reads' HO161.out).2.1); rintro e w18 ⟨v163, rfl, ho0, hb⟩; have n0_ := Aside0.mk (Kd.N_elder' (by (with_reducible repeat (first | apply Kd.N_alloc | apply Kd.N_drewN | apply Kd.N_drew)); exact HO157.out) (Kd.N_base (Kd.S_N ho0)) hb); have n1_ := Aside0.mk (Kd.N_elder' (by (with_reducible repeat (first | apply Kd.N_alloc | apply Kd.N_drewN | apply Kd.N_drew)); exact HO161.out) (Kd.N_base (Kd.S_N ho0)) hb); have n2_ := Aside0.mk (Kd.N_lower (Kd.N_mono (ok' := fun k_ => some k_ ≠ (.slice Ao13 y155.length co13 : Value).ownBlock ∧ some k_ ≠ (.slice Ao17 y159.length co17 : Value).ownBlock) (Kd.S_N (Kd.S_bound ho0)) (fun k_ hk_ => ⟨(Kd.fresh' (Kd.N_lt (by (with_reducible repeat (first | apply Kd.N_alloc | apply Kd.N_drewN | apply Kd.N_drew)); exact HO157.out)) k_ hk_.2.1), (Kd.fresh' (Kd.N_lt (by (with_reducible repeat (first | apply Kd.N_alloc | apply Kd.N_drewN | apply Kd.N_drew)); exact HO161.out)) k_ hk_.2.1)⟩)) (below_size (by repeat (first | (with_reducible first | exact HB.out | apply below_alloc | apply pw_below_drewN | apply below_drew1) | exact HB.out)))); have n3_ := Aside0.mk (below_step (by repeat (first | (with_reducible first | exact HB.out | apply below_alloc | apply pw_below_drewN | apply below_drew1) | exact HB.out)) hb); clear HO157; clear HO161; clear HB; have HO157 := n0_; have HO161 := n1_; have HO164 := n2_; have HB := n3_; clear n0_ n1_ n2_ n3_; (try clear hb); (try clear hb2); (try clear hk); (try clear hi); (try clear ho0); obtain ⟨Ao19, co19, eo19⟩ := Kd.N_slice HO164.out; subst eo19))
        go_ret
        exact ⟨by first | rfl | (simp [errW_none, errW_some] <;> rfl) | (simp [*, errW_none, errW_some] <;> rfl), by repeat (first | (with_reducible first | exact HB.out | apply below_alloc | apply pw_below_drewN | apply below_drew1) | exact HB.out)⟩
      · rw [if_neg c5] at H
        exact absurd H (by simp)
    · rw [if_neg c4] at H
      have c4b0 : (t158 == 0) = false := beq_eq_false_iff_ne.mpr c4
      have c4b1 : (t158 != 0) = true := bne_iff_ne.mpr c4
      obtain rfl := Option.some.inj H
      go_enter Try.func7, Try.ntmps7
      go_wp2_with (first | ((with_reducible refine gate_callee (f := 6) rfl ?_); refine goesL_ (some 2) rfl rfl Try.func6 (by kernel_rfl) rfl #[.agg #[.slice none 0 0, .slice none 0 0, .slice none 0 0, .slice none 0 0]] rfl (by (try simp only [List.map_toArray, List.map_cons, List.map_nil]); first | done | rfl | (simp only [List.length_drop, List.length_take]; rfl)) ?_; (refine (decl_Check.calls _ _ ([] : List (S61)) _ _ ([] : List (S45)) _ _ ([] : List (S47)) _ _ ([] : List (S41)) t151 _ ?side1 ?side2 ?side3 ?side4 ?side5 ?side6 ?side7 ?side8 A1.out).mono ?_); (case side1 => exact Kd.C_nil _ _); (case side2 => exact Nat.le_refl _); (case side3 => exact Kd.C_nil _ _); (case side4 => exact Nat.le_refl _); (case side5 => exact Kd.C_nil _ _); (case side6 => exact Nat.le_refl _); (case side7 => exact Kd.C_nil _ _); (case side8 => exact Nat.le_refl _); rintro e w20 ⟨rfl, hb⟩; refine ⟨_, rfl, ?_⟩; have n0_ := Aside0.mk (below_step (by repeat (first | (with_reducible first | exact HB.out | apply below_alloc | apply pw_below_drewN | apply below_drew1) | exact HB.out)) hb); clear HB; have HB := n0_; clear n0_; (try clear hb); (try clear hb2); (try clear hk); (try clear hi)) | ((with_reducible refine gate_dst (N := 6) rfl ?_); (try (refine gate_guard (by rfl) ?_; dsimp only)); refine Kd.R_lit k56 _ 56 ?hg (N := 6) ?hd (xs := ([(⟨34, 0, 0⟩ : S56)] : List (S56))) (inner := [.int .i64 34, .int .i64 0, .int .i64 0]) (ok := fun _ => True) (okp := fun _ => True) ?hr ?hp (fun _ hk => hk) trivial (Below.refl _ _) (Nat.le_refl _) (by simp) ?_; (case hd => rfl); (case hg => rfl); (case hr => first | (go_simp; done) | (go_simp; rfl)); (case hp => exact (Reps.c3 (show Kd.M k56 _ _ _ (⟨34, 0, 0⟩ : S56) [.int .i64 34, .int .i64 0, .int .i64 0] from (k56_mkM _ _ _ (⟨34, 0, 0⟩ : S56) )) (Reps.none _ _))); intro v153 w21 ho22 hb hg_ hnew_; clear hg_ hnew_; (first | rw [← Ny152.out] at ho22 | (simp only [Int.reduceToNat] at ho22; rw [← Ny152.out] at ho22)); have n0_ := Aside0.mk (Kd.R_lower ho22 (below_size (by repeat (first | (with_reducible first | exact HB.out | apply below_alloc | apply pw_below_drewN | apply below_drew1) | exact HB.out)))); have n1_ := Aside0.mk (below_step (by repeat (first | (with_reducible first | exact HB.out | apply below_alloc | apply pw_below_drewN | apply below_drew1) | exact HB.out)) hb); clear HB; have HO154 := n0_; have HB := n1_; clear n0_ n1_; clear hb ho22; obtain ⟨Ao23, co23, eo23⟩ := Kd.R_slice HO154.out; subst eo23) | ((with_reducible refine gate_dst (N := 8) rfl ?_); (try (refine gate_guard (by rfl) ?_; dsimp only)); refine Kd.N_lit k41 _ 41 ?hg (N' := 8) ?hd (xs := ([(⟨(⟨#[]⟩ : ByteArray), ([] : List Int), 0, ([] : List Int), y152⟩ : S41)] : List (S41))) (inner := [.string (⟨#[]⟩ : ByteArray), .slice none 0 0, .int .i64 0, .slice none 0 0, .slice Ao23 y152.length co23]) (ok := (fun _ => True)) (okp := (fun _ => True)) ?hr ?hp (fun _ hk => hk) ((show ∀ k_, w21.heap.size ≤ k_ → (fun _ => True) k_ from fun k_ hk => trivial) _ (Nat.le_refl _)) (Below.refl _ _) (Nat.le_refl _) (by simp) ?_; (case hd => rfl); (case hg => rfl); (case hr => first | (go_simp; done) | (go_simp; rfl)); (case hp => exact (Reps.c5 (show Kd.FK k41 _ _ (⟨(⟨#[]⟩ : ByteArray), ([] : List Int), 0, ([] : List Int), y152⟩ : S41) [.string (⟨#[]⟩ : ByteArray), .slice none 0 0, .int .i64 0, .slice none 0 0, .slice Ao23 y152.length co23] from (k41_mkF _ _ (⟨(⟨#[]⟩ : ByteArray), ([] : List Int), 0, ([] : List Int), y152⟩ : S41) (Nat.le_refl _) (Kd.F_nil _ _ _) (Nat.le_refl _) (Kd.F_nil _ _ _) (Kd.R_reads' (Kd.R_mono (ok' := (fun _ => True)) (HO154.out) (fun k_ hk => trivial))).2.1 (Kd.R_F (Kd.R_mono (ok' := (fun _ => True)) (HO154.out) (fun k_ hk => trivial))))) (Reps.none _ _))); intro v156 w24 ho25 hb hg_ hnew_; clear hg_ hnew_; (first | rw [← Ny155.out] at ho25 | (simp only [Int.reduceToNat] at ho25; rw [← Ny155.out] at ho25)); have n0_ := Aside0.mk (Kd.N_lower ho25 (below_size (by repeat (first | (with_reducible first | exact HB.out | apply below_alloc | apply pw_below_drewN | apply below_drew1) | exact HB.out)))); have n1_ := Aside0.mk (below_step (by repeat (first | (with_reducible first | exact HB.out | apply below_alloc | apply pw_below_drewN | apply below_drew1) | exact HB.out)) hb); clear HB; clear HO154; have HO157 := n0_; have HB := n1_; clear n0_ n1_; clear hb ho25; obtain ⟨Ao26, co26, eo26⟩ := Kd.N_slice HO157.out; subst eo26) | (go_at_call 6; (refine (decl_Check.calls _ _ ([] : List (S61)) _ _ ([] : List (S45)) _ _ ([] : List (S47)) _ _ y155 t158 _ ?side1 ?side2 ?side3 ?side4 ?side5 ?side6 ?side7 ?side8 A3.out).mono ?_); (case side1 => exact Kd.C_nil _ _); (case side2 => exact Nat.le_refl _); (case side3 => exact Kd.C_nil _ _); (case side4 => exact Nat.le_refl _); (case side5 => exact Kd.C_nil _ _); (case side6 => exact Nat.le_refl _); (case side7 => repeat (first | exact (Kd.N_reads' HO157.out).2.2 | (with_reducible refine Kd.C_alloc ?_ _) | (with_reducible refine Kd.C_drewN ?_ _) | (with_reducible refine Kd.C_drew ?_))); (case side8 => exact (Kd.N_reads' HO157.out).2.1); rintro e w27 ⟨rfl, hb⟩; have n0_ := Aside0.mk (Kd.N_below (by (with_reducible repeat (first | apply Kd.N_alloc | apply Kd.N_drewN | apply Kd.N_drew)); exact HO157.out) hb); have n1_ := Aside0.mk (below_step (by repeat (first | (with_reducible first | exact HB.out | apply below_alloc | apply pw_below_drewN | apply below_drew1) | exact HB.out)) hb); clear HO157; clear HB; have HO157 := n0_; have HB := n1_; clear n0_ n1_; (try clear hb); (try clear hb2); (try clear hk); (try clear hi)))
      go_ret
      exact ⟨by first | rfl | (simp [errW_none, errW_some] <;> rfl) | (simp [*, errW_none, errW_some] <;> rfl), by repeat (first | (with_reducible first | exact HB.out | apply below_alloc | apply pw_below_drewN | apply below_drew1) | exact HB.out)⟩
  · rw [if_neg c2] at H
    have c2b0 : (t151 == 5) = false := beq_eq_false_iff_ne.mpr c2
    have c2b1 : (t151 != 5) = true := bne_iff_ne.mpr c2
    obtain rfl := Option.some.inj H
    go_enter Try.func7, Try.ntmps7
    go_wp2_with (first | ((with_reducible refine gate_callee (f := 6) rfl ?_); refine goesL_ (some 2) rfl rfl Try.func6 (by kernel_rfl) rfl #[.agg #[.slice none 0 0, .slice none 0 0, .slice none 0 0, .slice none 0 0]] rfl (by (try simp only [List.map_toArray, List.map_cons, List.map_nil]); first | done | rfl | (simp only [List.length_drop, List.length_take]; rfl)) ?_; (refine (decl_Check.calls _ _ ([] : List (S61)) _ _ ([] : List (S45)) _ _ ([] : List (S47)) _ _ ([] : List (S41)) t151 _ ?side1 ?side2 ?side3 ?side4 ?side5 ?side6 ?side7 ?side8 A1.out).mono ?_); (case side1 => exact Kd.C_nil _ _); (case side2 => exact Nat.le_refl _); (case side3 => exact Kd.C_nil _ _); (case side4 => exact Nat.le_refl _); (case side5 => exact Kd.C_nil _ _); (case side6 => exact Nat.le_refl _); (case side7 => exact Kd.C_nil _ _); (case side8 => exact Nat.le_refl _); rintro e w28 ⟨rfl, hb⟩; refine ⟨_, rfl, ?_⟩; have n0_ := Aside0.mk (below_step (by repeat (first | (with_reducible first | exact HB.out | apply below_alloc | apply pw_below_drewN | apply below_drew1) | exact HB.out)) hb); clear HB; have HB := n0_; clear n0_; (try clear hb); (try clear hb2); (try clear hk); (try clear hi)))
    go_ret
    exact ⟨by first | rfl | (simp [errW_none, errW_some] <;> rfl) | (simp [*, errW_none, errW_some] <;> rfl), by repeat (first | (with_reducible first | exact HB.out | apply below_alloc | apply pw_below_drewN | apply below_drew1) | exact HB.out)⟩

/-! ### ladderbacklaw17_DeclLess: function 3 -/
def ladderbacklaw17_DeclLess.j0 : Nat → Bool → List (S61) → List (S45) → List (S47) → List (S41) → Option (Bool)
  | 0, _, _, _, _, _ => none
  | k + 1, x14, x166000, x166001, x166002, x166003 => if x14 = true then ((ladderbacklaw17_awake.f k).bind fun t168 => (some t168)) else (if 0 ≤ (mx (wrap64 ((x166000.length : Int) - 1)) 0) then (if (mx (wrap64 ((x166000.length : Int) - 1)) 0) ≤ (x166000.length : Int) then (if 0 ≤ (mx (wrap64 ((x166001.length : Int) - 1)) 0) then (if (mx (wrap64 ((x166001.length : Int) - 1)) 0) ≤ (x166001.length : Int) then (if 0 ≤ (mx (wrap64 ((x166002.length : Int) - 1)) 0) then (if (mx (wrap64 ((x166002.length : Int) - 1)) 0) ≤ (x166002.length : Int) then (if 0 ≤ (mx (wrap64 ((x166003.length : Int) - 1)) 1) then (if (mx (wrap64 ((x166003.length : Int) - 1)) 1) ≤ (x166003.length : Int) then ((decl_Check.f (x166000.take ((mx (wrap64 ((x166000.length : Int) - 1)) 0) : Int).toNat) x166001 x166002 x166003).bind fun t189 => (if t189 = 0 then ((decl_Check.f x166000 (x166001.take ((mx (wrap64 ((x166001.length : Int) - 1)) 0) : Int).toNat) x166002 x166003).bind fun t190 => (if t190 = 0 then ((decl_Check.f x166000 x166001 (x166002.take ((mx (wrap64 ((x166002.length : Int) - 1)) 0) : Int).toNat) x166003).bind fun t191 => (if t191 = 0 then ((decl_Check.f x166000 x166001 x166002 (x166003.take ((mx (wrap64 ((x166003.length : Int) - 1)) 1) : Int).toNat)).bind fun t192 => (if t192 = 0 then ((ladderbacklaw17_awake.f k).bind fun t193 => (some t193)) else (some false))) else (some false))) else (some false))) else (some false))) else (none)) else (none)) else (none)) else (none)) else (none)) else (none)) else (none)) else (none))
def ladderbacklaw17_DeclLess.f (k : Nat) (l0_0 : List (S61)) (l0_1 : List (S45)) (l0_2 : List (S47)) (l0_3 : List (S41)) : Option (Bool) := (ladderbacklaw16_Few.f k l0_0 l0_1 l0_2 l0_3).bind fun t166 => (if t166 = true then ((decl_Check.f l0_0 l0_1 l0_2 l0_3).bind fun t167 => (ladderbacklaw17_DeclLess.j0 k (t167 != 0) l0_0 l0_1 l0_2 l0_3)) else (ladderbacklaw17_DeclLess.j0 k true l0_0 l0_1 l0_2 l0_3))
end Go.Proofs.Ytghhbdmggmdffaa.PDe
end

section
/- What is right stays so without its last constant, variable, block, or unit: plainly. -/
namespace Go.Proofs.Ytghhbdmggmdffaa.RPure
open Go.RowKit Go.Proofs.Ytghhbdmggmdffaa.PDe Go.Proofs.Ytghhbdmggmdffaa.Given Go.Proofs.YtghhbdmggmdffaaW.PrintWords Go.Proofs.YtghhbdmggmdffaaW.PrintLast Go.Proofs.YtghhbdmggmdffaaW.PrintMore
set_option linter.unusedVariables false
set_option linter.unusedSimpArgs false
theorem few15 (X : S41) : ∃ b, ladderbacklaw15_Few.f X.f0 X.f1 X.f2 X.f3 X.f4 = some b ∧ (b = true → X.f1.length ≤ 20 ∧ X.f3.length ≤ 1100 ∧ X.f4.length ≤ 300) := by
  unfold ladderbacklaw15_Few.f
  by_cases h1 : (X.f0.size : Int) ≤ 300
  · rw [if_pos h1]
    by_cases h2 : (X.f1.length : Int) ≤ 20
    · rw [if_pos h2]
      by_cases h3 : (X.f3.length : Int) ≤ 1100
      · rw [if_pos h3]
        exact ⟨_, rfl, fun h => by simp at h; omega⟩
      · rw [if_neg h3]; exact ⟨_, rfl, fun h => by cases h⟩
    · rw [if_neg h2]; exact ⟨_, rfl, fun h => by cases h⟩
  · rw [if_neg h1]; exact ⟨_, rfl, fun h => by cases h⟩
theorem rd_unit_at (U : LU) (j : Nat) (h : j < U.length) : rd_T41 U (j : Int) = U[j] := by
  unfold rd_T41
  rw [Int.toNat_natCast, List.getD_eq_getElem?_getD, List.getElem?_eq_getElem h]; rfl
theorem few_l2 (C : LC) (V : LV) (B : LB) (U : LU) (hl : U.length ≤ 10) : ∀ m j : Nat, j + m = U.length → ∃ b, (∀ k, m + 1 ≤ k → ladderbacklaw16_Few.l2 k (j : Int) C V B U = some b) ∧ (b = true → ∀ i (hi : i < U.length), j ≤ i → U[i].f1.length ≤ 20 ∧ U[i].f3.length ≤ 1100 ∧ U[i].f4.length ≤ 300) := by
  intro m
  induction m with
  | zero =>
    intro j hj
    refine ⟨true, fun k hk => ?_, fun _ i hi h => by omega⟩
    obtain ⟨k, rfl⟩ : ∃ m, k = m + 1 := ⟨k - 1, by omega⟩
    rw [ladderbacklaw16_Few.l2, if_neg (by omega)]
  | succ m ih =>
    intro j hj
    have hlt : j < U.length := by omega
    obtain ⟨b1, e1, f1⟩ := few15 U[j]
    obtain ⟨b2, e2, f2⟩ := ih (j + 1) (by omega)
    refine ⟨b1 && b2, fun k hk => ?_, fun h i hi hji => ?_⟩
    · obtain ⟨k, rfl⟩ : ∃ m, k = m + 1 := ⟨k - 1, by omega⟩
      rw [ladderbacklaw16_Few.l2, if_pos (by omega), if_pos (by omega), rd_unit_at U j hlt, e1, Option.bind_some]
      cases b1 with
      | true => rw [if_pos rfl, w64 _ (by omega) (by omega)]; exact e2 k (by omega)
      | false => rfl
    · rw [Bool.and_eq_true] at h
      rcases Nat.lt_or_ge j i with h1 | h1
      · exact f2 h.2 i hi h1
      · obtain rfl : i = j := by omega
        exact f1 h.1
theorem few_l1 (C : LC) (V : LV) (B : LB) (U : LU) (hl : U.length ≤ 10) (hB : B.length ≤ 40) : ∀ m j : Nat, j + m = B.length → ∃ b, (∀ k, m + 20 ≤ k → ladderbacklaw16_Few.l1 k (j : Int) C V B U = some b) ∧ (b = true → Ok U) := by
  intro m
  induction m with
  | zero =>
    intro j hj
    obtain ⟨b, e, f⟩ := few_l2 C V B U hl U.length 0 (by omega)
    refine ⟨b, fun k hk => ?_, fun h X hX => ?_⟩
    · obtain ⟨k, rfl⟩ : ∃ m, k = m + 1 := ⟨k - 1, by omega⟩
      rw [ladderbacklaw16_Few.l1, if_neg (by omega)]
      exact e k (by omega)
    · obtain ⟨i, hi, rfl⟩ := List.getElem_of_mem hX
      exact f h i hi (Nat.zero_le _)
  | succ m ih =>
    intro j hj
    obtain ⟨b2, e2, f2⟩ := ih (j + 1) (by omega)
    by_cases hs : (((rd_T47 B (j : Int)).f0).size : Int) > 300
    · refine ⟨false, fun k hk => ?_, fun h => by cases h⟩
      obtain ⟨k, rfl⟩ : ∃ m, k = m + 1 := ⟨k - 1, by omega⟩
      rw [ladderbacklaw16_Few.l1, if_pos (by omega), if_pos (by omega), if_pos hs]
    · refine ⟨b2, fun k hk => ?_, f2⟩
      obtain ⟨k, rfl⟩ : ∃ m, k = m + 1 := ⟨k - 1, by omega⟩
      rw [ladderbacklaw16_Few.l1, if_pos (by omega), if_pos (by omega), if_neg hs, w64 _ (by omega) (by omega)]
      exact e2 k (by omega)
theorem few_l0 (C : LC) (V : LV) (B : LB) (U : LU) (hl : U.length ≤ 10) (hB : B.length ≤ 40) (hV : V.length ≤ 70) : ∀ m j : Nat, j + m = V.length → ∃ b, (∀ k, m + 70 ≤ k → ladderbacklaw16_Few.l0 k (j : Int) C V B U = some b) ∧ (b = true → Ok U) := by
  intro m
  induction m with
  | zero =>
    intro j hj
    obtain ⟨b, e, f⟩ := few_l1 C V B U hl hB B.length 0 (by omega)
    refine ⟨b, fun k hk => ?_, f⟩
    obtain ⟨k, rfl⟩ : ∃ m, k = m + 1 := ⟨k - 1, by omega⟩
    rw [ladderbacklaw16_Few.l0, if_neg (by omega)]
    exact e k (by omega)
  | succ m ih =>
    intro j hj
    obtain ⟨b2, e2, f2⟩ := ih (j + 1) (by omega)
    by_cases hs : (((rd_T45 V (j : Int)).f0).size : Int) > 300
    · refine ⟨false, fun k hk => ?_, fun h => by cases h⟩
      obtain ⟨k, rfl⟩ : ∃ m, k = m + 1 := ⟨k - 1, by omega⟩
      rw [ladderbacklaw16_Few.l0, if_pos (by omega), if_pos (by omega), if_pos hs]
    · refine ⟨b2, fun k hk => ?_, f2⟩
      obtain ⟨k, rfl⟩ : ∃ m, k = m + 1 := ⟨k - 1, by omega⟩
      rw [ladderbacklaw16_Few.l0, if_pos (by omega), if_pos (by omega), if_neg hs, w64 _ (by omega) (by omega)]
      exact e2 k (by omega)
theorem few_is (C : LC) (V : LV) (B : LB) (U : LU) : ∃ b, (∀ k, 200 ≤ k → ladderbacklaw16_Few.f k C V B U = some b) ∧ (b = true → Ok U ∧ U.length ≤ 10 ∧ C.length ≤ 60 ∧ V.length ≤ 70 ∧ B.length ≤ 40) := by
  have hj : ∀ k, 1 ≤ k → ladderbacklaw16_Few.j0 k true C V B U = some false := fun k hk => by
    obtain ⟨k, rfl⟩ : ∃ m, k = m + 1 := ⟨k - 1, by omega⟩
    rw [ladderbacklaw16_Few.j0, if_pos rfl]
  by_cases h1 : (C.length : Int) > 60
  · exact ⟨false, fun k hk => by unfold ladderbacklaw16_Few.f; rw [if_pos h1]; exact hj k (by omega), fun h => by cases h⟩
  by_cases h2 : (V.length : Int) > 70
  · exact ⟨false, fun k hk => by unfold ladderbacklaw16_Few.f; rw [if_neg h1, if_pos h2]; exact hj k (by omega), fun h => by cases h⟩
  by_cases h3 : (B.length : Int) > 40
  · exact ⟨false, fun k hk => by unfold ladderbacklaw16_Few.f; rw [if_neg h1, if_neg h2, if_pos h3]; exact hj k (by omega), fun h => by cases h⟩
  by_cases h4 : (U.length : Int) > 10
  · exact ⟨false, fun k hk => by unfold ladderbacklaw16_Few.f; rw [if_neg h1, if_neg h2, if_neg h3, decide_eq_true h4]; exact hj k (by omega), fun h => by cases h⟩
  obtain ⟨b, e, f⟩ := few_l0 C V B U (by omega) (by omega) (by omega) V.length 0 (by omega)
  refine ⟨b, fun k hk => ?_, fun h => ⟨f h, by omega, by omega, by omega, by omega⟩⟩
  obtain ⟨k, rfl⟩ : ∃ m, k = m + 1 := ⟨k - 1, by omega⟩
  unfold ladderbacklaw16_Few.f
  rw [if_neg h1, if_neg h2, if_neg h3, decide_eq_false h4, ladderbacklaw16_Few.j0, if_neg (by decide)]
  exact e k (by omega)
theorem awake_t : ladderbacklaw17_awake.f 399 = some true := by
  have e1 : decl_Check.f ([] : LC) ([] : LV) ([] : LB) ([] : LU) = some 5 := by
    rw [check_is [] [] [] [] (by decide) (by decide) (by decide) (by decide) (fun X hX => by cases hX)]
    decide
  have e2 : decl_Check.f ([] : LC) ([] : LV) ([] : LB) [(⟨(⟨#[]⟩ : ByteArray), ([] : List Int), 0, ([] : List Int), (([(⟨34, 0, 0⟩ : S56)] : List (S56)))⟩ : S41)] = some 0 := by
    rw [check_is [] [] [] _ (by decide) (by decide) (by decide) (by decide) (fun X hX => by
      obtain rfl := List.mem_singleton.1 hX
      exact ⟨by decide, by decide, by decide⟩)]
    decide
  have e3 : decl_Sigs.f 399 (List.replicate 2 z41) = some [⟨[], 0⟩, ⟨[], 0⟩] := by
    simp [decl_Sigs.f, decl_Sigs.l0, wrap64, rd_T41, z41, List.replicate]
  unfold ladderbacklaw17_awake.f
  rw [e1, Option.bind_some, if_pos rfl, e2, Option.bind_some, if_pos rfl, if_pos (by omega), e3]
  rfl
end Go.Proofs.Ytghhbdmggmdffaa.RPure
end

section
/- decl.Tables over its closures. -/
namespace Go.Proofs.Ytghhbdmggmdffaa.Given
open Go Go.RowKit Go.Proofs.Ytghhbdmggmdffaa.PDe Go.Proofs.Ytghhbdmggmdffaa.RPure Go.Proofs.YtghhbdmggmdffaaW.PrintWords Go.Proofs.YtghhbdmggmdffaaW.PrintLast Go.Proofs.YtghhbdmggmdffaaW.PrintMore
set_option linter.unusedVariables false
set_option linter.unusedSimpArgs false
set_option maxHeartbeats 4000000 in
theorem t1_c (b2 b3 : Nat) (A1 : Option Addr) (c1 : Nat) (V : LV) (A2 : Option Addr) (c2 : Nat) (B : LB) (w : World) (q1 : w.cell? ⟨b2, 0, none⟩ = some (.slice A1 V.length c1)) (q2 : w.cell? ⟨b3, 0, none⟩ = some (.slice A2 B.length c2)) (g1 : Kd.C k45 w A1 V.length V) (l1 : V.length ≤ c1) (g2 : Kd.C k47 w A2 B.length B) (l2 : B.length ≤ c2) :
    Calls Try.prog 28 #[.pointer (some ⟨b2, 0, none⟩), .pointer (some ⟨b3, 0, none⟩)] w fun e w' => e = .returned (.int .i64 (errF (manyF V B) 5)) ∧ Below w.heap.size w w' := by
  have P := Aside0.mk (decl_many.calls A1 c1 V A2 c2 B (manyF V B) w g1 l1 g2 l2 (many_is V B))
  clear g1 g2
  go_enter Try.func28, Try.ntmps28
  go_wp2_with fail
  refine P.out.mono ?_
  rintro e w' ⟨rfl, ⟨n, rfl⟩⟩
  go_wp2_with fail
  refine (errs_c _ 5 _).mono ?_
  rintro e w' ⟨rfl, ⟨n', rfl⟩⟩
  go_wp2_with fail
  go_ret
  exact ⟨rfl, pw_below_drewN (Below.refl _ _) _⟩
set_option maxHeartbeats 4000000 in
theorem t2_c (k : Nat) (r : Int) (b2 b3 : Nat) (A1 : Option Addr) (c1 : Nat) (V : LV) (A2 : Option Addr) (c2 : Nat) (B : LB) (w : World) (q1 : w.cell? ⟨b2, 0, none⟩ = some (.slice A1 V.length c1)) (q2 : w.cell? ⟨b3, 0, none⟩ = some (.slice A2 B.length c2)) (g1 : Kd.C k45 w A1 V.length V) (l1 : V.length ≤ c1) (g2 : Kd.C k47 w A2 B.length B) (l2 : B.length ≤ c2) (hr : decl_rows.f k V B = some r) :
    Calls Try.prog 29 #[.pointer (some ⟨b2, 0, none⟩), .pointer (some ⟨b3, 0, none⟩)] w fun e w' => e = .returned (.int .i64 r) ∧ Below w.heap.size w w' := by
  have P := Aside0.mk (decl_rows.calls k A1 c1 V A2 c2 B r w g1 l1 g2 l2 hr)
  clear g1 g2 hr
  go_enter Try.func29, Try.ntmps29
  go_wp2_with fail
  refine P.out.mono ?_
  rintro e w' ⟨rfl, hb⟩
  have HB := Aside0.mk hb
  clear hb
  go_wp2_with fail
  go_ret
  exact ⟨rfl, HB.out⟩
set_option maxHeartbeats 4000000 in
set_option maxRecDepth 100000 in
theorem dtab_c (A1 : Option Addr) (c1 : Nat) (V : LV) (A2 : Option Addr) (c2 : Nat) (B : LB) (w : World) (g1 : Kd.C k45 w A1 V.length V) (l1 : V.length ≤ c1) (g2 : Kd.C k47 w A2 B.length B) (l2 : B.length ≤ c2) (hV : V.length ≤ 9000) (hB : B.length ≤ 9000) :
    Calls Try.prog 8 #[.slice A1 V.length c1, .slice A2 B.length c2] w fun e w' => e = .returned (.int .i64 (firstF [errF (manyF V B) 5, okE (V.all varB && B.all blkB)])) ∧ Below w.heap.size w w' := by
  have hr : decl_rows.f 30000 V B = some (okE (V.all varB && B.all blkB)) := rows_l0 B hB V hV V.length 0 30000 (by omega) (by omega)
  have G1 := Aside0.mk g1
  have G2 := Aside0.mk g2
  have HR := Aside0.mk hr
  clear g1 g2 hr
  go_enter Try.func8, Try.ntmps8
  go_wp2_with fail
  obtain ⟨W2, hW2, z2, hb2, k2, k3, k4⟩ := three w (.cells #[.slice A1 V.length c1] 23) (.cells #[.slice A2 B.length c2] 24)
    (.cells #[.func (.func 28) #[] #[.pointer (some ⟨w.heap.size, 0, none⟩), .pointer (some ⟨w.heap.size + 1, 0, none⟩)], .func (.func 29) #[] #[.pointer (some ⟨w.heap.size, 0, none⟩), .pointer (some ⟨w.heap.size + 1, 0, none⟩)]] 52)
  rw [← hW2]
  clear hW2
  have hb3 : ∀ {W : World}, Below W2.heap.size W2 W → Below w.heap.size w W := fun hb => hb2.trans (hb.mono hb2.size)
  have cl : ∀ {W : World} {b : Nat} {v : Value} {t : TypeId}, Below W2.heap.size W2 W → W2.heap[b]? = some (.cells #[v] t) → W.cell? ⟨b, 0, none⟩ = some v := fun hb hk => (blk_cell ((hb.block _ (blk_lt hk)).trans hk) 0).trans rfl
  have hF := first_c [⟨28, #[.pointer (some ⟨w.heap.size, 0, none⟩), .pointer (some ⟨w.heap.size + 1, 0, none⟩)], errF (manyF V B) 5⟩, ⟨29, #[.pointer (some ⟨w.heap.size, 0, none⟩), .pointer (some ⟨w.heap.size + 1, 0, none⟩)], okE (V.all varB && B.all blkB)⟩]
    ⟨w.heap.size + 2, 0, none⟩ 2 W2 (fun i h => by
      simp only [List.length_cons, List.length_nil] at h
      rcases (by omega : i = 0 ∨ i = 1) with rfl | rfl
      · exact (blk_cell k4 0).trans rfl
      · exact (blk_cell k4 1).trans rfl) (fun i h => by
      simp only [List.length_cons, List.length_nil] at h
      rcases (by omega : i = 0 ∨ i = 1) with rfl | rfl <;> exact blk_lt k4) (fun f hf => by
      simp only [List.mem_cons, List.mem_nil_iff, or_false] at hf
      rcases hf with rfl | rfl
      · exact ⟨by simp [isClo], fun W hb => t1_c _ _ A1 c1 V A2 c2 B W (cl hb k2) (cl hb k3) (Kd.C_below G1.out (hb3 hb)) l1 (Kd.C_below G2.out (hb3 hb)) l2⟩
      · exact ⟨by simp [isClo], fun W hb => t2_c 30000 _ _ _ A1 c1 V A2 c2 B W (cl hb k2) (cl hb k3) (Kd.C_below G1.out (hb3 hb)) l1 (Kd.C_below G2.out (hb3 hb)) l2 HR.out⟩) (by simp)
  refine hF.mono ?_
  have HB2 := Aside0.mk hb2
  clear hF cl hb3 k2 k3 k4 hb2 z2
  rintro e w3 ⟨rfl, hb3⟩
  have HB3 := Aside0.mk (HB2.out.trans (hb3.mono HB2.out.size))
  clear hb3
  go_wp2_with fail
  go_ret
  exact ⟨rfl, HB3.out⟩
end Go.Proofs.Ytghhbdmggmdffaa.Given
end

section
/- A region that draws its order: each operation by itself, whatever order comes up; no conditions. -/
namespace Go.Proofs.Ytghhbdmggmdffaa.Reg
open Go Go.RowKit Go.Proofs.YtghhbdmggmdffaaW.PrintWords Go.Proofs.YtghhbdmggmdffaaW.PrintLast
/-- What stands while a region's operations come up in whatever order. D: the slots that they fill; S: what each one's value is. -/
structure RegI (D : List (Option Tmp)) (S : Nat → World → Value → Prop) (a0 : Act) (w0 : World) (b : Nat → Bool) (a : Act) (w : World) : Prop where
  below : Below w0.heap.size w0 w
  defers : a.defers = a0.defers
  size : a.tmps.size = a0.tmps.size
  elder : ∀ t, some t ∉ D → a.tmps[t]? = a0.tmps[t]?
  vals : ∀ (i : Nat) (t : Tmp), D[i]? = some (some t) → b i = true → ∃ v, a.tmps[t]? = some v ∧ S i w v
/-- Operation i, all that it waits for having come up. -/
def RStep (P : Program) (ops : Array Oper) (Q : Exit → Act → World → Prop) (B : List Nat) (D : List (Option Tmp)) (S : Nat → World → Value → Prop) (a0 : Act) (w0 : World) (i : Nat) : Prop :=
  ∀ a w, Below w0.heap.size w0 w → a.tmps.size = a0.tmps.size → (∀ t, some t ∉ D → a.tmps[t]? = a0.tmps[t]?) →
    (∀ (j : Nat) (t : Tmp), (B.getD i 0).testBit j = true → D[j]? = some (some t) → ∃ v, a.tmps[t]? = some v ∧ S j w v) →
    ∃ oi, ops[i]? = some oi ∧ ∀ K : Act → World → Prop, Shut (∀ v w', Below w.heap.size w w' → S i w' v → K (a.put oi.dst v) w') →
      if Region.wanted oi (yielded ops a.tmps) = true then Oper.wp P oi a w K Q else K (a.put oi.dst undef) w
theorem distinct {D : List (Option Tmp)} (h : (D.filterMap id).Nodup) : ∀ {i j : Nat} {t : Tmp}, D[i]? = some (some t) → D[j]? = some (some t) → i = j := by
  induction D with
  | nil => intro i j t hi; simp at hi
  | cons d D ih =>
    intro i j t hi hj
    have mem : ∀ {k : Nat}, D[k]? = some (some t) → t ∈ D.filterMap id := fun {k} hk => List.mem_filterMap.2 ⟨some t, List.mem_of_getElem? hk, rfl⟩
    cases d with
    | none =>
      have h' : (D.filterMap id).Nodup := by simpa using h
      cases i with
      | zero => simp at hi
      | succ i =>
        cases j with
        | zero => simp at hj
        | succ j => exact congrArg (· + 1) (ih h' (by simpa using hi) (by simpa using hj))
    | some u =>
      have h' : u ∉ D.filterMap id ∧ (D.filterMap id).Nodup := by simpa using h
      cases i with
      | zero =>
        cases j with
        | zero => rfl
        | succ j =>
          have hu : u = t := by simpa using hi
          subst hu
          exact absurd (mem (by simpa using hj)) h'.1
      | succ i =>
        cases j with
        | zero =>
          have hu : u = t := by simpa using hj
          subst hu
          exact absurd (mem (by simpa using hi)) h'.1
        | succ j => exact congrArg (· + 1) (ih h'.2 (by simpa using hi) (by simpa using hj))
theorem region_any {P : Program} {ops : Array Oper} {Q : Exit → Act → World → Prop} {id : Nat} {a0 : Act} {w0 : World} (D : List (Option Tmp)) (B : List Nat) (T : Bool × List (List Nat × List Nat)) (S : Nat → World → Value → Prop)
    (hm : P.follows .mixedOrders = true) (hT : rtab .any ops = T) (hB : waitsOk T.2 B = true) (hk : baseOk T.2 (List.range ops.size) = true) (hD : ops.toList.map (·.dst) = D) (hd : (D.filterMap _root_.id).Nodup)
    (hsz : (D.filterMap _root_.id).all (fun t => Nat.blt t a0.tmps.size) = true)
    (hmono : ∀ i w1 w2 v, Below w1.heap.size w1 w2 → S i w1 v → S i w2 v) (O : List Nat) (hO : List.range ops.size = O) (hstep : ∀ i ∈ O, RStep P ops Q B D S a0 w0 i)
    (hend : ∀ a w, RegI D S a0 w0 (fun _ => true) a w → Q .normal a w) : (Code.region id ops true).wp P Q a0 w0 := by
  subst hO
  refine wp_region_last (S := fun _ => True) (ds := []) hm ?_
  have hl : T.2.length = ops.size := by rw [← hT]; exact rtab_length
  refine inv_ (T := T) (B := B) (List.range ops.size) (RegI D S a0 w0) hT hB hk ?_ ?_ ?_ ?_
  · rw [hl]
    simp only [Bool.and_eq_true, beq_iff_eq, List.length_range, and_true]
    apply List.ext_getElem?
    intro j
    by_cases hj : j < ops.size
    · simp [lof, hj]
    · simp [lof, hj]
  · exact ⟨⟨rfl, rfl, rfl, Nat.le_refl _, fun _ _ => rfl⟩, rfl, rfl, fun _ _ => rfl, fun _ _ _ h => by cases h⟩
  · intro i hi b a w hI hb hon hoff
    have hi' : i < ops.size := List.mem_range.1 hi
    obtain ⟨oi, hoi, hK⟩ := hstep i hi a w hI.below hI.size hI.elder (fun j t hj ht => by
      refine hI.vals j t ht (hon j ?_)
      rw [hj, Bool.and_true, List.contains_iff_mem, List.mem_range]
      have := (List.getElem?_eq_some_iff.1 ht).1
      rw [← hD] at this
      simpa using this)
    refine ⟨oi, hoi, fun K hS => hK K (fun v w' hbw hs => hS.out _ _ ?_)⟩
    have hDi : D[i]? = some oi.dst := by rw [← hD, List.getElem?_map, Array.getElem?_toList, hoi]; rfl
    have hbel : Below w0.heap.size w0 w' := hI.below.trans (hbw.mono hI.below.size)
    refine ⟨hbel, by cases oi.dst <;> simp [Act.put, hI.defers], by cases oi.dst <;> simp [Act.put, hI.size], fun t ht => ?_, fun j t hj hbj => ?_⟩
    · cases hdst : oi.dst with
      | none => simpa [Act.put] using hI.elder t ht
      | some u =>
        have hne : u ≠ t := by
          rintro rfl
          exact ht (List.mem_of_getElem? (by rw [hDi, hdst]))
        simp [Act.put, Array.getElem?_setIfInBounds_ne hne]
        exact hI.elder t ht
    · by_cases hji : j = i
      · subst hji
        rw [hDi] at hj
        injection hj with hj
        refine ⟨v, ?_, hs⟩
        rw [hj]
        have : t < a.tmps.size := by
          rw [hI.size]
          have h1 := List.all_eq_true.1 hsz t (List.mem_filterMap.2 ⟨some t, List.mem_of_getElem? (by rw [hDi, hj]), rfl⟩)
          simpa using h1
        simp [Act.put, this]
      · rw [up_ne hji] at hbj
        obtain ⟨x, hx, hsx⟩ := hI.vals j t hj hbj
        refine ⟨x, ?_, hmono _ _ _ _ hbw hsx⟩
        cases hdst : oi.dst with
        | none => simpa [Act.put] using hx
        | some u =>
          have hne : u ≠ t := by
            rintro rfl
            exact hji (distinct hd hj (by rw [hDi, hdst]))
          simp [Act.put, Array.getElem?_setIfInBounds_ne hne]
          exact hx
  · intro b a w hb hI
    exact hend a w ⟨hI.below, hI.defers, hI.size, hI.elder, fun i t hi _ => hI.vals i t hi (hb i (by
      rw [List.contains_iff_mem, List.mem_range]
      have := (List.getElem?_eq_some_iff.1 hi).1
      rw [← hD] at this
      simpa using this))⟩
theorem rs_nil {P : Program} {ops : Array Oper} {Q : Exit → Act → World → Prop} {B : List Nat} {D : List (Option Tmp)} {S : Nat → World → Value → Prop} {a0 : Act} {w0 : World} : ∀ i ∈ ([] : List Nat), RStep P ops Q B D S a0 w0 i := fun _ h => by cases h
theorem rs_cons {P : Program} {ops : Array Oper} {Q : Exit → Act → World → Prop} {B : List Nat} {D : List (Option Tmp)} {S : Nat → World → Value → Prop} {a0 : Act} {w0 : World} {i : Nat} {rs : List Nat} (h : RStep P ops Q B D S a0 w0 i) (hs : ∀ j ∈ rs, RStep P ops Q B D S a0 w0 j) : ∀ j ∈ i :: rs, RStep P ops Q B D S a0 w0 j := fun j hj => by
  rcases List.mem_cons.1 hj with rfl | hj
  · exact h
  · exact hs j hj
/-- Is each of a list of specifications kept as the world grows? -/
def MonoS (s : World → Value → Prop) : Prop := ∀ w1 w2 v, Below w1.heap.size w1 w2 → s w1 v → s w2 v
theorem monoS_eq (x : Value) : MonoS (fun _ v => v = x) := fun _ _ _ _ h => h
theorem monoS_nil : ∀ s ∈ ([] : List (World → Value → Prop)), MonoS s := fun _ h => by cases h
theorem monoS_cons {s : World → Value → Prop} {l : List (World → Value → Prop)} (h : MonoS s) (hs : ∀ t ∈ l, MonoS t) : ∀ t ∈ s :: l, MonoS t := fun t ht => by
  rcases List.mem_cons.1 ht with rfl | ht
  · exact h
  · exact hs t ht
theorem mono_getD {l : List (World → Value → Prop)} (h : ∀ s ∈ l, MonoS s) : ∀ i w1 w2 v, Below w1.heap.size w1 w2 → l.getD i (fun _ _ => False) w1 v → l.getD i (fun _ _ => False) w2 v := by
  intro i w1 w2 v hb hs
  rw [List.getD_eq_getElem?_getD] at hs ⊢
  cases hi : l[i]? with
  | none => rw [hi] at hs; exact hs.elim
  | some s => rw [hi] at hs; exact h s (List.mem_of_getElem? hi) w1 w2 v hb hs
/-- A value is a slice that holds these. -/
def Rs {α : Type} (d : Kd α) (w : World) (v : Value) (xs : List α) : Prop := ∃ A c, v = .slice A xs.length c ∧ xs.length ≤ c ∧ d.C w A xs.length xs
end Go.Proofs.Ytghhbdmggmdffaa.Reg
end

section
/- A region that draws its order, whose operations make rows of their own and take rows over, rows of before the region (owner L) with them: every block has an owner; the last operation waits for all others. No conditions. -/
namespace Go.Proofs.Ytghhbdmggmdffaa.Reh
open Go Go.RowKit Go.Proofs.Ytghhbdmggmdffaa.Reg Go.Proofs.YtghhbdmggmdffaaW.PrintWords Go.Proofs.YtghhbdmggmdffaaW.PrintLast
set_option linter.unusedVariables false
/-- Is a specification kept while the owner's blocks stay? -/
def MonoG (i : Nat) (s : (Nat → Nat) → World → Value → Prop) : Prop := ∀ g g' w w' v, w.heap.size ≤ w'.heap.size → (∀ k, k < w.heap.size → g k = i → w'.heap[k]? = w.heap[k]? ∧ g' k = i) → s g w v → s g' w' v
structure RegH (D : List (Option Tmp)) (S : Nat → (Nat → Nat) → World → Value → Prop) (C : List (List Nat)) (L : Nat) (a0 : Act) (wb w0 : World) (b : Nat → Bool) (g : Nat → Nat) (a : Act) (w : World) : Prop where
  below : Below wb.heap.size wb w
  grows : w0.heap.size ≤ w.heap.size
  stay : (∀ c, L ∈ C.getD c [] → b c = false) → ∀ k, k < w0.heap.size → w.heap[k]? = w0.heap[k]? ∧ g k = L
  defers : a.defers = a0.defers
  size : a.tmps.size = a0.tmps.size
  elder : ∀ t, some t ∉ D → a.tmps[t]? = a0.tmps[t]?
  vals : ∀ (i : Nat) (t : Tmp), D[i]? = some (some t) → b i = true → (∀ c, i ∈ C.getD c [] → b c = false) → ∃ v, a.tmps[t]? = some v ∧ S i g w v
def HStep (P : Program) (ops : Array Oper) (Q : Exit → Act → World → Prop) (B : List Nat) (D : List (Option Tmp)) (S : Nat → (Nat → Nat) → World → Value → Prop) (C : List (List Nat)) (L : Nat) (a0 : Act) (wb w0 : World) (i : Nat) : Prop :=
  ∀ g a w, Below wb.heap.size wb w → w0.heap.size ≤ w.heap.size → ((∀ c, L ∈ C.getD c [] → c = i ∨ ((List.range ops.size).contains c && (B.getD c 0).testBit i) = true) → ∀ k, k < w0.heap.size → w.heap[k]? = w0.heap[k]? ∧ g k = L) → a.tmps.size = a0.tmps.size → (∀ t, some t ∉ D → a.tmps[t]? = a0.tmps[t]?) →
    (∀ (j : Nat) (t : Tmp), (B.getD i 0).testBit j = true → D[j]? = some (some t) → (∀ c, j ∈ C.getD c [] → c = i) → ∃ v, a.tmps[t]? = some v ∧ S j g w v) →
    ∃ oi, ops[i]? = some oi ∧ ∀ K : Act → World → Prop, Shut (∀ v w' g', Below wb.heap.size wb w' → w.heap.size ≤ w'.heap.size → (∀ k, k < w.heap.size → g k ∉ C.getD i [] → w'.heap[k]? = w.heap[k]? ∧ g' k = g k) → S i g' w' v → K (a.put oi.dst v) w') →
      if Region.wanted oi (yielded ops a.tmps) = true then Oper.wp P oi a w K Q else K (a.put oi.dst undef) w
def HLast (P : Program) (ops : Array Oper) (Q : Exit → Act → World → Prop) (B : List Nat) (D : List (Option Tmp)) (S : Nat → (Nat → Nat) → World → Value → Prop) (C : List (List Nat)) (L : Nat) (a0 : Act) (wb w0 : World) (z : Nat) : Prop :=
  ∀ g a w, Below wb.heap.size wb w → w0.heap.size ≤ w.heap.size → ((∀ c, L ∈ C.getD c [] → c = z ∨ ((List.range ops.size).contains c && (B.getD c 0).testBit z) = true) → ∀ k, k < w0.heap.size → w.heap[k]? = w0.heap[k]? ∧ g k = L) → a.defers = a0.defers → a.tmps.size = a0.tmps.size → (∀ t, some t ∉ D → a.tmps[t]? = a0.tmps[t]?) →
    (∀ (j : Nat) (t : Tmp), (B.getD z 0).testBit j = true → D[j]? = some (some t) → (∀ c, j ∈ C.getD c [] → c = z) → ∃ v, a.tmps[t]? = some v ∧ S j g w v) →
    ∃ oi, ops[z]? = some oi ∧ ∀ K : Act → World → Prop, Shut (∀ a' w', Q .normal a' w' → K a' w') → if Region.wanted oi (yielded ops a.tmps) = true then Oper.wp P oi a w K Q else K (a.put oi.dst undef) w
theorem region_h {P : Program} {ops : Array Oper} {Q : Exit → Act → World → Prop} {id : Nat} {a0 : Act} {w0 : World} (z : Nat) (D : List (Option Tmp)) (B : List Nat) (T : Bool × List (List Nat × List Nat)) (S : Nat → (Nat → Nat) → World → Value → Prop) (C : List (List Nat)) (L : Nat) (wb : World) (hb0 : Below wb.heap.size wb w0)
    (hm : P.follows .mixedOrders = true) (hT : rtab .any ops = T) (hB : waitsOk T.2 B = true) (hk : baseOk T.2 (List.range ops.size) = true) (hD : ops.toList.map (·.dst) = D) (hd : (D.filterMap _root_.id).Nodup)
    (hsz : (D.filterMap _root_.id).all (fun t => Nat.blt t a0.tmps.size) = true) (hz : ops.size = z + 1) (hzb : (List.range z).all (fun i => (B.getD z 0).testBit i) = true)
    (hmono : ∀ i, MonoG i (S i)) (O : List Nat) (hO : List.range z = O) (hstep : ∀ i ∈ O, HStep P ops Q B D S C L a0 wb w0 i) (hlast : HLast P ops Q B D S C L a0 wb w0 z) : (Code.region id ops true).wp P Q a0 w0 := by
  subst hO
  refine wp_region_last (S := fun _ => True) (ds := []) hm ?_
  have hl : T.2.length = ops.size := by rw [← hT]; exact rtab_length
  refine inv_ (T := T) (B := B) (List.range ops.size) (fun b a w => (b z = true → Q .normal a w) ∧ (b z = false → ∃ g, RegH D S C L a0 wb w0 b g a w)) hT hB hk ?_ ?_ ?_ ?_
  · rw [hl]
    simp only [Bool.and_eq_true, beq_iff_eq, List.length_range, and_true]
    apply List.ext_getElem?
    intro j
    by_cases hj : j < ops.size
    · simp [lof, hj]
    · simp [lof, hj]
  · exact ⟨(fun h => by cases h), fun _ => ⟨fun _ => L, pw_below_drewN hb0 1, Nat.le_refl _, fun _ _ _ => ⟨rfl, rfl⟩, rfl, rfl, fun _ _ => rfl, (fun _ _ _ h => by cases h)⟩⟩
  · intro i hi b a w hI hb hon hoff
    have hi' : i < ops.size := List.mem_range.1 hi
    have hup : ∀ j, (B.getD i 0).testBit j = true → (∃ t, D[j]? = some (some t)) → b j = true := fun j hj ht => hon j (by
      obtain ⟨t, ht⟩ := ht
      rw [hj, Bool.and_true, List.contains_iff_mem, List.mem_range]
      have := (List.getElem?_eq_some_iff.1 ht).1
      rw [← hD] at this
      simpa using this)
    by_cases hiz : i = z
    · subst hiz
      obtain ⟨g, hG⟩ := hI.2 hb
      obtain ⟨oi, hoi, hK⟩ := hlast g a w hG.below hG.grows (fun hc => hG.stay (fun c h => by
        rcases hc c h with rfl | h2
        · exact hb
        · exact hoff c h2)) hG.defers hG.size hG.elder (fun j t hj ht hc => hG.vals j t ht (hup j hj ⟨t, ht⟩) (fun c h => by rw [hc c h]; exact hb))
      exact ⟨oi, hoi, fun K hS => hK K (fun a' w' hq => hS.out a' w' ⟨fun _ => hq, (fun h => by rw [up_self] at h; cases h)⟩)⟩
    · have hlt : i < z := by omega
      have hbz : b z = false := hoff z (by
        rw [List.all_eq_true.1 hzb i (List.mem_range.2 hlt), Bool.and_true, List.contains_iff_mem, List.mem_range]
        omega)
      obtain ⟨g, hG⟩ := hI.2 hbz
      obtain ⟨oi, hoi, hK⟩ := hstep i (List.mem_range.2 hlt) g a w hG.below hG.grows (fun hc => hG.stay (fun c h => by
        rcases hc c h with rfl | h2
        · exact hb
        · exact hoff c h2)) hG.size hG.elder (fun j t hj ht hc => hG.vals j t ht (hup j hj ⟨t, ht⟩) (fun c h => by rw [hc c h]; exact hb))
      have hDi : D[i]? = some oi.dst := by rw [← hD, List.getElem?_map, Array.getElem?_toList, hoi]; rfl
      refine ⟨oi, hoi, fun K hS => hK K (fun v w' g' hbw hsw hkeep hs => hS.out _ _ ⟨fun h => ?_, fun _ => ⟨g', ?_⟩⟩)⟩
      · rw [up_ne (fun e => hiz e.symm), hbz] at h
        cases h
      · refine ⟨hbw, Nat.le_trans hG.grows hsw, fun hc k hk => ?_, by cases oi.dst <;> simp [Act.put, hG.defers], by cases oi.dst <;> simp [Act.put, hG.size], fun t ht => ?_, fun j t hj hbj hal => ?_⟩
        · have hci : L ∉ C.getD i [] := fun h => by
            have := hc i h
            rw [up_self] at this
            cases this
          obtain ⟨h1, h2⟩ := hG.stay (fun c h => by
            have := hc c h
            by_cases e : c = i
            · rw [e]; exact hb
            · rwa [up_ne e] at this) k hk
          obtain ⟨h3, h4⟩ := hkeep k (Nat.lt_of_lt_of_le hk hG.grows) (by rw [h2]; exact hci)
          exact ⟨h3.trans h1, h4.trans h2⟩
        · cases hdst : oi.dst with
          | none => simpa [Act.put] using hG.elder t ht
          | some u =>
            have hne : u ≠ t := by
              rintro rfl
              exact ht (List.mem_of_getElem? (by rw [hDi, hdst]))
            simp [Act.put, Array.getElem?_setIfInBounds_ne hne]
            exact hG.elder t ht
        · by_cases hji : j = i
          · subst hji
            rw [hDi] at hj
            injection hj with hj
            refine ⟨v, ?_, hs⟩
            rw [hj]
            have : t < a.tmps.size := by
              rw [hG.size]
              have h1 := List.all_eq_true.1 hsz t (List.mem_filterMap.2 ⟨some t, List.mem_of_getElem? (by rw [hDi, hj]), rfl⟩)
              simpa using h1
            simp [Act.put, this]
          · rw [up_ne hji] at hbj
            have hci : j ∉ C.getD i [] := fun h => by
              have := hal i h
              rw [up_self] at this
              cases this
            obtain ⟨x, hx, hsx⟩ := hG.vals j t hj hbj (fun c h => by
              have := hal c h
              by_cases e : c = i
              · rw [e]; exact hb
              · rwa [up_ne e] at this)
            refine ⟨x, ?_, hmono j g g' w w' x hsw (fun k hk hg => ?_) hsx⟩
            · cases hdst : oi.dst with
              | none => simpa [Act.put] using hx
              | some u =>
                have hne : u ≠ t := by
                  rintro rfl
                  exact hji (Reg.distinct hd hj (by rw [hDi, hdst]))
                simp [Act.put, Array.getElem?_setIfInBounds_ne hne]
                exact hx
            · obtain ⟨h1, h2⟩ := hkeep k hk (by rw [hg]; exact hci)
              exact ⟨h1, h2.trans hg⟩
  · intro b a w hb hI
    refine hI.1 (hb z ?_)
    rw [List.contains_iff_mem, List.mem_range]
    omega
theorem hs_nil {P : Program} {ops : Array Oper} {Q : Exit → Act → World → Prop} {B : List Nat} {D : List (Option Tmp)} {S : Nat → (Nat → Nat) → World → Value → Prop} {C : List (List Nat)} {L : Nat} {a0 : Act} {wb w0 : World} : ∀ i ∈ ([] : List Nat), HStep P ops Q B D S C L a0 wb w0 i := fun _ h => by cases h
theorem hs_cons {P : Program} {ops : Array Oper} {Q : Exit → Act → World → Prop} {B : List Nat} {D : List (Option Tmp)} {S : Nat → (Nat → Nat) → World → Value → Prop} {C : List (List Nat)} {L : Nat} {a0 : Act} {wb w0 : World} {i : Nat} {rs : List Nat} (h : HStep P ops Q B D S C L a0 wb w0 i) (hs : ∀ j ∈ rs, HStep P ops Q B D S C L a0 wb w0 j) : ∀ j ∈ i :: rs, HStep P ops Q B D S C L a0 wb w0 j := fun j hj => by
  rcases List.mem_cons.1 hj with rfl | hj
  · exact h
  · exact hs j hj
theorem waits_ok {C : List (List Nat)} {L i n : Nat} {B : List Nat} (h : (List.range C.length).all (fun c => !((C.getD c []).contains L) || (c == i || ((List.range n).contains c && (B.getD c 0).testBit i))) = true) : ∀ c, L ∈ C.getD c [] → c = i ∨ ((List.range n).contains c && (B.getD c 0).testBit i) = true := fun c hc => by
  have hl : c < C.length := by
    rcases Nat.lt_or_ge c C.length with h1 | h1
    · exact h1
    · rw [List.getD_eq_getElem?_getD, List.getElem?_eq_none h1] at hc; simp at hc
  have := List.all_eq_true.1 h c (List.mem_range.2 hl)
  rw [List.contains_iff_mem.2 hc, Bool.not_true, Bool.false_or, Bool.or_eq_true, beq_iff_eq] at this
  exact this
theorem cons_one {C : List (List Nat)} {j i : Nat} (h : (List.range C.length).all (fun c => !((C.getD c []).contains j) || c == i) = true) : ∀ c, j ∈ C.getD c [] → c = i := fun c hc => by
  have hl : c < C.length := by
    rcases Nat.lt_or_ge c C.length with h1 | h1
    · exact h1
    · rw [List.getD_eq_getElem?_getD, List.getElem?_eq_none h1] at hc; simp at hc
  have := List.all_eq_true.1 h c (List.mem_range.2 hl)
  rw [List.contains_iff_mem.2 hc] at this
  simpa using this
theorem monoG_eq (i : Nat) (P : Value → Prop) : MonoG i (fun _ _ v => P v) := fun _ _ _ _ _ _ _ h => h
theorem monoG_R {α : Type} (i : Nat) (d : Kd α) (e base : Nat) (xs : List α) : MonoG i (fun g w v => d.R e w base (fun k => g k = i) v xs) := fun g g' w w' v hs hk h =>
  Kd.R_mono (Kd.R_move (Kd.R_bound h) (fun k hk' => (hk k hk'.2.2.1 hk'.1).1)) (fun k hk' => (hk k hk'.2.2.1 hk'.1).2)
theorem monoG_getD {l : List ((Nat → Nat) → World → Value → Prop)} (h : ∀ i s, l[i]? = some s → MonoG i s) : ∀ i, MonoG i (l.getD i (fun _ _ _ => False)) := by
  intro i g g' w w' v hs hk hv
  rw [List.getD_eq_getElem?_getD] at hv ⊢
  cases hi : l[i]? with
  | none => rw [hi] at hv; exact hv.elim
  | some s => rw [hi] at hv; exact h i s hi g g' w w' v hs hk hv
theorem eval_at {a : Act} {t : Tmp} {v : Value} (h : a.tmps[t]? = some v) : a.eval (.tmp t) = v := by simp [Act.eval, Array.getD_eq_getD_getElem?, h]
theorem skipH_ {P : Program} {Q : Exit → Act → World → Prop} {oi : Oper} {a : Act} {w w1 : World} {K : Act → World → Prop} (hN : oi.dst = none) (hrun : (execOp a.eval oi).run P w = .ok .skip w1) (h : K a w1) : Oper.wp P oi a w K Q := by
  unfold Oper.wp
  rw [hrun]
  show K (a.put oi.dst undef) w1
  rw [hN]
  exact h
/-- The new blocks become i's. -/
def own (g : Nat → Nat) (n i : Nat) : Nat → Nat := fun k => if k < n then g k else i
theorem own_old {g : Nat → Nat} {n i k : Nat} (h : k < n) : own g n i k = g k := if_pos h
theorem own_new {g : Nat → Nat} {n i k : Nat} (h : n ≤ k) : own g n i k = i := if_neg (by omega)
/-- The new blocks, and p's, become i's. -/
def take (g : Nat → Nat) (n i p : Nat) : Nat → Nat := fun k => if k < n ∧ g k ≠ p then g k else i
theorem take_old {g : Nat → Nat} {n i p k : Nat} (h : k < n) (hp : g k ≠ p) : take g n i p k = g k := if_pos ⟨h, hp⟩
theorem take_new {g : Nat → Nat} {n i p k : Nat} (h : n ≤ k ∨ g k = p) : take g n i p k = i := if_neg (by rintro ⟨h1, h2⟩; rcases h with h | h <;> first | omega | exact h2 h)
section
variable {P : Program} {ops : Array Oper} {Q : Exit → Act → World → Prop} {o : Oper} {a : Act} {K : Act → World → Prop}
/-- A literal: a row of i's. -/
theorem lit_h {α : Type} (d : Kd α) (e i : Nat) {g : Nat → Nat} {wb w : World} {pc : List Nat} (hw : Region.wanted o (yielded ops a.tmps) = true) {N : Tmp} (hd : o.dst = some N) {xs : List α} {inner : List Value}
    (hrun : (execOp a.eval o).run P w = .ok (.value (.slice (some ⟨w.heap.size, 0, none⟩) xs.length xs.length)) (w.alloc (.cells inner.toArray e)))
    (hrep : Reps (d.M w wb.heap.size (fun _ => False)) d.sz xs inner) (HB : Below wb.heap.size wb w) (hm : xs.length ≤ 9223372036854775807)
    (h : ∀ (v : Value) (w' : World) (g' : Nat → Nat), Below wb.heap.size wb w' → w.heap.size ≤ w'.heap.size → (∀ k, k < w.heap.size → g k ∉ pc → w'.heap[k]? = w.heap[k]? ∧ g' k = g k) → d.R e w' wb.heap.size (fun k => g' k = i) v xs → K (a.put o.dst v) w') :
    if Region.wanted o (yielded ops a.tmps) = true then Oper.wp P o a w K Q else K (a.put o.dst undef) w :=
  Kd.R_lit_step d wb.heap.size e hw hd (ok := fun k => own g w.heap.size i k = i) (okp := fun _ => False) hrun hrep (fun _ hk => hk.elim) (own_new (Nat.le_refl _)) HB HB.size hm
    (fun v1 w1 hR hB hg _ => h v1 w1 (own g w.heap.size i) hB hg.size (fun k hk _ => ⟨hg.block k hk (by simp), own_old hk⟩) hR)
/-- A row is appended to p's row, which becomes i's. -/
theorem app_h {sz : Nat} (e i p : Nat) {g : Nat → Nat} {wb w : World} {pc : List Nat} (hpc : pc = [p]) (hw : Region.wanted o (yielded ops a.tmps) = true) (s x : Operand) (t : TypeId) (z : Value) (bytes : Nat)
    (ho : o.op = .call { callee := .builtin .append, args := #[s, x], argTypes := #[t, t] })
    (ht : P.underlying t = some (.slice e)) (hinfo : (P.info? e).map (fun i => (i.zero, i.size, i.bytes)) = some (some z, sz, bytes)) (hz : z.cells.size = sz) (hs0 : 0 < sz) (hb0 : 0 < bytes)
    (v : Value) (xs ys : List (List Value)) (A : Option Addr) (m c : Nat) (hs : a.eval s = v) (hx : a.eval x = .slice A m c)
    (HO : (Kd.raw sz).R e w wb.heap.size (fun k => g k = p) v xs) (HR : (Kd.raw sz).C w A m ys) (HB : Below wb.heap.size wb w) (hl : (xs.length + m) * bytes ≤ 140737488355328)
    (h : ∀ (v : Value) (w' : World) (g' : Nat → Nat), Below wb.heap.size wb w' → w.heap.size ≤ w'.heap.size → (∀ k, k < w.heap.size → g k ∉ pc → w'.heap[k]? = w.heap[k]? ∧ g' k = g k) → (Kd.raw sz).R e w' wb.heap.size (fun k => g' k = i) v (xs ++ ys) → K (a.put o.dst v) w') :
    if Region.wanted o (yielded ops a.tmps) = true then Oper.wp P o a w K Q else K (a.put o.dst undef) w := by
  subst hpc
  have hop : ∀ k, v.ownBlock = some k → g k = p := HO.1
  refine Kd.R_append_rows_step (Kd.raw sz) wb.heap.size hw s x t e z bytes ho ht hinfo hz hs0 hb0 v xs ys A m c (fun k => take g w.heap.size i p k = i) (fun _ => False) hs hx
    (Kd.R_mono (Kd.R_bound HO) (fun k hk => take_new (.inr hk.1))) HR (fun _ _ hk => hk) (fun _ hk => hk.elim) (fun k hk => take_new (.inl hk)) HB HB.size hl ?_
  intro v1 w1 hR hB hg _
  refine h v1 w1 (take g w.heap.size i p) hB hg.size (fun k hk hne => ⟨hg.block k hk (fun e => ?_), take_old hk (fun e => hne (by rw [e]; exact List.mem_singleton.2 rfl))⟩) hR
  exact hne (by rw [hop k e.symm]; exact List.mem_singleton.2 rfl)
/-- A slot's new block. -/
theorem own_keep {g : Nat → Nat} {w w' : World} {i : Nat} {pc : List Nat} (hb : Below w.heap.size w w') : ∀ k, k < w.heap.size → g k ∉ pc → w'.heap[k]? = w.heap[k]? ∧ own g w.heap.size i k = g k := fun k hk _ => ⟨hb.block k hk, own_old hk⟩
theorem same_keep {g : Nat → Nat} {w : World} {pc : List Nat} : ∀ k, k < w.heap.size → g k ∉ pc → w.heap[k]? = w.heap[k]? ∧ g k = g k := fun _ _ _ => ⟨rfl, rfl⟩
end
end Go.Proofs.Ytghhbdmggmdffaa.Reh
end

section
/- Behind a region that draws: its frame written out, slot by slot. No conditions. -/
namespace Go.Proofs.Ytghhbdmggmdffaa.Reg
open Go Go.RowKit Go.Proofs.YtghhbdmggmdffaaW.PrintWords Go.Proofs.YtghhbdmggmdffaaW.PrintLast
/-- The slots of D filled out of g. -/
def puts (g : Tmp → Value) : List (Option Tmp) → Act → Act
  | [], a => a
  | none :: D, a => puts g D a
  | some t :: D, a => puts g D (a.put (some t) (g t))
theorem puts_defers (g : Tmp → Value) : ∀ D a, (puts g D a).defers = a.defers
  | [], _ => rfl
  | none :: D, a => puts_defers g D a
  | some t :: D, a => (puts_defers g D _).trans (by simp [Act.put])
theorem puts_size (g : Tmp → Value) : ∀ D a, (puts g D a).tmps.size = a.tmps.size
  | [], _ => rfl
  | none :: D, a => puts_size g D a
  | some t :: D, a => (puts_size g D _).trans (by simp [Act.put])
theorem puts_out (g : Tmp → Value) : ∀ D a t, some t ∉ D → (puts g D a).tmps[t]? = a.tmps[t]?
  | [], _, _, _ => rfl
  | none :: D, a, t, h => puts_out g D a t (fun h' => h (List.mem_cons_of_mem _ h'))
  | some u :: D, a, t, h => by
    have hne : u ≠ t := fun e => h (by rw [e]; exact List.mem_cons_self)
    refine (puts_out g D _ t (fun h' => h (List.mem_cons_of_mem _ h'))).trans ?_
    simp [Act.put, Array.getElem?_setIfInBounds_ne hne]
theorem puts_in (g : Tmp → Value) : ∀ D a t, some t ∈ D → t < a.tmps.size → (puts g D a).tmps[t]? = some (g t)
  | [], _, _, h, _ => by cases h
  | none :: D, a, t, h, hs => puts_in g D a t (by simpa using h) hs
  | some u :: D, a, t, h, hs => by
    show (puts g D (a.put (some u) (g u))).tmps[t]? = some (g t)
    by_cases hD : some t ∈ D
    · exact puts_in g D _ t hD (by simpa [Act.put] using hs)
    · have hu : u = t := by
        rcases List.mem_cons.1 h with h | h
        · exact (Option.some.inj h).symm
        · exact absurd h hD
      subst hu
      rw [puts_out g D _ u hD]
      simp [Act.put, hs]
/-- The frame that the region leaves. -/
theorem RegI.frame {D : List (Option Tmp)} {S : Nat → World → Value → Prop} {a0 : Act} {w0 : World} {b : Nat → Bool} {a : Act} {w : World} (h : RegI D S a0 w0 b a w) : a = puts (fun t => a.tmps.getD t undef) D a0 := by
  have h1 : a.tmps = (puts (fun t => a.tmps.getD t undef) D a0).tmps := by
    apply Array.ext_getElem?
    intro t
    by_cases hD : some t ∈ D
    · by_cases hs : t < a0.tmps.size
      · rw [puts_in _ D a0 t hD hs]
        have hs' : t < a.tmps.size := by rw [h.size]; exact hs
        simp [Array.getD_eq_getD_getElem?, hs']
      · rw [Array.getElem?_eq_none (by rw [h.size]; omega), Array.getElem?_eq_none (by rw [puts_size]; omega)]
    · rw [puts_out _ D a0 t hD, h.elder t hD]
  have h2 : a.defers = (puts (fun t => a.tmps.getD t undef) D a0).defers := by rw [puts_defers, h.defers]
  generalize puts (fun t => a.tmps.getD t undef) D a0 = c at h1 h2
  cases a; cases c
  simp only at h1 h2
  rw [h1, h2]
theorem getD_of {a : Act} {t : Tmp} {v : Value} (h : a.tmps[t]? = some v) : a.tmps.getD t undef = v := by simp [Array.getD_eq_getD_getElem?, h]
end Go.Proofs.Ytghhbdmggmdffaa.Reg
end

section
/- decl.Scope walked by hand: what a unit stands in. -/
namespace Go.Proofs.Ytghhbdmggmdffaa.Given
open Go Go.RowKit Go.Proofs.Ytghhbdmggmdffaa.PDe Go.Proofs.Ytghhbdmggmdffaa.RPure Go.Proofs.YtghhbdmggmdffaaW.PrintWords Go.Proofs.YtghhbdmggmdffaaW.PrintLast Go.Proofs.YtghhbdmggmdffaaW.PrintMore
set_option linter.unusedVariables false
set_option linter.unusedSimpArgs false
def sigsF (U : LU) : List S66 := U.map fun X => ⟨X.f1, X.f2⟩
theorem sigs_l0 (l : LU) (hl : l.length ≤ 1000) (hU : ∀ X ∈ l, X.f1.length ≤ 1000) : ∀ m i k (out : List S66), i + m = l.length → m < k → out.length + m ≤ 2000 → decl_Sigs.l0 k out l (l.length : Int) (i : Int) = some (out ++ sigsF (l.drop i))
  | 0, i, k, out, h, hk, ho => by
    obtain ⟨k, rfl⟩ : ∃ m, k = m + 1 := ⟨k - 1, by omega⟩
    rw [decl_Sigs.l0, if_neg (by omega), List.drop_of_length_le (by omega)]
    simp [sigsF]
  | m + 1, i, k, out, h, hk, ho => by
    obtain ⟨k, rfl⟩ : ∃ m, k = m + 1 := ⟨k - 1, by omega⟩
    have hm : rd_T41 l (i : Int) ∈ l := List.mem_of_mem_drop (i := i) (by rw [rdu l i (by omega)]; exact List.mem_cons_self)
    have hx := hU _ hm
    rw [decl_Sigs.l0, if_pos (by omega), if_pos (by omega), if_pos (by omega), Option.bind_some, if_pos (by simp only [List.length_nil]; omega), if_pos (by omega), w64 _ (by omega) (by omega)]
    have ih := sigs_l0 l hl hU m (i + 1) k (out ++ [⟨([] : List Int) ++ (rd_T41 l (i : Int)).f1, (rd_T41 l (i : Int)).f2⟩]) (by omega) (by omega) (by simp; omega)
    rw [show ((i + 1 : Nat) : Int) = (i : Int) + 1 by omega] at ih
    rw [ih, rdu l i (by omega), List.append_assoc]
    rfl
theorem sigs_is (U : LU) (hl : U.length ≤ 1000) (hU : ∀ X ∈ U, X.f1.length ≤ 1000) : decl_Sigs.f 2000 U = some (sigsF U) := by
  have := sigs_l0 U hl hU U.length 0 2000 [] (by omega) (by omega) (by simp; omega)
  exact this
theorem cells_of {α : Type} {d : Kd α} {w : World} {A : Option Addr} {xs : List α} (h : d.C w A xs.length xs) : ∃ news : List (List Value), news.length = xs.length ∧ (Kd.raw d.sz).C w A xs.length news ∧ ∀ (j : Nat) (x : α) (c : List Value), xs[j]? = some x → news[j]? = some c → d.K w x c :=
  Kd.reads_raw h (fun x c hk => ⟨d.K_len hk, d.K_one hk⟩)
theorem same_of {α : Type} {d : Kd α} {w W : World} {A : Option Addr} {xs : List α} {news : List (List Value)} (hl : news.length = xs.length) (hk : ∀ (j : Nat) (x : α) (c : List Value), xs[j]? = some x → news[j]? = some c → d.K w x c) (hb : Below w.heap.size w W)
    (h : (Kd.raw d.sz).C W A ([] ++ news).length ([] ++ news)) : d.C W A xs.length xs := by
  rw [List.nil_append] at h
  obtain ⟨h1, h2, h3⟩ := h
  refine ⟨rfl, by omega, fun hp => ?_⟩
  obtain ⟨ad, e, hc⟩ := h3 (by omega)
  refine ⟨ad, e, fun j p hj => ?_⟩
  have hjl : j < xs.length := (List.getElem?_eq_some_iff.1 hj).1
  obtain ⟨c, k1, k2, k3⟩ := hc j _ (List.getElem?_eq_getElem (by omega))
  refine ⟨c, k1, ?_, k3⟩
  obtain ⟨rfl, _, _⟩ := k2
  exact d.K_below hb (hk j p _ hj (List.getElem?_eq_getElem (by omega)))
theorem keepR {α : Type} {d : Kd α} {e p base : Nat} {W W' : World} {v : Value} {xs : List α} (h : d.R e W base (fun k => k ≠ p) v xs) (hm : ∀ k, base ≤ k → k < W.heap.size → k ≠ p → W'.heap[k]? = W.heap[k]?) : d.R e W' base (fun k => k ≠ p) v xs :=
  Kd.R_mono (Kd.R_move (Kd.R_bound h) (fun k hk => hm k hk.2.1 hk.2.2.1 hk.1)) (fun _ hk => hk.1)
theorem setRow_other' (w : World) (g : Nat) (cs : Array Value) (k : Nat) (h : k ≠ g) : (w.setRow g cs).heap[k]? = w.heap[k]? := by simp [World.setRow, Array.getElem?_modify, Ne.symm h]
def slF (U : LU) (u : Int) : List Int := if 0 ≤ u ∧ u < (U.length : Int) then slotsF (rd_T41 U u).f1 (rd_T41 U u).f2 (rd_T41 U u).f3 else []
/-- A scope comes back. -/
def Sc (V : LV) (B : LB) (U : LU) (u : Int) (w : World) (e : Ending) (w' : World) : Prop := ∃ B0 d0 B1 d1 B2 d2 B3 d3, e = .returned (.agg #[.slice B0 V.length d0, .slice B1 B.length d1, .slice B2 (sigsF U).length d2, .slice B3 (slF U u).length d3]) ∧ (Kd.C k45 w' B0 V.length V ∧ V.length ≤ d0) ∧ (Kd.C k47 w' B1 B.length B ∧ B.length ≤ d1) ∧ (Kd.C k66 w' B2 (sigsF U).length (sigsF U) ∧ (sigsF U).length ≤ d2) ∧ (Kd.C (Kd.int .i64) w' B3 (slF U u).length (slF U u) ∧ (slF U u).length ≤ d3) ∧ Below w.heap.size w w'
set_option maxHeartbeats 16000000 in
set_option maxRecDepth 100000 in
theorem scope_c (A0 : Option Addr) (c0 : Nat) (C : LC) (A1 : Option Addr) (c1 : Nat) (V : LV) (A2 : Option Addr) (c2 : Nat) (B : LB) (A3 : Option Addr) (c3 : Nat) (U : LU) (u : Int) (w : World)
    (g0 : Kd.C k61 w A0 C.length C) (l0 : C.length ≤ c0) (g1 : Kd.C k45 w A1 V.length V) (l1 : V.length ≤ c1) (g2 : Kd.C k47 w A2 B.length B) (l2 : B.length ≤ c2) (g3 : Kd.C k41 w A3 U.length U) (l3 : U.length ≤ c3) (hV : V.length ≤ 100) (hB : B.length ≤ 100) (hUl : U.length ≤ 100) (hU : Ok U) :
    Calls Try.prog 12 #[.agg #[.slice A0 C.length c0, .slice A1 V.length c1, .slice A2 B.length c2, .slice A3 U.length c3], .int .i64 u] w (Sc V B U u w) := by
  obtain ⟨VN, hN1, nC1, nK1⟩ := cells_of g1
  obtain ⟨BN, hN2, nC2, nK2⟩ := cells_of g2
  have HN1 := Aside0.mk hN1
  have HN2 := Aside0.mk hN2
  have NK1 := Aside0.mk nK1
  have NK2 := Aside0.mk nK2
  have b1 := Aside0.mk hV
  have b2 := Aside0.mk hB
  have m0_ := g0.2.1
  have I1 := Aside0.mk (show (Try.prog.info? 45).map (fun i => (i.zero, i.size, i.bytes)) = some (some (.agg #[.string ⟨#[]⟩, .int .i64 0, .int .i64 0, .int .i64 0, .int .i64 0]), 5, 48) by kernel_rfl)
  have I2 := Aside0.mk (show (Try.prog.info? 47).map (fun i => (i.zero, i.size, i.bytes)) = some (some (.agg #[.string ⟨#[]⟩, .int .i64 0]), 2, 24) by kernel_rfl)
  have IP := Aside0.mk (show (Try.prog.info? 37).map (·.size) = some 4 by kernel_rfl)
  have G3 := Aside0.mk g3
  have PS0 := Aside0.mk (fun W (hb : Below w.heap.size w W) => decl_Sigs.calls 2000 A3 c3 U (sigsF U) W (Kd.C_below g3 hb) l3 (sigs_is U (by omega) (fun X hX => by have := (hU X hX).1; omega)))
  obtain ⟨W0, hW0, hB0, kP, kZ⟩ := two w (cellsP A0 c0 C A1 c1 V A2 c2 B A3 c3 U) (.cells #[.slice none 0 0, .slice none 0 0, .slice none 0 0, .slice none 0 0] 37)
  have HB0 := Aside0.mk hB0
  have HP := Aside0.mk kP
  have HZ := Aside0.mk kZ
  have N1 := Aside0.mk (Kd.C_below nC1 hB0)
  have N2 := Aside0.mk (Kd.C_below nC2 hB0)
  have PS := Aside0.mk (fun W (hb : Below W0.heap.size W0 W) => PS0.out W (hB0.trans (hb.mono hB0.size)))
  clear PS0 g0 g1 g2 g3 hN1 hN2 nC1 nC2 nK1 nK2 hV hB hB0 kP kZ
  go_enter Try.func12, Try.ntmps12
  go_wp2_with fail
  rw [← hW0]
  clear hW0
  refine Reh.region_h 13 [some 6, some 7, some 8, some 9, some 10, some 11, some 12, some 13, some 14, some 15, some 16, some 17, some 5, none] [0, 0, 2, 7, 0, 0, 32, 127, 0, 256, 1023, 2047, 0, 8191] (true, [([], []), ([], []), ([1], [1]), ([0, 2], [0, 2]), ([], []), ([], []), ([5], [5]), ([4, 6, 3], [4, 6]), ([], []), ([8], [8]), ([9, 7], [9]), ([3, 7, 10], [3, 7, 10]), ([], []), ([12, 11, 10, 0, 1, 2, 3, 4, 5, 6, 7, 8, 9, 10, 11, 12], [11, 12])])
    (fun i => ([(fun g_ w_ v_ => (Kd.raw 5).R 45 w_ W0.heap.size (fun k_ => g_ k_ = 0) v_ ([])), (fun _ _ v_ => v_ = (.pointer (some ⟨w.heap.size, 1, none⟩))), (fun _ _ v_ => v_ = (.slice A1 V.length c1)), (fun g_ w_ v_ => (Kd.raw 5).R 45 w_ W0.heap.size (fun k_ => g_ k_ = 3) v_ ([] ++ VN)), (fun g_ w_ v_ => (Kd.raw 2).R 47 w_ W0.heap.size (fun k_ => g_ k_ = 4) v_ ([])), (fun _ _ v_ => v_ = (.pointer (some ⟨w.heap.size, 2, none⟩))), (fun _ _ v_ => v_ = (.slice A2 B.length c2)), (fun g_ w_ v_ => (Kd.raw 2).R 47 w_ W0.heap.size (fun k_ => g_ k_ = 7) v_ ([] ++ BN)), (fun _ _ v_ => v_ = (.pointer (some ⟨w.heap.size, 3, none⟩))), (fun _ _ v_ => v_ = (.slice A3 U.length c3)), (fun g_ w_ v_ => Kd.R k66 66 w_ W0.heap.size (fun k_ => g_ k_ = 10) v_ (sigsF U)), (fun g_ w_ v_ => ∃ v0_ v1_ v2_, v_ = .agg #[v0_, v1_, v2_, .slice none 0 0] ∧ (Kd.raw 5).R 45 w_ W0.heap.size (fun k_ => g_ k_ = 11) v0_ ([] ++ VN) ∧ (Kd.raw 2).R 47 w_ W0.heap.size (fun k_ => g_ k_ = 11) v1_ ([] ++ BN) ∧ Kd.R k66 66 w_ W0.heap.size (fun k_ => g_ k_ = 11) v2_ (sigsF U)), (fun g_ w_ v_ => ∃ p_, v_ = .pointer (some ⟨p_, 0, none⟩) ∧ g_ p_ = 12 ∧ W0.heap.size ≤ p_ ∧ p_ < w_.heap.size ∧ w_.heap[p_]? = some (.cells #[.slice none 0 0, .slice none 0 0, .slice none 0 0, .slice none 0 0] 37 (0, 0))), (fun _ _ _ => True)] : List ((Nat → Nat) → World → Value → Prop)).getD i (fun _ _ _ => False)) [[], [], [], [0], [], [], [], [4], [], [], [], [3, 7, 10], [], []] 1000 W0 (Below.refl _ _)
    (by kernel_rfl) (by kernel_rfl) (by kernel_rfl) (by kernel_rfl) (by kernel_rfl) (by decide) (by rfl) (by rfl) (by kernel_rfl) (Reh.monoG_getD ?_) [0, 1, 2, 3, 4, 5, 6, 7, 8, 9, 10, 11, 12] (by kernel_rfl) ?_ ?_
  · intro i s_ hs_
    match i, hs_ with
    | 0, hs_ => obtain rfl := Option.some.inj hs_; exact Reh.monoG_R _ _ _ _ _
    | 1, hs_ => obtain rfl := Option.some.inj hs_; exact Reh.monoG_eq _ _
    | 2, hs_ => obtain rfl := Option.some.inj hs_; exact Reh.monoG_eq _ _
    | 3, hs_ => obtain rfl := Option.some.inj hs_; exact Reh.monoG_R _ _ _ _ _
    | 4, hs_ => obtain rfl := Option.some.inj hs_; exact Reh.monoG_R _ _ _ _ _
    | 5, hs_ => obtain rfl := Option.some.inj hs_; exact Reh.monoG_eq _ _
    | 6, hs_ => obtain rfl := Option.some.inj hs_; exact Reh.monoG_eq _ _
    | 7, hs_ => obtain rfl := Option.some.inj hs_; exact Reh.monoG_R _ _ _ _ _
    | 8, hs_ => obtain rfl := Option.some.inj hs_; exact Reh.monoG_eq _ _
    | 9, hs_ => obtain rfl := Option.some.inj hs_; exact Reh.monoG_eq _ _
    | 10, hs_ => obtain rfl := Option.some.inj hs_; exact Reh.monoG_R _ _ _ _ _
    | 11, hs_ => obtain rfl := Option.some.inj hs_; exact (fun g g' w w' v hs hk h => by obtain ⟨v0_, v1_, v2_, e_, h0, h1, h2⟩ := h; exact ⟨v0_, v1_, v2_, e_, Reh.monoG_R 11 _ _ _ _ g g' w w' _ hs hk h0, Reh.monoG_R 11 _ _ _ _ g g' w w' _ hs hk h1, Reh.monoG_R 11 _ _ _ _ g g' w w' _ hs hk h2⟩)
    | 12, hs_ => obtain rfl := Option.some.inj hs_; exact (fun g g' w w' v hs hk h => by obtain ⟨p_, e_, h1, h2, h3, h4⟩ := h; obtain ⟨k1, k2⟩ := hk p_ h3 h1; exact ⟨p_, e_, k2, h2, by omega, k1.trans h4⟩)
    | 13, hs_ => obtain rfl := Option.some.inj hs_; exact (fun _ _ _ _ _ _ _ _ => trivial)
    | k + 14, hs_ => exact absurd hs_ (by simp)
  · skip
    refine Reh.hs_cons ?_ ?_
    · intro g a w_ hb hgr hst hs hel hon
      refine ⟨_, rfl, fun K hK => ?_⟩
      refine Reh.lit_h (Kd.raw 5) 45 0 (by rfl) (N := 6) rfl (xs := []) (inner := []) ?_ (Reps.none _ _) hb (by simp) (fun v_ w2 g2 h1 h2 h3 h4 => hK.out _ _ _ h1 h2 h3 h4)
      first | (go_simp; done) | (go_simp; rfl)
    refine Reh.hs_cons ?_ ?_
    · intro g a w_ hb hgr hst hs hel hon
      have e2 : a.tmps[2]? = some (.pointer (some ⟨w.heap.size, 0, none⟩)) := (hel 2 (by decide)).trans rfl
      obtain ⟨_, g2⟩ := Array.getElem?_eq_some_iff.1 e2
      refine ⟨_, rfl, fun K hK => ?_⟩
      refine value_ (w1 := w_) (v := .pointer (some ⟨w.heap.size, 1, none⟩)) (by rfl) rfl ?_ (hK.out _ _ g hb (Nat.le_refl _) Reh.same_keep rfl)
      · go_simp
        (try simp only [i64_w, g2])
        (try go_simp)
        try rfl
    refine Reh.hs_cons ?_ ?_
    · intro g a w_ hb hgr hst hs hel hon
      obtain ⟨_, e7, rfl⟩ := hon 1 7 (by kernel_rfl) rfl (Reh.cons_one (by kernel_rfl))
      obtain ⟨_, g7⟩ := Array.getElem?_eq_some_iff.1 e7
      have hk_ := (hb.block _ (blk_lt HP.out)).trans HP.out
      obtain ⟨q0, q1, q2, q3⟩ := progCells hk_
      refine ⟨_, rfl, fun K hK => ?_⟩
      refine value_ (w1 := w_) (v := .slice A1 V.length c1) (by rfl) rfl ?_ (hK.out _ _ g hb (Nat.le_refl _) Reh.same_keep rfl)
      · go_simp
        (try simp only [i64_w, g7])
        (try go_simp)
        try rfl
    refine Reh.hs_cons ?_ ?_
    · intro g a w_ hb hgr hst hs hel hon
      obtain ⟨v6_, e6, h6⟩ := hon 0 6 (by kernel_rfl) rfl (Reh.cons_one (by kernel_rfl))
      obtain ⟨_, g6⟩ := Array.getElem?_eq_some_iff.1 e6
      obtain ⟨_, e8, rfl⟩ := hon 2 8 (by kernel_rfl) rfl (Reh.cons_one (by kernel_rfl))
      obtain ⟨_, g8⟩ := Array.getElem?_eq_some_iff.1 e8
      refine ⟨_, rfl, fun K hK => ?_⟩
      refine Reh.app_h 45 3 0 rfl (by rfl) (.tmp 6) (.tmp 8) 23 (.agg #[.string ⟨#[]⟩, .int .i64 0, .int .i64 0, .int .i64 0, .int .i64 0]) 48 rfl Try.underlying23 I1.out rfl (by decide) (by decide) v6_ ([]) (VN) A1 (V.length) c1 (Reh.eval_at e6) (Reh.eval_at e8) h6 (Kd.C_below N1.out hb) hb (by have := b1.out; simp only [List.length_nil, Nat.zero_add]; omega) (fun v_ w2 g2 h1 h2 h3 h4 => hK.out _ _ _ h1 h2 h3 h4)
    refine Reh.hs_cons ?_ ?_
    · intro g a w_ hb hgr hst hs hel hon
      refine ⟨_, rfl, fun K hK => ?_⟩
      refine Reh.lit_h (Kd.raw 2) 47 4 (by rfl) (N := 10) rfl (xs := []) (inner := []) ?_ (Reps.none _ _) hb (by simp) (fun v_ w2 g2 h1 h2 h3 h4 => hK.out _ _ _ h1 h2 h3 h4)
      first | (go_simp; done) | (go_simp; rfl)
    refine Reh.hs_cons ?_ ?_
    · intro g a w_ hb hgr hst hs hel hon
      have e2 : a.tmps[2]? = some (.pointer (some ⟨w.heap.size, 0, none⟩)) := (hel 2 (by decide)).trans rfl
      obtain ⟨_, g2⟩ := Array.getElem?_eq_some_iff.1 e2
      refine ⟨_, rfl, fun K hK => ?_⟩
      refine value_ (w1 := w_) (v := .pointer (some ⟨w.heap.size, 2, none⟩)) (by rfl) rfl ?_ (hK.out _ _ g hb (Nat.le_refl _) Reh.same_keep rfl)
      · go_simp
        (try simp only [i64_w, g2])
        (try go_simp)
        try rfl
    refine Reh.hs_cons ?_ ?_
    · intro g a w_ hb hgr hst hs hel hon
      obtain ⟨_, e11, rfl⟩ := hon 5 11 (by kernel_rfl) rfl (Reh.cons_one (by kernel_rfl))
      obtain ⟨_, g11⟩ := Array.getElem?_eq_some_iff.1 e11
      have hk_ := (hb.block _ (blk_lt HP.out)).trans HP.out
      obtain ⟨q0, q1, q2, q3⟩ := progCells hk_
      refine ⟨_, rfl, fun K hK => ?_⟩
      refine value_ (w1 := w_) (v := .slice A2 B.length c2) (by rfl) rfl ?_ (hK.out _ _ g hb (Nat.le_refl _) Reh.same_keep rfl)
      · go_simp
        (try simp only [i64_w, g11])
        (try go_simp)
        try rfl
    refine Reh.hs_cons ?_ ?_
    · intro g a w_ hb hgr hst hs hel hon
      obtain ⟨v10_, e10, h10⟩ := hon 4 10 (by kernel_rfl) rfl (Reh.cons_one (by kernel_rfl))
      obtain ⟨_, g10⟩ := Array.getElem?_eq_some_iff.1 e10
      obtain ⟨_, e12, rfl⟩ := hon 6 12 (by kernel_rfl) rfl (Reh.cons_one (by kernel_rfl))
      obtain ⟨_, g12⟩ := Array.getElem?_eq_some_iff.1 e12
      refine ⟨_, rfl, fun K hK => ?_⟩
      refine Reh.app_h 47 7 4 rfl (by rfl) (.tmp 10) (.tmp 12) 24 (.agg #[.string ⟨#[]⟩, .int .i64 0]) 24 rfl Try.underlying24 I2.out rfl (by decide) (by decide) v10_ ([]) (BN) A2 (B.length) c2 (Reh.eval_at e10) (Reh.eval_at e12) h10 (Kd.C_below N2.out hb) hb (by have := b2.out; simp only [List.length_nil, Nat.zero_add]; omega) (fun v_ w2 g2 h1 h2 h3 h4 => hK.out _ _ _ h1 h2 h3 h4)
    refine Reh.hs_cons ?_ ?_
    · intro g a w_ hb hgr hst hs hel hon
      have e2 : a.tmps[2]? = some (.pointer (some ⟨w.heap.size, 0, none⟩)) := (hel 2 (by decide)).trans rfl
      obtain ⟨_, g2⟩ := Array.getElem?_eq_some_iff.1 e2
      refine ⟨_, rfl, fun K hK => ?_⟩
      refine value_ (w1 := w_) (v := .pointer (some ⟨w.heap.size, 3, none⟩)) (by rfl) rfl ?_ (hK.out _ _ g hb (Nat.le_refl _) Reh.same_keep rfl)
      · go_simp
        (try simp only [i64_w, g2])
        (try go_simp)
        try rfl
    refine Reh.hs_cons ?_ ?_
    · intro g a w_ hb hgr hst hs hel hon
      obtain ⟨_, e14, rfl⟩ := hon 8 14 (by kernel_rfl) rfl (Reh.cons_one (by kernel_rfl))
      obtain ⟨_, g14⟩ := Array.getElem?_eq_some_iff.1 e14
      have hk_ := (hb.block _ (blk_lt HP.out)).trans HP.out
      obtain ⟨q0, q1, q2, q3⟩ := progCells hk_
      refine ⟨_, rfl, fun K hK => ?_⟩
      refine value_ (w1 := w_) (v := .slice A3 U.length c3) (by rfl) rfl ?_ (hK.out _ _ g hb (Nat.le_refl _) Reh.same_keep rfl)
      · go_simp
        (try simp only [i64_w, g14])
        (try go_simp)
        try rfl
    refine Reh.hs_cons ?_ ?_
    · intro g a w_ hb hgr hst hs hel hon
      obtain ⟨_, e15, rfl⟩ := hon 9 15 (by kernel_rfl) rfl (Reh.cons_one (by kernel_rfl))
      obtain ⟨_, g15⟩ := Array.getElem?_eq_some_iff.1 e15
      refine ⟨_, rfl, fun K hK => ?_⟩
      refine goes_ Try.func27 (by kernel_rfl) rfl #[.slice A3 U.length c3] (by rfl) rfl rfl (by first | (simp only [List.map_toArray, List.map_cons, List.map_nil, Act.eval, Array.getD_eq_getD_getElem?, Option.getD_some, e15]; done) | (simp only [List.map_toArray, List.map_cons, List.map_nil, Act.eval, Array.getD_eq_getD_getElem?, Option.getD_some, e15]; rfl) | rfl) ?_
      refine (PS.out w_ hb).mono ?_
      rintro e w2 ⟨v0_, rfl, hS_, hb2⟩
      exact ⟨_, rfl, hK.out _ _ (Reh.own g w_.heap.size 10) (hb.trans (hb2.mono hb.size)) hb2.size (Reh.own_keep hb2) (Kd.R_lower (Kd.R_mono (Kd.R_bound (Kd.S_R hS_)) (fun k_ hk_ => Reh.own_new hk_.2.1)) hb.size)⟩
    refine Reh.hs_cons ?_ ?_
    · intro g a w_ hb hgr hst hs hel hon
      obtain ⟨v9_, e9, h9⟩ := hon 3 9 (by kernel_rfl) rfl (Reh.cons_one (by kernel_rfl))
      obtain ⟨_, g9⟩ := Array.getElem?_eq_some_iff.1 e9
      obtain ⟨v13_, e13, h13⟩ := hon 7 13 (by kernel_rfl) rfl (Reh.cons_one (by kernel_rfl))
      obtain ⟨_, g13⟩ := Array.getElem?_eq_some_iff.1 e13
      obtain ⟨v16_, e16, h16⟩ := hon 10 16 (by kernel_rfl) rfl (Reh.cons_one (by kernel_rfl))
      obtain ⟨_, g16⟩ := Array.getElem?_eq_some_iff.1 e16
      obtain ⟨Aa0, ca0, rfl⟩ := Kd.R_slice h9
      obtain ⟨Aa1, ca1, rfl⟩ := Kd.R_slice h13
      obtain ⟨Aa2, ca2, rfl⟩ := Kd.R_slice h16
      refine ⟨_, rfl, fun K hK => ?_⟩
      refine value_ (w1 := w_) (v := .agg #[_, _, _, .slice none 0 0]) (by rfl) rfl ?_ (hK.out _ _ (fun k_ => if g k_ ∈ [3, 7, 10] then 11 else g k_) hb (Nat.le_refl _) (fun k_ hk_ hn_ => ⟨rfl, if_neg hn_⟩) ⟨_, _, _, rfl, Kd.R_mono h9 (fun k_ hk_ => if_pos (by rw [hk_]; simp)), Kd.R_mono h13 (fun k_ hk_ => if_pos (by rw [hk_]; simp)), Kd.R_mono h16 (fun k_ hk_ => if_pos (by rw [hk_]; simp))⟩)
      · go_simp
        (try simp only [i64_w, g9, g13, g16])
        (try go_simp)
        try rfl
    refine Reh.hs_cons ?_ ?_
    · intro g a w_ hb hgr hst hs hel hon
      refine ⟨_, rfl, fun K hK => ?_⟩
      refine value_ (w1 := w_.alloc (.cells #[.slice none 0 0, .slice none 0 0, .slice none 0 0, .slice none 0 0] 37)) (v := .pointer (some ⟨w_.heap.size, 0, none⟩)) (by rfl) rfl ?_ (hK.out _ _ (Reh.own g w_.heap.size 12) (hb.alloc hb.size _) (by simp) (Reh.own_keep ((Below.refl _ _).alloc (Nat.le_refl _) _)) ⟨_, rfl, Reh.own_new (Nat.le_refl _), hb.size, by simp, heap_alloc_new _ _⟩)
      · go_simp
        (try simp only [i64_w])
        (try go_simp)
        try rfl
    exact Reh.hs_nil
  · intro g a w_ hb hgr hst hdf hs hel hon
    obtain ⟨_, e5, p_, rfl, hp1, hp2, hp3, hp4⟩ := hon 12 5 (by kernel_rfl) rfl (Reh.cons_one (by kernel_rfl))
    obtain ⟨_, e17, v0_, v1_, v2_, rfl, h0, h1, h2⟩ := hon 11 17 (by kernel_rfl) rfl (Reh.cons_one (by kernel_rfl))
    obtain ⟨B0, d0, rfl, m0, mc0⟩ := Kd.R_reads h0
    clear mc0
    obtain ⟨B1, d1, rfl, m1, mc1⟩ := Kd.R_reads h1
    clear mc1
    obtain ⟨B2, d2, rfl, m2, mc2⟩ := Kd.R_reads h2
    clear mc2
    refine ⟨_, rfl, fun K hK => ?_⟩
    rw [if_pos (by rfl)]
    refine wp_store_row 37 (.tmp 5) (.tmp 17) rfl p_ _ (Reh.eval_at e5) (Reh.eval_at e17) 37 _ hp4 (by rw [IP.out]; rfl) rfl (by kernel_rfl) (hK.out _ _ ?_)
    clear hK
    rename_i K_ hK_
    refine hK_ _ _ ?_
    have G5 := Reg.getD_of e5
    have G17 := Reg.getD_of e17
    have hfr := Reg.RegI.frame (⟨hb, hdf, hs, hel, fun _ _ _ h_ => by cases h_⟩ : Reg.RegI _ (fun _ _ _ => True) _ W0 (fun _ => false) a w_)
    have hap : ∀ {k : Nat}, g k = 11 → k ≠ p_ := fun h_ e_ => by rw [e_, hp1] at h_; cases h_
    have hcs : ∀ k, k < w_.heap.size → g k = 11 → (w_.setRow p_ #[.slice B0 ([] ++ VN : List (List Value)).length d0, .slice B1 ([] ++ BN : List (List Value)).length d1, .slice B2 (sigsF U).length d2, .slice none 0 0]).heap[k]? = w_.heap[k]? := fun k _ h_ => setRow_other' _ _ _ k (hap h_)
    obtain ⟨W2, hW2⟩ : ∃ W2, W2 = w_.setRow p_ #[.slice B0 ([] ++ VN : List (List Value)).length d0, .slice B1 ([] ++ BN : List (List Value)).length d1, .slice B2 (sigsF U).length d2, .slice none 0 0] := ⟨_, rfl⟩
    rw [← hW2] at hcs ⊢
    have RR0 := Aside0.mk (Kd.R_mono (Kd.R_step h0 (fun k hk hlt => hcs k hlt hk)) (fun k hk => hap hk))
    have RR1 := Aside0.mk (Kd.R_mono (Kd.R_step h1 (fun k hk hlt => hcs k hlt hk)) (fun k hk => hap hk))
    have RR2 := Aside0.mk (Kd.R_mono (Kd.R_step h2 (fun k hk hlt => hcs k hlt hk)) (fun k hk => hap hk))
    have hbl : W2.heap[p_]? = some (.cells #[.slice B0 ([] ++ VN : List (List Value)).length d0, .slice B1 ([] ++ BN : List (List Value)).length d1, .slice B2 (sigsF U).length d2, .slice none 0 0] 37 (0, 0)) := by rw [hW2]; exact setRow_heap _ _ _ _ _ _ hp4
    have hbw : Below W0.heap.size W0 W2 := by rw [hW2]; exact below_setRow hb hp2 _
    have E0 : ([] ++ VN : List (List Value)).length = V.length := by rw [List.nil_append]; exact HN1.out
    have E1 : ([] ++ BN : List (List Value)).length = B.length := by rw [List.nil_append]; exact HN2.out
    rw [E0, E1] at hbl G17
    rw [E0] at RR0
    rw [E1] at RR1
    have HBL := Aside0.mk hbl
    have HBW := Aside0.mk hbw
    have HP2 := Aside0.mk hp2
    clear hcs hap hbl hbw hW2 hp1 hp2 hp3 hp4 h0 h1 h2 E0 E1 m0 m1 m2
    rw [hfr]
    simp only [Reg.puts, Act.put, List.setIfInBounds_toArray, List.set_cons_zero, List.set_cons_succ]
    rw [G5, G17]
    generalize a.tmps = ts_
    clear hfr hK_ G5 G17 e5 e17 hdf hs hel hb hon hgr hst g
    obtain ⟨s0, s1, s2, s3⟩ : W2.cell? ⟨p_, 0, none⟩ = some (.slice B0 V.length d0) ∧ W2.cell? ⟨p_, 1, none⟩ = some (.slice B1 B.length d1) ∧ W2.cell? ⟨p_, 2, none⟩ = some (.slice B2 (sigsF U).length d2) ∧ W2.cell? ⟨p_, 3, none⟩ = some (.slice none 0 0) := ⟨(blk_cell HBL.out 0).trans rfl, (blk_cell HBL.out 1).trans rfl, (blk_cell HBL.out 2).trans rfl, (blk_cell HBL.out 3).trans rfl⟩
    have HZ2 := Aside0.mk ((HBW.out.block _ (blk_lt HZ.out)).trans HZ.out)
    have hp2_ := (HBW.out.block _ (blk_lt HP.out)).trans HP.out
    obtain ⟨q0, q1, q2, q3⟩ := progCells hp2_
    clear hp2_
    have mU := G3.out.2.1
    have HBF := Aside0.mk (HB0.out.trans (HBW.out.mono HB0.out.size))
    by_cases u0 : 0 ≤ u ∧ u < (U.length : Int)
    rotate_left
    · have HS := Aside0.mk (show slF U u = [] from if_neg u0)
      by_cases u1 : 0 ≤ u
      · have u2 : ¬ u < (U.length : Int) := fun h => u0 ⟨u1, h⟩
        clear u0
        go_wp2_with ((with_reducible refine gate_store (t := 37) (p := 4) (v := .tmp 34) rfl ?_); refine wpList_store_row rfl 37 (.tmp 4) (.tmp 34) rfl (w.heap.size + 1) #[.slice B0 V.length d0, .slice B1 B.length d1, .slice B2 (sigsF U).length d2, .slice none 0 0] rfl rfl 37 _ HZ2.out (by rw [IP.out]; rfl) rfl (by kernel_rfl) ?_)
        have hst := setRow_heap _ _ _ #[.slice B0 V.length d0, .slice B1 B.length d1, .slice B2 (sigsF U).length d2, .slice none 0 0] _ _ HZ2.out
        refine bodyPost_ret (results_cell_row rfl _ _ (w.heap.size + 1) 37 #[.slice B0 V.length d0, .slice B1 B.length d1, .slice B2 (sigsF U).length d2, .slice none 0 0] (0, 0) _ rfl hst Try.underlying37 rfl (by kernel_rfl)) rfl ?_
        have hoth : ∀ k, W0.heap.size ≤ k → (W2.setRow (w.heap.size + 1) #[.slice B0 V.length d0, .slice B1 B.length d1, .slice B2 (sigsF U).length d2, .slice none 0 0]).heap[k]? = W2.heap[k]? := fun k hk => setRow_other' _ _ _ k (by have := blk_lt HZ.out; omega)
        have f0 := Kd.R_reads' (keepR RR0.out (fun k h1 h2 h3 => (hoth k h1).trans ((fun k _ _ => rfl) k h2 h3)))
        have f1 := Kd.R_reads' (keepR RR1.out (fun k h1 h2 h3 => (hoth k h1).trans ((fun k _ _ => rfl) k h2 h3)))
        have f2 := Kd.R_reads' (keepR RR2.out (fun k h1 h2 h3 => (hoth k h1).trans ((fun k _ _ => rfl) k h2 h3)))
        have hbf : Below w.heap.size w (W2.setRow (w.heap.size + 1) #[.slice B0 V.length d0, .slice B1 B.length d1, .slice B2 (sigsF U).length d2, .slice none 0 0]) := below_setRow HBF.out (by omega) _
        have e0 : V.length ≤ d0 := f0.2.1
        have e1 : B.length ≤ d1 := f1.2.1
        have q0_ := same_of HN1.out NK1.out hbf f0.2.2
        have q1_ := same_of HN2.out NK2.out hbf f1.2.2
        exact ⟨B0, d0, B1, d1, B2, d2, none, 0, by rw [HS.out]; rfl, ⟨q0_, e0⟩, ⟨q1_, e1⟩, ⟨f2.2.2, f2.2.1⟩, by rw [HS.out]; exact ⟨⟨rfl, by simp, fun h => absurd h (by simp)⟩, Nat.le_refl _⟩, hbf⟩
      · clear u0
        go_wp2_with ((with_reducible refine gate_store (t := 37) (p := 4) (v := .tmp 34) rfl ?_); refine wpList_store_row rfl 37 (.tmp 4) (.tmp 34) rfl (w.heap.size + 1) #[.slice B0 V.length d0, .slice B1 B.length d1, .slice B2 (sigsF U).length d2, .slice none 0 0] rfl rfl 37 _ HZ2.out (by rw [IP.out]; rfl) rfl (by kernel_rfl) ?_)
        have hst := setRow_heap _ _ _ #[.slice B0 V.length d0, .slice B1 B.length d1, .slice B2 (sigsF U).length d2, .slice none 0 0] _ _ HZ2.out
        refine bodyPost_ret (results_cell_row rfl _ _ (w.heap.size + 1) 37 #[.slice B0 V.length d0, .slice B1 B.length d1, .slice B2 (sigsF U).length d2, .slice none 0 0] (0, 0) _ rfl hst Try.underlying37 rfl (by kernel_rfl)) rfl ?_
        have hoth : ∀ k, W0.heap.size ≤ k → (W2.setRow (w.heap.size + 1) #[.slice B0 V.length d0, .slice B1 B.length d1, .slice B2 (sigsF U).length d2, .slice none 0 0]).heap[k]? = W2.heap[k]? := fun k hk => setRow_other' _ _ _ k (by have := blk_lt HZ.out; omega)
        have f0 := Kd.R_reads' (keepR RR0.out (fun k h1 h2 h3 => (hoth k h1).trans ((fun k _ _ => rfl) k h2 h3)))
        have f1 := Kd.R_reads' (keepR RR1.out (fun k h1 h2 h3 => (hoth k h1).trans ((fun k _ _ => rfl) k h2 h3)))
        have f2 := Kd.R_reads' (keepR RR2.out (fun k h1 h2 h3 => (hoth k h1).trans ((fun k _ _ => rfl) k h2 h3)))
        have hbf : Below w.heap.size w (W2.setRow (w.heap.size + 1) #[.slice B0 V.length d0, .slice B1 B.length d1, .slice B2 (sigsF U).length d2, .slice none 0 0]) := below_setRow HBF.out (by omega) _
        have e0 : V.length ≤ d0 := f0.2.1
        have e1 : B.length ≤ d1 := f1.2.1
        have q0_ := same_of HN1.out NK1.out hbf f0.2.2
        have q1_ := same_of HN2.out NK2.out hbf f1.2.2
        exact ⟨B0, d0, B1, d1, B2, d2, none, 0, by rw [HS.out]; rfl, ⟨q0_, e0⟩, ⟨q1_, e1⟩, ⟨f2.2.2, f2.2.1⟩, by rw [HS.out]; exact ⟨⟨rfl, by simp, fun h => absurd h (by simp)⟩, Nat.le_refl _⟩, hbf⟩
    obtain ⟨u1, u2⟩ := u0
    have HS := Aside0.mk (show slF U u = slotsF (rd_T41 U u).f1 (rd_T41 U u).f2 (rd_T41 U u).f3 from if_pos ⟨u1, u2⟩)
    have hm : rd_T41 U u ∈ U := by unfold rd_T41; rw [List.getD_eq_getElem?_getD, List.getElem?_eq_getElem (show u.toNat < U.length by omega)]; exact List.getElem_mem _
    obtain ⟨o1, o2, o3⟩ := hU _ hm
    clear hm
    obtain ⟨ad, A5, c5, A6, c6, A7, c7, rfl, x0, x1, x2, x3, x4, l5, h5, l6, h6, l7, h7⟩ := at_T41 G3.out u u1 u2
    replace x0 := (HBF.out.cell (World.block_lt_of_cell? w _ x0)).trans x0
    replace x1 := (HBF.out.cell (World.block_lt_of_cell? w _ x1)).trans x1
    replace x2 := (HBF.out.cell (World.block_lt_of_cell? w _ x2)).trans x2
    replace x3 := (HBF.out.cell (World.block_lt_of_cell? w _ x3)).trans x3
    replace x4 := (HBF.out.cell (World.block_lt_of_cell? w _ x4)).trans x4
    generalize rd_T41 U u = X at *
    have PL := Aside0.mk (unit_Slots.calls X.f0 A5 c5 X.f1 X.f2 A6 c6 X.f3 A7 c7 X.f4 (slotsF X.f1 X.f2 X.f3) W2 (Kd.C_below h5 HBF.out) l5 (Kd.C_below h6 HBF.out) l6 (Kd.C_below h7 HBF.out) l7 (slots_is _ _ _ _ _ (by omega) (by omega)))
    clear h5 h6 h7
    have U1 := eq_true u1
    have U2 := eq_true u2
    go_wp2_with fail
    refine PL.out.mono ?_
    rintro e W3 ⟨v3, rfl, hR3, hb3⟩
    obtain ⟨B3, d3, rfl⟩ := Kd.R_slice hR3
    have HR3 := Aside0.mk hR3
    have HB3 := Aside0.mk hb3
    have HBL3 := Aside0.mk ((hb3.block _ (blk_lt HBL.out)).trans HBL.out)
    have HZ3 := Aside0.mk ((hb3.block _ (blk_lt HZ2.out)).trans HZ2.out)
    clear hR3 hb3 PL s0 s1 s2 s3 q0 q1 q2 q3 x0 x1 x2 x3 x4
    obtain ⟨s0, s1, s2, s3⟩ : W3.cell? ⟨p_, 0, none⟩ = some (.slice B0 V.length d0) ∧ W3.cell? ⟨p_, 1, none⟩ = some (.slice B1 B.length d1) ∧ W3.cell? ⟨p_, 2, none⟩ = some (.slice B2 (sigsF U).length d2) ∧ W3.cell? ⟨p_, 3, none⟩ = some (.slice none 0 0) := ⟨(blk_cell HBL3.out 0).trans rfl, (blk_cell HBL3.out 1).trans rfl, (blk_cell HBL3.out 2).trans rfl, (blk_cell HBL3.out 3).trans rfl⟩
    have z3 := blk_frozen HBL3.out 3
    have hne : p_ ≠ w.heap.size + 1 := by have := blk_lt HZ.out; have := HP2.out; omega
    have HZ4 := Aside0.mk (show (W3.setCell ⟨p_, 3, none⟩ (.slice B3 (slotsF X.f1 X.f2 X.f3).length d3)).heap[w.heap.size + 1]? = some (.cells #[.slice none 0 0, .slice none 0 0, .slice none 0 0, .slice none 0 0] 37 (0, 0)) from (Below.heap_setCell _ _ _ _ (Ne.symm hne)).trans HZ3.out)
    have HBG := Aside0.mk (HBF.out.trans (HB3.out.mono HBF.out.size))
    have lp := HP2.out
    have HBF := Aside0.mk (HBG.out.setCell (p := ⟨p_, 3, none⟩) (by have := HB0.out.size; show w.heap.size ≤ p_; omega) (.slice B3 (slotsF X.f1 X.f2 X.f3).length d3))
    clear hne
    go_wp2_with ((with_reducible refine gate_store (t := 37) (p := 4) (v := .tmp 34) rfl ?_); refine wpList_store_row rfl 37 (.tmp 4) (.tmp 34) rfl (w.heap.size + 1) #[.slice B0 V.length d0, .slice B1 B.length d1, .slice B2 (sigsF U).length d2, .slice B3 (slotsF X.f1 X.f2 X.f3).length d3] rfl rfl 37 _ HZ4.out (by rw [IP.out]; rfl) rfl (by kernel_rfl) ?_)
    have hst := setRow_heap _ _ _ #[.slice B0 V.length d0, .slice B1 B.length d1, .slice B2 (sigsF U).length d2, .slice B3 (slotsF X.f1 X.f2 X.f3).length d3] _ _ HZ4.out
    refine bodyPost_ret (results_cell_row rfl _ _ (w.heap.size + 1) 37 #[.slice B0 V.length d0, .slice B1 B.length d1, .slice B2 (sigsF U).length d2, .slice B3 (slotsF X.f1 X.f2 X.f3).length d3] (0, 0) _ rfl hst Try.underlying37 rfl (by kernel_rfl)) rfl ?_
    have hoth : ∀ k, W0.heap.size ≤ k → ((W3.setCell ⟨p_, 3, none⟩ (.slice B3 (slotsF X.f1 X.f2 X.f3).length d3)).setRow (w.heap.size + 1) #[.slice B0 V.length d0, .slice B1 B.length d1, .slice B2 (sigsF U).length d2, .slice B3 (slotsF X.f1 X.f2 X.f3).length d3]).heap[k]? = (W3.setCell ⟨p_, 3, none⟩ (.slice B3 (slotsF X.f1 X.f2 X.f3).length d3)).heap[k]? := fun k hk => setRow_other' _ _ _ k (by have := blk_lt HZ.out; omega)
    have f0 := Kd.R_reads' (keepR RR0.out (fun k h1 h2 h3 => (hoth k h1).trans ((fun k h2 h3 => (Below.heap_setCell _ _ _ k h3).trans (HB3.out.block k h2)) k h2 h3)))
    have f1 := Kd.R_reads' (keepR RR1.out (fun k h1 h2 h3 => (hoth k h1).trans ((fun k h2 h3 => (Below.heap_setCell _ _ _ k h3).trans (HB3.out.block k h2)) k h2 h3)))
    have f2 := Kd.R_reads' (keepR RR2.out (fun k h1 h2 h3 => (hoth k h1).trans ((fun k h2 h3 => (Below.heap_setCell _ _ _ k h3).trans (HB3.out.block k h2)) k h2 h3)))
    have hbf : Below w.heap.size w ((W3.setCell ⟨p_, 3, none⟩ (.slice B3 (slotsF X.f1 X.f2 X.f3).length d3)).setRow (w.heap.size + 1) #[.slice B0 V.length d0, .slice B1 B.length d1, .slice B2 (sigsF U).length d2, .slice B3 (slotsF X.f1 X.f2 X.f3).length d3]) := below_setRow HBF.out (by omega) _
    have e0 : V.length ≤ d0 := f0.2.1
    have e1 : B.length ≤ d1 := f1.2.1
    have q0_ := same_of HN1.out NK1.out hbf f0.2.2
    have q1_ := same_of HN2.out NK2.out hbf f1.2.2
    have f3 := Kd.R_reads' (Kd.R_move (Kd.R_bound HR3.out) (fun k hk => (hoth k (Nat.le_trans HBW.out.size hk.2.1)).trans (Below.heap_setCell _ _ _ k (by have := blk_lt HBL.out; have := hk.2.1; show k ≠ p_; omega))))
    exact ⟨B0, d0, B1, d1, B2, d2, B3, d3, by rw [HS.out], ⟨q0_, e0⟩, ⟨q1_, e1⟩, ⟨f2.2.2, f2.2.1⟩, by rw [HS.out]; exact ⟨f3.2.2, f3.2.1⟩, hbf⟩
end Go.Proofs.Ytghhbdmggmdffaa.Given
end
