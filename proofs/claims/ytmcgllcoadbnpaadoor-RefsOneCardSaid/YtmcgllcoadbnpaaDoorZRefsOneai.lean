/- The set's own look at the program: three instructions' answers; the tables lie as the program lays them. -/
import Derived.Test.YtmcgllcoadbnpaaDoorZRefsOneab
import Derived.Test.YtmcgllcoadbnpaaDoorZRefsOneae
import Derived.Test.YtmcgllcoadbnpaaDoorZRefsOneah
section
/- Printed by a program of this session (wip/pg.py, over the print of the kit): functions, their Lean twins, and the proofs that the calls come to them; each under the conditions that it names. -/
namespace Go.Proofs.YtmcgllcoadbnpaaDoor.PRf
open Go.Proofs.YtmcgllcoadbnpaaDoor.Given
open Go.RowKit Go.Proofs.YtmcgllcoadbnpaaDoorW.PrintWords Go.Proofs.YtmcgllcoadbnpaaDoorW.PrintLast Go.Proofs.YtmcgllcoadbnpaaDoorW.PrintMore
attribute [local go_sem] max2_int min2_int max_two min_two max_three min_three max_four min_four   -- for this text's walks alone
set_option linter.unusedVariables false
set_option linter.unusedSimpArgs false

/-! ### refs_Check: function 15 -/
mutual
def refs_Check.j0 : Nat → Int → Bool → List (S35) → List (S37) → List (S39) → List (S43) → Option (Int × Int)
  | 0, _, _, _, _, _, _ => none
  | k + 1, x1, x19, x263000, x263001, x263002, x263003 => if x19 = true then (some (0, 15)) else (if 0 ≤ x1 then (if x1 < (x263003.length : Int) then (refs_Check.l0 k x1 ((rd_T43 x263003 x1).f4) ((rd_T43 x263003 x1).f4) (((rd_T43 x263003 x1).f4).length : Int) 0 x263000 x263001 x263002 x263003) else (none)) else (none))
def refs_Check.l0 : Nat → Int → List (S29) → List (S29) → Int → Int → List (S35) → List (S37) → List (S39) → List (S43) → Option (Int × Int)
  | 0, _, _, _, _, _, _, _, _, _ => none
  | k + 1, x1, x6, x26, x27, x28, x263000, x263001, x263002, x263003 => if x28 < x27 then (if 0 ≤ x28 then (if x28 < (x26.length : Int) then ((refs_One.f k x263000 x263001 x263002 x263003 x1 ((rd_T29 x26 x28).f0) ((rd_T29 x26 x28).f1) ((rd_T29 x26 x28).f2)).bind fun t266 => (if t266 = 0 then ((refs_Jump.f x6 x28).bind fun t267 => (if t267 = 0 then (refs_Check.l0 k x1 x6 x26 x27 (wrap64 (x28 + 1)) x263000 x263001 x263002 x263003) else (some (x28, t267)))) else (some (x28, t266)))) else (none)) else (none)) else (some (0, 0))
end
def refs_Check.f (k : Nat) (l0_0 : List (S35)) (l0_1 : List (S37)) (l0_2 : List (S39)) (l0_3 : List (S43)) (a1 : Int) : Option (Int × Int) := if a1 < 0 then (refs_Check.j0 k a1 true l0_0 l0_1 l0_2 l0_3) else (refs_Check.j0 k a1 (decide (a1 ≥ (l0_3.length : Int))) l0_0 l0_1 l0_2 l0_3)
end Go.Proofs.YtmcgllcoadbnpaaDoor.PRf
end

section
/- Whether what an instruction has is there, plainly: the program's and the document's tell the same. -/
namespace Go.Proofs.YtmcgllcoadbnpaaDoor.RPure
open Go.RowKit Go.Proofs.YtmcgllcoadbnpaaDoor.PRf Go.Proofs.YtmcgllcoadbnpaaDoor.Given Go.Proofs.YtmcgllcoadbnpaaDoorW.PrintWords Go.Proofs.YtmcgllcoadbnpaaDoorW.PrintLast Go.Proofs.YtmcgllcoadbnpaaDoorW.PrintMore
set_option linter.unusedVariables false
set_option linter.unusedSimpArgs false
theorem w64 (x : Int) (h0 : -9223372036854775808 ≤ x) (h1 : x < 9223372036854775808) : wrap64 x = x := by unfold wrap64; omega
def mayF (n w : Int) : Bool := if w = 0 then n == 0 else decide (0 ≤ n) && decide (n ≤ 65535)
theorem may_is (n w : Int) : op_may.f n w = some (mayF n w) := by
  unfold op_may.f mayF
  by_cases h : w = 0
  · rw [if_pos h, if_pos h]
  · rw [if_neg h, if_neg h]
    by_cases h0 : 0 ≤ n
    · rw [if_pos h0]; simp [h0]
    · rw [if_neg h0]; simp [h0]
theorem is_is (x : Int) : op_Is.f x = some (isOp x) := by
  unfold op_Is.f isOp
  by_cases h0 : 0 ≤ x
  · rw [if_pos h0]; simp [h0]
  · rw [if_neg h0]; simp [h0]
def rightF (x y z : Int) : Bool := isOp x && mayF y (shapeA x) && mayF z (shapeB x)
theorem right_is (x y z : Int) : op_Right.f x y z = some (rightF x y z) := by
  unfold op_Right.f op_Shape.f rightF
  simp only [Option.bind_some, is_is, may_is]
  cases isOp x <;> cases mayF y (shapeA x) <;> simp
theorem rmay_is (n w : Int) : ladderbackref12_may.f n w = some (mayF n w) := by
  unfold ladderbackref12_may.f mayF
  by_cases hn : n = 0
  · rw [if_pos hn]; subst hn; by_cases h : w = 0 <;> simp [h]
  · rw [if_neg hn]
    by_cases h : w = 0
    · rw [if_pos h, if_pos h]; simp [hn]
    · rw [if_neg h, if_neg h]
      by_cases h0 : n > 0
      · rw [if_pos h0]
        congr 1
        rw [Bool.eq_iff_iff]
        simp
        omega
      · rw [if_neg h0]
        congr 1
        rw [Bool.eq_iff_iff]
        simp
        omega
theorem shapes : ∀ n : Fin 38, ladderbackref12_Shape.f 3 (n.val : Int) = some (shapeA n.val, shapeB n.val) := by decide +kernel
theorem shape_more (x : Int) : ∀ d, ladderbackref12_Shape.f 3 x = some (shapeA x, shapeB x) → ladderbackref12_Shape.f (3 + d) x = some (shapeA x, shapeB x) := by
  intro d h
  induction d with
  | zero => exact h
  | succ d ih => exact ladderbackref12_Shape.mono x (3 + d) _ ih
theorem rshape (x : Int) (k : Nat) (hk : 3 ≤ k) : ladderbackref12_Shape.f k x = some (shapeA x, shapeB x) := by
  rw [show k = 3 + (k - 3) by omega]
  refine shape_more x _ ?_
  by_cases h : isOp x = true
  · unfold isOp at h
    simp only [Bool.and_eq_true, decide_eq_true_eq] at h
    obtain ⟨n, rfl⟩ := Int.eq_ofNat_of_zero_le h.1
    exact shapes ⟨n, by omega⟩
  · unfold shapeA shapeB
    rw [if_neg h, if_neg h]
    unfold isOp at h
    simp only [Bool.and_eq_true, decide_eq_true_eq, not_and] at h
    unfold ladderbackref12_Shape.f
    by_cases h0 : x < 0
    · rw [if_pos h0]; rfl
    · rw [if_neg h0, decide_eq_true (by omega)]; rfl
theorem rright (x y z : Int) (k : Nat) (hk : 3 ≤ k) : ladderbackref12_Right.f k x y z = some (rightF x y z) := by
  unfold ladderbackref12_Right.f rightF
  rw [rshape x k hk]
  simp only [Option.bind_some, rmay_is]
  unfold isOp
  by_cases h0 : x ≥ 0
  · rw [if_pos h0]
    by_cases h1 : x ≤ 37
    · rw [if_pos h1, decide_eq_true (show 0 ≤ x from h0), decide_eq_true (show x < 38 by omega)]
      cases mayF y (shapeA x) <;> simp
    · rw [if_neg h1, decide_eq_false (show ¬ x < 38 by omega)]; simp
  · rw [if_neg h0, decide_eq_false (show ¬ 0 ≤ x from h0)]; simp
-- the types
theorem goes_tab : ∀ a : Fin 18, ∀ b : Fin 6, ladderbackref07_Goes.f 8 ((a.val : Int) + 8) ((b.val : Int) + 1) = some (goesOf ((a.val : Int) + 8) ((b.val : Int) + 1)) := by decide +kernel
theorem goes_more (x y : Int) (v : Bool) : ∀ d, ladderbackref07_Goes.f 8 x y = some v → ladderbackref07_Goes.f (8 + d) x y = some v := by
  intro d h
  induction d with
  | zero => exact h
  | succ d ih => exact ladderbackref07_Goes.mono x y (8 + d) _ ih
theorem rgoes (x y : Int) (k : Nat) (hk : 8 ≤ k) (h1 : 8 ≤ x) (h2 : x ≤ 25) : ladderbackref07_Goes.f k x y = some (goesOf x y) := by
  rw [show k = 8 + (k - 8) by omega]
  refine goes_more x y _ _ ?_
  by_cases h3 : 1 ≤ y ∧ y ≤ 6
  · have := goes_tab ⟨(x - 8).toNat, by omega⟩ ⟨(y - 1).toNat, by omega⟩
    simp only [show (((x - 8).toNat : Nat) : Int) + 8 = x by omega, show (((y - 1).toNat : Nat) : Int) + 1 = y by omega] at this
    exact this
  · have hg : goesOf x y = false := by unfold goesOf; rw [decide_eq_false (by omega)]; rfl
    rw [hg]
    unfold ladderbackref07_Goes.f
    by_cases h4 : y < 1
    · rw [if_pos h4, ladderbackref07_Goes.j0, if_pos rfl]
    · rw [if_neg h4, decide_eq_true (by omega), ladderbackref07_Goes.j0, if_pos rfl]
/-- Are an operation's types right? -/
def typedF (x y z : Int) : Bool := if x = 26 then decide (1 ≤ y ∧ y ≤ 6 ∧ 1 ≤ z ∧ z ≤ 6) else if shapeA x = 4 then goesOf x y else true
theorem kright_is (t : Int) : kind_Right.f t = some (decide (1 ≤ t ∧ t ≤ 6)) := by
  unfold kind_Right.f
  by_cases h : t ≥ 1
  · rw [if_pos h]; congr 1; rw [Bool.eq_iff_iff]; simp; omega
  · rw [if_neg h]; congr 1; rw [Bool.eq_iff_iff]; simp; omega
theorem typed_is (x y z : Int) (hx : -9223372036854775808 ≤ x ∧ x ≤ 9223372036854775807) : refs_typed.f x y z = some (typedF x y z) := by
  unfold refs_typed.f typedF op_Shape.f alu_Goes.f
  by_cases h : x = 26
  · rw [if_pos h, if_pos h, kright_is, kright_is, Option.bind_some, Option.bind_some]
    by_cases h1 : 1 ≤ y ∧ y ≤ 6
    · rw [if_pos (decide_eq_true h1)]; congr 1; rw [Bool.eq_iff_iff]; simp; omega
    · rw [if_neg (by simpa using h1)]; congr 1; rw [Bool.eq_iff_iff]; simp; omega
  · rw [if_neg h, if_neg h, Option.bind_some]
    simp only
    by_cases h4 : shapeA x = 4
    · rw [if_pos h4, if_pos h4, if_pos hx]; rfl
    · rw [if_neg h4, if_neg h4]
-- slots
def slotsF (P : List Int) (R : Int) (L : List Int) : List Int := P ++ (if R = 0 then [] else [R]) ++ L
theorem slots_is (n : ByteArray) (P : List Int) (R : Int) (L : List Int) (C : List S29) (hP : P.length ≤ 10000) (hL : L.length ≤ 10000) : unit_Slots.f n P R L C = some (slotsF P R L) := by
  unfold unit_Slots.f slotsF
  rw [Option.bind_some, if_pos (by simp only [List.length_nil]; omega), Option.bind_some, List.nil_append]
  by_cases h : R = 0
  · rw [if_pos h, if_pos (by omega), if_pos h]; simp
  · rw [if_neg h, if_pos (by omega), Option.bind_some, if_pos (by simp only [List.length_append, List.length_cons, List.length_nil]; omega), if_neg h]
theorem rd_drop (L : List Int) (i : Nat) (h : i < L.length) : L.drop i = rd L (i : Int) :: L.drop (i + 1) := by
  rw [List.drop_eq_getElem_cons h]
  unfold rd
  rw [Int.toNat_natCast, List.getD_eq_getElem?_getD, List.getElem?_eq_getElem h]; rfl
theorem rslots_l0 (n : ByteArray) (P : List Int) (R : Int) (L : List Int) (C : List S29) (hL : L.length ≤ 10000) : ∀ (d i k : Nat) (x : List Int), i + d = L.length → d < k → x.length + d ≤ 1000000 →
    ladderbackref15_Slots.l0 k x (i : Int) n P R L C = some (x ++ L.drop i) := by
  intro d
  induction d with
  | zero =>
    intro i k x h1 h2 h3
    obtain ⟨k, rfl⟩ : ∃ m, k = m + 1 := ⟨k - 1, by omega⟩
    unfold ladderbackref15_Slots.l0
    rw [if_neg (by omega), List.drop_eq_nil_of_le (by omega), List.append_nil]
  | succ d ih =>
    intro i k x h1 h2 h3
    obtain ⟨k, rfl⟩ : ∃ m, k = m + 1 := ⟨k - 1, by omega⟩
    unfold ladderbackref15_Slots.l0
    rw [if_pos (by omega), if_pos (by omega), if_pos (by omega), rd_drop L i (by omega), w64 _ (by omega) (by omega)]
    have := ih (i + 1) k (x ++ [rd L (i : Int)]) (by omega) (by omega) (by simp only [List.length_append, List.length_cons, List.length_nil]; omega)
    rw [show ((i + 1 : Nat) : Int) = (i : Int) + 1 by omega] at this
    rw [this, List.append_assoc]
    rfl
theorem rslots_is (n : ByteArray) (P : List Int) (R : Int) (L : List Int) (C : List S29) (hP : P.length ≤ 10000) (hL : L.length ≤ 10000) (k : Nat) (hk : L.length + 1 < k) : ladderbackref15_Slots.f k n P R L C = some (slotsF P R L) := by
  obtain ⟨k, rfl⟩ : ∃ m, k = m + 1 := ⟨k - 1, by omega⟩
  unfold ladderbackref15_Slots.f slotsF
  rw [Option.bind_some, if_pos (by simp only [List.length_nil]; omega), Option.bind_some, List.nil_append]
  by_cases h : R = 0
  · rw [if_pos h, if_pos h, ladderbackref15_Slots.j0]
    have := rslots_l0 n P R L C hL L.length 0 k P (by omega) (by omega) (by omega)
    simpa using this
  · rw [if_neg h, if_neg h, if_pos (by omega), ladderbackref15_Slots.j0]
    have := rslots_l0 n P R L C hL L.length 0 k (P ++ [R]) (by omega) (by omega) (by simp; omega)
    simpa using this
theorem rfields (t : Int) (k : Nat) (hk : 1 ≤ k) : ∃ l T, ladderbackref11_Fields.f k t = some (l, T, inputsOf t) ∧ (l.length : Int) = fieldsOf t := by
  obtain ⟨k, rfl⟩ : ∃ m, k = m + 1 := ⟨k - 1, by omega⟩
  rcases kinds t with h | h
  · rcases h with rfl | rfl | rfl | rfl | rfl | rfl | rfl | rfl <;> exact ⟨_, _, rfl, rfl⟩
  · have h1 : inputsOf t = 0 := by unfold inputsOf; rw [if_neg (by omega), if_neg (by omega), if_neg (by omega), if_neg (by omega)]
    have h2 : fieldsOf t = 0 := by unfold fieldsOf; rw [if_neg (by omega), if_neg (by omega), if_neg (by omega), if_neg (by omega)]
    rw [h1, h2]
    refine ⟨[], [], ?_, rfl⟩
    unfold ladderbackref11_Fields.f
    by_cases h3 : t ≥ 1
    · rw [if_pos h3, decide_eq_false (by omega), ladderbackref11_Fields.j0, if_neg (by decide), if_neg (by omega), if_neg (by omega), if_neg (by omega), if_neg (by omega), if_neg (by omega)]
    · rw [if_neg h3, ladderbackref11_Fields.j0, if_neg (by decide), if_neg (by omega), if_neg (by omega), if_neg (by omega), if_neg (by omega), if_neg (by omega)]
end Go.Proofs.YtmcgllcoadbnpaaDoor.RPure
end

section
/- One instruction, and the checks over a unit, plainly: the program's and the document's tell the same. -/
namespace Go.Proofs.YtmcgllcoadbnpaaDoor.RPure
open Go.RowKit Go.Proofs.YtmcgllcoadbnpaaDoor.PRf Go.Proofs.YtmcgllcoadbnpaaDoor.Given Go.Proofs.YtmcgllcoadbnpaaDoorW.PrintWords Go.Proofs.YtmcgllcoadbnpaaDoorW.PrintLast Go.Proofs.YtmcgllcoadbnpaaDoorW.PrintMore
set_option linter.unusedVariables false
set_option linter.unusedSimpArgs false
abbrev LC := List S35
abbrev LV := List S37
abbrev LB := List S39
abbrev LU := List S43
/-- Is the operand there? -/
def thereF (C : LC) (V : LV) (B : LB) (U : LU) (u x y z : Int) : Bool :=
  if shapeA x = 1 then decide (y < (C.length : Int)) else
  if shapeA x = 2 then (if x = 6 ∨ x = 7 then decide (y < (V.length : Int)) && decide ((rd_T37 V y).f2 > 1) else decide (y < (V.length : Int)) && decide ((rd_T37 V y).f2 < 2)) else
  if shapeA x = 3 then decide (y < ((slotsF (rd_T43 U u).f1 (rd_T43 U u).f2 (rd_T43 U u).f3).length : Int)) else
  if shapeA x = 7 then decide (y > 0) && decide (y < (U.length : Int)) else
  if shapeA x = 8 then decide (y < (B.length : Int)) && (x == 36 || (x == 35 && decide (z < inputsOf (rd_T39 B y).f1)) || (x == 37 && decide (z < fieldsOf (rd_T39 B y).f1))) else true
def oneF (C : LC) (V : LV) (B : LB) (U : LU) (u x y z : Int) : Int :=
  if u < 0 ∨ (U.length : Int) ≤ u then 15 else if rightF x y z = true then (if typedF x y z = true then (if thereF C V B U u x y z = true then 0 else 8) else 10) else 7
/-- Units of few parts. -/
def Ok (U : LU) : Prop := ∀ X ∈ U, X.f1.length ≤ 20 ∧ X.f3.length ≤ 1100 ∧ X.f4.length ≤ 300
theorem ok_at {U : LU} (h : Ok U) (u : Int) (h0 : 0 ≤ u) (h1 : u < (U.length : Int)) : (rd_T43 U u).f1.length ≤ 20 ∧ (rd_T43 U u).f3.length ≤ 1100 ∧ (rd_T43 U u).f4.length ≤ 300 := by
  unfold rd_T43
  have hl : u.toNat < U.length := by omega
  rw [List.getD_eq_getElem?_getD, List.getElem?_eq_getElem hl]
  exact h _ (List.getElem_mem hl)
theorem may_nonneg {n w : Int} (h : mayF n w = true) : 0 ≤ n := by
  unfold mayF at h
  split at h
  · have : n = 0 := by simpa using h
    omega
  · simp at h; omega
theorem there_is (C : LC) (V : LV) (B : LB) (U : LU) (hU : Ok U) (u x y z : Int) (hu0 : 0 ≤ u) (hu1 : u < (U.length : Int)) (hy : 0 ≤ y) (k : Nat) (hk : 1 ≤ k) :
    refs_there.f k C V B U (rd_T43 U u).f0 (rd_T43 U u).f1 (rd_T43 U u).f2 (rd_T43 U u).f3 (rd_T43 U u).f4 x y z = some (thereF C V B U u x y z) := by
  obtain ⟨k, rfl⟩ : ∃ m, k = m + 1 := ⟨k - 1, by omega⟩
  obtain ⟨o1, o2, o3⟩ := ok_at hU u hu0 hu1
  unfold refs_there.f op_Shape.f thereF block_Inputs.f block_Fields.f
  simp only [Option.bind_some]
  by_cases h1 : shapeA x = 1
  · rw [if_pos h1, if_pos h1]
  rw [if_neg h1, if_neg h1]
  by_cases h2 : shapeA x = 2
  · rw [if_pos h2, if_pos h2]
    have hp : refs_plain.f V y = some (decide (y < (V.length : Int)) && decide ((rd_T37 V y).f2 < 2)) := by
      unfold refs_plain.f
      by_cases h : y < (V.length : Int)
      · rw [if_pos h, if_pos hy]; simp [h]
      · rw [if_neg h]; simp [h]
    have ha : refs_array.f V y = some (decide (y < (V.length : Int)) && decide ((rd_T37 V y).f2 > 1)) := by
      unfold refs_array.f
      by_cases h : y < (V.length : Int)
      · rw [if_pos h, if_pos hy]; simp [h]
      · rw [if_neg h]; simp [h]
    by_cases h6 : x = 6
    · rw [if_pos h6, if_pos (.inl h6), refs_there.j0, if_pos rfl, ha]; rfl
    · rw [if_neg h6, refs_there.j0]
      by_cases h7 : x = 7
      · rw [if_pos (by simp [h7]), if_pos (.inr h7), ha]; rfl
      · rw [if_neg (by simp [h7]), if_neg (by simp [h6, h7]), hp]; rfl
  rw [if_neg h2, if_neg h2]
  by_cases h3 : shapeA x = 3
  · rw [if_pos h3, if_pos h3, slots_is _ _ _ _ _ (by omega) (by omega)]; rfl
  rw [if_neg h3, if_neg h3]
  by_cases h7 : shapeA x = 7
  · rw [if_pos h7, if_pos h7]
    by_cases h : y > 0
    · rw [if_pos h]; simp [h]
    · rw [if_neg h]; simp [h]
  rw [if_neg h7, if_neg h7]
  by_cases h8 : shapeA x = 8
  · rw [if_pos h8, if_pos h8]
    by_cases h : y ≥ (B.length : Int)
    · rw [if_pos h, decide_eq_false (by omega)]; rfl
    · rw [if_neg h, if_pos hy, if_pos (by omega), decide_eq_true (show y < (B.length : Int) by omega)]
      by_cases a1 : x = 36
      · rw [if_pos a1]; simp [a1]
      · rw [if_neg a1]
        by_cases a2 : x = 35
        · subst a2
          rw [if_pos rfl]
          by_cases a3 : z < inputsOf (rd_T39 B y).f1
          · rw [if_pos a3]; simp [a3]
          · rw [if_neg a3, if_neg (by decide)]; simp [a3]
        · rw [if_neg a2]
          by_cases a3 : x = 37
          · rw [if_pos a3]; simp [a3]
          · rw [if_neg a3]; simp [a1, a2, a3]
  · rw [if_neg h8, if_neg h8]
theorem one_is (C : LC) (V : LV) (B : LB) (U : LU) (hU : Ok U) (u x y z : Int) (k : Nat) (hk : 2 ≤ k) : refs_One.f k C V B U u x y z = some (oneF C V B U u x y z) := by
  obtain ⟨k, rfl⟩ : ∃ m, k = m + 1 := ⟨k - 1, by omega⟩
  unfold refs_One.f oneF
  by_cases h0 : u < 0
  · rw [if_pos h0, if_pos (.inl h0), refs_One.j0, if_pos rfl]
  rw [if_neg h0, refs_One.j0]
  by_cases h1 : (U.length : Int) ≤ u
  · rw [if_pos (decide_eq_true h1), if_pos (.inr h1)]
  rw [if_neg (show ¬ decide (u ≥ (U.length : Int)) = true by simpa using h1), if_neg (show ¬ (u < 0 ∨ (U.length : Int) ≤ u) by omega), right_is, Option.bind_some]
  by_cases h2 : rightF x y z = true
  · have hx : -9223372036854775808 ≤ x ∧ x ≤ 9223372036854775807 := by
      unfold rightF isOp at h2
      simp only [Bool.and_eq_true, decide_eq_true_eq] at h2
      omega
    rw [if_pos h2, if_pos h2, typed_is x y z hx, Option.bind_some]
    have hy : 0 ≤ y := by
      unfold rightF at h2
      simp only [Bool.and_eq_true] at h2
      exact may_nonneg h2.1.2
    by_cases h3 : typedF x y z = true
    · rw [if_pos h3, if_pos h3, if_pos (show 0 ≤ u by omega), if_pos (show u < (U.length : Int) by omega), there_is C V B U hU u x y z (by omega) (by omega) hy k (by omega), Option.bind_some]
      split <;> rfl
    · rw [if_neg h3, if_neg h3]
  · rw [if_neg h2, if_neg h2]
theorem shapeA_at (n : Nat) (h : n < 38) : shapeA (n : Int) = opA.getD n 0 := by
  unfold shapeA isOp
  rw [decide_eq_true (by omega), decide_eq_true (by omega), if_pos (by decide), Int.toNat_natCast]
/-- The document's look, of an operation that is one. -/
theorem rthere_is (C : LC) (V : LV) (B : LB) (U : LU) (hU : Ok U) (u y z : Int) (n : Nat) (hn : n < 38) (hu0 : 0 ≤ u) (hu1 : u < (U.length : Int)) (hy : 0 ≤ y) (k : Nat) (hk : 1200 ≤ k) :
    ladderbackref18_One.j1 k u false C V B U (n : Int) y z = some (if thereF C V B U u (n : Int) y z = true then 0 else 8) := by
  obtain ⟨k, rfl⟩ : ∃ m, k = m + 8 := ⟨k - 8, by omega⟩
  obtain ⟨o1, o2, o3⟩ := ok_at hU u hu0 hu1
  have hs := rslots_is (rd_T43 U u).f0 (rd_T43 U u).f1 (rd_T43 U u).f2 (rd_T43 U u).f3 (rd_T43 U u).f4 (by omega) (by omega) (k + 5) (by omega)
  obtain ⟨l, T, hf, hfl⟩ := rfields (rd_T39 B y).f1 (k + 2) (by omega)
  have ha := shapeA_at n hn
  unfold thereF
  rw [ha]
  have b1 : ∀ b : Bool, (if b = true then some (0 : Int) else some 8) = some (if b = true then 0 else 8) := fun b => by cases b <;> rfl
  rcases (by omega : n = 0 ∨ n = 1 ∨ n = 2 ∨ n = 3 ∨ n = 4 ∨ n = 5 ∨ n = 6 ∨ n = 7 ∨ n = 33 ∨ n = 35 ∨ n = 36 ∨ n = 37 ∨ (8 ≤ n ∧ n ≤ 32) ∨ n = 34) with rfl | rfl | rfl | rfl | rfl | rfl | rfl | rfl | rfl | rfl | rfl | rfl | h | rfl
  case inr.inr.inr.inr.inr.inr.inr.inr.inr.inr.inr.inr.inl =>
    have h9 : opA.getD n 0 = 4 ∨ opA.getD n 0 = 0 ∨ opA.getD n 0 = 5 ∨ opA.getD n 0 = 6 := by
      have : ∀ m : Fin 38, 8 ≤ m.val → m.val ≤ 32 → opA.getD m.val 0 = 4 ∨ opA.getD m.val 0 = 0 ∨ opA.getD m.val 0 = 5 ∨ opA.getD m.val 0 = 6 := by decide
      exact this ⟨n, hn⟩ h.1 h.2
    rw [if_neg (show ¬ opA.getD n 0 = 1 by omega), if_neg (show ¬ opA.getD n 0 = 2 by omega), if_neg (show ¬ opA.getD n 0 = 3 by omega), if_neg (show ¬ opA.getD n 0 = 7 by omega), if_neg (show ¬ opA.getD n 0 = 8 by omega), if_pos rfl]
    have ne : ∀ m : Int, m < 8 ∨ 32 < m → ((n : Int) == m) = false := fun m hm => by simp; omega
    rw [ladderbackref18_One.j1, if_neg (by decide), if_neg (show ¬ (n : Int) = 1 by omega), if_neg (show ¬ (n : Int) = 2 by omega), ne 3 (by omega), ladderbackref18_One.j2, if_neg (by decide), if_neg (show ¬ (n : Int) = 4 by omega), ne 5 (by omega), ladderbackref18_One.j3, if_neg (by decide), if_neg (show ¬ (n : Int) = 6 by omega), ne 7 (by omega), ladderbackref18_One.j4, if_neg (by decide), if_neg (show ¬ (n : Int) = 33 by omega), if_neg (show ¬ (n : Int) = 35 by omega), if_neg (show ¬ (n : Int) = 36 by omega), ne 37 (by omega), ladderbackref18_One.j5, if_neg (by decide)]
  all_goals simp [opA, ladderbackref18_One.j1, ladderbackref18_One.j2, ladderbackref18_One.j3, ladderbackref18_One.j4, ladderbackref18_One.j5, ladderbackref18_One.j6, hs, hf, hfl, hu0, hu1, hy]
  all_goals (repeat' split) <;> first | rfl | omega | (exfalso; omega) | simp_all
end Go.Proofs.YtmcgllcoadbnpaaDoor.RPure
end

section
/- The set's own look at the program: three instructions' answers; the tables lie as the program lays them. -/
namespace Go.Proofs.YtmcgllcoadbnpaaDoor.Given
open Go Go.RowKit Go.Proofs.YtmcgllcoadbnpaaDoor.PRf Go.Proofs.YtmcgllcoadbnpaaDoor.RPure Go.Proofs.YtmcgllcoadbnpaaDoorW.PrintWords Go.Proofs.YtmcgllcoadbnpaaDoorW.PrintLast Go.Proofs.YtmcgllcoadbnpaaDoorW.PrintMore
set_option linter.unusedVariables false
set_option linter.unusedSimpArgs false
def two : List S43 := List.replicate 2 z43
theorem ok_two : Ok two := fun X hX => by
  rw [(List.mem_replicate.1 hX).2]
  exact ⟨by decide, by decide, by decide⟩
theorem info_unit : (Tryd.prog.info? 43).map (fun i => (i.zero, i.size, i.bytes)) = some (some (.agg #[(.string ⟨#[]⟩), (.slice none 0 0), (.int .i64 0), (.slice none 0 0), (.slice none 0 0)]), 5, 96) := by kernel_rfl
theorem C_nil {α : Type} (d : Kd α) (w : World) : d.C w none ([] : List α).length [] := ⟨rfl, by simp, fun h => absurd h (by simp)⟩
theorem one_c (x y r : Int) (hr : oneF [] [] [] two 0 x y 0 = r) (A : Option Addr) (c : Nat) (w : World) (hC : Kd.C k43 w A 2 two) (hc : 2 ≤ c) (hL : LaidAll w) :
    Calls Tryd.prog 10 #[.agg #[.slice none 0 0, .slice none 0 0, .slice none 0 0, .slice A 2 c], .int .i64 0, .agg #[.int .i64 x, .int .i64 y, .int .i64 0]] w fun e w' => e = .returned (.int .i64 r) ∧ Below w.heap.size w w' :=
  refs_One.calls 2 none 0 [] none 0 [] none 0 [] A c two 0 x y 0 r w (C_nil _ w) (Nat.le_refl _) (C_nil _ w) (Nat.le_refl _) (C_nil _ w) (Nat.le_refl _) hC hc (by rw [one_is [] [] [] two ok_two 0 x y 0 2 (Nat.le_refl _), hr]) hL
set_option maxHeartbeats 2000000 in
theorem awake_calls (w : World) (hL : LaidAll w) : Calls Tryd.prog 11 #[] w fun e w' => e = .returned (.bool true) ∧ Below w.heap.size w w' := by
  have HL := Aside0.mk hL
  clear hL
  have P1 := Aside0.mk (one_c 33 0 8 (by decide))
  have P2 := Aside0.mk (one_c 8 4 10 (by decide))
  have P3 := Aside0.mk (one_c 33 1 0 (by decide))
  go_enter Tryd.func11, Tryd.ntmps11
  go_wp2_with ((with_reducible refine gate_dst (N := 2) rfl ?_); refine Kd.S_make k43 _ 43 rfl (N := 2) rfl 25 _ _ rfl 2 rfl rfl Tryd.underlying25 (.agg #[(.string ⟨#[]⟩), (.slice none 0 0), (.int .i64 0), (.slice none 0 0), (.slice none 0 0)]) 96 info_unit rfl (by decide) (by omega) z43 (ok := fun _ => True) (okp := fun _ => True) (k43_mkM _ _ _ z43 (Kd.R_nil _ _ _ _ _) (Kd.R_nil _ _ _ _ _) (Kd.R_nil _ _ _ _ _)) (fun _ hk => hk) trivial (by omega) (by omega) (Below.refl _ _) (Nat.le_refl _) ?_; intro v w7 ho hb hg_ hnew_; clear hg_ hnew_; obtain ⟨A, c, rfl, hc, hC⟩ := Kd.S_reads ho; have HC := Aside0.mk hC; have HB := Aside0.mk hb; clear ho hC hb)
  have HC2 := Aside0.mk (Kd.C_below HC.out ((Below.refl _ w7).alloc (Nat.le_refl _) (.cells #[.slice none 0 0, .slice none 0 0, .slice none 0 0, .slice A 2 c] 27)))
  have HB2 := Aside0.mk (HB.out.alloc HB.out.size (.cells #[.slice none 0 0, .slice none 0 0, .slice none 0 0, .slice A 2 c] 27))
  have HG := Aside0.mk (heap_alloc_new w7 (.cells #[.slice none 0 0, .slice none 0 0, .slice none 0 0, .slice A 2 c] 27))
  refine (P1.out A c _ HC2.out hc (HL.out.below HB2.out)).mono ?_
  rintro e w8 ⟨rfl, hb8⟩
  have HG8 := Aside0.mk ((hb8.block _ (blk_lt HG.out)).trans HG.out)
  have HC8 := Aside0.mk (Kd.C_below HC2.out hb8)
  have HB8 := Aside0.mk (HB2.out.trans (hb8.mono HB2.out.size))
  clear hb8 HC HB HC2 HB2 HG
  have q0 : w8.cell? ⟨w7.heap.size, 0, none⟩ = some (.slice none 0 0) := (blk_cell HG8.out 0).trans rfl
  have q1 : w8.cell? ⟨w7.heap.size, 1, none⟩ = some (.slice none 0 0) := (blk_cell HG8.out 1).trans rfl
  have q2 : w8.cell? ⟨w7.heap.size, 2, none⟩ = some (.slice none 0 0) := (blk_cell HG8.out 2).trans rfl
  have q3 : w8.cell? ⟨w7.heap.size, 3, none⟩ = some (.slice A 2 c) := (blk_cell HG8.out 3).trans rfl
  go_wp2_with fail
  refine (P2.out A c _ HC8.out hc (HL.out.below HB8.out)).mono ?_
  rintro e w9 ⟨rfl, hb9⟩
  have HG9 := Aside0.mk ((hb9.block _ (blk_lt HG8.out)).trans HG8.out)
  have HC9 := Aside0.mk (Kd.C_below HC8.out hb9)
  have HB9 := Aside0.mk (HB8.out.trans (hb9.mono HB8.out.size))
  clear hb9 HC8 HB8 HG8 q0 q1 q2 q3
  have q0 : w9.cell? ⟨w7.heap.size, 0, none⟩ = some (.slice none 0 0) := (blk_cell HG9.out 0).trans rfl
  have q1 : w9.cell? ⟨w7.heap.size, 1, none⟩ = some (.slice none 0 0) := (blk_cell HG9.out 1).trans rfl
  have q2 : w9.cell? ⟨w7.heap.size, 2, none⟩ = some (.slice none 0 0) := (blk_cell HG9.out 2).trans rfl
  have q3 : w9.cell? ⟨w7.heap.size, 3, none⟩ = some (.slice A 2 c) := (blk_cell HG9.out 3).trans rfl
  go_wp2_with fail
  refine (P3.out A c _ HC9.out hc (HL.out.below HB9.out)).mono ?_
  rintro e w10 ⟨rfl, hb10⟩
  have HB10 := HB9.out.trans (hb10.mono HB9.out.size)
  go_wp2_with fail
  go_ret
  exact ⟨rfl, HB10⟩
/-- In the printed form. -/
def ladderbacklaw18_awake.f : Option Bool := some true
theorem ladderbacklaw18_awake.calls (r : Bool) (w : World) (h : ladderbacklaw18_awake.f = some r) (hL : LaidAll w) : Calls Tryd.prog 11 #[] w fun e w' => e = .returned (.bool r) ∧ Below w.heap.size w w' := by
  obtain rfl := Option.some.inj h
  exact awake_calls w hL
end Go.Proofs.YtmcgllcoadbnpaaDoor.Given
end
