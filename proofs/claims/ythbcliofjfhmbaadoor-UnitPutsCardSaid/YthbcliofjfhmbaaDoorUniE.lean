/- Units' slots, and whether two are the same, plainly; the program's and the document's tell the same. -/
import Derived.Test.YthbcliofjfhmbaaDoorUniD
namespace Go.Proofs.YthbcliofjfhmbaaDoor.UPure
open Go.RowKit Go.Proofs.YthbcliofjfhmbaaDoor.PUni Go.Proofs.YthbcliofjfhmbaaDoor.Given Go.Proofs.YthbcliofjfhmbaaDoorW.PrintWords Go.Proofs.YthbcliofjfhmbaaDoorW.PrintLast
set_option linter.unusedVariables false
set_option linter.unusedSimpArgs false
def slotsF (P : List Int) (R : Int) (L : List Int) : List Int := P ++ (if R = 0 then [] else [R]) ++ L
theorem slots_is (n : ByteArray) (P : List Int) (R : Int) (L : List Int) (C : List S47) (hP : P.length ≤ 10000) (hL : L.length ≤ 10000) : unit_Slots.f n P R L C = some (slotsF P R L) := by
  unfold unit_Slots.f slotsF
  rw [Option.bind_some, if_pos (by simp only [List.length_nil]; omega), Option.bind_some, List.nil_append]
  by_cases h : R = 0
  · rw [if_pos h, if_pos (by omega), if_pos h]; simp
  · rw [if_neg h, if_pos (by omega), Option.bind_some, if_pos (by simp only [List.length_append, List.length_cons, List.length_nil]; omega), if_neg h]
theorem rslots_l0 (n : ByteArray) (P : List Int) (R : Int) (L : List Int) (C : List S47) (hL : L.length ≤ 10000) : ∀ (d i k : Nat) (x : List Int), i + d = L.length → d < k → x.length + d ≤ 1000000 →
    ladderbackref15_Slots.l0 k x (i : Int) n P R L C = some (x ++ L.drop i) := by
  intro d
  induction d with
  | zero =>
    intro i k x h1 h2 h3
    obtain ⟨k, rfl⟩ : ∃ m, k = m + 1 := ⟨k - 1, by omega⟩
    unfold ladderbackref15_Slots.l0
    rw [if_neg (by omega), List.drop_eq_nil_of_le (by omega), List.append_nil]
  | succ d ih =>
    intro i k x h1 h2 h3
    obtain ⟨k, rfl⟩ : ∃ m, k = m + 1 := ⟨k - 1, by omega⟩
    unfold ladderbackref15_Slots.l0
    rw [if_pos (by omega), if_pos (by omega), if_pos (by omega), rd_drop L i (by omega), w64 _ (by omega) (by omega)]
    have := ih (i + 1) k (x ++ [rd L (i : Int)]) (by omega) (by omega) (by simp only [List.length_append, List.length_cons, List.length_nil]; omega)
    rw [show ((i + 1 : Nat) : Int) = (i : Int) + 1 by omega] at this
    rw [this, List.append_assoc]
    rfl
theorem rslots_is (n : ByteArray) (P : List Int) (R : Int) (L : List Int) (C : List S47) (hP : P.length ≤ 10000) (hL : L.length ≤ 10000) (k : Nat) (hk : L.length + 1 < k) : ladderbackref15_Slots.f k n P R L C = some (slotsF P R L) := by
  obtain ⟨k, rfl⟩ : ∃ m, k = m + 1 := ⟨k - 1, by omega⟩
  have hj : ∀ x : List Int, ladderbackref15_Slots.j0 (k + 1) x n P R L C = ladderbackref15_Slots.l0 k x 0 n P R L C := fun _ => rfl
  have h : ∀ x : List Int, x.length ≤ 20000 → ladderbackref15_Slots.l0 k x 0 n P R L C = some (x ++ L) := fun x hx => by
    have := rslots_l0 n P R L C hL L.length 0 k x (by omega) (by omega) (by omega)
    rw [List.drop_zero] at this
    exact this
  unfold ladderbackref15_Slots.f slotsF
  rw [Option.bind_some, if_pos (by simp only [List.length_nil]; omega), Option.bind_some, List.nil_append]
  by_cases hr : R = 0
  · rw [if_pos hr, hj, h _ (by omega), if_pos hr]; simp
  · rw [if_neg hr, if_pos (by omega), hj, h _ (by simp only [List.length_append, List.length_cons, List.length_nil]; omega), if_neg hr]
def sameI : List Int → List Int → Bool
  | [], [] => true
  | x :: s, y :: t => (x == y) && sameI s t
  | _, _ => false
def eq3 (x y : S47) : Bool := x.f0 == y.f0 && (x.f1 == y.f1 && x.f2 == y.f2)
def sameC : List S47 → List S47 → Bool
  | [], [] => true
  | x :: s, y :: t => eq3 x y && sameC s t
  | _, _ => false
theorem sameI_self : ∀ l, sameI l l = true
  | [] => rfl
  | x :: t => by unfold sameI; rw [sameI_self t]; simp
theorem sameC_self : ∀ l, sameC l l = true
  | [] => rfl
  | x :: t => by unfold sameC eq3; rw [sameC_self t]; simp
theorem sameI_len : ∀ a b : List Int, a.length ≠ b.length → sameI a b = false
  | [], [], h => absurd rfl h
  | [], _ :: _, _ => rfl
  | _ :: _, [], _ => rfl
  | x :: s, y :: t, h => by unfold sameI; rw [sameI_len s t (by simpa using h)]; simp
theorem sameC_len : ∀ a b : List S47, a.length ≠ b.length → sameC a b = false
  | [], [], h => absurd rfl h
  | [], _ :: _, _ => rfl
  | _ :: _, [], _ => rfl
  | x :: s, y :: t, h => by unfold sameC; rw [sameC_len s t (by simpa using h)]; simp
theorem ints_l0 (a b : List Int) (hz : a.length ≤ 100000) (hl : a.length = b.length) : ∀ (d i k : Nat), i + d = a.length → d < k → ladderbackref15_Ints.l0 k a b (i : Int) = some (sameI (a.drop i) (b.drop i)) := by
  intro d
  induction d with
  | zero =>
    intro i k h1 h2
    obtain ⟨k, rfl⟩ : ∃ m, k = m + 1 := ⟨k - 1, by omega⟩
    unfold ladderbackref15_Ints.l0
    rw [if_neg (by omega), List.drop_eq_nil_of_le (by omega), List.drop_eq_nil_of_le (by omega)]; rfl
  | succ d ih =>
    intro i k h1 h2
    obtain ⟨k, rfl⟩ : ∃ m, k = m + 1 := ⟨k - 1, by omega⟩
    unfold ladderbackref15_Ints.l0
    rw [if_pos (by omega), if_pos (by omega), if_pos (by omega), rd_drop a i (by omega), rd_drop b i (by omega)]
    generalize rd a (i : Int) = x
    generalize rd b (i : Int) = y
    unfold sameI
    by_cases h : x = y
    · rw [if_pos h, w64 _ (by omega) (by omega), beq_iff_eq.2 h, Bool.true_and]
      exact ih (i + 1) k (by omega) (by omega)
    · rw [if_neg h, beq_eq_false_iff_ne.2 h]; rfl
theorem ints_is (a b : List Int) (hz : a.length ≤ 100000) (k : Nat) (hk : a.length < k) : ladderbackref15_Ints.f k a b = some (sameI a b) := by
  unfold ladderbackref15_Ints.f
  by_cases h : (a.length : Int) = (b.length : Int)
  · rw [if_pos h]
    exact ints_l0 a b hz (by omega) a.length 0 k (by omega) hk
  · rw [if_neg h, sameI_len a b (by omega)]
theorem likei_l0 (a b : List Int) (hz : a.length ≤ 100000) (hl : a.length = b.length) : ∀ (d i k : Nat), i + d = a.length → d < k → unit_like_int.l0 k a b (a.length : Int) (i : Int) = some (sameI (a.drop i) (b.drop i)) := by
  intro d
  induction d with
  | zero =>
    intro i k h1 h2
    obtain ⟨k, rfl⟩ : ∃ m, k = m + 1 := ⟨k - 1, by omega⟩
    unfold unit_like_int.l0
    rw [if_neg (by omega), List.drop_eq_nil_of_le (by omega), List.drop_eq_nil_of_le (by omega)]; rfl
  | succ d ih =>
    intro i k h1 h2
    obtain ⟨k, rfl⟩ : ∃ m, k = m + 1 := ⟨k - 1, by omega⟩
    unfold unit_like_int.l0
    rw [if_pos (by omega), if_pos (by omega), if_pos (by omega), if_pos (by omega), rd_drop a i (by omega), rd_drop b i (by omega)]
    generalize rd a (i : Int) = x
    generalize rd b (i : Int) = y
    unfold sameI
    by_cases h : x = y
    · rw [if_pos h, w64 _ (by omega) (by omega), beq_iff_eq.2 h, Bool.true_and]
      exact ih (i + 1) k (by omega) (by omega)
    · rw [if_neg h, beq_eq_false_iff_ne.2 h]; rfl
theorem likei_is (a b : List Int) (hz : a.length ≤ 100000) (k : Nat) (hk : a.length < k) : unit_like_int.f k a b = some (sameI a b) := by
  unfold unit_like_int.f
  by_cases h : (a.length : Int) = (b.length : Int)
  · rw [if_pos h]
    exact likei_l0 a b hz (by omega) a.length 0 k (by omega) hk
  · rw [if_neg h, sameI_len a b (by omega)]
theorem same13_l0 (a b : List S47) (hz : a.length ≤ 100000) (hl : a.length = b.length) : ∀ (d i k : Nat), i + d = a.length → d < k → ladderbackref13_Same.l0 k a b (i : Int) = some (sameC (a.drop i) (b.drop i)) := by
  intro d
  induction d with
  | zero =>
    intro i k h1 h2
    obtain ⟨k, rfl⟩ : ∃ m, k = m + 1 := ⟨k - 1, by omega⟩
    unfold ladderbackref13_Same.l0
    rw [if_neg (by omega), List.drop_eq_nil_of_le (by omega), List.drop_eq_nil_of_le (by omega)]; rfl
  | succ d ih =>
    intro i k h1 h2
    obtain ⟨k, rfl⟩ : ∃ m, k = m + 1 := ⟨k - 1, by omega⟩
    unfold ladderbackref13_Same.l0
    rw [if_pos (by omega), if_pos (by omega), if_pos (by omega), rd47_drop a i (by omega), rd47_drop b i (by omega)]
    generalize rd_T47 a (i : Int) = x
    generalize rd_T47 b (i : Int) = y
    have e : (!(x.f0 == y.f0) || (!(x.f1 == y.f1) || !(x.f2 == y.f2))) = !eq3 x y := by
      unfold eq3
      cases x.f0 == y.f0 <;> cases x.f1 == y.f1 <;> cases x.f2 == y.f2 <;> rfl
    rw [e]
    unfold sameC
    by_cases h : eq3 x y = true
    · rw [if_neg (by rw [h]; simp), w64 _ (by omega) (by omega), h, Bool.true_and]
      exact ih (i + 1) k (by omega) (by omega)
    · rw [show eq3 x y = false by simpa using h]; rfl
theorem same13_is (a b : List S47) (hz : a.length ≤ 100000) (k : Nat) (hk : a.length < k) : ladderbackref13_Same.f k a b = some (sameC a b) := by
  unfold ladderbackref13_Same.f
  by_cases h : (a.length : Int) = (b.length : Int)
  · rw [if_pos h]
    exact same13_l0 a b hz (by omega) a.length 0 k (by omega) hk
  · rw [if_neg h, sameC_len a b (by omega)]
theorem likec_l0 (a b : List S47) (hz : a.length ≤ 100000) (hl : a.length = b.length) : ∀ (d i k : Nat), i + d = a.length → d < k → api_Instr.l0 k a b (a.length : Int) (i : Int) = some (sameC (a.drop i) (b.drop i)) := by
  intro d
  induction d with
  | zero =>
    intro i k h1 h2
    obtain ⟨k, rfl⟩ : ∃ m, k = m + 1 := ⟨k - 1, by omega⟩
    unfold api_Instr.l0
    rw [if_neg (by omega), List.drop_eq_nil_of_le (by omega), List.drop_eq_nil_of_le (by omega)]; rfl
  | succ d ih =>
    intro i k h1 h2
    obtain ⟨k, rfl⟩ : ∃ m, k = m + 1 := ⟨k - 1, by omega⟩
    unfold api_Instr.l0
    rw [if_pos (by omega), if_pos (by omega), if_pos (by omega), if_pos (by omega), rd47_drop a i (by omega), rd47_drop b i (by omega)]
    generalize rd_T47 a (i : Int) = x
    generalize rd_T47 b (i : Int) = y
    have e : (!(x.f0 == y.f0) || (!(x.f1 == y.f1) || !(x.f2 == y.f2))) = !eq3 x y := by
      unfold eq3
      cases x.f0 == y.f0 <;> cases x.f1 == y.f1 <;> cases x.f2 == y.f2 <;> rfl
    rw [e]
    unfold sameC
    by_cases h : eq3 x y = true
    · rw [if_neg (by rw [h]; simp), w64 _ (by omega) (by omega), h, Bool.true_and]
      exact ih (i + 1) k (by omega) (by omega)
    · rw [show eq3 x y = false by simpa using h]; rfl
theorem likec_is (a b : List S47) (hz : a.length ≤ 100000) (k : Nat) (hk : a.length < k) : api_Instr.f k a b = some (sameC a b) := by
  unfold api_Instr.f
  by_cases h : (a.length : Int) = (b.length : Int)
  · rw [if_pos h]
    exact likec_l0 a b hz (by omega) a.length 0 k (by omega) hk
  · rw [if_neg h, sameC_len a b (by omega)]
def sameU (n : ByteArray) (P : List Int) (R : Int) (L : List Int) (C : List S47) (n' : ByteArray) (P' : List Int) (R' : Int) (L' : List Int) (C' : List S47) : Bool := decide (n.toList = n'.toList) && decide (R = R') && sameI P P' && sameI L L' && sameC C C'
theorem same_is (n : ByteArray) (P : List Int) (R : Int) (L : List Int) (C : List S47) (n' : ByteArray) (P' : List Int) (R' : Int) (L' : List Int) (C' : List S47) (hP : P.length ≤ 10000) (hL : L.length ≤ 10000) (hC : C.length ≤ 10000) (k : Nat) (hk : 10001 ≤ k) : unit_Same.f k n P R L C n' P' R' L' C' = some (sameU n P R L C n' P' R' L' C') := by
  unfold unit_Same.f sameU
  by_cases h1 : n.toList = n'.toList
  · rw [if_pos h1, decide_eq_true h1, Bool.true_and]
    by_cases h2 : R = R'
    · rw [if_pos h2, decide_eq_true h2, Bool.true_and, likei_is P P' (by omega) k (by omega), Option.bind_some, likei_is L L' (by omega) k (by omega), Option.bind_some, likec_is C C' (by omega) k (by omega), Option.bind_some]
      cases sameI P P' <;> cases sameI L L' <;> simp
    · rw [if_neg h2, decide_eq_false h2]; simp
  · rw [if_neg h1, decide_eq_false h1]; simp
theorem rsame_is (n : ByteArray) (P : List Int) (R : Int) (L : List Int) (C : List S47) (n' : ByteArray) (P' : List Int) (R' : Int) (L' : List Int) (C' : List S47) (hP : P.length ≤ 10000) (hL : L.length ≤ 10000) (hC : C.length ≤ 10000) (k : Nat) (hk : 10001 ≤ k) : ladderbackref15_Same.f k n P R L C n' P' R' L' C' = some (sameU n P R L C n' P' R' L' C') := by
  unfold ladderbackref15_Same.f sameU
  by_cases h1 : n.toList = n'.toList
  · rw [if_pos h1, decide_eq_true h1, Bool.true_and]
    by_cases h2 : R = R'
    · rw [if_pos h2, decide_eq_true h2, Bool.true_and, ints_is P P' (by omega) k (by omega), Option.bind_some, ints_is L L' (by omega) k (by omega), Option.bind_some, same13_is C C' (by omega) k (by omega), Option.bind_some]
      cases sameI P P' <;> cases sameI L L' <;> simp
    · rw [if_neg h2, decide_eq_false h2]; simp
  · rw [if_neg h1, decide_eq_false h1]; simp
theorem sameU_self (n : ByteArray) (P : List Int) (R : Int) (L : List Int) (C : List S47) : sameU n P R L C n P R L C = true := by
  unfold sameU
  rw [sameI_self, sameI_self, sameC_self]; simp
theorem awake15 : ∃ k, ladderbacklaw15_awake.f k = some true := ⟨30, by decide +kernel⟩
end Go.Proofs.YthbcliofjfhmbaaDoor.UPure
