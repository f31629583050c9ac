/- Units, plainly: whether they fit, their bytes, their slots, and whether two are the same; the program's and the document's tell the same. -/
import Derived.Test.YthbcliofjfhmbaaDoorUniB
import Derived.Test.YthbcliofjfhmbaaDoorUniOct
import Derived.Test.YthbcliofjfhmbaaDoorPUnix3
import Derived.Test.YthbcliofjfhmbaaDoorPUnix5
import Derived.Test.YthbcliofjfhmbaaDoorPUnix6
import Derived.Test.YthbcliofjfhmbaaDoorPUnix7
import Derived.Test.YthbcliofjfhmbaaDoorPUnix8
import Derived.Test.YthbcliofjfhmbaaDoorPUnix9
namespace Go.Proofs.YthbcliofjfhmbaaDoor.UPure
open Go.RowKit Go.Proofs.YthbcliofjfhmbaaDoor.PUni Go.Proofs.YthbcliofjfhmbaaDoor.Given Go.Proofs.YthbcliofjfhmbaaDoorW.PrintWords Go.Proofs.YthbcliofjfhmbaaDoorW.PrintLast
set_option linter.unusedVariables false
set_option linter.unusedSimpArgs false
/-- From some rounds on it tells r. -/
def Tells {α : Type} (g : Nat → Option α) (r : α) : Prop := ∃ k0, ∀ k, k0 ≤ k → g k = some r
theorem Tells.of_mono {α : Type} {g : Nat → Option α} {r : α} {k0 : Nat} (hm : ∀ k, LeO (g k) (g (k + 1))) (h : g k0 = some r) : Tells g r := ⟨k0, fun k hk => by
  obtain ⟨d, rfl⟩ : ∃ d, k = k0 + d := ⟨k - k0, by omega⟩
  induction d with
  | zero => exact h
  | succ d ih => exact hm (k0 + d) r (ih (by omega))⟩
theorem Tells.get {α : Type} {g : Nat → Option α} {r : α} (h : Tells g r) : ∃ k, g k = some r := by
  obtain ⟨k, hk⟩ := h
  exact ⟨k, hk k (Nat.le_refl _)⟩
theorem rd_drop (l : List Int) (i : Nat) (h : i < l.length) : l.drop i = rd l (i : Int) :: l.drop (i + 1) := by
  unfold rd
  rw [Int.toNat_natCast, List.getD_eq_getElem?_getD, List.getElem?_eq_getElem h, Option.getD_some]
  exact List.drop_eq_getElem_cons h
def byteL : List Int → Bool
  | [] => true
  | x :: t => (decide (0 ≤ x) && decide (x ≤ 255)) && byteL t
theorem byteL_cons {x : Int} {t : List Int} (h : ¬ x < 0) (h2 : ¬ x > 255) : byteL (x :: t) = byteL t := by
  show ((decide (0 ≤ x) && decide (x ≤ 255)) && byteL t) = byteL t
  rw [decide_eq_true (by omega), decide_eq_true (by omega)]; rfl
theorem byteL_low {x : Int} {t : List Int} (h : x < 0) : byteL (x :: t) = false := by
  show ((decide (0 ≤ x) && decide (x ≤ 255)) && byteL t) = false
  rw [decide_eq_false (by omega)]; rfl
theorem byteL_high {x : Int} {t : List Int} (h : x > 255) : byteL (x :: t) = false := by
  show ((decide (0 ≤ x) && decide (x ≤ 255)) && byteL t) = false
  rw [decide_eq_false (show ¬ x ≤ 255 by omega), Bool.and_false]; rfl
theorem bytes_l0 (P : List Int) (hz : P.length ≤ 100000) : ∀ (d i k : Nat), i + d = P.length → d < k → unit_bytes.l0 k P (P.length : Int) (i : Int) = some (byteL (P.drop i)) := by
  intro d
  induction d with
  | zero =>
    intro i k h1 h2
    obtain ⟨k, rfl⟩ : ∃ m, k = m + 1 := ⟨k - 1, by omega⟩
    unfold unit_bytes.l0
    rw [if_neg (by omega), List.drop_eq_nil_of_le (by omega)]; rfl
  | succ d ih =>
    intro i k h1 h2
    obtain ⟨k, rfl⟩ : ∃ m, k = m + 1 := ⟨k - 1, by omega⟩
    unfold unit_bytes.l0
    rw [if_pos (by omega), if_pos (by omega), if_pos (by omega), rd_drop P i (by omega)]
    generalize rd P (i : Int) = x
    by_cases h : x < 0
    · rw [if_pos h, byteL_low h]
    · rw [if_neg h]
      by_cases h' : x > 255
      · rw [if_pos h', byteL_high h']
      · rw [if_neg h', byteL_cons h h', w64 _ (by omega) (by omega)]
        exact ih (i + 1) k (by omega) (by omega)
theorem bytes_is (P : List Int) (hz : P.length ≤ 100000) (k : Nat) (hk : P.length < k) : unit_bytes.f k P = some (byteL P) := bytes_l0 P hz P.length 0 k (by omega) hk
theorem rbytes_l0 (P : List Int) (hz : P.length ≤ 100000) : ∀ (d i k : Nat), i + d = P.length → d < k → ladderbackref15_bytes.l0 k P (i : Int) = some (byteL (P.drop i)) := by
  intro d
  induction d with
  | zero =>
    intro i k h1 h2
    obtain ⟨k, rfl⟩ : ∃ m, k = m + 1 := ⟨k - 1, by omega⟩
    unfold ladderbackref15_bytes.l0
    rw [if_neg (by omega), List.drop_eq_nil_of_le (by omega)]; rfl
  | succ d ih =>
    intro i k h1 h2
    obtain ⟨k, rfl⟩ : ∃ m, k = m + 1 := ⟨k - 1, by omega⟩
    unfold ladderbackref15_bytes.l0
    rw [if_pos (by omega), if_pos (by omega), rd_drop P i (by omega)]
    generalize rd P (i : Int) = x
    by_cases h : x < 0
    · rw [if_pos h, byteL_low h]
    · rw [if_neg h]
      by_cases h' : x > 255
      · rw [if_pos h', byteL_high h']
      · rw [if_neg h', byteL_cons h h', w64 _ (by omega) (by omega)]
        exact ih (i + 1) k (by omega) (by omega)
theorem rbytes_is (P : List Int) (hz : P.length ≤ 100000) (k : Nat) (hk : P.length < k) : ladderbackref15_bytes.f k P = some (byteL P) := rbytes_l0 P hz P.length 0 k (by omega) hk
/-! ### Fits -/
def fitsF (n : ByteArray) (P : List Int) (R : Int) (L : List Int) (C : List S47) : Bool := decide (n.size ≤ 255) && decide (P.length ≤ 8) && decide (L.length ≤ 1024) && decide (C.length ≤ 16384) && allR C && byteL P && byteL L && (decide (0 ≤ R) && decide (R ≤ 255))
theorem allR_cons (x : S47) (t : List S47) : allR (x :: t) = (right3 x.f0 x.f1 x.f2 && allR t) := rfl
theorem fits_l0 (n : ByteArray) (P : List Int) (R : Int) (L : List Int) (C : List S47) (hP : P.length ≤ 10000) (hL : L.length ≤ 10000) (hC : C.length ≤ 10000) : ∀ (d i k : Nat), i + d = C.length → d + 10010 < k →
    unit_Fits.l0 k C (C.length : Int) (i : Int) n P R L C = some (allR (C.drop i) && byteL P && byteL L && (decide (0 ≤ R) && decide (R ≤ 255))) := by
  intro d
  induction d with
  | zero =>
    intro i k h1 h2
    obtain ⟨k, rfl⟩ : ∃ m, k = m + 1 := ⟨k - 1, by omega⟩
    unfold unit_Fits.l0
    rw [if_neg (by omega), List.drop_eq_nil_of_le (by omega), bytes_is P (by omega) k (by omega), bytes_is L (by omega) k (by omega), bytes_is [R] (by simp) k (by simp; omega)]
    simp only [Option.bind_some]
    rw [show allR ([] : List S47) = true from rfl, show byteL [R] = (decide (0 ≤ R) && decide (R ≤ 255)) by simp [byteL]]
    cases byteL P <;> cases byteL L <;> simp
  | succ d ih =>
    intro i k h1 h2
    obtain ⟨k, rfl⟩ : ∃ m, k = m + 1 := ⟨k - 1, by omega⟩
    unfold unit_Fits.l0
    rw [if_pos (by omega), if_pos (by omega), if_pos (by omega), rd47_drop C i (by omega)]
    generalize rd_T47 C (i : Int) = x
    have hr : op_Right.f x.f0 x.f1 x.f2 = some (right3 x.f0 x.f1 x.f2) := right_some x.f0 x.f1 x.f2
    rw [hr, Option.bind_some, allR_cons]
    by_cases hq : right3 x.f0 x.f1 x.f2 = true
    · rw [if_pos hq, hq, Bool.true_and, w64 _ (by omega) (by omega)]
      exact ih (i + 1) k (by omega) (by omega)
    · rw [if_neg hq, show right3 x.f0 x.f1 x.f2 = false by simpa using hq]; simp
theorem fits_is (n : ByteArray) (P : List Int) (R : Int) (L : List Int) (C : List S47) (hP : P.length ≤ 10000) (hL : L.length ≤ 10000) (hC : C.length ≤ 10000) (k : Nat) (hk : 20100 ≤ k) : unit_Fits.f k n P R L C = some (fitsF n P R L C) := by
  obtain ⟨k, rfl⟩ : ∃ m, k = m + 1 := ⟨k - 1, by omega⟩
  have h := fits_l0 n P R L C hP hL hC C.length 0 k (by omega) (by omega)
  rw [List.drop_zero] at h
  unfold unit_Fits.f fitsF
  have hj : ∀ b : Bool, unit_Fits.j0 (k + 1) b n P R L C = if b = true then some false else unit_Fits.l0 k C (C.length : Int) 0 n P R L C := fun b => rfl
  simp only [hj]
  rw [show ((0 : Nat) : Int) = 0 from rfl] at h
  rw [h]
  by_cases h1 : (n.size : Int) > 255
  · rw [if_pos h1, if_pos trivial, decide_eq_false (show ¬ n.size ≤ 255 by omega)]; simp
  · rw [if_neg h1, decide_eq_true (show n.size ≤ 255 by omega)]
    by_cases h2 : (P.length : Int) > 8
    · rw [if_pos h2, if_pos trivial, decide_eq_false (show ¬ P.length ≤ 8 by omega)]; simp
    · rw [if_neg h2, decide_eq_true (show P.length ≤ 8 by omega)]
      by_cases h3 : (L.length : Int) > 1024
      · rw [if_pos h3, if_pos trivial, decide_eq_false (show ¬ L.length ≤ 1024 by omega)]; simp
      · rw [if_neg h3, decide_eq_true (show L.length ≤ 1024 by omega), decide_eq_true (show C.length ≤ 16384 by omega), decide_eq_false (show ¬ (C.length : Int) > 16384 by omega), if_neg (by simp)]
        simp
theorem rfits_l0 (n : ByteArray) (P : List Int) (R : Int) (L : List Int) (C : List S47) (hP : P.length ≤ 10000) (hL : L.length ≤ 10000) (hC : C.length ≤ 10000) : ∀ (d i k : Nat), i + d = C.length → d + 10010 < k →
    ladderbackref15_Fits.l0 k (i : Int) n P R L C = some (allR (C.drop i) && (decide (n.size ≤ 255) && decide (P.length ≤ 8) && decide (L.length ≤ 1024) && decide (C.length ≤ 16384) && byteL P && byteL L && (decide (0 ≤ R) && decide (R ≤ 255)))) := by
  intro d
  induction d with
  | zero =>
    intro i k h1 h2
    obtain ⟨k, rfl⟩ : ∃ m, k = m + 1 := ⟨k - 1, by omega⟩
    unfold ladderbackref15_Fits.l0
    rw [if_neg (by omega), List.drop_eq_nil_of_le (by omega), rbytes_is P (by omega) k (by omega), rbytes_is L (by omega) k (by omega)]
    simp only [Option.bind_some]
    rw [show allR ([] : List S47) = true from rfl, Bool.true_and]
    by_cases h1 : (n.size : Int) < 256
    · rw [if_pos h1, decide_eq_true (show n.size ≤ 255 by omega)]
      by_cases h2 : (P.length : Int) ≤ 8
      · rw [if_pos h2, decide_eq_true (show P.length ≤ 8 by omega)]
        by_cases h3 : (L.length : Int) ≤ 1024
        · rw [if_pos h3, decide_eq_true (show L.length ≤ 1024 by omega), if_pos (show (C.length : Int) ≤ 16384 by omega), decide_eq_true (show C.length ≤ 16384 by omega)]
          by_cases h4 : R ≥ 0
          · rw [if_pos h4, decide_eq_true (show 0 ≤ R from h4), show decide (R < 256) = decide (R ≤ 255) by rw [decide_eq_decide]; omega]
            cases byteL P <;> cases byteL L <;> simp
          · rw [if_neg h4, decide_eq_false h4]
            cases byteL P <;> cases byteL L <;> simp
        · rw [if_neg h3, decide_eq_false (show ¬ L.length ≤ 1024 by omega)]; simp
      · rw [if_neg h2, decide_eq_false (show ¬ P.length ≤ 8 by omega)]; simp
    · rw [if_neg h1, decide_eq_false (show ¬ n.size ≤ 255 by omega)]; simp
  | succ d ih =>
    intro i k h1 h2
    obtain ⟨k, rfl⟩ : ∃ m, k = m + 1 := ⟨k - 1, by omega⟩
    unfold ladderbackref15_Fits.l0
    rw [if_pos (by omega), if_pos (by omega), rd47_drop C i (by omega)]
    generalize rd_T47 C (i : Int) = x
    rw [rright _ _ _ k (by omega), Option.bind_some, allR_cons]
    by_cases hq : right3 x.f0 x.f1 x.f2 = true
    · rw [if_pos hq, hq, Bool.true_and, w64 _ (by omega) (by omega)]
      exact ih (i + 1) k (by omega) (by omega)
    · rw [if_neg hq, show right3 x.f0 x.f1 x.f2 = false by simpa using hq]; simp
theorem rfits_is (n : ByteArray) (P : List Int) (R : Int) (L : List Int) (C : List S47) (hP : P.length ≤ 10000) (hL : L.length ≤ 10000) (hC : C.length ≤ 10000) (k : Nat) (hk : 20100 ≤ k) : ladderbackref15_Fits.f k n P R L C = some (fitsF n P R L C) := by
  have h := rfits_l0 n P R L C hP hL hC C.length 0 k (by omega) (by omega)
  rw [List.drop_zero] at h
  refine Eq.trans h ?_
  unfold fitsF
  cases allR C
  · simp
  · simp only [Bool.true_and, Bool.and_true]
end Go.Proofs.YthbcliofjfhmbaaDoor.UPure
