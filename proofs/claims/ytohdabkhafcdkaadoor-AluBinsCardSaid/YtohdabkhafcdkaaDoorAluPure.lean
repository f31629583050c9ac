/- The operations' numbers: what any operation makes of two numbers of a type, as the program says it; for all numbers of 64 bits. -/
import Derived.Test.YtohdabkhafcdkaaDoorPAlux3
import Derived.DataShut
import Derived.Laws.BitsAllLaws
import Derived.Laws.DeepNot64
namespace Go.Proofs.YtohdabkhafcdkaaDoor.PureAlu
set_option linter.unusedSimpArgs false
open Go Go.RowKit Go.Proofs.YtohdabkhafcdkaaDoor.PAlu Go.Proofs.YtohdabkhafcdkaaDoorW.PrintWords Go.Proofs.YtohdabkhafcdkaaDoorW.PrintLast Go.Proofs.YtohdabkhafcdkaaDoor.Given
theorem i64_of_wf (x : Int) (h : (Lit.int .i64 x).wf = true) : -9223372036854775808 ≤ x ∧ x ≤ 9223372036854775807 := by
  have h := (Lit.wf_int_iff .i64 x).1 h
  have h1 : IntKind.i64.min = -9223372036854775808 := by decide
  have h2 : IntKind.i64.max = 9223372036854775807 := by decide
  omega
/-- A number as a value of a type. -/
def W (t v : Int) : Int := if t = 1 then (if v = 0 then 0 else 1) else if t = 2 then (v + 32768) % 65536 - 32768 else if t = 3 then (v + 2147483648) % 4294967296 - 2147483648 else if t = 4 then v % 65536 else if t = 5 then v % 4294967296 else if t = 6 then v else 0
theorem i16_wrap (n : Int) : IntKind.i16.wrap n = (n + 32768) % 65536 - 32768 := by simp [IntKind.wrap, IntKind.bits, IntKind.signed]; omega
theorem wrap_is (t v : Int) : kind_Wrap.f t v = some (W t v) := by
  unfold kind_Wrap.f W
  split
  · split <;> rfl
  split
  · congr 1
    rw [i16_wrap]
    unfold wrap64
    omega
  split
  · congr 1
    unfold wrap32 wrap64
    omega
  split
  · congr 1
    rw [IntKind.wrap_u16]
    unfold wrap64
    omega
  split
  · rfl
  split <;> rfl
def R (t : Int) : Bool := decide (1 ≤ t ∧ t ≤ 6)
theorem right_is (t : Int) : kind_Right.f t = some (R t) := by
  unfold kind_Right.f R
  split <;> (congr 1; rw [Bool.eq_iff_iff]; simp; omega)
theorem in_is (t v : Int) : kind_In.f t v = some (R t && (W t v == v)) := by
  unfold kind_In.f
  rw [right_is, Option.bind_some, wrap_is]
  cases h : R t <;> simp
theorem types (t : Int) : t = 1 ∨ t = 2 ∨ t = 3 ∨ t = 4 ∨ t = 5 ∨ t = 6 ∨ R t = false := by unfold R; simp; omega
theorem W_stays (t v : Int) : W t (W t v) = W t v := by
  unfold W
  split
  · split <;> simp
  repeat' split
  all_goals omega
theorem W_lim (t v : Int) (hv : -9223372036854775808 ≤ v ∧ v ≤ 9223372036854775807) : -9223372036854775808 ≤ W t v ∧ W t v ≤ 9223372036854775807 := by
  unfold W
  repeat' split
  all_goals omega
/-- Wrapped numbers are told by what is left over. -/
theorem W_mod (t p q : Int) (ht : t ≠ 1) (ht6 : t ≠ 6) (h : p % 4294967296 = q % 4294967296) : W t (wrap64 p) = W t (wrap64 q) := by
  unfold W wrap64
  rw [if_neg ht, if_neg ht]
  repeat' split
  all_goals omega
theorem W_mod16 (t p q : Int) (ht : t = 2 ∨ t = 4) (h : p % 65536 = q % 65536) : W t (wrap64 p) = W t (wrap64 q) := by
  unfold W wrap64
  rcases ht with rfl | rfl
  · simp
    omega
  · simp
    omega
theorem mul_mod_of (m x y a b : Int) (hx : x % m = a % m) (hy : y % m = b % m) : (x * y) % m = (a * b) % m := by
  rw [Int.mul_emod, hx, hy, ← Int.mul_emod]
theorem W_sum (t a b : Int) (ht : t ≠ 1) : W t (wrap64 (W t a + W t b)) = W t (wrap64 (a + b)) := by
  rcases types t with rfl | rfl | rfl | rfl | rfl | rfl | h
  · exact absurd rfl ht
  · exact W_mod16 _ _ _ (.inl rfl) (by simp [W]; omega)
  · exact W_mod _ _ _ (by decide) (by decide) (by simp [W]; omega)
  · exact W_mod16 _ _ _ (.inr rfl) (by simp [W])
  · exact W_mod _ _ _ (by decide) (by decide) (by simp [W])
  · rfl
  · have : ∀ v, W t v = 0 := by
      intro v
      simp [R] at h
      unfold W
      rw [if_neg (by omega), if_neg (by omega), if_neg (by omega), if_neg (by omega), if_neg (by omega), if_neg (by omega)]
    rw [this, this]
theorem W_product (t a b : Int) (ht : t ≠ 1) : W t (wrap64 (W t a * W t b)) = W t (wrap64 (a * b)) := by
  rcases types t with rfl | rfl | rfl | rfl | rfl | rfl | h
  · exact absurd rfl ht
  · exact W_mod16 _ _ _ (.inl rfl) (mul_mod_of _ _ _ _ _ (by simp [W]) (by simp [W]))
  · exact W_mod _ _ _ (by decide) (by decide) (mul_mod_of _ _ _ _ _ (by simp [W]) (by simp [W]))
  · exact W_mod16 _ _ _ (.inr rfl) (mul_mod_of _ _ _ _ _ (by simp [W]) (by simp [W]))
  · exact W_mod _ _ _ (by decide) (by decide) (mul_mod_of _ _ _ _ _ (by simp [W]) (by simp [W]))
  · rfl
  · have : ∀ v, W t v = 0 := by
      intro v
      simp [R] at h
      unfold W
      rw [if_neg (by omega), if_neg (by omega), if_neg (by omega), if_neg (by omega), if_neg (by omega), if_neg (by omega)]
    rw [this, this]

theorem goes_is (op t : Int) (h : -9223372036854775808 ≤ op ∧ op ≤ 9223372036854775807) : alu_Goes.f op t = some (goesOf op t) := if_pos h
theorem goes_wrong (op t : Int) (h : R t = false) : goesOf op t = false := by
  unfold goesOf
  simp [R] at h
  rw [decide_eq_false (by omega)]
  rfl
def inF (t v : Int) : Bool := R t && (W t v == v)
def binaryF (op : Int) : Bool := decide (8 ≤ op ∧ op ≤ 25 ∧ op ≠ 13 ∧ op ≠ 17)
theorem binary_is (op : Int) (h : -9223372036854775808 ≤ op ∧ op ≤ 9223372036854775807) : alu_Binary.f op = some (binaryF op) := by
  unfold alu_Binary.f binaryF wrap64
  repeat' split
  all_goals (congr 1; rw [Bool.eq_iff_iff]; simp <;> omega)
theorem bin_is (k : Nat) (op t a b : Int) (h : -9223372036854775808 ≤ op ∧ op ≤ 9223372036854775807) :
    alu_Bin.f (k + 4) op t a b = if binaryF op && goesOf op t && inF t a && inF (if op = 18 ∨ op = 19 then 2 else t) b then alu_Bin.j2 (k + 2) op t a b false else some (0, 0, false) := by
  have j1 : ∀ u, alu_Bin.j1 (k + 3) op t a b u = if binaryF op && goesOf op t && inF t a && inF u b then alu_Bin.j2 (k + 2) op t a b false else some (0, 0, false) := by
    intro u
    simp only [alu_Bin.j1, binary_is op h, goes_is op t h, in_is, Option.bind_some]
    unfold inF
    cases binaryF op <;> cases goesOf op t <;> cases (R t && (W t a == a)) <;> cases (R u && (W u b == b)) <;> simp [alu_Bin.j2]
  unfold alu_Bin.f
  by_cases h1 : op = 18
  · rw [if_pos h1, show (if op = 18 ∨ op = 19 then (2 : Int) else t) = 2 from if_pos (.inl h1)]
    simp only [alu_Bin.j0, if_true]
    exact j1 2
  · rw [if_neg h1]
    by_cases h2 : op = 19
    · rw [show (if op = 18 ∨ op = 19 then (2 : Int) else t) = 2 from if_pos (.inr h2), show (op == 19) = true by simp [h2]]
      simp only [alu_Bin.j0, if_true]
      exact j1 2
    · rw [show (if op = 18 ∨ op = 19 then (2 : Int) else t) = t from if_neg (by omega), show (op == 19) = false by simp [h2]]
      simp only [alu_Bin.j0]
      rw [if_neg (by decide)]
      exact j1 t
/-- A comparison. -/
theorem bin_cmp (k : Nat) (op t a b : Int) (h : 20 ≤ op ∧ op ≤ 25) (H : Bool) (hH : alu_holds.f op a b = some H) :
    alu_Bin.f (k + 4) op t a b = if goesOf op t && inF t a && inF t b then some (if H then 1 else 0, 0, true) else some (0, 0, false) := by
  rw [bin_is k op t a b (by omega), show (if op = 18 ∨ op = 19 then (2 : Int) else t) = t from if_neg (by omega), show binaryF op = true by unfold binaryF; exact decide_eq_true (by omega)]
  have : alu_Bin.j2 (k + 2) op t a b false = some (if H then 1 else 0, 0, true) := by
    simp only [alu_Bin.j2]
    rw [if_neg (by decide), if_neg (by omega), if_neg (by omega)]
    simp only [alu_Bin.j3]
    rw [if_neg (by decide)]
    unfold alu_compares.f
    rw [if_pos (by omega), decide_eq_true (by omega), hH]
    simp only [Option.bind_some, if_true]
    cases H <;> rfl
  rw [this]
  simp only [Bool.true_and]
/-- A sum, a product, or of bits both, or one of both. -/
theorem bin_make (k : Nat) (op t a b x : Int) (h : op = 8 ∨ op = 10 ∨ op = 14 ∨ op = 15 ∨ ((op = 11 ∨ op = 12) ∧ b ≠ 0)) (hx : alu_makes.f op t a b = some x) (hg : goesOf op t = true) (ha : inF t a = true) (hb : inF t b = true) :
    alu_Bin.f (k + 4) op t a b = some (W t x, 0, true) := by
  rw [bin_is k op t a b (by omega), show (if op = 18 ∨ op = 19 then (2 : Int) else t) = t from if_neg (by omega), show binaryF op = true by unfold binaryF; exact decide_eq_true (by omega), hg, ha, hb]
  simp only [Bool.and_self, if_true, alu_Bin.j2]
  have hc : alu_compares.f op = some false := by unfold alu_compares.f; rw [if_neg (by omega)]
  have hj : alu_Bin.j3 (k + 1) op t a b false = some (W t x, 0, true) := by
    simp only [alu_Bin.j3]
    rw [if_neg (by decide), hc, hx]
    simp only [Option.bind_some, wrap_is]
    rw [if_neg (by decide)]
  rw [if_neg (by decide)]
  by_cases h0 : b = 0
  · rw [if_neg (by omega), if_neg (by omega)]
    exact hj
  · rw [show (b == 0) = false by simp [h0], hj]
    simp
theorem un_not (k : Nat) (t a : Int) (hg : goesOf 17 t = true) (ha : inF t a = true) : alu_Un.f (k + 1) 17 t a = some (if t = 1 then wrap64 (1 - a) else W t (Go.bits .xor .i64 (-1) a), true) := by
  unfold alu_Un.f
  rw [goes_is 17 t (by decide), hg]
  simp only [Option.bind_some, if_true, in_is]
  unfold inF at ha
  rw [ha]
  simp only [alu_Un.j0, Bool.not_true]
  rw [if_neg (by decide), if_neg (by decide), if_pos trivial]
  split
  · rfl
  · rw [wrap_is]
    rfl
end Go.Proofs.YtohdabkhafcdkaaDoor.PureAlu
