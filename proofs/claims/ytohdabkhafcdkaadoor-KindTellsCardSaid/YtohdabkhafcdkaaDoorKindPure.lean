/- The types' numbers: what is wrapped, and whether a number is one of a type's; the program's answer and the document's, for all numbers of 64 bits. -/
import Derived.Test.YtohdabkhafcdkaaDoorPKindx2
import Derived.DataShut
import Derived.Laws.BitsAllLaws
namespace Go.Proofs.YtohdabkhafcdkaaDoor.Pure
set_option linter.unusedSimpArgs false
open Go.RowKit Go.Proofs.YtohdabkhafcdkaaDoor.PKind Go.Proofs.YtohdabkhafcdkaaDoorW.PrintWords Go.Proofs.YtohdabkhafcdkaaDoorW.PrintLast Go.Proofs.YtohdabkhafcdkaaDoor.Given
theorem i64_of_wf (x : Int) (h : (Lit.int .i64 x).wf = true) : -9223372036854775808 ≤ x ∧ x ≤ 9223372036854775807 := by
  have h := (Lit.wf_int_iff .i64 x).1 h
  have h1 : IntKind.i64.min = -9223372036854775808 := by decide
  have h2 : IntKind.i64.max = 9223372036854775807 := by decide
  omega
/-- A number as a value of a type. -/
def W (t v : Int) : Int := if t = 1 then (if v = 0 then 0 else 1) else if t = 2 then (v + 32768) % 65536 - 32768 else if t = 3 then (v + 2147483648) % 4294967296 - 2147483648 else if t = 4 then v % 65536 else if t = 5 then v % 4294967296 else if t = 6 then v else 0
theorem i16_wrap (n : Int) : IntKind.i16.wrap n = (n + 32768) % 65536 - 32768 := by simp [IntKind.wrap, IntKind.bits, IntKind.signed]; omega
theorem wrap_is (t v : Int) : kind_Wrap.f t v = some (W t v) := by
  unfold kind_Wrap.f W
  split
  · split <;> rfl
  split
  · congr 1
    rw [i16_wrap]
    unfold wrap64
    omega
  split
  · congr 1
    unfold wrap32 wrap64
    omega
  split
  · congr 1
    rw [IntKind.wrap_u16]
    unfold wrap64
    omega
  split
  · rfl
  split <;> rfl
def R (t : Int) : Bool := decide (1 ≤ t ∧ t ≤ 6)
theorem right_is (t : Int) : kind_Right.f t = some (R t) := by
  unfold kind_Right.f R
  split <;> (congr 1; rw [Bool.eq_iff_iff]; simp; omega)
theorem ref_right_is (t : Int) : ladderbackref01_Right.f t = some (R t) := by
  unfold ladderbackref01_Right.f R
  split <;> (congr 1; rw [Bool.eq_iff_iff]; simp; omega)
theorem in_is (t v : Int) : kind_In.f t v = some (R t && (W t v == v)) := by
  unfold kind_In.f
  rw [right_is, Option.bind_some, wrap_is]
  cases h : R t <;> simp
theorem types (t : Int) : t = 1 ∨ t = 2 ∨ t = 3 ∨ t = 4 ∨ t = 5 ∨ t = 6 ∨ R t = false := by unfold R; simp; omega
theorem tm (v m : Int) (hm : 0 < m) : ∃ q r, v.tmod m = r ∧ v = m * q + r ∧ (0 ≤ v → 0 ≤ r ∧ r < m) ∧ (v < 0 → -m < r ∧ r ≤ 0) := by
  refine ⟨v.tdiv m, v.tmod m, rfl, (Int.mul_tdiv_add_tmod v m).symm, fun h => ⟨Int.tmod_nonneg m h, Int.tmod_lt_of_pos v hm⟩, fun h => ?_⟩
  have h1 := Int.tmod_nonneg m (show 0 ≤ -v by omega)
  have h2 := Int.tmod_lt_of_pos (-v) hm
  rw [Int.neg_tmod] at h1 h2
  omega
theorem ref_wrap_is (t v : Int) (hv : -9223372036854775808 ≤ v ∧ v ≤ 9223372036854775807) : ladderbackref01_Wrap.f t v = some (W t v) := by
  obtain ⟨q1, r1, e1, h1, p1, n1⟩ := tm v 65536 (by decide)
  obtain ⟨q2, r2, e2, h2, p2, n2⟩ := tm v 4294967296 (by decide)
  unfold ladderbackref01_Wrap.f
  rw [ref_right_is, Option.bind_some]
  rcases types t with rfl | rfl | rfl | rfl | rfl | rfl | h
  · simp [R, W]; split <;> rfl
  · simp only [R, W, ladderbackref01_High.f, ladderbackref01_Low.f, wrap64, Option.bind_some]
    simp [e1]
    repeat' split
    all_goals (try (congr 1))
    all_goals omega
  · simp only [R, W, ladderbackref01_High.f, ladderbackref01_Low.f, wrap64, Option.bind_some]
    simp [e2]
    repeat' split
    all_goals (try (congr 1))
    all_goals omega
  · simp only [R, W, ladderbackref01_High.f, ladderbackref01_Low.f, wrap64, Option.bind_some]
    simp [e1]
    repeat' split
    all_goals (try (congr 1))
    all_goals omega
  · simp only [R, W, ladderbackref01_High.f, ladderbackref01_Low.f, wrap64, Option.bind_some]
    simp [e2]
    repeat' split
    all_goals (try (congr 1))
    all_goals omega
  · simp [R, W]
  · rw [h]
    simp [R] at h
    unfold W
    rw [if_neg (by simp), if_neg (by omega), if_neg (by omega), if_neg (by omega), if_neg (by omega), if_neg (by omega), if_neg (by omega)]
theorem ref_in_is (t v : Int) (hv : -9223372036854775808 ≤ v ∧ v ≤ 9223372036854775807) : ladderbackref01_In.f t v = some (R t && (W t v == v)) := by
  unfold ladderbackref01_In.f
  rw [ref_right_is]
  rcases types t with rfl | rfl | rfl | rfl | rfl | rfl | h
  · simp [R, W, ladderbackref01_High.f, ladderbackref01_Low.f]
    repeat' split
    all_goals (congr 1; rw [Bool.eq_iff_iff]; simp <;> omega)
  · simp [R, W, ladderbackref01_High.f, ladderbackref01_Low.f]
    repeat' split
    all_goals (congr 1; rw [Bool.eq_iff_iff]; simp <;> omega)
  · simp [R, W, ladderbackref01_High.f, ladderbackref01_Low.f]
    repeat' split
    all_goals (congr 1; rw [Bool.eq_iff_iff]; simp <;> omega)
  · simp [R, W, ladderbackref01_High.f, ladderbackref01_Low.f]
    repeat' split
    all_goals (congr 1; rw [Bool.eq_iff_iff]; simp <;> omega)
  · simp [R, W, ladderbackref01_High.f, ladderbackref01_Low.f]
    repeat' split
    all_goals (congr 1; rw [Bool.eq_iff_iff]; simp <;> omega)
  · simp [R, W]
  · have h6 : t ≠ 6 := by
      rintro rfl
      simp [R] at h
    rw [if_neg h6, h]
    rfl
theorem awake_is : ladderbacklaw01_awake.f = some true := by
  unfold ladderbacklaw01_awake.f kind_Name.f
  rw [wrap_is]
  simp only [Option.bind_some]
  rw [if_pos (by decide)]
  rw [show ((nameOf 1).toList == ([66, 79, 79, 76] : List UInt8)) = true from by rw [ByteArray.toList_eq]; rfl]
theorem KindWraps : ladderbacklaw01_KindWraps.Pure := by
  intro a0 a1 w0 w1
  have b1 := i64_of_wf a1 w1
  unfold ladderbacklaw01_KindWraps.f
  rw [wrap_is, ref_wrap_is a0 a1 b1, in_is, ref_in_is a0 a1 b1, awake_is]
  simp
theorem W_stays (t v : Int) : W t (W t v) = W t v := by
  unfold W
  split
  · split <;> simp
  repeat' split
  all_goals omega
theorem W_lim (t v : Int) (hv : -9223372036854775808 ≤ v ∧ v ≤ 9223372036854775807) : -9223372036854775808 ≤ W t v ∧ W t v ≤ 9223372036854775807 := by
  unfold W
  repeat' split
  all_goals omega
/-- Wrapped numbers are told by what is left over. -/
theorem W_mod (t p q : Int) (ht : t ≠ 1) (ht6 : t ≠ 6) (h : p % 4294967296 = q % 4294967296) : W t (wrap64 p) = W t (wrap64 q) := by
  unfold W wrap64
  rw [if_neg ht, if_neg ht]
  repeat' split
  all_goals omega
theorem W_mod16 (t p q : Int) (ht : t = 2 ∨ t = 4) (h : p % 65536 = q % 65536) : W t (wrap64 p) = W t (wrap64 q) := by
  unfold W wrap64
  rcases ht with rfl | rfl
  · simp
    omega
  · simp
    omega
theorem mul_mod_of (m x y a b : Int) (hx : x % m = a % m) (hy : y % m = b % m) : (x * y) % m = (a * b) % m := by
  rw [Int.mul_emod, hx, hy, ← Int.mul_emod]
theorem W_sum (t a b : Int) (ht : t ≠ 1) : W t (wrap64 (W t a + W t b)) = W t (wrap64 (a + b)) := by
  rcases types t with rfl | rfl | rfl | rfl | rfl | rfl | h
  · exact absurd rfl ht
  · exact W_mod16 _ _ _ (.inl rfl) (by simp [W]; omega)
  · exact W_mod _ _ _ (by decide) (by decide) (by simp [W]; omega)
  · exact W_mod16 _ _ _ (.inr rfl) (by simp [W])
  · exact W_mod _ _ _ (by decide) (by decide) (by simp [W])
  · rfl
  · have : ∀ v, W t v = 0 := by
      intro v
      simp [R] at h
      unfold W
      rw [if_neg (by omega), if_neg (by omega), if_neg (by omega), if_neg (by omega), if_neg (by omega), if_neg (by omega)]
    rw [this, this]
theorem W_product (t a b : Int) (ht : t ≠ 1) : W t (wrap64 (W t a * W t b)) = W t (wrap64 (a * b)) := by
  rcases types t with rfl | rfl | rfl | rfl | rfl | rfl | h
  · exact absurd rfl ht
  · exact W_mod16 _ _ _ (.inl rfl) (mul_mod_of _ _ _ _ _ (by simp [W]) (by simp [W]))
  · exact W_mod _ _ _ (by decide) (by decide) (mul_mod_of _ _ _ _ _ (by simp [W]) (by simp [W]))
  · exact W_mod16 _ _ _ (.inr rfl) (mul_mod_of _ _ _ _ _ (by simp [W]) (by simp [W]))
  · exact W_mod _ _ _ (by decide) (by decide) (mul_mod_of _ _ _ _ _ (by simp [W]) (by simp [W]))
  · rfl
  · have : ∀ v, W t v = 0 := by
      intro v
      simp [R] at h
      unfold W
      rw [if_neg (by omega), if_neg (by omega), if_neg (by omega), if_neg (by omega), if_neg (by omega), if_neg (by omega)]
    rw [this, this]
theorem KindStays : ladderbacklaw01_KindStays.Pure := by
  intro a0 a1 a2 w0 w1 w2
  refine ⟨1, ?_⟩
  have rest : ladderbacklaw01_KindStays.j0 1 a0 a1 a2 (W a0 a1) (W a0 a2) false = some true := by
    simp only [ladderbacklaw01_KindStays.j0, wrap_is, awake_is, Option.bind_some]
    rw [if_neg (by decide)]
    by_cases h : a0 = 1
    · rw [if_pos h]
    · rw [if_neg h, if_pos (W_sum a0 a1 a2 h), if_pos (W_product a0 a1 a2 h)]
  unfold ladderbacklaw01_KindStays.f
  simp only [wrap_is, right_is, in_is, Option.bind_some, W_stays]
  cases hR : R a0 with
  | false => exact rest
  | true =>
    simp only [beq_self_eq_true, Bool.and_self, if_true, Bool.true_and, bne_self_eq_false]
    exact rest
theorem name_find : ∀ t : Int, 1 ≤ t → t ≤ 6 → findOf (nameOf t) 6 = t := by
  intro t h1 h2
  rcases (by omega : t = 1 ∨ t = 2 ∨ t = 3 ∨ t = 4 ∨ t = 5 ∨ t = 6) with rfl | rfl | rfl | rfl | rfl | rfl <;> decide +kernel
theorem ref_name_is (t : Int) : ladderbackref01_Name.f t = some (nameOf t) := by
  unfold ladderbackref01_Name.f
  rw [ref_right_is]
  rcases types t with rfl | rfl | rfl | rfl | rfl | rfl | h
  · rfl
  · rfl
  · rfl
  · rfl
  · rfl
  · rfl
  · rw [h]
    simp [R] at h
    unfold nameOf
    rw [if_neg (by omega), if_neg (by omega), if_neg (by omega), if_neg (by omega), if_neg (by omega), if_neg (by omega)]
    rfl
theorem ref_bits_is (t : Int) : ladderbackref01_Bits.f t = some (bitsOf t) := by
  unfold ladderbackref01_Bits.f
  rw [ref_right_is]
  rcases types t with rfl | rfl | rfl | rfl | rfl | rfl | h
  · rfl
  · rfl
  · rfl
  · rfl
  · rfl
  · rfl
  · rw [h]
    simp [R] at h
    unfold bitsOf
    rw [if_neg (by omega), if_neg (by omega), if_neg (by omega), if_neg (by omega), if_neg (by omega), if_neg (by omega)]
    rfl
theorem ref_signed_is (t : Int) : ladderbackref01_Signed.f t = some (signedOf t) := by
  unfold ladderbackref01_Signed.f signedOf
  split
  · rename_i h; subst h; rfl
  split
  · rename_i h; subst h; rfl
  · rename_i h1 h2
    simp [h1, h2]
theorem toList_iff (a b : ByteArray) : a.toList = b.toList ↔ a = b := by
  constructor
  · intro h
    rw [ByteArray.toList_eq, ByteArray.toList_eq] at h
    exact ByteArray.ext (Array.toList_inj.1 h)
  · rintro rfl
    rfl
def namesL : List ByteArray := [⟨#[]⟩, ⟨#[66, 79, 79, 76]⟩, ⟨#[73, 78, 84]⟩, ⟨#[68, 73, 78, 84]⟩, ⟨#[87, 79, 82, 68]⟩, ⟨#[68, 87, 79, 82, 68]⟩, ⟨#[84, 73, 77, 69]⟩]
theorem ref_find_loop (s : ByteArray) : ∀ (d k : Nat), d ≤ 6 → d < k → ladderbackref01_Find.l0 k s namesL (7 - (d : Int)) = some (findOf s d)
  | 0, k, hd, hk => by
    obtain ⟨k, rfl⟩ : ∃ m, k = m + 1 := ⟨k - 1, by omega⟩
    simp only [ladderbackref01_Find.l0]
    rw [if_neg (by simp [namesL])]
    rfl
  | d + 1, k, hd, hk => by
    obtain ⟨k, rfl⟩ : ∃ m, k = m + 1 := ⟨k - 1, by omega⟩
    simp only [ladderbackref01_Find.l0]
    have hl : ((namesL.length : Nat) : Int) = 7 := rfl
    rw [hl, if_pos (by omega), if_pos (by omega)]
    have e1 : (7 : Int) - ((d + 1 : Nat) : Int) = 6 - (d : Int) := by omega
    have e2 : rdOf ByteArray.empty namesL (6 - (d : Int)) = nameOf (6 - (d : Int)) := by
      rcases (by omega : d = 0 ∨ d = 1 ∨ d = 2 ∨ d = 3 ∨ d = 4 ∨ d = 5) with rfl | rfl | rfl | rfl | rfl | rfl <;> rfl
    have e3 : wrap64 (6 - (d : Int) + 1) = 7 - (d : Int) := by unfold wrap64; omega
    rw [e1, e2, e3, ref_find_loop s d k (by omega) (by omega)]
    show _ = some (if nameOf (6 - (d : Int)) = s then 6 - (d : Int) else findOf s d)
    by_cases h : nameOf (6 - (d : Int)) = s
    · rw [if_pos ((toList_iff _ _).2 h), if_pos h]
    · rw [if_neg (fun e => h ((toList_iff _ _).1 e)), if_neg h]
theorem KindTells : ladderbacklaw01_KindTells.Pure := by
  intro a0 a1 w0 w1
  refine ⟨8, ?_⟩
  have hf : ladderbackref01_Find.f 8 a1 = some (findOf a1 6) := ref_find_loop a1 6 8 (by decide) (by decide)
  unfold ladderbacklaw01_KindTells.f
  simp only [right_is, ref_right_is, ref_name_is, ref_bits_is, ref_signed_is, hf, awake_is, kind_Name.f, kind_Find.f, kind_Bits.f, kind_Signed.f, Option.bind_some, beq_self_eq_true, if_true]
  cases hR : R a0 with
  | false => rfl
  | true =>
    simp only [if_true]
    simp [R] at hR
    rw [if_pos (name_find a0 hR.1 hR.2)]
end Go.Proofs.YtohdabkhafcdkaaDoor.Pure
