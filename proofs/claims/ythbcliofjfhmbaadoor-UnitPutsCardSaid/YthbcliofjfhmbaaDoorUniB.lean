/- Instructions' bytes, plainly, as the units' laws reach them. -/
import Derived.Test.YthbcliofjfhmbaaDoorUniA
namespace Go.Proofs.YthbcliofjfhmbaaDoor.UPure
open Go.RowKit Go.Proofs.YthbcliofjfhmbaaDoor.PUni Go.Proofs.YthbcliofjfhmbaaDoor.Given Go.Proofs.YthbcliofjfhmbaaDoorW.PrintWords Go.Proofs.YthbcliofjfhmbaaDoorW.PrintLast
set_option linter.unusedVariables false
set_option linter.unusedSimpArgs false
/-! ### Encoding -/
def enc1 (i : S47) : List Int := [i.f0 % 256, i.f1 % 256, i.f1 / 256 % 256, i.f2 % 256, i.f2 / 256 % 256]
def encF : List S47 → List Int
  | [] => []
  | i :: t => enc1 i ++ encF t
def allR : List S47 → Bool
  | [] => true
  | i :: t => right3 i.f0 i.f1 i.f2 && allR t
theorem enc_len : ∀ l : List S47, (encF l).length = 5 * l.length
  | [] => rfl
  | i :: t => by simp only [encF, List.length_append, enc_len t, enc1, List.length_cons, List.length_nil]; omega
theorem enc_byte : ∀ l : List S47, ∀ x ∈ encF l, 0 ≤ x ∧ x < 256
  | [], x, h => by cases h
  | i :: t, x, h => by
    rcases List.mem_append.1 h with h | h
    · unfold enc1 at h
      simp only [List.mem_cons, List.not_mem_nil, or_false] at h
      omega
    · exact enc_byte t x h
theorem rd47_drop (l : List S47) (i : Nat) (h : i < l.length) : l.drop i = rd_T47 l (i : Int) :: l.drop (i + 1) := by
  unfold rd_T47
  rw [Int.toNat_natCast, List.getD_eq_getElem?_getD, List.getElem?_eq_getElem h, Option.getD_some]
  exact List.drop_eq_getElem_cons h
theorem enc_l0 (l : List S47) (hz : l.length ≤ 100000) : ∀ (d i k : Nat) (out : List Int), i + d = l.length → d < k → out.length ≤ 5 * i →
    code_Encode.l0 k out l (l.length : Int) (i : Int) = if allR (l.drop i) = true then some (out ++ encF (l.drop i), true) else some ([], false) := by
  intro d
  induction d with
  | zero =>
    intro i k out h1 h2 h3
    obtain ⟨k, rfl⟩ : ∃ m, k = m + 1 := ⟨k - 1, by omega⟩
    unfold code_Encode.l0
    rw [if_neg (by omega), List.drop_eq_nil_of_le (by omega)]
    simp [allR, encF]
  | succ d ih =>
    intro i k out h1 h2 h3
    obtain ⟨k, rfl⟩ : ∃ m, k = m + 1 := ⟨k - 1, by omega⟩
    unfold code_Encode.l0
    rw [if_pos (by omega), if_pos (by omega), if_pos (by omega), rd47_drop l i (by omega)]
    generalize rd_T47 l (i : Int) = x
    have hr : op_Right.f x.f0 x.f1 x.f2 = some (right3 x.f0 x.f1 x.f2) := right_some x.f0 x.f1 x.f2
    rw [hr]
    simp only [Option.bind_some]
    rw [show encF (x :: l.drop (i + 1)) = enc1 x ++ encF (l.drop (i + 1)) from rfl]
    by_cases hq : right3 x.f0 x.f1 x.f2 = true
    · rw [if_pos hq, show allR (x :: l.drop (i + 1)) = allR (l.drop (i + 1)) by show (right3 x.f0 x.f1 x.f2 && _) = _; rw [hq, Bool.true_and]]
      rw [if_pos (by simp only [List.length_cons, List.length_nil]; omega), w64 _ (by omega) (by omega)]
      have := ih (i + 1) k (out ++ enc1 x) (by omega) (by omega) (by simp only [List.length_append, enc1, List.length_cons, List.length_nil]; omega)
      rw [show ((i + 1 : Nat) : Int) = (i : Int) + 1 by omega] at this
      unfold enc1 at this ⊢
      rw [this, List.append_assoc]
    · rw [if_neg hq, show allR (x :: l.drop (i + 1)) = false by show (right3 x.f0 x.f1 x.f2 && _) = _; simp [hq]]
      simp
theorem enc_is (l : List S47) (k : Nat) (hz : l.length ≤ 100000) (hk : l.length < k) : code_Encode.f k l = if allR l = true then some (encF l, true) else some ([], false) := by
  have := enc_l0 l hz l.length 0 k [] (by omega) hk (by simp)
  rw [List.drop_zero, List.nil_append] at this
  exact this
theorem may_lim {n w : Int} (h : mayF n w = true) : 0 ≤ n ∧ n ≤ 65535 := by
  unfold mayF at h
  split at h
  · have := eq_of_beq h; omega
  · simpa using h
theorem right_lim {x y z : Int} (h : right3 x y z = true) : (0 ≤ x ∧ x < 38) ∧ (0 ≤ y ∧ y ≤ 65535) ∧ (0 ≤ z ∧ z ≤ 65535) := by
  rw [right_is] at h
  simp only [Bool.and_eq_true] at h
  have h0 := h.1.1
  unfold isOp at h0
  exact ⟨by simpa using h0, may_lim h.1.2, may_lim h.2⟩
theorem err_right {x y z : Int} (h : right3 x y z = true) : errI x y z = 0 := by
  have := right_lim h
  unfold errI
  rw [real_is, decide_eq_false (by omega : ¬ 48 ≤ x), h]
  rfl
theorem right_err {x y z : Int} (h : errI x y z = 0) : right3 x y z = true := by
  unfold errI at h
  split at h
  · omega
  · split at h
    · assumption
    · omega
end Go.Proofs.YthbcliofjfhmbaaDoor.UPure
