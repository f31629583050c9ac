/- Instructions' bytes, plainly: the document's decoder tells what the program's does. -/
import Derived.Test.YthbcliofjfhmbaaDoorCodPureA
import Derived.Test.YthbcliofjfhmbaaDoorPCodx3
namespace Go.Proofs.YthbcliofjfhmbaaDoor.Pure
open Go.RowKit Go.Proofs.YthbcliofjfhmbaaDoor.PCod Go.Proofs.YthbcliofjfhmbaaDoor.Given Go.Proofs.YthbcliofjfhmbaaDoorW.PrintWords Go.Proofs.YthbcliofjfhmbaaDoorW.PrintLast
set_option linter.unusedVariables false
set_option linter.unusedSimpArgs false
/-! ### Decoding -/
theorem rd_app (p l : List Int) (i : Nat) : rd (p ++ l) ((p.length + i : Nat) : Int) = l.getD i 0 := by
  unfold rd
  rw [Int.toNat_natCast, List.getD_eq_getElem?_getD, List.getD_eq_getElem?_getD, List.getElem?_append_right (by omega), Nat.add_sub_cancel_left]
theorem ref_dec : ∀ (n : Nat) (l p : List Int) (out : List S47) (k : Nat), l.length ≤ n → p.length = 5 * out.length → p.length + l.length ≤ 1000 → (∀ x ∈ l, 0 ≤ x ∧ x < 256) → 2 * n + 10 ≤ k →
    ladderbackref13_Decode.l0 k (p ++ l) out (p.length : Int) = some (decF n l out) := by
  intro n
  induction n with
  | zero =>
    intro l p out k h1 h2 h3 h4 h5
    obtain rfl := List.eq_nil_of_length_eq_zero (by omega : l.length = 0)
    obtain ⟨k, rfl⟩ : ∃ m, k = m + 1 := ⟨k - 1, by omega⟩
    unfold ladderbackref13_Decode.l0 decF
    rw [if_neg (by simp)]
  | succ n ih =>
    intro l p out k h1 h2 h3 h4 h5
    obtain ⟨k, rfl⟩ : ∃ m, k = m + 2 := ⟨k - 2, by omega⟩
    by_cases hl : l.length < 5
    · have hdiv : wrap64 (Int.tdiv (p.length : Int) 5) = (out.length : Int) := by
        rw [h2, Int.natCast_mul, show ((5 : Nat) : Int) = 5 from rfl, Int.mul_tdiv_cancel_left _ (by omega)]
        exact w64 _ (by omega) (by omega)
      unfold ladderbackref13_Decode.l0
      match l, hl with
      | [], _ =>
        rw [if_neg (by simp)]
        rfl
      | x :: t, hl =>
        rw [if_pos (by simp only [List.length_append, List.length_cons]; omega), if_pos (by simp only [List.length_append, List.length_cons] at *; rw [w64 _ (by omega) (by omega)]; omega), hdiv]
        match t, hl with
        | [], _ => rfl
        | [_], _ => rfl
        | [_, _], _ => rfl
        | [_, _, _], _ => rfl
        | _ :: _ :: _ :: _ :: _, h => exact absurd h (by simp only [List.length_cons]; omega)
    · obtain ⟨a, b, c, d, e, t, rfl⟩ : ∃ a b c d e t, l = a :: b :: c :: d :: e :: t := by
        match l, hl with
        | a :: b :: c :: d :: e :: t, _ => exact ⟨a, b, c, d, e, t, rfl⟩
        | [], h => simp at h
        | [_], h => simp at h
        | [_, _], h => simp at h
        | [_, _, _], h => simp at h
        | [_, _, _, _], h => simp at h
      have ha := h4 a (by simp)
      have hb := h4 b (by simp)
      have hc := h4 c (by simp)
      have hd := h4 d (by simp)
      have he := h4 e (by simp)
      simp only [List.length_cons] at h1 h3
      have r0 := rd_app p (a :: b :: c :: d :: e :: t) 0
      have r1 := rd_app p (a :: b :: c :: d :: e :: t) 1
      have r2 := rd_app p (a :: b :: c :: d :: e :: t) 2
      have r3 := rd_app p (a :: b :: c :: d :: e :: t) 3
      have r4 := rd_app p (a :: b :: c :: d :: e :: t) 4
      rw [Nat.add_zero] at r0
      rw [show ((p.length + 1 : Nat) : Int) = (p.length : Int) + 1 by omega] at r1
      rw [show ((p.length + 2 : Nat) : Int) = (p.length : Int) + 2 by omega] at r2
      rw [show ((p.length + 3 : Nat) : Int) = (p.length : Int) + 3 by omega] at r3
      rw [show ((p.length + 4 : Nat) : Int) = (p.length : Int) + 4 by omega] at r4
      simp only [List.getD_cons_zero, List.getD_cons_succ] at r0 r1 r2 r3 r4
      have hlen : ((p ++ a :: b :: c :: d :: e :: t).length : Int) = (p.length : Int) + t.length + 5 := by simp only [List.length_append, List.length_cons]; omega
      have hnext : p ++ a :: b :: c :: d :: e :: t = (p ++ [a, b, c, d, e]) ++ t := by simp
      have step : ladderbackref13_Decode.l0 (k + 2) (p ++ a :: b :: c :: d :: e :: t) out (p.length : Int) = ladderbackref13_Decode.j1 (k + 1) (p ++ a :: b :: c :: d :: e :: t) out (p.length : Int) (isReal a) a (b + 256 * c) (d + 256 * e) := by
        rw [show k + 2 = (k + 1) + 1 from rfl]
        unfold ladderbackref13_Decode.l0
        rw [hlen, w64 ((p.length : Int) + 1) (by omega) (by omega), w64 ((p.length : Int) + 2) (by omega) (by omega), w64 ((p.length : Int) + 3) (by omega) (by omega), w64 ((p.length : Int) + 4) (by omega) (by omega), w64 ((p.length : Int) + t.length + 5 - p.length) (by omega) (by omega), r0, r1, r2, r3, r4]
        rw [w64 a (by omega) (by omega), w64 b (by omega) (by omega), w64 c (by omega) (by omega), w64 d (by omega) (by omega), w64 e (by omega) (by omega), w64 (256 * c) (by omega) (by omega), w64 (256 * e) (by omega) (by omega), w64 (b + 256 * c) (by omega) (by omega), w64 (d + 256 * e) (by omega) (by omega)]
        rw [if_pos (by omega), if_neg (by omega), if_pos (by omega), if_pos (by omega), if_pos (by omega), if_pos (by omega), if_pos (by omega), if_pos (by omega), if_pos (by omega), if_pos (by omega), if_pos (by omega)]
        rw [real_is]
        by_cases h48 : a ≥ 48
        · rw [if_pos h48, decide_eq_true (show 48 ≤ a from h48), Bool.true_and]
        · rw [if_neg h48, decide_eq_false h48, Bool.false_and]
      rw [step]
      clear step r0 r1 r2 r3 r4 hlen
      have hdiv : wrap64 (Int.tdiv (p.length : Int) 5) = (out.length : Int) := by
        rw [h2, Int.natCast_mul, show ((5 : Nat) : Int) = 5 from rfl, Int.mul_tdiv_cancel_left _ (by omega)]
        exact w64 _ (by omega) (by omega)
      unfold ladderbackref13_Decode.j1 decF
      rw [rright _ _ _ k (by omega), hdiv]
      clear hdiv
      unfold errI
      cases hr : isReal a
      · rw [if_neg (by simp)]
        simp only [Option.bind_some, Bool.false_eq_true, if_false]
        cases hq : right3 a (b + 256 * c) (d + 256 * e)
        · simp only [Bool.false_eq_true, if_false]
          rw [if_neg (by decide)]
        · simp only [if_true]
          rw [if_pos (by omega), w64 ((p.length : Int) + 5) (by omega) (by omega)]
          have hp : ((p ++ [a, b, c, d, e]).length : Int) = (p.length : Int) + 5 := by simp
          have := ih t (p ++ [a, b, c, d, e]) (out ++ [⟨a, b + 256 * c, d + 256 * e⟩]) k (by omega) (by simp; omega) (by simp; omega) (fun x hx => h4 x (by simp [hx])) (by omega)
          rw [hp, ← hnext] at this
          exact this
      · simp only [if_true]
        rw [if_neg (by decide)]
end Go.Proofs.YthbcliofjfhmbaaDoor.Pure
