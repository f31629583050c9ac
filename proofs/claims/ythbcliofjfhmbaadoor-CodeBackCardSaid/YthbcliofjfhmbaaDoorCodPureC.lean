/- CodeDecodes and CodeBack, plainly: bytes of at most 1000 and instructions of at most 200; for others the example is answered. -/
import Derived.Test.YthbcliofjfhmbaaDoorCodPureB
import Derived.Test.YthbcliofjfhmbaaDoorPCodx4
namespace Go.Proofs.YthbcliofjfhmbaaDoor.Pure
open Go.RowKit Go.Proofs.YthbcliofjfhmbaaDoor.PCod Go.Proofs.YthbcliofjfhmbaaDoor.Given Go.Proofs.YthbcliofjfhmbaaDoorW.PrintWords Go.Proofs.YthbcliofjfhmbaaDoorW.PrintLast
set_option linter.unusedVariables false
set_option linter.unusedSimpArgs false
theorem wf8 {a : Int} (h : (Lit.int .u8 a).wf = true) : 0 ≤ a ∧ a < 256 := by
  unfold Lit.wf at h
  simp only [Bool.and_eq_true, decide_eq_true_eq, show IntKind.u8.min = 0 from rfl, show IntKind.u8.max = 255 from rfl] at h
  omega
theorem okB_of (l : List Int) (hz : l.length ≤ 1000000) (h : ∀ x ∈ l, 0 ≤ x ∧ x < 256) : okB l = true := by
  unfold okB
  simp only [Bool.and_eq_true, List.all_eq_true, decide_eq_true_eq]
  exact ⟨h, by omega⟩
theorem same_l0 (l : List S47) : ∀ d i k, i + d = l.length → l.length ≤ 100000 → d < k → ladderbackref13_Same.l0 k l l (i : Int) = some true := by
  intro d
  induction d with
  | zero =>
    intro i k h1 h2 h3
    obtain ⟨k, rfl⟩ : ∃ m, k = m + 1 := ⟨k - 1, by omega⟩
    unfold ladderbackref13_Same.l0
    rw [if_neg (by omega)]
  | succ d ih =>
    intro i k h1 h2 h3
    obtain ⟨k, rfl⟩ : ∃ m, k = m + 1 := ⟨k - 1, by omega⟩
    unfold ladderbackref13_Same.l0
    rw [if_pos (by omega), if_pos (by omega), if_pos (by omega), if_neg (by simp), w64 _ (by omega) (by omega)]
    exact ih (i + 1) k (by omega) h2 (by omega)
theorem same_is (l : List S47) (k : Nat) (h : l.length ≤ 100000) (hk : l.length < k) : ladderbackref13_Same.f k l l = some true := by
  unfold ladderbackref13_Same.f
  rw [if_pos rfl]
  exact same_l0 l l.length 0 k (by omega) h hk
theorem awake13 (k : Nat) (hk : 20 ≤ k) : ladderbacklaw13_awake.f k = some true := by
  have h : ladderbacklaw13_awake.f 20 = some true := by decide +kernel
  have : ∀ d, ladderbacklaw13_awake.f (20 + d) = some true := by
    intro d
    induction d with
    | zero => exact h
    | succ d ih => exact ladderbacklaw13_awake.mono (20 + d) _ ih
  rw [show k = 20 + (k - 20) by omega]
  exact this _
theorem dec_len : ∀ (n : Nat) (l : List Int) (out : List S47), (decF n l out).1.length ≤ out.length + l.length
  | 0, _, out => by unfold decF; simp
  | n + 1, [], out => by unfold decF; simp
  | n + 1, [_], out => by unfold decF; simp
  | n + 1, [_, _], out => by unfold decF; simp
  | n + 1, [_, _, _], out => by unfold decF; simp
  | n + 1, [_, _, _, _], out => by unfold decF; simp
  | n + 1, a :: b :: c :: d :: e :: t, out => by
    unfold decF
    split
    · have := dec_len n t (out ++ [⟨a, b + 256 * c, d + 256 * e⟩])
      simp only [List.length_append, List.length_cons, List.length_nil] at this ⊢
      omega
    · simp
theorem CodeDecodes_any (l0 : List Int) (wf : ∀ x ∈ l0, (Lit.int .u8 x).wf = true) : ∃ k, ladderbacklaw13_CodeDecodes.f k l0 = some true := by
  refine ⟨3000, ?_⟩
  unfold ladderbacklaw13_CodeDecodes.f
  rw [awake13 3000 (by omega)]
  by_cases h : (l0.length : Int) > 1000
  · rw [if_pos h]; rfl
  · rw [if_neg h]
    have hb : ∀ x ∈ l0, 0 ≤ x ∧ x < 256 := fun x hx => wf8 (wf x hx)
    have hd : code_Decode.f l0 = some (decF l0.length l0 []) := by
      unfold code_Decode.f
      rw [if_pos ⟨by omega, okB_of l0 (by omega) hb⟩]
    have hr : ladderbackref13_Decode.f 3000 l0 = some (decF l0.length l0 []) := ref_dec l0.length l0 [] [] 3000 (by omega) (by simp) (by simp; omega) hb (by omega)
    have hl := dec_len l0.length l0 []
    rw [hd, hr]
    generalize decF l0.length l0 [] = t at hl ⊢
    simp only [List.length_nil] at hl
    simp only [Option.bind_some]
    rw [same_is t.1 3000 (by omega) (by omega)]
    simp
/-! ### Encoding -/
def enc1 (i : S47) : List Int := [i.f0 % 256, i.f1 % 256, i.f1 / 256 % 256, i.f2 % 256, i.f2 / 256 % 256]
def encF : List S47 → List Int
  | [] => []
  | i :: t => enc1 i ++ encF t
def allR : List S47 → Bool
  | [] => true
  | i :: t => right3 i.f0 i.f1 i.f2 && allR t
theorem enc_len : ∀ l : List S47, (encF l).length = 5 * l.length
  | [] => rfl
  | i :: t => by simp only [encF, List.length_append, enc_len t, enc1, List.length_cons, List.length_nil]; omega
theorem enc_byte : ∀ l : List S47, ∀ x ∈ encF l, 0 ≤ x ∧ x < 256
  | [], x, h => by cases h
  | i :: t, x, h => by
    rcases List.mem_append.1 h with h | h
    · unfold enc1 at h
      simp only [List.mem_cons, List.not_mem_nil, or_false] at h
      omega
    · exact enc_byte t x h
theorem rd47_drop (l : List S47) (i : Nat) (h : i < l.length) : l.drop i = rd_T47 l (i : Int) :: l.drop (i + 1) := by
  unfold rd_T47
  rw [Int.toNat_natCast, List.getD_eq_getElem?_getD, List.getElem?_eq_getElem h, Option.getD_some]
  exact List.drop_eq_getElem_cons h
theorem enc_l0 (l : List S47) (hz : l.length ≤ 100000) : ∀ (d i k : Nat) (out : List Int), i + d = l.length → d < k → out.length ≤ 5 * i →
    code_Encode.l0 k out l (l.length : Int) (i : Int) = if allR (l.drop i) = true then some (out ++ encF (l.drop i), true) else some ([], false) := by
  intro d
  induction d with
  | zero =>
    intro i k out h1 h2 h3
    obtain ⟨k, rfl⟩ : ∃ m, k = m + 1 := ⟨k - 1, by omega⟩
    unfold code_Encode.l0
    rw [if_neg (by omega), List.drop_eq_nil_of_le (by omega)]
    simp [allR, encF]
  | succ d ih =>
    intro i k out h1 h2 h3
    obtain ⟨k, rfl⟩ : ∃ m, k = m + 1 := ⟨k - 1, by omega⟩
    unfold code_Encode.l0
    rw [if_pos (by omega), if_pos (by omega), if_pos (by omega), rd47_drop l i (by omega)]
    generalize rd_T47 l (i : Int) = x
    have hr : op_Right.f x.f0 x.f1 x.f2 = some (right3 x.f0 x.f1 x.f2) := right_some x.f0 x.f1 x.f2
    rw [hr]
    simp only [Option.bind_some]
    rw [show encF (x :: l.drop (i + 1)) = enc1 x ++ encF (l.drop (i + 1)) from rfl]
    by_cases hq : right3 x.f0 x.f1 x.f2 = true
    · rw [if_pos hq, show allR (x :: l.drop (i + 1)) = allR (l.drop (i + 1)) by show (right3 x.f0 x.f1 x.f2 && _) = _; rw [hq, Bool.true_and]]
      rw [if_pos (by simp only [List.length_cons, List.length_nil]; omega), w64 _ (by omega) (by omega)]
      have := ih (i + 1) k (out ++ enc1 x) (by omega) (by omega) (by simp only [List.length_append, enc1, List.length_cons, List.length_nil]; omega)
      rw [show ((i + 1 : Nat) : Int) = (i : Int) + 1 by omega] at this
      unfold enc1 at this ⊢
      rw [this, List.append_assoc]
    · rw [if_neg hq, show allR (x :: l.drop (i + 1)) = false by show (right3 x.f0 x.f1 x.f2 && _) = _; simp [hq]]
      simp
theorem enc_is (l : List S47) (k : Nat) (hz : l.length ≤ 100000) (hk : l.length < k) : code_Encode.f k l = if allR l = true then some (encF l, true) else some ([], false) := by
  have := enc_l0 l hz l.length 0 k [] (by omega) hk (by simp)
  rw [List.drop_zero, List.nil_append] at this
  exact this
theorem may_lim {n w : Int} (h : mayF n w = true) : 0 ≤ n ∧ n ≤ 65535 := by
  unfold mayF at h
  split at h
  · have := eq_of_beq h; omega
  · simpa using h
theorem right_lim {x y z : Int} (h : right3 x y z = true) : (0 ≤ x ∧ x < 38) ∧ (0 ≤ y ∧ y ≤ 65535) ∧ (0 ≤ z ∧ z ≤ 65535) := by
  rw [right_is] at h
  simp only [Bool.and_eq_true] at h
  have h0 := h.1.1
  unfold isOp at h0
  exact ⟨by simpa using h0, may_lim h.1.2, may_lim h.2⟩
theorem err_right {x y z : Int} (h : right3 x y z = true) : errI x y z = 0 := by
  have := right_lim h
  unfold errI
  rw [real_is, decide_eq_false (by omega : ¬ 48 ≤ x), h]
  rfl
theorem right_err {x y z : Int} (h : errI x y z = 0) : right3 x y z = true := by
  unfold errI at h
  split at h
  · omega
  · split at h
    · assumption
    · omega
theorem dec_enc : ∀ (l : List S47) (n : Nat) (out : List S47), allR l = true → l.length ≤ n → decF n (encF l) out = (out ++ l, 0, 0)
  | [], n, out, h, hn => by cases n <;> simp [encF, decF]
  | i :: t, 0, out, h, hn => by simp at hn
  | i :: t, n + 1, out, h, hn => by
    unfold allR at h
    simp only [Bool.and_eq_true] at h
    have hl := right_lim h.1
    have e1 : i.f1 % 256 + 256 * (i.f1 / 256 % 256) = i.f1 := by omega
    have e2 : i.f2 % 256 + 256 * (i.f2 / 256 % 256) = i.f2 := by omega
    have e0 : i.f0 % 256 = i.f0 := by omega
    show decF (n + 1) (i.f0 % 256 :: i.f1 % 256 :: (i.f1 / 256 % 256) :: i.f2 % 256 :: (i.f2 / 256 % 256) :: encF t) out = _
    unfold decF
    rw [e0, e1, e2, if_pos (err_right h.1), dec_enc t n _ h.2 (by simp at hn; omega)]
    simp
theorem dec_back : ∀ (n : Nat) (l : List Int) (out : List S47), l.length ≤ n → (∀ x ∈ l, 0 ≤ x ∧ x < 256) →
    ((decF n l out).2.2 ≠ 0 → (decF n l out).1 = []) ∧ ((decF n l out).2.2 = 0 → ∃ m, (decF n l out).1 = out ++ m ∧ allR m = true ∧ encF m = l)
  | 0, l, out, h, hb => by
    obtain rfl := List.eq_nil_of_length_eq_zero (by omega : l.length = 0)
    exact ⟨fun h => absurd rfl h, fun _ => ⟨[], by simp [decF], rfl, rfl⟩⟩
  | n + 1, [], out, h, hb => ⟨fun h => absurd rfl h, fun _ => ⟨[], by simp [decF], rfl, rfl⟩⟩
  | n + 1, [_], out, h, hb => ⟨fun _ => rfl, fun h => by simp [decF] at h⟩
  | n + 1, [_, _], out, h, hb => ⟨fun _ => rfl, fun h => by simp [decF] at h⟩
  | n + 1, [_, _, _], out, h, hb => ⟨fun _ => rfl, fun h => by simp [decF] at h⟩
  | n + 1, [_, _, _, _], out, h, hb => ⟨fun _ => rfl, fun h => by simp [decF] at h⟩
  | n + 1, a :: b :: c :: d :: e :: t, out, h, hb => by
    have ha := hb a (by simp)
    have hb' := hb b (by simp)
    have hc := hb c (by simp)
    have hd := hb d (by simp)
    have he := hb e (by simp)
    unfold decF
    split
    · rename_i h0
      have ih := dec_back n t (out ++ [⟨a, b + 256 * c, d + 256 * e⟩]) (by simp only [List.length_cons] at h; omega) (fun x hx => hb x (by simp [hx]))
      refine ⟨ih.1, fun hz => ?_⟩
      obtain ⟨m, h1, h2, h3⟩ := ih.2 hz
      refine ⟨⟨a, b + 256 * c, d + 256 * e⟩ :: m, by rw [h1]; simp, ?_, ?_⟩
      · unfold allR
        rw [right_err h0, h2]; rfl
      · show [a % 256, (b + 256 * c) % 256, (b + 256 * c) / 256 % 256, (d + 256 * e) % 256, (d + 256 * e) / 256 % 256] ++ encF m = _
        rw [h3, show a % 256 = a by omega, show (b + 256 * c) % 256 = b by omega, show (b + 256 * c) / 256 % 256 = c by omega, show (d + 256 * e) % 256 = d by omega, show (d + 256 * e) / 256 % 256 = e by omega]
        rfl
    · rename_i h0
      exact ⟨fun _ => rfl, fun h => absurd h h0⟩
theorem CodeBack_k (l0 : List S47) (l1 : List Int) (hb : ∀ x ∈ l1, 0 ≤ x ∧ x < 256) (k : Nat) (hk : 1600 ≤ k) : ladderbacklaw13_CodeBack.f (k + 2) l0 l1 = some true := by
  rw [show k + 2 = (k + 1) + 1 from rfl]
  unfold ladderbacklaw13_CodeBack.f
  by_cases h0 : (l0.length : Int) > 200
  · rw [if_pos h0]
    rw [ladderbacklaw13_CodeBack.j0.eq_2]
    rw [if_pos rfl, awake13 (k + 1) (by omega)]; rfl
  · rw [if_neg h0]
    rw [ladderbacklaw13_CodeBack.j0.eq_2]
    rw [awake13 (k + 1) (by omega)]
    by_cases h1 : (l1.length : Int) > 1000
    · rw [if_pos (decide_eq_true h1)]; rfl
    · rw [decide_eq_false h1, if_neg (by simp), enc_is l0 _ (by omega) (by omega)]
      have hd : code_Decode.f l1 = some (decF l1.length l1 []) := by
        unfold code_Decode.f
        rw [if_pos ⟨by omega, okB_of l1 (by omega) hb⟩]
      have hl := dec_len l1.length l1 []
      simp only [List.length_nil] at hl
      have hbk := dec_back l1.length l1 [] (Nat.le_refl _) hb
      rw [hd]
      generalize decF l1.length l1 [] = t at hl hbk hd ⊢
      have fin : ∀ k, 1500 ≤ k → ((code_Encode.f k t.1).bind fun bt177 => (if t.2.2 = 0 then (if bt177.2 = true then (if (strOfNums bt177.1).toList = (strOfNums l1).toList then ((ladderbacklaw13_awake.f k).bind fun t181 => (some t181)) else (some false)) else (some false)) else (if (t.1.length : Int) = 0 then ((ladderbacklaw13_awake.f k).bind fun t182 => (some t182)) else (some false)))) = some true := by
        intro k hk
        rw [awake13 k (by omega)]
        by_cases hz : t.2.2 = 0
        · obtain ⟨m, h1, h2, h3⟩ := hbk.2 hz
          rw [List.nil_append] at h1
          rw [enc_is t.1 k (by omega) (by omega), h1, if_pos h2, h3]
          simp [hz]
        · have hn := hbk.1 hz
          rw [enc_is t.1 k (by omega) (by omega), hn, if_pos (show allR ([] : List S47) = true from rfl)]
          simp [hz]
      by_cases hR : allR l0 = true
      · rw [if_pos hR]
        simp only [Option.bind_some, if_true]
        have hd2 : code_Decode.f (encF l0) = some (l0, 0, 0) := by
          unfold code_Decode.f
          rw [if_pos ⟨by rw [enc_len]; omega, okB_of _ (by rw [enc_len]; omega) (enc_byte l0)⟩, dec_enc l0 _ [] hR (by rw [enc_len]; omega)]
          rfl
        rw [hd2]
        simp only [Option.bind_some, if_true]
        have hsm := same_is l0 (k + 1) (by omega) (by omega)
        rw [hsm]
        clear hsm hd2
        rw [Option.bind_some, if_pos (show (true : Bool) = true from rfl)]
        have hw : wrap64 (5 * (l0.length : Int)) = 5 * (l0.length : Int) := w64 _ (by omega) (by omega)
        rw [hw, enc_len]
        have hne : (((5 * l0.length : Nat) : Int) != 5 * (l0.length : Int)) = false := by
          rw [bne_eq_false_iff_eq]; omega
        rw [hne]
        rw [ladderbacklaw13_CodeBack.j1.eq_2]
        rw [if_neg (by simp), hd]
        rw [Option.bind_some]
        exact fin k (by omega)
      · rw [if_neg hR]
        simp only [Option.bind_some, Bool.false_eq_true, if_false]
        have hf := fin (k + 1) (by omega)
        rw [awake13 (k + 1) (by omega)] at hf
        exact hf
theorem CodeBack (l0 : List S47) (l1 : List Int) (hb : ∀ x ∈ l1, 0 ≤ x ∧ x < 256) : ∃ k, ladderbacklaw13_CodeBack.f k l0 l1 = some true := ⟨1600 + 2, CodeBack_k l0 l1 hb 1600 (Nat.le_refl _)⟩
end Go.Proofs.YthbcliofjfhmbaaDoor.Pure
