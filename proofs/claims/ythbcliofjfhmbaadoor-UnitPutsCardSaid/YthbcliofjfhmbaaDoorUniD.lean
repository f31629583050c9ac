/- Units' bytes, plainly: the program's and the document's are the same. -/
import Derived.Test.YthbcliofjfhmbaaDoorUniC
namespace Go.Proofs.YthbcliofjfhmbaaDoor.UPure
open Go.RowKit Go.Proofs.YthbcliofjfhmbaaDoor.PUni Go.Proofs.YthbcliofjfhmbaaDoor.Given Go.Proofs.YthbcliofjfhmbaaDoorW.PrintWords Go.Proofs.YthbcliofjfhmbaaDoorW.PrintLast
set_option linter.unusedVariables false
set_option linter.unusedSimpArgs false
def low (l : List Int) : List Int := l.map (· % 256)
theorem low_len (l : List Int) : (low l).length = l.length := by simp [low]
theorem list_l0 (P : List Int) (hz : P.length ≤ 100000) : ∀ (d i k : Nat) (x0 : List Int), i + d = P.length → d < k → x0.length + d ≤ 10000000 →
    unit_list.l0 k x0 P (P.length : Int) (i : Int) = some (x0 ++ low (P.drop i)) := by
  intro d
  induction d with
  | zero =>
    intro i k x0 h1 h2 h3
    obtain ⟨k, rfl⟩ : ∃ m, k = m + 1 := ⟨k - 1, by omega⟩
    unfold unit_list.l0
    rw [if_neg (by omega), List.drop_eq_nil_of_le (by omega)]; simp [low]
  | succ d ih =>
    intro i k x0 h1 h2 h3
    obtain ⟨k, rfl⟩ : ∃ m, k = m + 1 := ⟨k - 1, by omega⟩
    unfold unit_list.l0
    rw [if_pos (by omega), if_pos (by omega), if_pos (by omega), if_pos (by omega), rd_drop P i (by omega), w64 _ (by omega) (by omega)]
    have := ih (i + 1) k (x0 ++ [rd P (i : Int) % 256]) (by omega) (by omega) (by simp only [List.length_append, List.length_cons, List.length_nil]; omega)
    rw [show ((i + 1 : Nat) : Int) = (i : Int) + 1 by omega] at this
    rw [this, List.append_assoc]
    rfl
theorem list_is (x0 : List Int) (m : Int) (P : List Int) (hz : P.length ≤ 100000) (hx : x0.length ≤ 1000000) (k : Nat) (hk : P.length < k) : unit_list.f k x0 m P = some (x0 ++ le (mx 0 (mn m 8)).toNat (P.length : Int) ++ low P) := by
  unfold unit_list.f octet_Put.f
  rw [if_pos (by omega), Option.bind_some]
  have h8 : (mx 0 (mn m 8)).toNat ≤ 8 := by unfold mx mn; split <;> split <;> omega
  exact list_l0 P hz P.length 0 k _ (by omega) hk (by rw [List.length_append, le_length]; omega)
/-- A unit's bytes. -/
def putB (n : ByteArray) (P : List Int) (R : Int) (L : List Int) (C : List S47) : List Int :=
  le 1 ((min n.size 255 : Nat) : Int) ++ bytesOf (textOf n) ++ le 1 (P.length : Int) ++ low P ++ le 1 R ++ le 2 (L.length : Int) ++ low L ++ le 2 (C.length : Int) ++ encF C
theorem text_len (n : ByteArray) : (bytesOf (textOf n)).length ≤ 255 := by
  rw [bytesOf_length]
  unfold textOf
  rw [ByteArray.size_extract]
  omega
theorem m1 : (mx 0 (mn 1 8)).toNat = 1 := by decide
theorem m2 : (mx 0 (mn 2 8)).toNat = 2 := by decide
theorem fits_allR {n : ByteArray} {P : List Int} {R : Int} {L : List Int} {C : List S47} (h : fitsF n P R L C = true) : n.size ≤ 255 ∧ P.length ≤ 8 ∧ L.length ≤ 1024 ∧ C.length ≤ 16384 ∧ allR C = true ∧ byteL P = true ∧ byteL L = true ∧ 0 ≤ R ∧ R ≤ 255 := by
  unfold fitsF at h
  simp only [Bool.and_eq_true, decide_eq_true_eq] at h
  obtain ⟨⟨⟨⟨⟨⟨⟨a, b⟩, c⟩, d⟩, e⟩, f⟩, g⟩, i, j⟩ := h
  exact ⟨a, b, c, d, e, f, g, i, j⟩
theorem put_is (n : ByteArray) (P : List Int) (R : Int) (L : List Int) (C : List S47) (hn : n.size ≤ 1000) (hP : P.length ≤ 10000) (hL : L.length ≤ 10000) (hC : C.length ≤ 10000) (k : Nat) (hk : 20100 ≤ k) :
    unit_Put.f k n P R L C = if fitsF n P R L C = true then some (putB n P R L C, true) else some ([], false) := by
  unfold unit_Put.f
  rw [fits_is n P R L C hP hL hC k hk, Option.bind_some]
  by_cases hf : fitsF n P R L C = true
  · rw [if_pos hf, if_pos hf]
    have hR := (fits_allR hf).2.2.2.2.1
    have ht := text_len n
    unfold octet_Text.f
    rw [if_pos (by simp; omega), Option.bind_some, list_is _ 1 P (by omega) (by simp only [List.length_append, le_length, List.length_nil]; omega) k (by omega), Option.bind_some, m1]
    unfold octet_Put.f
    rw [if_pos (by simp only [List.length_append, le_length, List.length_nil, low_len]; omega), Option.bind_some, list_is _ 2 L (by omega) (by simp only [List.length_append, le_length, List.length_nil, low_len, m1]; omega) k (by omega), Option.bind_some, if_pos (by simp only [List.length_append, le_length, List.length_nil, low_len, m1, m2]; omega), Option.bind_some, enc_is C k (by omega) (by omega), if_pos hR, Option.bind_some, if_pos (by simp only [List.length_append, le_length, List.length_nil, low_len, m1, m2, enc_len]; omega)]
    rw [m1, m2, List.nil_append]
    rfl
  · rw [if_neg hf, if_neg (by simp at hf; simp [hf])]
/-! ### The document's -/
theorem rput_is (l0 : List Int) (a1 a2 : Int) (hl : l0.length ≤ 1000000000) (k : Nat) (hk : 9 ≤ k) : ladderbackref03_Put.f k l0 a1 a2 = some (l0 ++ le (mx 0 (mn a1 8)).toNat a2) := by
  have hn := mx_nat a1
  have hn8 : (mx 0 (mn a1 8)).toNat ≤ 8 := by unfold mx mn; split <;> split <;> omega
  have := ref_put_loop l0 a1 a2 _ hn hn8 hl (mx 0 (mn a1 8)).toNat 0 k (by omega) (by omega)
  unfold ladderbackref03_Put.f
  simp only [Option.bind_some, List.nil_append, List.length_nil]
  rw [if_pos (by omega)]
  have e : IntKind.u64.wrap a2 = sh 0 a2 % (256 ^ (8 - 0) : Int) := by rw [IntKind.wrap_u64]; rfl
  rw [e]
  simpa [le] using this
theorem le_enc (x : S47) (h : right3 x.f0 x.f1 x.f2 = true) : le 1 x.f0 ++ le 2 x.f1 ++ le 2 x.f2 = enc1 x := by
  simp [le, sh, enc1]
theorem renc_l0 (l : List S47) (hz : l.length ≤ 10000) : ∀ (d i k : Nat) (out : List Int), i + d = l.length → d + 10 < k → out.length + 5 * d ≤ 1000000 →
    ladderbackref13_Encode.l0 k l out (i : Int) = if allR (l.drop i) = true then some (out ++ encF (l.drop i), true) else some ([], false) := by
  intro d
  induction d with
  | zero =>
    intro i k out h1 h2 h3
    obtain ⟨k, rfl⟩ : ∃ m, k = m + 1 := ⟨k - 1, by omega⟩
    unfold ladderbackref13_Encode.l0
    rw [if_neg (by omega), List.drop_eq_nil_of_le (by omega)]
    simp [allR, encF]
  | succ d ih =>
    intro i k out h1 h2 h3
    obtain ⟨k, rfl⟩ : ∃ m, k = m + 1 := ⟨k - 1, by omega⟩
    unfold ladderbackref13_Encode.l0
    rw [if_pos (by omega), if_pos (by omega), rd47_drop l i (by omega)]
    generalize rd_T47 l (i : Int) = x
    rw [rright _ _ _ k (by omega), Option.bind_some]
    by_cases hq : right3 x.f0 x.f1 x.f2 = true
    · rw [if_pos hq, show allR (x :: l.drop (i + 1)) = allR (l.drop (i + 1)) by rw [allR_cons, hq, Bool.true_and], rput_is _ _ _ (by omega) k (by omega), Option.bind_some, rput_is _ _ _ (by rw [List.length_append, le_length, m1]; omega) k (by omega), Option.bind_some, rput_is _ _ _ (by rw [List.length_append, List.length_append, le_length, le_length, m1, m2]; omega) k (by omega), Option.bind_some, m1, m2, List.append_assoc out, List.append_assoc out, le_enc x hq, w64 _ (by omega) (by omega)]
      have := ih (i + 1) k (out ++ enc1 x) (by omega) (by omega) (by simp only [List.length_append, enc1, List.length_cons, List.length_nil]; omega)
      rw [show ((i + 1 : Nat) : Int) = (i : Int) + 1 by omega] at this
      rw [this, List.append_assoc]
      rfl
    · rw [if_neg hq, show allR (x :: l.drop (i + 1)) = false by rw [allR_cons, show right3 x.f0 x.f1 x.f2 = false by simpa using hq]; rfl]
      simp
theorem renc_is (l : List S47) (k : Nat) (hz : l.length ≤ 10000) (hk : l.length + 10 < k) : ladderbackref13_Encode.f k l = if allR l = true then some (encF l, true) else some ([], false) := by
  have := renc_l0 l hz l.length 0 k [] (by omega) hk (by simp; omega)
  rw [List.drop_zero, List.nil_append] at this
  exact this
theorem rputl1 (n : ByteArray) (P : List Int) (R : Int) (L : List Int) (C : List S47) (hL : L.length ≤ 10000) (hC : C.length ≤ 10000) (hR : allR C = true) : ∀ (d i k : Nat) (x : List Int), i + d = L.length → d + 10020 < k → x.length + d ≤ 1000000 →
    ladderbackref15_Put.l1 k x (i : Int) n P R L C = some (x ++ low (L.drop i) ++ le 2 (C.length : Int) ++ encF C, true) := by
  intro d
  induction d with
  | zero =>
    intro i k x h1 h2 h3
    obtain ⟨k, rfl⟩ : ∃ m, k = m + 1 := ⟨k - 1, by omega⟩
    unfold ladderbackref15_Put.l1
    rw [if_neg (by omega), List.drop_eq_nil_of_le (by omega), rput_is _ _ _ (by omega) k (by omega), Option.bind_some, renc_is C k hC (by omega), if_pos hR, Option.bind_some, if_pos (by rw [List.length_append, le_length, enc_len, m2]; omega), m2]
    simp [low]
  | succ d ih =>
    intro i k x h1 h2 h3
    obtain ⟨k, rfl⟩ : ∃ m, k = m + 1 := ⟨k - 1, by omega⟩
    unfold ladderbackref15_Put.l1
    rw [if_pos (by omega), if_pos (by omega), if_pos (by omega), rd_drop L i (by omega), w64 _ (by omega) (by omega)]
    have := ih (i + 1) k (x ++ [rd L (i : Int) % 256]) (by omega) (by omega) (by simp only [List.length_append, List.length_cons, List.length_nil]; omega)
    rw [show ((i + 1 : Nat) : Int) = (i : Int) + 1 by omega] at this
    rw [this]
    simp [low]
theorem rputl0 (n : ByteArray) (P : List Int) (R : Int) (L : List Int) (C : List S47) (hP : P.length ≤ 10000) (hL : L.length ≤ 10000) (hC : C.length ≤ 10000) (hR : allR C = true) : ∀ (d i k : Nat) (x : List Int), i + d = P.length → d + 20050 < k → x.length + d ≤ 100000 →
    ladderbackref15_Put.l0 k x (i : Int) n P R L C = some (x ++ low (P.drop i) ++ le 1 R ++ le 2 (L.length : Int) ++ low L ++ le 2 (C.length : Int) ++ encF C, true) := by
  intro d
  induction d with
  | zero =>
    intro i k x h1 h2 h3
    obtain ⟨k, rfl⟩ : ∃ m, k = m + 1 := ⟨k - 1, by omega⟩
    unfold ladderbackref15_Put.l0
    rw [if_neg (by omega), List.drop_eq_nil_of_le (by omega), if_pos (by omega), rput_is _ _ _ (by simp only [List.length_append, List.length_cons, List.length_nil]; omega) k (by omega), Option.bind_some, m2]
    have := rputl1 n P R L C hL hC hR L.length 0 k (x ++ [R % 256] ++ le 2 (L.length : Int)) (by omega) (by omega) (by simp only [List.length_append, List.length_cons, List.length_nil, le_length]; omega)
    rw [List.drop_zero] at this
    rw [show (0 : Int) = ((0 : Nat) : Int) from rfl, this]
    simp [low, le, sh]
  | succ d ih =>
    intro i k x h1 h2 h3
    obtain ⟨k, rfl⟩ : ∃ m, k = m + 1 := ⟨k - 1, by omega⟩
    unfold ladderbackref15_Put.l0
    rw [if_pos (by omega), if_pos (by omega), if_pos (by omega), rd_drop P i (by omega), w64 _ (by omega) (by omega)]
    have := ih (i + 1) k (x ++ [rd P (i : Int) % 256]) (by omega) (by omega) (by simp only [List.length_append, List.length_cons, List.length_nil]; omega)
    rw [show ((i + 1 : Nat) : Int) = (i : Int) + 1 by omega] at this
    rw [this]
    simp [low]
theorem rputu (n : ByteArray) (P : List Int) (R : Int) (L : List Int) (C : List S47) (hn : n.size ≤ 1000) (hP : P.length ≤ 10000) (hL : L.length ≤ 10000) (hC : C.length ≤ 10000) :
    ∃ k, ladderbackref15_Put.f k n P R L C = if fitsF n P R L C = true then some (putB n P R L C, true) else some ([], false) := by
  obtain ⟨k0, hk0⟩ := ref_text [] n (by simp)
  have hup := Tells.of_mono (g := fun k => ladderbackref03_Text.f k [] n) (ladderbackref03_Text.mono [] n) hk0
  obtain ⟨k1, hk1⟩ := hup
  refine ⟨k1 + 40000, ?_⟩
  unfold ladderbackref15_Put.f
  rw [rfits_is n P R L C hP hL hC _ (by omega), Option.bind_some]
  by_cases hf : fitsF n P R L C = true
  · rw [if_pos hf, if_pos hf]
    have hR := (fits_allR hf).2.2.2.2.1
    have ht := text_len n
    have hT := hk1 (k1 + 40000) (by omega)
    dsimp only at hT
    rw [hT, Option.bind_some, if_pos (by simp only [List.length_append, le_length, List.length_nil]; omega)]
    have := rputl0 n P R L C hP hL hC hR P.length 0 (k1 + 40000) ([] ++ le 1 ((min n.size 255 : Nat) : Int) ++ bytesOf (textOf n) ++ [(P.length : Int) % 256]) (by omega) (by omega) (by simp only [List.length_append, List.length_cons, le_length, List.length_nil]; omega)
    rw [List.drop_zero] at this
    rw [show (0 : Int) = ((0 : Nat) : Int) from rfl, this]
    simp [putB, le, sh]
  · rw [if_neg hf, if_neg (by simp at hf; simp [hf])]
end Go.Proofs.YthbcliofjfhmbaaDoor.UPure
