/- BoxEncodes over programs that are read as data; the operations' table as the program lays it. -/
import Derived.Test.YtdbfgfgbjheibaaDoorZBoxEncodesq
import Derived.LaidLaws
import Derived.Lib.LaidTab
import Derived.OpenShut
import Derived.Test.YtdbfgfgbjheibaaDoorRows
import Derived.Test.YtdbfgfgbjheibaaDoorZBoxEncodesaa
import Derived.Test.YtdbfgfgbjheibaaDoorZBoxEncodesaf
import Derived.Test.YtdbfgfgbjheibaaDoorZBoxEncodesap
section
/- Units, plainly, over the texts of the container: whether they fit. -/
namespace Go.Proofs.YtdbfgfgbjheibaaDoor.BPure
open Go Go.RowKit Go.Proofs.YtdbfgfgbjheibaaDoor Go.Proofs.YtdbfgfgbjheibaaDoor.PBx Go.Proofs.YtdbfgfgbjheibaaDoor.Given Go.Proofs.YtdbfgfgbjheibaaDoorW.PrintWords Go.Proofs.YtdbfgfgbjheibaaDoorW.PrintLast Go.Proofs.YtdbfgfgbjheibaaDoorW.PrintMore
set_option linter.unusedVariables false
set_option linter.unusedSimpArgs false
/-- From some rounds on it tells r. -/
def Tells {α : Type} (g : Nat → Option α) (r : α) : Prop := ∃ k0, ∀ k, k0 ≤ k → g k = some r
theorem Tells.of_mono {α : Type} {g : Nat → Option α} {r : α} {k0 : Nat} (hm : ∀ k, LeO (g k) (g (k + 1))) (h : g k0 = some r) : Tells g r := ⟨k0, fun k hk => by
 obtain ⟨d, rfl⟩ : ∃ d, k = k0 + d := ⟨k - k0, by omega⟩
 induction d with
 | zero => exact h
 | succ d ih => exact hm (k0 + d) r (ih (by omega))⟩
theorem rd_drop (l : List Int) (i : Nat) (h : i < l.length) : l.drop i = rd l (i : Int) :: l.drop (i + 1) := by
 unfold rd
 rw [Int.toNat_natCast, List.getD_eq_getElem?_getD, List.getElem?_eq_getElem h, Option.getD_some]
 exact List.drop_eq_getElem_cons h
def byteL : List Int → Bool
 | [] => true
 | x :: t => (decide (0 ≤ x) && decide (x ≤ 255)) && byteL t
theorem byteL_cons {x : Int} {t : List Int} (h : ¬ x < 0) (h2 : ¬ x > 255) : byteL (x :: t) = byteL t := by
 show ((decide (0 ≤ x) && decide (x ≤ 255)) && byteL t) = byteL t
 rw [decide_eq_true (by omega), decide_eq_true (by omega)]; rfl
theorem byteL_low {x : Int} {t : List Int} (h : x < 0) : byteL (x :: t) = false := by
 show ((decide (0 ≤ x) && decide (x ≤ 255)) && byteL t) = false
 rw [decide_eq_false (by omega)]; rfl
theorem byteL_high {x : Int} {t : List Int} (h : x > 255) : byteL (x :: t) = false := by
 show ((decide (0 ≤ x) && decide (x ≤ 255)) && byteL t) = false
 rw [decide_eq_false (show ¬ x ≤ 255 by omega), Bool.and_false]; rfl
theorem bytes_l0 (P : List Int) (hz : P.length ≤ 100000) : ∀ (d i k : Nat), i + d = P.length → d < k → unit_bytes.l0 k P (P.length : Int) (i : Int) = some (byteL (P.drop i)) := by
 intro d
 induction d with
 | zero =>
  intro i k h1 h2
  obtain ⟨k, rfl⟩ : ∃ m, k = m + 1 := ⟨k - 1, by omega⟩
  unfold unit_bytes.l0
  rw [if_neg (by omega), List.drop_eq_nil_of_le (by omega)]; rfl
 | succ d ih =>
  intro i k h1 h2
  obtain ⟨k, rfl⟩ : ∃ m, k = m + 1 := ⟨k - 1, by omega⟩
  unfold unit_bytes.l0
  rw [if_pos (by omega), if_pos (by omega), if_pos (by omega), rd_drop P i (by omega)]
  generalize rd P (i : Int) = x
  by_cases h : x < 0
  ·rw [if_pos h, byteL_low h]
  ·rw [if_neg h]
   by_cases h' : x > 255
   ·rw [if_pos h', byteL_high h']
   ·rw [if_neg h', byteL_cons h h', w64 _ (by omega) (by omega)]
    exact ih (i + 1) k (by omega) (by omega)
theorem bytes_is (P : List Int) (hz : P.length ≤ 100000) (k : Nat) (hk : P.length < k) : unit_bytes.f k P = some (byteL P) := bytes_l0 P hz P.length 0 k (by omega) hk
theorem rbytes_l0 (P : List Int) (hz : P.length ≤ 100000) : ∀ (d i k : Nat), i + d = P.length → d < k → r15_bytes.l0 k P (i : Int) = some (byteL (P.drop i)) := by
 intro d
 induction d with
 | zero =>
  intro i k h1 h2
  obtain ⟨k, rfl⟩ : ∃ m, k = m + 1 := ⟨k - 1, by omega⟩
  unfold r15_bytes.l0
  rw [if_neg (by omega), List.drop_eq_nil_of_le (by omega)]; rfl
 | succ d ih =>
  intro i k h1 h2
  obtain ⟨k, rfl⟩ : ∃ m, k = m + 1 := ⟨k - 1, by omega⟩
  unfold r15_bytes.l0
  rw [if_pos (by omega), if_pos (by omega), rd_drop P i (by omega)]
  generalize rd P (i : Int) = x
  by_cases h : x < 0
  ·rw [if_pos h, byteL_low h]
  ·rw [if_neg h]
   by_cases h' : x > 255
   ·rw [if_pos h', byteL_high h']
   ·rw [if_neg h', byteL_cons h h', w64 _ (by omega) (by omega)]
    exact ih (i + 1) k (by omega) (by omega)
theorem rbytes_is (P : List Int) (hz : P.length ≤ 100000) (k : Nat) (hk : P.length < k) : r15_bytes.f k P = some (byteL P) := rbytes_l0 P hz P.length 0 k (by omega) hk
/-! ### Fits -/
def fitsF (n : ByteArray) (P : List Int) (R : Int) (L : List Int) (C : List S109) : Bool := decide (n.size ≤ 255) && decide (P.length ≤ 8) && decide (L.length ≤ 1024) && decide (C.length ≤ 16384) && allR C && byteL P && byteL L && (decide (0 ≤ R) && decide (R ≤ 255))
theorem allR_cons (x : S109) (t : List S109) : allR (x :: t) = (right3 x.f0 x.f1 x.f2 && allR t) := rfl
theorem fits_l0 (n : ByteArray) (P : List Int) (R : Int) (L : List Int) (C : List S109) (hP : P.length ≤ 10000) (hL : L.length ≤ 10000) (hC : C.length ≤ 10000) : ∀ (d i k : Nat), i + d = C.length → d + 10010 < k →
  unit_Fits.l0 k C (C.length : Int) (i : Int) n P R L C = some (allR (C.drop i) && byteL P && byteL L && (decide (0 ≤ R) && decide (R ≤ 255))) := by
 intro d
 induction d with
 | zero =>
  intro i k h1 h2
  obtain ⟨k, rfl⟩ : ∃ m, k = m + 1 := ⟨k - 1, by omega⟩
  unfold unit_Fits.l0
  rw [if_neg (by omega), List.drop_eq_nil_of_le (by omega), bytes_is P (by omega) k (by omega), bytes_is L (by omega) k (by omega), bytes_is [R] (by simp) k (by simp; omega)]
  simp only [zP]
  rw [show allR ([] : List S109) = true from rfl, show byteL [R] = (decide (0 ≤ R) && decide (R ≤ 255)) by simp [byteL]]
  cases byteL P <;> cases byteL L <;> simp
 | succ d ih =>
  intro i k h1 h2
  obtain ⟨k, rfl⟩ : ∃ m, k = m + 1 := ⟨k - 1, by omega⟩
  unfold unit_Fits.l0
  rw [if_pos (by omega), if_pos (by omega), if_pos (by omega), rd47_drop C i (by omega)]
  generalize rd_T109 C (i : Int) = x
  have hr : op_Right.f x.f0 x.f1 x.f2 = some (right3 x.f0 x.f1 x.f2) := right_some x.f0 x.f1 x.f2
  rw [hr, zP, allR_cons]
  by_cases hq : right3 x.f0 x.f1 x.f2 = true
  ·rw [if_pos hq, hq, Bool.true_and, w64 _ (by omega) (by omega)]
   exact ih (i + 1) k (by omega) (by omega)
  ·rw [if_neg hq, show right3 x.f0 x.f1 x.f2 = false by simpa using hq]; simp
theorem fits_is (n : ByteArray) (P : List Int) (R : Int) (L : List Int) (C : List S109) (hP : P.length ≤ 10000) (hL : L.length ≤ 10000) (hC : C.length ≤ 10000) (k : Nat) (hk : 20100 ≤ k) : unit_Fits.f k n P R L C = some (fitsF n P R L C) := by
 obtain ⟨k, rfl⟩ : ∃ m, k = m + 1 := ⟨k - 1, by omega⟩
 have h := fits_l0 n P R L C hP hL hC C.length 0 k (by omega) (by omega)
 rw [List.drop_zero] at h
 unfold unit_Fits.f fitsF
 have hj : ∀ b : Bool, unit_Fits.j0 (k + 1) b n P R L C = if b = true then some false else unit_Fits.l0 k C (C.length : Int) 0 n P R L C := fun b => rfl
 simp only [hj]
 rw [show ((0 : Nat) : Int) = 0 from rfl] at h
 rw [h]
 by_cases h1 : (n.size : Int) > 255
 ·rw [if_pos h1, if_pos trivial, decide_eq_false (show ¬ n.size ≤ 255 by omega)]; simp
 ·rw [if_neg h1, decide_eq_true (show n.size ≤ 255 by omega)]
  by_cases h2 : (P.length : Int) > 8
  ·rw [if_pos h2, if_pos trivial, decide_eq_false (show ¬ P.length ≤ 8 by omega)]; simp
  ·rw [if_neg h2, decide_eq_true (show P.length ≤ 8 by omega)]
   by_cases h3 : (L.length : Int) > 1024
   ·rw [if_pos h3, if_pos trivial, decide_eq_false (show ¬ L.length ≤ 1024 by omega)]; simp
   ·rw [if_neg h3, decide_eq_true (show L.length ≤ 1024 by omega), decide_eq_true (show C.length ≤ 16384 by omega), decide_eq_false (show ¬ (C.length : Int) > 16384 by omega), if_neg (by simp)]
    simp
theorem rfits_l0 (n : ByteArray) (P : List Int) (R : Int) (L : List Int) (C : List S109) (hP : P.length ≤ 10000) (hL : L.length ≤ 10000) (hC : C.length ≤ 10000) : ∀ (d i k : Nat), i + d = C.length → d + 10010 < k →
  r15_Fits.l0 k (i : Int) n P R L C = some (allR (C.drop i) && (decide (n.size ≤ 255) && decide (P.length ≤ 8) && decide (L.length ≤ 1024) && decide (C.length ≤ 16384) && byteL P && byteL L && (decide (0 ≤ R) && decide (R ≤ 255)))) := by
 intro d
 induction d with
 | zero =>
  intro i k h1 h2
  obtain ⟨k, rfl⟩ : ∃ m, k = m + 1 := ⟨k - 1, by omega⟩
  unfold r15_Fits.l0
  rw [if_neg (by omega), List.drop_eq_nil_of_le (by omega), rbytes_is P (by omega) k (by omega), rbytes_is L (by omega) k (by omega)]
  simp only [zP]
  rw [show allR ([] : List S109) = true from rfl, Bool.true_and]
  by_cases h1 : (n.size : Int) < 256
  ·rw [if_pos h1, decide_eq_true (show n.size ≤ 255 by omega)]
   by_cases h2 : (P.length : Int) ≤ 8
   ·rw [if_pos h2, decide_eq_true (show P.length ≤ 8 by omega)]
    by_cases h3 : (L.length : Int) ≤ 1024
    ·rw [if_pos h3, decide_eq_true (show L.length ≤ 1024 by omega), if_pos (show (C.length : Int) ≤ 16384 by omega), decide_eq_true (show C.length ≤ 16384 by omega)]
     by_cases h4 : R ≥ 0
     ·rw [if_pos h4, decide_eq_true (show 0 ≤ R from h4), show decide (R < 256) = decide (R ≤ 255) by rw [decide_eq_decide]; omega]
      cases byteL P <;> cases byteL L <;> simp
     ·rw [if_neg h4, decide_eq_false h4]
      cases byteL P <;> cases byteL L <;> simp
    ·rw [if_neg h3, decide_eq_false (show ¬ L.length ≤ 1024 by omega)]; simp
   ·rw [if_neg h2, decide_eq_false (show ¬ P.length ≤ 8 by omega)]; simp
  ·rw [if_neg h1, decide_eq_false (show ¬ n.size ≤ 255 by omega)]; simp
 | succ d ih =>
  intro i k h1 h2
  obtain ⟨k, rfl⟩ : ∃ m, k = m + 1 := ⟨k - 1, by omega⟩
  unfold r15_Fits.l0
  rw [if_pos (by omega), if_pos (by omega), rd47_drop C i (by omega)]
  generalize rd_T109 C (i : Int) = x
  rw [rright _ _ _ k (by omega), zP, allR_cons]
  by_cases hq : right3 x.f0 x.f1 x.f2 = true
  ·rw [if_pos hq, hq, Bool.true_and, w64 _ (by omega) (by omega)]
   exact ih (i + 1) k (by omega) (by omega)
  ·rw [if_neg hq, show right3 x.f0 x.f1 x.f2 = false by simpa using hq]; simp
theorem rfits_is (n : ByteArray) (P : List Int) (R : Int) (L : List Int) (C : List S109) (hP : P.length ≤ 10000) (hL : L.length ≤ 10000) (hC : C.length ≤ 10000) (k : Nat) (hk : 20100 ≤ k) : r15_Fits.f k n P R L C = some (fitsF n P R L C) := by
 have h := rfits_l0 n P R L C hP hL hC C.length 0 k (by omega) (by omega)
 rw [List.drop_zero] at h
 refine Eq.trans h ?_
 unfold fitsF
 cases allR C
 ·simp
 ·simp only [Bool.true_and, Bool.and_true]

end Go.Proofs.YtdbfgfgbjheibaaDoor.BPure
end

section
/- Units, plainly, over the texts of the container: their bytes. -/
namespace Go.Proofs.YtdbfgfgbjheibaaDoor.BPure
open Go Go.RowKit Go.Proofs.YtdbfgfgbjheibaaDoor Go.Proofs.YtdbfgfgbjheibaaDoor.PBx Go.Proofs.YtdbfgfgbjheibaaDoor.Given Go.Proofs.YtdbfgfgbjheibaaDoorW.PrintWords Go.Proofs.YtdbfgfgbjheibaaDoorW.PrintLast Go.Proofs.YtdbfgfgbjheibaaDoorW.PrintMore
set_option linter.unusedVariables false
set_option linter.unusedSimpArgs false
def low (l : List Int) : List Int := l.map (· % 256)
theorem low_len (l : List Int) : (low l).length = l.length := by simp [low]
theorem list_l0 (P : List Int) (hz : P.length ≤ 100000) : ∀ (d i k : Nat) (x0 : List Int), i + d = P.length → d < k → x0.length + d ≤ 10000000 →
  unit_list.l0 k x0 P (P.length : Int) (i : Int) = some (x0 ++ low (P.drop i)) := by
 intro d
 induction d with
 | zero =>
  intro i k x0 h1 h2 h3
  obtain ⟨k, rfl⟩ : ∃ m, k = m + 1 := ⟨k - 1, by omega⟩
  unfold unit_list.l0
  rw [if_neg (by omega), List.drop_eq_nil_of_le (by omega)]; simp [low]
 | succ d ih =>
  intro i k x0 h1 h2 h3
  obtain ⟨k, rfl⟩ : ∃ m, k = m + 1 := ⟨k - 1, by omega⟩
  unfold unit_list.l0
  rw [if_pos (by omega), if_pos (by omega), if_pos (by omega), if_pos (by omega), rd_drop P i (by omega), w64 _ (by omega) (by omega)]
  have := ih (i + 1) k (x0 ++ [rd P (i : Int) % 256]) (by omega) (by omega) (by simp only [List.length_append, List.length_cons, List.length_nil]; omega)
  rw [show ((i + 1 : Nat) : Int) = (i : Int) + 1 by omega] at this
  rw [this, List.append_assoc]
  rfl
theorem list_is (x0 : List Int) (m : Int) (P : List Int) (hz : P.length ≤ 100000) (hx : x0.length ≤ 1000000) (k : Nat) (hk : P.length < k) : unit_list.f k x0 m P = some (x0 ++ le (mx 0 (mn m 8)).toNat (P.length : Int) ++ low P) := by
 unfold unit_list.f octet_Put.f
 rw [if_pos (by omega), zP]
 have h8 : (mx 0 (mn m 8)).toNat ≤ 8 := by unfold mx mn; split <;> split <;> omega
 exact list_l0 P hz P.length 0 k _ (by omega) hk (by rw [List.length_append, le_length]; omega)
/-- A unit's bytes. -/
def putB (n : ByteArray) (P : List Int) (R : Int) (L : List Int) (C : List S109) : List Int :=
 le 1 ((min n.size 255 : Nat) : Int) ++ bytesOf (textOf n) ++ le 1 (P.length : Int) ++ low P ++ le 1 R ++ le 2 (L.length : Int) ++ low L ++ le 2 (C.length : Int) ++ encF C
theorem text_len (n : ByteArray) : (bytesOf (textOf n)).length ≤ 255 := by
 rw [bytesOf_length]
 unfold textOf
 rw [ByteArray.size_extract]
 omega
theorem m1 : (mx 0 (mn 1 8)).toNat = 1 := by decide
theorem m2 : (mx 0 (mn 2 8)).toNat = 2 := by decide
theorem fits_allR {n : ByteArray} {P : List Int} {R : Int} {L : List Int} {C : List S109} (h : fitsF n P R L C = true) : n.size ≤ 255 ∧ P.length ≤ 8 ∧ L.length ≤ 1024 ∧ C.length ≤ 16384 ∧ allR C = true ∧ byteL P = true ∧ byteL L = true ∧ 0 ≤ R ∧ R ≤ 255 := by
 unfold fitsF at h
 simp only [Bool.and_eq_true, decide_eq_true_eq] at h
 obtain ⟨⟨⟨⟨⟨⟨⟨a, b⟩, c⟩, d⟩, e⟩, f⟩, g⟩, i, j⟩ := h
 exact ⟨a, b, c, d, e, f, g, i, j⟩
theorem put_is (n : ByteArray) (P : List Int) (R : Int) (L : List Int) (C : List S109) (hn : n.size ≤ 1000) (hP : P.length ≤ 10000) (hL : L.length ≤ 10000) (hC : C.length ≤ 10000) (k : Nat) (hk : 20100 ≤ k) :
  unit_Put.f k n P R L C = if fitsF n P R L C = true then some (putB n P R L C, true) else some ([], false) := by
 unfold unit_Put.f
 rw [fits_is n P R L C hP hL hC k hk, zP]
 by_cases hf : fitsF n P R L C = true
 ·rw [if_pos hf, if_pos hf]
  have hR := (fits_allR hf).2.2.2.2.1
  have ht := text_len n
  unfold octet_Text.f
  rw [if_pos (by simp; omega), zP, list_is _ 1 P (by omega) (by simp only [List.length_append, le_length, List.length_nil]; omega) k (by omega), zP, m1]
  unfold octet_Put.f
  rw [if_pos (by simp only [List.length_append, le_length, List.length_nil, low_len]; omega), zP, list_is _ 2 L (by omega) (by simp only [List.length_append, le_length, List.length_nil, low_len, m1]; omega) k (by omega), zP, if_pos (by simp only [List.length_append, le_length, List.length_nil, low_len, m1, m2]; omega), zP, enc_is C k (by omega) (by omega), if_pos hR, zP, if_pos (by simp only [List.length_append, le_length, List.length_nil, low_len, m1, m2, enc_len]; omega)]
  rw [m1, m2, List.nil_append]
  rfl
 ·rw [if_neg hf, if_neg (by simp at hf; simp [hf])]
/-! ### The document's -/
theorem rput_is (l0 : List Int) (a1 a2 : Int) (hl : l0.length ≤ 1000000000) (k : Nat) (hk : 9 ≤ k) : r03_Put.f k l0 a1 a2 = some (l0 ++ le (mx 0 (mn a1 8)).toNat a2) := by
 have hn := mx_nat a1
 have hn8 : (mx 0 (mn a1 8)).toNat ≤ 8 := by unfold mx mn; split <;> split <;> omega
 have := ref_put_loop l0 a1 a2 _ hn hn8 hl (mx 0 (mn a1 8)).toNat 0 k (by omega) (by omega)
 unfold r03_Put.f
 simp only [zP, List.nil_append, List.length_nil]
 rw [if_pos (by omega)]
 have e : IntKind.u64.wrap a2 = sh 0 a2 % (256 ^ (8 - 0) : Int) := by rw [IntKind.wrap_u64]; rfl
 rw [e]
 simpa [le] using this
theorem le_enc (x : S109) (h : right3 x.f0 x.f1 x.f2 = true) : le 1 x.f0 ++ le 2 x.f1 ++ le 2 x.f2 = enc1 x := by
 simp [le, sh, enc1]
theorem renc_l0 (l : List S109) (hz : l.length ≤ 10000) : ∀ (d i k : Nat) (out : List Int), i + d = l.length → d + 10 < k → out.length + 5 * d ≤ 1000000 →
  r13_Encode.l0 k l out (i : Int) = if allR (l.drop i) = true then some (out ++ encF (l.drop i), true) else some ([], false) := by
 intro d
 induction d with
 | zero =>
  intro i k out h1 h2 h3
  obtain ⟨k, rfl⟩ : ∃ m, k = m + 1 := ⟨k - 1, by omega⟩
  unfold r13_Encode.l0
  rw [if_neg (by omega), List.drop_eq_nil_of_le (by omega)]
  simp [allR, encF]
 | succ d ih =>
  intro i k out h1 h2 h3
  obtain ⟨k, rfl⟩ : ∃ m, k = m + 1 := ⟨k - 1, by omega⟩
  unfold r13_Encode.l0
  rw [if_pos (by omega), if_pos (by omega), rd47_drop l i (by omega)]
  generalize rd_T109 l (i : Int) = x
  rw [rright _ _ _ k (by omega), zP]
  by_cases hq : right3 x.f0 x.f1 x.f2 = true
  ·rw [if_pos hq, show allR (x :: l.drop (i + 1)) = allR (l.drop (i + 1)) by rw [allR_cons, hq, Bool.true_and], rput_is _ _ _ (by omega) k (by omega), zP, rput_is _ _ _ (by rw [List.length_append, le_length, m1]; omega) k (by omega), zP, rput_is _ _ _ (by rw [List.length_append, List.length_append, le_length, le_length, m1, m2]; omega) k (by omega), zP, m1, m2, List.append_assoc out, List.append_assoc out, le_enc x hq, w64 _ (by omega) (by omega)]
   have := ih (i + 1) k (out ++ enc1 x) (by omega) (by omega) (by simp only [List.length_append, enc1, List.length_cons, List.length_nil]; omega)
   rw [show ((i + 1 : Nat) : Int) = (i : Int) + 1 by omega] at this
   rw [this, List.append_assoc]
   rfl
  ·rw [if_neg hq, show allR (x :: l.drop (i + 1)) = false by rw [allR_cons, show right3 x.f0 x.f1 x.f2 = false by simpa using hq]; rfl]
   simp
theorem renc_is (l : List S109) (k : Nat) (hz : l.length ≤ 10000) (hk : l.length + 10 < k) : r13_Encode.f k l = if allR l = true then some (encF l, true) else some ([], false) := by
 have := renc_l0 l hz l.length 0 k [] (by omega) hk (by simp; omega)
 rw [List.drop_zero, List.nil_append] at this
 exact this
theorem rputl1 (n : ByteArray) (P : List Int) (R : Int) (L : List Int) (C : List S109) (hL : L.length ≤ 10000) (hC : C.length ≤ 10000) (hR : allR C = true) : ∀ (d i k : Nat) (x : List Int), i + d = L.length → d + 10020 < k → x.length + d ≤ 1000000 →
  r15_Put.l1 k x (i : Int) n P R L C = some (x ++ low (L.drop i) ++ le 2 (C.length : Int) ++ encF C, true) := by
 intro d
 induction d with
 | zero =>
  intro i k x h1 h2 h3
  obtain ⟨k, rfl⟩ : ∃ m, k = m + 1 := ⟨k - 1, by omega⟩
  unfold r15_Put.l1
  rw [if_neg (by omega), List.drop_eq_nil_of_le (by omega), rput_is _ _ _ (by omega) k (by omega), zP, renc_is C k hC (by omega), if_pos hR, zP, if_pos (by rw [List.length_append, le_length, enc_len, m2]; omega), m2]
  simp [low]
 | succ d ih =>
  intro i k x h1 h2 h3
  obtain ⟨k, rfl⟩ : ∃ m, k = m + 1 := ⟨k - 1, by omega⟩
  unfold r15_Put.l1
  rw [if_pos (by omega), if_pos (by omega), if_pos (by omega), rd_drop L i (by omega), w64 _ (by omega) (by omega)]
  have := ih (i + 1) k (x ++ [rd L (i : Int) % 256]) (by omega) (by omega) (by simp only [List.length_append, List.length_cons, List.length_nil]; omega)
  rw [show ((i + 1 : Nat) : Int) = (i : Int) + 1 by omega] at this
  rw [this]
  simp [low]
theorem rputl0 (n : ByteArray) (P : List Int) (R : Int) (L : List Int) (C : List S109) (hP : P.length ≤ 10000) (hL : L.length ≤ 10000) (hC : C.length ≤ 10000) (hR : allR C = true) : ∀ (d i k : Nat) (x : List Int), i + d = P.length → d + 20050 < k → x.length + d ≤ 100000 →
  r15_Put.l0 k x (i : Int) n P R L C = some (x ++ low (P.drop i) ++ le 1 R ++ le 2 (L.length : Int) ++ low L ++ le 2 (C.length : Int) ++ encF C, true) := by
 intro d
 induction d with
 | zero =>
  intro i k x h1 h2 h3
  obtain ⟨k, rfl⟩ : ∃ m, k = m + 1 := ⟨k - 1, by omega⟩
  unfold r15_Put.l0
  rw [if_neg (by omega), List.drop_eq_nil_of_le (by omega), if_pos (by omega), rput_is _ _ _ (by simp only [List.length_append, List.length_cons, List.length_nil]; omega) k (by omega), zP, m2]
  have := rputl1 n P R L C hL hC hR L.length 0 k (x ++ [R % 256] ++ le 2 (L.length : Int)) (by omega) (by omega) (by simp only [List.length_append, List.length_cons, List.length_nil, le_length]; omega)
  rw [List.drop_zero] at this
  rw [show (0 : Int) = ((0 : Nat) : Int) from rfl, this]
  simp [low, le, sh]
 | succ d ih =>
  intro i k x h1 h2 h3
  obtain ⟨k, rfl⟩ : ∃ m, k = m + 1 := ⟨k - 1, by omega⟩
  unfold r15_Put.l0
  rw [if_pos (by omega), if_pos (by omega), if_pos (by omega), rd_drop P i (by omega), w64 _ (by omega) (by omega)]
  have := ih (i + 1) k (x ++ [rd P (i : Int) % 256]) (by omega) (by omega) (by simp only [List.length_append, List.length_cons, List.length_nil]; omega)
  rw [show ((i + 1 : Nat) : Int) = (i : Int) + 1 by omega] at this
  rw [this]
  simp [low]
end Go.Proofs.YtdbfgfgbjheibaaDoor.BPure
end

section
/- Tables' bytes, plainly, over the texts of the container. -/
namespace Go.Proofs.YtdbfgfgbjheibaaDoor.BPure.Tab
open Go Go.RowKit Go.Proofs.YtdbfgfgbjheibaaDoor Go.Proofs.YtdbfgfgbjheibaaDoor.PBx Go.Proofs.YtdbfgfgbjheibaaDoor.Given Go.Proofs.YtdbfgfgbjheibaaDoorW.PrintWords Go.Proofs.YtdbfgfgbjheibaaDoorW.PrintLast Go.Proofs.YtdbfgfgbjheibaaDoorW.PrintMore Go.Proofs.YtdbfgfgbjheibaaDoor.BPure
set_option linter.unusedVariables false
set_option linter.unusedSimpArgs false
abbrev SC := S68
abbrev SV := S41
abbrev SB := S43
theorem bytes_len (s : ByteArray) : (bytesOf s).length = s.size := by simp [bytesOf]
theorem text_all (s : ByteArray) (h : s.size ≤ 255) : textOf s = s := by
 unfold textOf
 rw [Nat.min_eq_left h]
 simp
variable {α : Type} {row : List Int → Int → Bool → α × Int × Bool} {fit : α → Bool} {wf : α → Prop} {enc : α → List Int}
def encL (enc : α → List Int) (l : List α) : List Int := (l.map enc).flatten
theorem encL_cons (enc : α → List Int) (x : α) (l : List α) : encL enc (x :: l) = enc x ++ encL enc l := by simp [encL]
/-- What is put of a table. -/
def putM (most : Nat) (fit : α → Bool) (enc : α → List Int) (l : List α) : List Int × Bool := if l.length > most then ([], false) else if l.all fit = true then (le 2 (l.length : Int) ++ encL enc l, true) else ([], false)
def small (n : Int) : Bool := decide (0 ≤ n) && decide (n ≤ 255)
theorem small_iff {n : Int} : small n = true ↔ 0 ≤ n ∧ n ≤ 255 := by unfold small; simp
def conFit (x : SC) : Bool := small x.f0
def conEnc (x : SC) : List Int := le 1 x.f0 ++ le 8 x.f1
def encT (s : ByteArray) : List Int := le 1 ((s.size : Nat) : Int) ++ bytesOf s
def blkFit (x : SB) : Bool := decide (x.f0.size ≤ 255) && small x.f1
def blkEnc (x : SB) : List Int := encT x.f0 ++ le 1 x.f1
def varFit (x : SV) : Bool := decide (x.f0.size ≤ 255) && (small x.f1 && (small x.f2 && small x.f3))
def varEnc (x : SV) : List Int := encT x.f0 ++ le 1 x.f1 ++ le 1 x.f2 ++ le 1 x.f3 ++ le 8 x.f4
theorem encT_len (s : ByteArray) : (encT s).length = 1 + s.size := by unfold encT; rw [List.length_append, le_length, bytes_len]
theorem put1 (l : List Int) (v : Int) (hl : l.length ≤ 1000000000) : octet_Put.f l 1 v = some (l ++ le 1 v) := by
 unfold octet_Put.f
 rw [if_pos hl, show (mx 0 (mn 1 8)).toNat = 1 by decide]
theorem put8 (l : List Int) (v : Int) (hl : l.length ≤ 1000000000) : octet_Put.f l 8 v = some (l ++ le 8 v) := by
 unfold octet_Put.f
 rw [if_pos hl, show (mx 0 (mn 8 8)).toNat = 8 by decide]
theorem put2 (v : Int) : octet_Put.f [] 2 v = some (le 2 v) := by
 unfold octet_Put.f
 rw [if_pos (by simp), show (mx 0 (mn 2 8)).toNat = 2 by decide, List.nil_append]
theorem textT (l : List Int) (s : ByteArray) (hl : l.length ≤ 999999000) (hs : s.size ≤ 255) : octet_Text.f l s = some (l ++ encT s) := by
 unfold octet_Text.f encT
 rw [if_pos ⟨hl, by omega⟩, text_all s hs, Nat.min_eq_left hs, List.append_assoc]
theorem rputk (l0 : List Int) (a1 a2 : Int) (hl : l0.length ≤ 1000000000) (k : Nat) (hk : 9 ≤ k) : r03_Put.f k l0 a1 a2 = some (l0 ++ le (mx 0 (mn a1 8)).toNat a2) := by
 have hn := mx_nat a1
 have hn8 : (mx 0 (mn a1 8)).toNat ≤ 8 := by unfold mx mn; split <;> split <;> omega
 have := ref_put_loop l0 a1 a2 _ hn hn8 hl (mx 0 (mn a1 8)).toNat 0 k (by omega) (by omega)
 unfold r03_Put.f
 simp only [zP, List.nil_append, List.length_nil]
 rw [if_pos (by omega)]
 have e : IntKind.u64.wrap a2 = sh 0 a2 % (256 ^ (8 - 0) : Int) := by rw [IntKind.wrap_u64]; rfl
 rw [e]
 simpa [le] using this
theorem rput1 (l : List Int) (v : Int) (hl : l.length ≤ 1000000000) (k : Nat) (hk : 9 ≤ k) : r03_Put.f k l 1 v = some (l ++ le 1 v) := by
 rw [rputk l 1 v hl k hk, show (mx 0 (mn 1 8)).toNat = 1 by decide]
theorem rput8 (l : List Int) (v : Int) (hl : l.length ≤ 1000000000) (k : Nat) (hk : 9 ≤ k) : r03_Put.f k l 8 v = some (l ++ le 8 v) := by
 rw [rputk l 8 v hl k hk, show (mx 0 (mn 8 8)).toNat = 8 by decide]
theorem rput2 (v : Int) (k : Nat) (hk : 9 ≤ k) : r03_Put.f k [] 2 v = some (le 2 v) := by
 rw [rputk [] 2 v (by simp) k hk, show (mx 0 (mn 2 8)).toNat = 2 by decide, List.nil_append]
theorem rtextT (l : List Int) (s : ByteArray) (hl : l.length ≤ 1000000) (hs : s.size ≤ 255) (k : Nat) (hk : 300 ≤ k) : r03_Text.f k l s = some (l ++ encT s) := by
 obtain ⟨k, rfl⟩ : ∃ m, k = m + 1 := ⟨k - 1, by omega⟩
 unfold r03_Text.f
 rw [if_neg (by omega)]
 simp only [r03_Text.j0, zP, List.nil_append, List.length_nil]
 rw [if_pos (by omega), if_pos (by omega)]
 have := ref_text_loop s (l ++ le 1 (s.size : Int)) (by rw [List.length_append, le_length]; omega) (by omega) s.size 0 k (by omega) (by omega)
 have e0 : bytesOf (s.extract 0 0) = [] := by rw [bytesOf_take]; rfl
 rw [e0, List.append_nil] at this
 unfold encT
 simpa [le, sh, List.append_assoc] using this
theorem small_l (L : List Int) (hl : L.length ≤ 10) : ∀ (d i k : Nat), i + d = L.length → d < k → tab_small.l0 k L (L.length : Int) (i : Int) = some ((L.drop i).all small) := by
 intro d
 induction d with
 | zero =>
  intro i k h1 h2
  obtain ⟨k, rfl⟩ : ∃ m, k = m + 1 := ⟨k - 1, by omega⟩
  rw [tab_small.l0, if_neg (by omega), List.drop_eq_nil_of_le (by omega)]
  rfl
 | succ d ih =>
  intro i k h1 h2
  obtain ⟨k, rfl⟩ : ∃ m, k = m + 1 := ⟨k - 1, by omega⟩
  have hil : i < L.length := by omega
  have e : rd L (i : Int) = L[i] := by unfold rd; rw [Int.toNat_natCast, List.getD_eq_getElem?_getD, List.getElem?_eq_getElem hil]; rfl
  have ew : wrap64 ((i : Int) + 1) = ((i + 1 : Nat) : Int) := by unfold wrap64; omega
  rw [tab_small.l0, if_pos (by omega), if_pos (by omega), if_pos (by omega), e, List.drop_eq_getElem_cons hil, List.all_cons, ew]
  by_cases c1 : L[i] < 0
  ·rw [if_pos c1, show small L[i] = false by unfold small; simp; omega]; rfl
  ·rw [if_neg c1]
   by_cases c2 : L[i] > 255
   ·rw [if_pos c2, show small L[i] = false by unfold small; simp; omega]; rfl
   ·rw [if_neg c2, ih (i + 1) k (by omega) (by omega), small_iff.2 ⟨by omega, by omega⟩]
    rfl
theorem small_f (L : List Int) (hl : L.length ≤ 10) (k : Nat) (hk : 20 ≤ k) : tab_small.f k L = some (L.all small) := by
 unfold tab_small.f
 have := small_l L hl L.length 0 k (by omega) (by omega)
 simpa using this
theorem rsmall (a : Int) : r14_small.f a = some (small a) := by
 unfold r14_small.f small
 by_cases h : a ≥ 0
 ·rw [if_pos h, show decide (0 ≤ a) = true from decide_eq_true h, Bool.true_and]
  congr 1
  exact decide_eq_decide.2 (by omega)
 ·rw [if_neg h, show decide (0 ≤ a) = false from decide_eq_false h]; rfl
theorem wl (i : Nat) (h : i < 100000) : wrap64 ((i : Int) + 1) = ((i + 1 : Nat) : Int) := by unfold wrap64; omega
theorem encL_bound {α : Type} (enc : α → List Int) (n : Nat) : ∀ (l : List α), (∀ x ∈ l, (enc x).length ≤ n) → (encL enc l).length ≤ n * l.length
 | [], _ => by simp [encL]
 | x :: l, h => by
  have h1 := h x (by simp)
  have h2 := encL_bound enc n l (fun y hy => h y (by simp [hy]))
  rw [encL_cons, List.length_append, List.length_cons, Nat.mul_add]
  omega
theorem putM_len {α : Type} (most : Nat) (fit : α → Bool) (enc : α → List Int) (hn : ∀ x, fit x = true → (enc x).length ≤ 300) (l : List α) : (putM most fit enc l).1.length ≤ 2 + 300 * most := by
 unfold putM
 split
 ·simp
 ·split
  ·rename_i h1 h2
   have h3 := encL_bound enc 300 l (fun x hx => hn x (List.all_eq_true.1 h2 x hx))
   rw [List.length_append, le_length]
   have : 300 * l.length ≤ 300 * most := Nat.mul_le_mul_left _ (by omega)
   omega
  ·simp

end Go.Proofs.YtdbfgfgbjheibaaDoor.BPure.Tab
end

section
/- Tables' printed functions, over the texts of the container. -/
namespace Go.Proofs.YtdbfgfgbjheibaaDoor.BPure.Tab
open Go Go.RowKit Go.Proofs.YtdbfgfgbjheibaaDoor Go.Proofs.YtdbfgfgbjheibaaDoor.PBx Go.Proofs.YtdbfgfgbjheibaaDoor.Given Go.Proofs.YtdbfgfgbjheibaaDoorW.PrintWords Go.Proofs.YtdbfgfgbjheibaaDoorW.PrintLast Go.Proofs.YtdbfgfgbjheibaaDoorW.PrintMore Go.Proofs.YtdbfgfgbjheibaaDoor.BPure
set_option linter.unusedVariables false
set_option linter.unusedSimpArgs false
theorem blk_rd (l : List SB) (i : Nat) (h : i < l.length) : rd_T43 l (i : Int) = l[i] := by
 unfold rd_T43
 rw [Int.toNat_natCast, List.getD_eq_getElem?_getD, List.getElem?_eq_getElem h]
 rfl
theorem blk_fit (x : SB) (k : Nat) (hk : 20 ≤ k) : tab_PutBlocks_1.f k x.f0 x.f1 = some (blkFit x) := by
 unfold tab_PutBlocks_1.f tab_named.f blkFit
 simp only [zP]
 have e : decide ((x.f0.size : Int) ≤ 255) = decide (x.f0.size ≤ 255) := decide_eq_decide.2 (by omega)
 rw [e]
 by_cases h : x.f0.size ≤ 255
 ·rw [decide_eq_true h, if_pos rfl, small_f [x.f1] (by simp) k hk]
  simp
 ·rw [decide_eq_false h]; simp
theorem blk_put (x : SB) (l : List Int) (hl : l.length ≤ 1000000) (hf : blkFit x = true) : tab_PutBlocks_2.f l x.f0 x.f1 = some (l ++ blkEnc x) := by
 unfold blkFit at hf
 simp only [Bool.and_eq_true, decide_eq_true_eq] at hf
 unfold tab_PutBlocks_2.f blkEnc
 rw [textT l x.f0 (by omega) hf.1]
 simp only [zP]
 rw [put1 _ x.f1 (by rw [List.length_append, encT_len]; omega), List.append_assoc]
 rfl
theorem blk_len (x : SB) (h : blkFit x = true) : (blkEnc x).length ≤ 300 := by
 unfold blkFit at h
 simp only [Bool.and_eq_true, decide_eq_true_eq] at h
 unfold blkEnc
 rw [List.length_append, encT_len, le_length]
 omega
theorem blk_loop (l : List SB) (hl : l.length ≤ 32) : ∀ (d i k : Nat) (o : List Int), i + d = l.length → 400 + d < k → o.length ≤ 2 + 300 * i → api_Block_53.l0 k o l (l.length : Int) (i : Int) = some (if (l.drop i).all blkFit = true then (o ++ encL blkEnc (l.drop i), true) else ([], false)) := by
 intro d
 induction d with
 | zero =>
  intro i k o h1 h2 h3
  obtain ⟨k, rfl⟩ : ∃ m, k = m + 1 := ⟨k - 1, by omega⟩
  rw [api_Block_53.l0, if_neg (by omega), List.drop_eq_nil_of_le (by omega)]
  simp [encL]
 | succ d ih =>
  intro i k o h1 h2 h3
  obtain ⟨k, rfl⟩ : ∃ m, k = m + 1 := ⟨k - 1, by omega⟩
  have hil : i < l.length := by omega
  rw [api_Block_53.l0, if_pos (by omega), if_pos (by omega), if_pos (by omega), blk_rd l i hil, blk_fit l[i] k (by omega)]
  simp only [zP]
  by_cases hf : blkFit l[i] = true
  ·rw [if_pos hf, blk_put l[i] o (by omega) hf]
   simp only [zP]
   rw [wl i (by omega), ih (i + 1) k _ (by omega) (by omega) (by rw [List.length_append]; have := blk_len l[i] hf; omega)]
   rw [List.drop_eq_getElem_cons hil, List.all_cons, hf, Bool.true_and, encL_cons, List.append_assoc]
  ·rw [if_neg hf]
   rw [List.drop_eq_getElem_cons hil, List.all_cons, show blkFit l[i] = false by simpa using hf]
   rfl
theorem blk_prog (l : List SB) (k : Nat) (hk : 2000 ≤ k) : tab_PutBlocks.f k l = some (putM 32 blkFit blkEnc l) := by
 unfold tab_PutBlocks.f api_Block_53.f putM
 by_cases h : l.length > 32
 ·rw [if_pos (by omega), if_pos h]; rfl
 ·rw [if_neg (by omega), if_neg h, put2]
  simp only [zP]
  have := blk_loop l (by omega) l.length 0 k (le 2 (l.length : Int)) (by omega) (by omega) (by rw [le_length]; omega)
  rw [List.drop_zero] at this
  rw [show (0 : Int) = ((0 : Nat) : Int) from rfl, this]
  simp only [zP]
theorem rblk_loop (l : List SB) (hl : l.length ≤ 32) : ∀ (d i k : Nat) (o : List Int), i + d = l.length → 400 + 2 * d < k → o.length ≤ 2 + 300 * i → r14_Blocks.l0 k l o (i : Int) = some (if (l.drop i).all blkFit = true then (o ++ encL blkEnc (l.drop i), true) else ([], false)) := by
 intro d
 induction d with
 | zero =>
  intro i k o h1 h2 h3
  obtain ⟨k, rfl⟩ : ∃ m, k = m + 1 := ⟨k - 1, by omega⟩
  rw [r14_Blocks.l0, if_neg (by omega), List.drop_eq_nil_of_le (by omega)]
  simp [encL]
 | succ d ih =>
  intro i k o h1 h2 h3
  obtain ⟨k, rfl⟩ : ∃ m, k = m + 1 := ⟨k - 1, by omega⟩
  have hil : i < l.length := by omega
  rw [r14_Blocks.l0, if_pos (by omega), if_pos (by omega), blk_rd l i hil]
  by_cases hz : ((l[i].f0.size : Nat) : Int) > 255
  ·rw [if_pos hz]
   have hf : ¬ blkFit l[i] = true := by unfold blkFit; simp; omega
   rw [List.drop_eq_getElem_cons hil, List.all_cons, show blkFit l[i] = false by simpa using hf]
   rfl
  ·rw [if_neg hz, rsmall]
   simp only [zP]
   by_cases hs : small l[i].f1 = true
   ·have hf : blkFit l[i] = true := by unfold blkFit; rw [hs]; simp; omega
    rw [if_pos hs, rtextT o l[i].f0 (by omega) (by omega) k (by omega)]
    simp only [zP]
    rw [if_pos (by rw [List.length_append, encT_len, List.length_singleton]; omega)]
    rw [show o ++ encT l[i].f0 ++ [l[i].f1 % 256] = o ++ blkEnc l[i] by unfold blkEnc; rw [List.append_assoc]; rfl]
    rw [wl i (by omega), ih (i + 1) k _ (by omega) (by omega) (by rw [List.length_append]; have := blk_len l[i] hf; omega)]
    rw [List.drop_eq_getElem_cons hil, List.all_cons, hf, Bool.true_and, encL_cons, List.append_assoc]
   ·have hf : ¬ blkFit l[i] = true := by unfold blkFit; simp [hs]
    rw [if_neg hs]
    rw [List.drop_eq_getElem_cons hil, List.all_cons, show blkFit l[i] = false by simpa using hf]
    rfl
theorem blk_ref (l : List SB) (k : Nat) (hk : 3000 ≤ k) : r14_Blocks.f k l = some (putM 32 blkFit blkEnc l) := by
 unfold r14_Blocks.f putM
 by_cases h : l.length > 32
 ·rw [if_pos (by omega), if_pos h]
 ·rw [if_neg (by omega), if_neg h, rput2 _ k (by omega)]
  simp only [zP]
  have := rblk_loop l (by omega) l.length 0 k (le 2 (l.length : Int)) (by omega) (by omega) (by rw [le_length]; omega)
  rw [List.drop_zero] at this
  rw [show (0 : Int) = ((0 : Nat) : Int) from rfl, this]
theorem con_rd (l : List SC) (i : Nat) (h : i < l.length) : rd_T68 l (i : Int) = l[i] := by
 unfold rd_T68
 rw [Int.toNat_natCast, List.getD_eq_getElem?_getD, List.getElem?_eq_getElem h]
 rfl
theorem con_fit (x : SC) (k : Nat) (hk : 20 ≤ k) : tab_PutConsts_1.f k x.f0 x.f1 = some (conFit x) := by
 unfold tab_PutConsts_1.f conFit
 rw [small_f [x.f0] (by simp) k hk]
 simp
theorem con_put (x : SC) (l : List Int) (hl : l.length ≤ 1000000) (hf : conFit x = true) : tab_PutConsts_2.f l x.f0 x.f1 = some (l ++ conEnc x) := by
 unfold tab_PutConsts_2.f conEnc
 rw [put1 l x.f0 (by omega)]
 simp only [zP]
 rw [put8 _ x.f1 (by rw [List.length_append, le_length]; omega), List.append_assoc]
 rfl
theorem con_len (x : SC) (_ : conFit x = true) : (conEnc x).length ≤ 300 := by unfold conEnc; simp [le_length]
theorem con_loop (l : List SC) (hl : l.length ≤ 1024) : ∀ (d i k : Nat) (o : List Int), i + d = l.length → 400 + d < k → o.length ≤ 2 + 300 * i → api_Const_44.l0 k o l (l.length : Int) (i : Int) = some (if (l.drop i).all conFit = true then (o ++ encL conEnc (l.drop i), true) else ([], false)) := by
 intro d
 induction d with
 | zero =>
  intro i k o h1 h2 h3
  obtain ⟨k, rfl⟩ : ∃ m, k = m + 1 := ⟨k - 1, by omega⟩
  rw [api_Const_44.l0, if_neg (by omega), List.drop_eq_nil_of_le (by omega)]
  simp [encL]
 | succ d ih =>
  intro i k o h1 h2 h3
  obtain ⟨k, rfl⟩ : ∃ m, k = m + 1 := ⟨k - 1, by omega⟩
  have hil : i < l.length := by omega
  rw [api_Const_44.l0, if_pos (by omega), if_pos (by omega), if_pos (by omega), con_rd l i hil, con_fit l[i] k (by omega)]
  simp only [zP]
  by_cases hf : conFit l[i] = true
  ·rw [if_pos hf, con_put l[i] o (by omega) hf]
   simp only [zP]
   rw [wl i (by omega), ih (i + 1) k _ (by omega) (by omega) (by rw [List.length_append]; have := con_len l[i] hf; omega)]
   rw [List.drop_eq_getElem_cons hil, List.all_cons, hf, Bool.true_and, encL_cons, List.append_assoc]
  ·rw [if_neg hf]
   rw [List.drop_eq_getElem_cons hil, List.all_cons, show conFit l[i] = false by simpa using hf]
   rfl
theorem con_prog (l : List SC) (k : Nat) (hk : 2000 ≤ k) : tab_PutConsts.f k l = some (putM 1024 conFit conEnc l) := by
 unfold tab_PutConsts.f api_Const_44.f putM
 by_cases h : l.length > 1024
 ·rw [if_pos (by omega), if_pos h]; rfl
 ·rw [if_neg (by omega), if_neg h, put2]
  simp only [zP]
  have := con_loop l (by omega) l.length 0 k (le 2 (l.length : Int)) (by omega) (by omega) (by rw [le_length]; omega)
  rw [List.drop_zero] at this
  rw [show (0 : Int) = ((0 : Nat) : Int) from rfl, this]
  simp only [zP]
theorem rcon_loop (l : List SC) (hl : l.length ≤ 1024) : ∀ (d i k : Nat) (o : List Int), i + d = l.length → 400 + 2 * d < k → o.length ≤ 2 + 300 * i → r14_Consts.l0 k l o (i : Int) = some (if (l.drop i).all conFit = true then (o ++ encL conEnc (l.drop i), true) else ([], false)) := by
 intro d
 induction d with
 | zero =>
  intro i k o h1 h2 h3
  obtain ⟨k, rfl⟩ : ∃ m, k = m + 1 := ⟨k - 1, by omega⟩
  rw [r14_Consts.l0, if_neg (by omega), List.drop_eq_nil_of_le (by omega)]
  simp [encL]
 | succ d ih =>
  intro i k o h1 h2 h3
  obtain ⟨k, rfl⟩ : ∃ m, k = m + 1 := ⟨k - 1, by omega⟩
  have hil : i < l.length := by omega
  rw [r14_Consts.l0, if_pos (by omega), if_pos (by omega), con_rd l i hil]
  rw [rsmall]
  simp only [zP]
  by_cases hf : conFit l[i] = true
  ·have hs : small l[i].f0 = true := hf
   rw [if_pos hs, rput1 o l[i].f0 (by omega) k (by omega)]
   simp only [zP]
   rw [rput8 _ l[i].f1 (by rw [List.length_append, le_length]; omega) k (by omega)]
   simp only [zP]
   rw [show o ++ le 1 l[i].f0 ++ le 8 l[i].f1 = o ++ conEnc l[i] by unfold conEnc; rw [List.append_assoc]]
   rw [wl i (by omega), ih (i + 1) k _ (by omega) (by omega) (by rw [List.length_append]; have := con_len l[i] hf; omega)]
   rw [List.drop_eq_getElem_cons hil, List.all_cons, hf, Bool.true_and, encL_cons, List.append_assoc]
  ·have hs : ¬ small l[i].f0 = true := hf
   rw [if_neg hs]
   rw [List.drop_eq_getElem_cons hil, List.all_cons, show conFit l[i] = false by simpa using hf]
   rfl
theorem con_ref (l : List SC) (k : Nat) (hk : 3000 ≤ k) : r14_Consts.f k l = some (putM 1024 conFit conEnc l) := by
 unfold r14_Consts.f putM
 by_cases h : l.length > 1024
 ·rw [if_pos (by omega), if_pos h]
 ·rw [if_neg (by omega), if_neg h, rput2 _ k (by omega)]
  simp only [zP]
  have := rcon_loop l (by omega) l.length 0 k (le 2 (l.length : Int)) (by omega) (by omega) (by rw [le_length]; omega)
  rw [List.drop_zero] at this
  rw [show (0 : Int) = ((0 : Nat) : Int) from rfl, this]
theorem var_rd (l : List SV) (i : Nat) (h : i < l.length) : rd_T41 l (i : Int) = l[i] := by
 unfold rd_T41
 rw [Int.toNat_natCast, List.getD_eq_getElem?_getD, List.getElem?_eq_getElem h]
 rfl
theorem var_fit (x : SV) (k : Nat) (hk : 20 ≤ k) : tab_PutVars_1.f k x.f0 x.f1 x.f2 x.f3 x.f4 = some (varFit x) := by
 unfold tab_PutVars_1.f tab_named.f varFit
 simp only [zP]
 have e : decide ((x.f0.size : Int) ≤ 255) = decide (x.f0.size ≤ 255) := decide_eq_decide.2 (by omega)
 rw [e]
 by_cases h : x.f0.size ≤ 255
 ·rw [decide_eq_true h, if_pos rfl, small_f [x.f1, x.f2, x.f3] (by simp) k hk]
  simp
 ·rw [decide_eq_false h]; simp
theorem var_put (x : SV) (l : List Int) (hl : l.length ≤ 1000000) (hf : varFit x = true) : tab_PutVars_2.f l x.f0 x.f1 x.f2 x.f3 x.f4 = some (l ++ varEnc x) := by
 unfold varFit at hf
 simp only [Bool.and_eq_true, decide_eq_true_eq] at hf
 unfold tab_PutVars_2.f varEnc
 rw [textT l x.f0 (by omega) hf.1]
 simp only [zP]
 rw [put1 _ x.f1 (by simp only [List.length_append, encT_len]; omega)]
 simp only [zP]
 rw [put1 _ x.f2 (by simp only [List.length_append, encT_len, le_length]; omega)]
 simp only [zP]
 rw [put1 _ x.f3 (by simp only [List.length_append, encT_len, le_length]; omega)]
 simp only [zP]
 rw [put8 _ x.f4 (by simp only [List.length_append, encT_len, le_length]; omega)]
 simp only [zP, List.append_assoc]
theorem var_len (x : SV) (h : varFit x = true) : (varEnc x).length ≤ 300 := by
 unfold varFit at h
 simp only [Bool.and_eq_true, decide_eq_true_eq] at h
 unfold varEnc
 simp only [List.length_append, encT_len, le_length]
 omega
theorem var_loop (l : List SV) (hl : l.length ≤ 64) : ∀ (d i k : Nat) (o : List Int), i + d = l.length → 400 + d < k → o.length ≤ 2 + 300 * i → api_Var_48.l0 k o l (l.length : Int) (i : Int) = some (if (l.drop i).all varFit = true then (o ++ encL varEnc (l.drop i), true) else ([], false)) := by
 intro d
 induction d with
 | zero =>
  intro i k o h1 h2 h3
  obtain ⟨k, rfl⟩ : ∃ m, k = m + 1 := ⟨k - 1, by omega⟩
  rw [api_Var_48.l0, if_neg (by omega), List.drop_eq_nil_of_le (by omega)]
  simp [encL]
 | succ d ih =>
  intro i k o h1 h2 h3
  obtain ⟨k, rfl⟩ : ∃ m, k = m + 1 := ⟨k - 1, by omega⟩
  have hil : i < l.length := by omega
  rw [api_Var_48.l0, if_pos (by omega), if_pos (by omega), if_pos (by omega), var_rd l i hil, var_fit l[i] k (by omega)]
  simp only [zP]
  by_cases hf : varFit l[i] = true
  ·rw [if_pos hf, var_put l[i] o (by omega) hf]
   simp only [zP]
   rw [wl i (by omega), ih (i + 1) k _ (by omega) (by omega) (by rw [List.length_append]; have := var_len l[i] hf; omega)]
   rw [List.drop_eq_getElem_cons hil, List.all_cons, hf, Bool.true_and, encL_cons, List.append_assoc]
  ·rw [if_neg hf]
   rw [List.drop_eq_getElem_cons hil, List.all_cons, show varFit l[i] = false by simpa using hf]
   rfl
theorem var_prog (l : List SV) (k : Nat) (hk : 2000 ≤ k) : tab_PutVars.f k l = some (putM 64 varFit varEnc l) := by
 unfold tab_PutVars.f api_Var_48.f putM
 by_cases h : l.length > 64
 ·rw [if_pos (by omega), if_pos h]; rfl
 ·rw [if_neg (by omega), if_neg h, put2]
  simp only [zP]
  have := var_loop l (by omega) l.length 0 k (le 2 (l.length : Int)) (by omega) (by omega) (by rw [le_length]; omega)
  rw [List.drop_zero] at this
  rw [show (0 : Int) = ((0 : Nat) : Int) from rfl, this]
  simp only [zP]
theorem rvar_loop (l : List SV) (hl : l.length ≤ 64) : ∀ (d i k : Nat) (o : List Int), i + d = l.length → 400 + 2 * d < k → o.length ≤ 2 + 300 * i → r14_Vars.l0 k l o (i : Int) = some (if (l.drop i).all varFit = true then (o ++ encL varEnc (l.drop i), true) else ([], false)) := by
 intro d
 induction d with
 | zero =>
  intro i k o h1 h2 h3
  obtain ⟨k, rfl⟩ : ∃ m, k = m + 1 := ⟨k - 1, by omega⟩
  rw [r14_Vars.l0, if_neg (by omega), List.drop_eq_nil_of_le (by omega)]
  simp [encL]
 | succ d ih =>
  intro i k o h1 h2 h3
  obtain ⟨k, rfl⟩ : ∃ m, k = m + 1 := ⟨k - 1, by omega⟩
  have hil : i < l.length := by omega
  rw [r14_Vars.l0, if_pos (by omega), if_pos (by omega), var_rd l i hil]
  by_cases hz : ((l[i].f0.size : Nat) : Int) > 255
  ·rw [if_pos hz]
   have hf : ¬ varFit l[i] = true := by unfold varFit; simp; omega
   obtain ⟨k, rfl⟩ : ∃ m, k = m + 1 := ⟨k - 1, by omega⟩
   rw [r14_Vars.j1, if_pos rfl]
   rw [List.drop_eq_getElem_cons hil, List.all_cons, show varFit l[i] = false by simpa using hf]
   rfl
  ·rw [if_neg hz, rsmall]
   simp only [zP]
   by_cases hs1 : small l[i].f1 = true
   rotate_left
   ·have hf : ¬ varFit l[i] = true := by unfold varFit; simp [hs1]
    rw [if_neg hs1]
    obtain ⟨k, rfl⟩ : ∃ m, k = m + 1 := ⟨k - 1, by omega⟩
    rw [r14_Vars.j1, if_pos rfl]
    rw [List.drop_eq_getElem_cons hil, List.all_cons, show varFit l[i] = false by simpa using hf]
    rfl
   rw [if_pos hs1, rsmall]
   simp only [zP]
   by_cases hs2 : small l[i].f2 = true
   rotate_left
   ·have hf : ¬ varFit l[i] = true := by unfold varFit; simp [hs2]
    rw [if_neg hs2]
    obtain ⟨k, rfl⟩ : ∃ m, k = m + 1 := ⟨k - 1, by omega⟩
    rw [r14_Vars.j1, if_pos rfl]
    rw [List.drop_eq_getElem_cons hil, List.all_cons, show varFit l[i] = false by simpa using hf]
    rfl
   rw [if_pos hs2, rsmall]
   simp only [zP]
   by_cases hs3 : small l[i].f3 = true
   rotate_left
   ·have hf : ¬ varFit l[i] = true := by unfold varFit; simp [hs3]
    rw [show (!small l[i].f3) = true by simp [hs3]]
    obtain ⟨k, rfl⟩ : ∃ m, k = m + 1 := ⟨k - 1, by omega⟩
    rw [r14_Vars.j1, if_pos rfl]
    rw [List.drop_eq_getElem_cons hil, List.all_cons, show varFit l[i] = false by simpa using hf]
    rfl
   ·have hf : varFit l[i] = true := by unfold varFit; rw [hs1, hs2, hs3]; simp; omega
    obtain ⟨k, rfl⟩ : ∃ m, k = m + 1 := ⟨k - 1, by omega⟩
    rw [hs3, show (!true) = false from rfl, r14_Vars.j1, if_neg (by decide), rtextT o l[i].f0 (by omega) (by omega) k (by omega)]
    simp only [zP]
    rw [if_pos (by rw [List.length_append, encT_len]; simp only [List.length_cons, List.length_nil]; omega), rput8 _ l[i].f4 (by rw [List.length_append, List.length_append, encT_len]; simp only [List.length_cons, List.length_nil]; omega) k (by omega)]
    simp only [zP]
    rw [show o ++ encT l[i].f0 ++ [l[i].f1 % 256, l[i].f2 % 256, l[i].f3 % 256] ++ le 8 l[i].f4 = o ++ varEnc l[i] by unfold varEnc; simp only [List.append_assoc]; rfl]
    rw [wl i (by omega), ih (i + 1) k _ (by omega) (by omega) (by rw [List.length_append]; have := var_len l[i] hf; omega)]
    rw [List.drop_eq_getElem_cons hil, List.all_cons, hf, Bool.true_and, encL_cons, List.append_assoc]
theorem var_ref (l : List SV) (k : Nat) (hk : 3000 ≤ k) : r14_Vars.f k l = some (putM 64 varFit varEnc l) := by
 unfold r14_Vars.f putM
 by_cases h : l.length > 64
 ·rw [if_pos (by omega), if_pos h]
 ·rw [if_neg (by omega), if_neg h, rput2 _ k (by omega)]
  simp only [zP]
  have := rvar_loop l (by omega) l.length 0 k (le 2 (l.length : Int)) (by omega) (by omega) (by rw [le_length]; omega)
  rw [List.drop_zero] at this
  rw [show (0 : Int) = ((0 : Nat) : Int) from rfl, this]
end Go.Proofs.YtdbfgfgbjheibaaDoor.BPure.Tab
end

section
/- The sum of bytes as a shift register: a step by the table is eight steps by bits, and no two states become one; for states below 2^32. -/
namespace Go.Proofs.YtdbfgfgbjheibaaDoor
open Go
def r1 (n : Nat) : Nat := if n % 2 = 1 then (n / 2) ^^^ 3988292384 else n / 2
def r4 (n : Nat) : Nat := r1 (r1 (r1 (r1 n)))
theorem r1_xor (a b : Nat) : r1 (a ^^^ b) = r1 a ^^^ r1 b := by
 unfold r1
 rw [Nat.xor_div_two]
 have h := Nat.xor_mod_two_eq_one (a := a) (b := b)
 by_cases ha : a % 2 = 1 <;> by_cases hb : b % 2 = 1 <;> simp only [ha, hb] at h ⊢ <;> simp at h <;> simp [h]
 ·rw [Nat.xor_assoc, Nat.xor_comm 3988292384, Nat.xor_assoc, Nat.xor_self, Nat.xor_zero]
 ·rw [Nat.xor_assoc, Nat.xor_comm (b / 2), Nat.xor_assoc]
 ·rw [Nat.xor_assoc]
theorem r4_xor (a b : Nat) : r4 (a ^^^ b) = r4 a ^^^ r4 b := by unfold r4; simp only [r1_xor]
theorem r1_even (n : Nat) : r1 (2 * n) = n := by unfold r1; rw [if_neg (by omega)]; omega
theorem r4_even (n : Nat) : r4 (16 * n) = n := by
 unfold r4
 rw [show 16 * n = 2 * (2 * (2 * (2 * n))) by omega, r1_even, r1_even, r1_even, r1_even]
theorem r1_lt (n : Nat) (h : n < 4294967296) : r1 n < 4294967296 := by
 unfold r1
 split
 ·exact Nat.xor_lt_two_pow (n := 32) (by omega) (by decide)
 ·omega
theorem r4_lt (n : Nat) (h : n < 4294967296) : r4 n < 4294967296 := r1_lt _ (r1_lt _ (r1_lt _ (r1_lt _ h)))
theorem tab_r4 (r : Nat) (h : r < 16) : tab.getD r 0 = (r4 r : Int) := by
 rcases (by omega : r = 0 ∨ r = 1 ∨ r = 2 ∨ r = 3 ∨ r = 4 ∨ r = 5 ∨ r = 6 ∨ r = 7 ∨ r = 8 ∨ r = 9 ∨ r = 10 ∨ r = 11 ∨ r = 12 ∨ r = 13 ∨ r = 14 ∨ r = 15) with rfl | rfl | rfl | rfl | rfl | rfl | rfl | rfl | rfl | rfl | rfl | rfl | rfl | rfl | rfl | rfl <;> decide +kernel
theorem parts16 (s : Nat) : s = (16 * (s / 16)) ^^^ (s % 16) := by
 apply Nat.eq_of_testBit_eq
 intro i
 rw [Nat.testBit_xor, show 16 * (s / 16) = 2 ^ 4 * (s / 2 ^ 4) from rfl, show s % 16 = s % 2 ^ 4 from rfl, Nat.testBit_mod_two_pow, Nat.testBit_two_pow_mul, Nat.testBit_div_two_pow]
 by_cases h : i < 4
 ·simp [h, show ¬ 4 ≤ i by omega]
 ·simp [h, show 4 ≤ i by omega, show i - 4 + 4 = i by omega]
theorem halfStep_nat (s : Nat) (h : s < 4294967296) : halfStep (s : Int) = (r4 s : Int) := by
 unfold halfStep
 have e1 : Go.bits .and .u32 (s : Int) 15 = ((s % 16 : Nat) : Int) := by
  rw [u32_and _ _ (by omega) (by omega) (by decide) (by decide)]
  have : (15 : Int).toNat = 2 ^ 4 - 1 := rfl
  rw [this, Int.toNat_natCast, Nat.and_two_pow_sub_one_eq_mod]
 rw [e1, Int.toNat_natCast, tab_r4 _ (Nat.mod_lt _ (by decide))]
 have e2 : (s : Int) / 16 = ((s / 16 : Nat) : Int) := by omega
 rw [e2, u32_xor_nat _ _ (by omega) (r4_lt _ (by omega))]
 congr 1
 have := parts16 s
 conv => rhs; rw [this]
 rw [r4_xor, r4_even]
theorem stepF_nat (s c : Nat) (h : s < 4294967296) (hc : c < 4294967296) : stepF (s : Int) (c : Int) = (r4 (r4 (s ^^^ c)) : Int) := by
 unfold stepF
 have hx : s ^^^ c < 4294967296 := Nat.xor_lt_two_pow (n := 32) (by omega) (by omega)
 rw [u32_xor_nat _ _ h hc, halfStep_nat _ hx, halfStep_nat _ (r4_lt _ hx)]
end Go.Proofs.YtdbfgfgbjheibaaDoor
end

section
/- The document's sum of bytes tells what the program's does, over the texts of the container. -/
namespace Go.Proofs.YtdbfgfgbjheibaaDoor.BPure
open Go Go.RowKit Go.Proofs.YtdbfgfgbjheibaaDoor Go.Proofs.YtdbfgfgbjheibaaDoor.PBx Go.Proofs.YtdbfgfgbjheibaaDoor.Given Go.Proofs.YtdbfgfgbjheibaaDoorW.PrintWords Go.Proofs.YtdbfgfgbjheibaaDoorW.PrintLast Go.Proofs.YtdbfgfgbjheibaaDoorW.PrintMore
set_option linter.unusedVariables false
set_option linter.unusedSimpArgs false
def rs : Nat → Nat → Nat
 | 0, s => s
 | n + 1, s => rs n (r1 s)
theorem ref_bits : ∀ (d k : Nat) (s : Nat) (j : Nat), s < 4294967296 → j + d = 8 → d < k → r02_Next.l0 k (s : Int) (j : Int) = some (rs d s : Int)
 | 0, k, s, j, hs, hj, hk => by
  obtain ⟨k, rfl⟩ : ∃ m, k = m + 1 := ⟨k - 1, by omega⟩
  simp only [r02_Next.l0]
  rw [if_neg (by omega)]
  rfl
 | d + 1, k, s, j, hs, hj, hk => by
  obtain ⟨k, rfl⟩ : ∃ m, k = m + 1 := ⟨k - 1, by omega⟩
  simp only [r02_Next.l0]
  rw [if_pos (by omega)]
  have e1 : Int.tmod (s : Int) 2 = ((s % 2 : Nat) : Int) := by rw [Int.tmod_eq_emod_of_nonneg (by omega)]; omega
  have e2 : Int.tdiv (s : Int) 2 % 4294967296 = ((s / 2 : Nat) : Int) := by rw [Int.tdiv_eq_ediv_of_nonneg (by omega)]; omega
  have e3 : wrap64 ((j : Int) + 1) = ((j + 1 : Nat) : Int) := by unfold wrap64; omega
  have ih := ref_bits d k (r1 s) (j + 1) (r1_lt s hs) (by omega) (by omega)
  rw [e1, e2, e3]
  unfold rs
  rw [← ih]
  by_cases h : s % 2 = 1
  ·rw [if_pos (by omega), show (3988292384 : Int) = ((3988292384 : Nat) : Int) from rfl, u32_xor_nat _ _ (by omega) (by decide)]
   congr 2
   unfold r1
   rw [if_pos h]
  ·rw [if_neg (by omega)]
   congr 2
   unfold r1
   rw [if_neg h]
theorem ref_next (s c : Int) (hs : 0 ≤ s ∧ s < 4294967296) (hc : 0 ≤ c ∧ c < 256) (k : Nat) (hk : 9 ≤ k) : r02_Next.f k s c = some (stepF s c) := by
 obtain ⟨s, rfl⟩ := Int.eq_ofNat_of_zero_le hs.1
 obtain ⟨c, rfl⟩ := Int.eq_ofNat_of_zero_le hc.1
 unfold r02_Next.f
 rw [show (c : Int) % 4294967296 = (c : Int) by omega, u32_xor_nat _ _ (by omega) (by omega), stepF_nat _ _ (by omega) (by omega)]
 exact ref_bits 8 k _ 0 (Nat.xor_lt_two_pow (n := 32) (by omega) (by omega)) rfl (by omega)
theorem ref_over (l : List Int) (hl : ∀ a ∈ l, 0 ≤ a ∧ a < 256) (hb : l.length ≤ 1000000) : ∀ (d k j : Nat) (s : Int), 0 ≤ s ∧ s < 4294967296 → j + d = l.length → d + 9 < k → r02_Over.l0 k s l (j : Int) = some (overF s (l.drop j))
 | 0, k, j, s, hs, hj, hk => by
  obtain ⟨k, rfl⟩ : ∃ m, k = m + 1 := ⟨k - 1, by omega⟩
  simp only [r02_Over.l0]
  rw [if_neg (by omega), List.drop_eq_nil_of_le (by omega)]
  rfl
 | d + 1, k, j, s, hs, hj, hk => by
  obtain ⟨k, rfl⟩ : ∃ m, k = m + 1 := ⟨k - 1, by omega⟩
  have hlt : j < l.length := by omega
  have hrd : rd l (j : Int) = l[j] := by simp [rd, List.getD_eq_getElem?_getD, hlt]
  have e3 : wrap64 ((j : Int) + 1) = ((j + 1 : Nat) : Int) := by unfold wrap64; omega
  simp only [r02_Over.l0]
  rw [if_pos (by omega), if_pos (by omega), hrd, ref_next s l[j] hs (hl _ (List.getElem_mem hlt)) k (by omega)]
  simp only [zP]
  rw [e3, ref_over l hl hb d k (j + 1) _ (stepF_lim s _) (by omega) (by omega), List.drop_eq_getElem_cons hlt]
  rfl
theorem ref_of (l : List Int) (hl : ∀ a ∈ l, 0 ≤ a ∧ a < 256) (hb : l.length ≤ 1000000) (k : Nat) (hk : l.length + 9 < k) : r02_Of.f k l = some (4294967295 - overF 4294967295 l) := by
 unfold r02_Of.f r02_Over.f
 have := ref_over l hl hb l.length k 0 4294967295 (by decide) (by omega) hk
 rw [List.drop_zero] at this
 rw [show (0 : Int) = ((0 : Nat) : Int) from rfl, this, zP]
 have h := overF_lim 4294967295 (by decide) l
 congr 1
 omega
end Go.Proofs.YtdbfgfgbjheibaaDoor.BPure
end

section
/- Units, plainly, over the texts of the container: whether two are the same. -/
namespace Go.Proofs.YtdbfgfgbjheibaaDoor.BPure
open Go Go.RowKit Go.Proofs.YtdbfgfgbjheibaaDoor Go.Proofs.YtdbfgfgbjheibaaDoor.PBx Go.Proofs.YtdbfgfgbjheibaaDoor.Given Go.Proofs.YtdbfgfgbjheibaaDoorW.PrintWords Go.Proofs.YtdbfgfgbjheibaaDoorW.PrintLast Go.Proofs.YtdbfgfgbjheibaaDoorW.PrintMore
set_option linter.unusedVariables false
set_option linter.unusedSimpArgs false
def sameI : List Int → List Int → Bool
 | [], [] => true
 | x :: s, y :: t => (x == y) && sameI s t
 | _, _ => false
def eq3 (x y : S109) : Bool := x.f0 == y.f0 && (x.f1 == y.f1 && x.f2 == y.f2)
def sameC : List S109 → List S109 → Bool
 | [], [] => true
 | x :: s, y :: t => eq3 x y && sameC s t
 | _, _ => false
theorem sameI_self : ∀ l, sameI l l = true
 | [] => rfl
 | x :: t => by unfold sameI; rw [sameI_self t]; simp
theorem sameC_self : ∀ l, sameC l l = true
 | [] => rfl
 | x :: t => by unfold sameC eq3; rw [sameC_self t]; simp
theorem sameI_len : ∀ a b : List Int, a.length ≠ b.length → sameI a b = false
 | [], [], h => absurd rfl h
 | [], _ :: _, _ => rfl
 | _ :: _, [], _ => rfl
 | x :: s, y :: t, h => by unfold sameI; rw [sameI_len s t (by simpa using h)]; simp
theorem sameC_len : ∀ a b : List S109, a.length ≠ b.length → sameC a b = false
 | [], [], h => absurd rfl h
 | [], _ :: _, _ => rfl
 | _ :: _, [], _ => rfl
 | x :: s, y :: t, h => by unfold sameC; rw [sameC_len s t (by simpa using h)]; simp
theorem ints_l0 (a b : List Int) (hz : a.length ≤ 100000) (hl : a.length = b.length) : ∀ (d i k : Nat), i + d = a.length → d < k → r15_Ints.l0 k a b (i : Int) = some (sameI (a.drop i) (b.drop i)) := by
 intro d
 induction d with
 | zero =>
  intro i k h1 h2
  obtain ⟨k, rfl⟩ : ∃ m, k = m + 1 := ⟨k - 1, by omega⟩
  unfold r15_Ints.l0
  rw [if_neg (by omega), List.drop_eq_nil_of_le (by omega), List.drop_eq_nil_of_le (by omega)]; rfl
 | succ d ih =>
  intro i k h1 h2
  obtain ⟨k, rfl⟩ : ∃ m, k = m + 1 := ⟨k - 1, by omega⟩
  unfold r15_Ints.l0
  rw [if_pos (by omega), if_pos (by omega), if_pos (by omega), rd_drop a i (by omega), rd_drop b i (by omega)]
  generalize rd a (i : Int) = x
  generalize rd b (i : Int) = y
  unfold sameI
  by_cases h : x = y
  ·rw [if_pos h, w64 _ (by omega) (by omega), beq_iff_eq.2 h, Bool.true_and]
   exact ih (i + 1) k (by omega) (by omega)
  ·rw [if_neg h, beq_eq_false_iff_ne.2 h]; rfl
theorem ints_is (a b : List Int) (hz : a.length ≤ 100000) (k : Nat) (hk : a.length < k) : r15_Ints.f k a b = some (sameI a b) := by
 unfold r15_Ints.f
 by_cases h : (a.length : Int) = (b.length : Int)
 ·rw [if_pos h]
  exact ints_l0 a b hz (by omega) a.length 0 k (by omega) hk
 ·rw [if_neg h, sameI_len a b (by omega)]
theorem likei_l0 (a b : List Int) (hz : a.length ≤ 100000) (hl : a.length = b.length) : ∀ (d i k : Nat), i + d = a.length → d < k → unit_like_int.l0 k a b (a.length : Int) (i : Int) = some (sameI (a.drop i) (b.drop i)) := by
 intro d
 induction d with
 | zero =>
  intro i k h1 h2
  obtain ⟨k, rfl⟩ : ∃ m, k = m + 1 := ⟨k - 1, by omega⟩
  unfold unit_like_int.l0
  rw [if_neg (by omega), List.drop_eq_nil_of_le (by omega), List.drop_eq_nil_of_le (by omega)]; rfl
 | succ d ih =>
  intro i k h1 h2
  obtain ⟨k, rfl⟩ : ∃ m, k = m + 1 := ⟨k - 1, by omega⟩
  unfold unit_like_int.l0
  rw [if_pos (by omega), if_pos (by omega), if_pos (by omega), if_pos (by omega), rd_drop a i (by omega), rd_drop b i (by omega)]
  generalize rd a (i : Int) = x
  generalize rd b (i : Int) = y
  unfold sameI
  by_cases h : x = y
  ·rw [if_pos h, w64 _ (by omega) (by omega), beq_iff_eq.2 h, Bool.true_and]
   exact ih (i + 1) k (by omega) (by omega)
  ·rw [if_neg h, beq_eq_false_iff_ne.2 h]; rfl
theorem likei_is (a b : List Int) (hz : a.length ≤ 100000) (k : Nat) (hk : a.length < k) : unit_like_int.f k a b = some (sameI a b) := by
 unfold unit_like_int.f
 by_cases h : (a.length : Int) = (b.length : Int)
 ·rw [if_pos h]
  exact likei_l0 a b hz (by omega) a.length 0 k (by omega) hk
 ·rw [if_neg h, sameI_len a b (by omega)]
theorem same13_l0 (a b : List S109) (hz : a.length ≤ 100000) (hl : a.length = b.length) : ∀ (d i k : Nat), i + d = a.length → d < k → r13_Same.l0 k a b (i : Int) = some (sameC (a.drop i) (b.drop i)) := by
 intro d
 induction d with
 | zero =>
  intro i k h1 h2
  obtain ⟨k, rfl⟩ : ∃ m, k = m + 1 := ⟨k - 1, by omega⟩
  unfold r13_Same.l0
  rw [if_neg (by omega), List.drop_eq_nil_of_le (by omega), List.drop_eq_nil_of_le (by omega)]; rfl
 | succ d ih =>
  intro i k h1 h2
  obtain ⟨k, rfl⟩ : ∃ m, k = m + 1 := ⟨k - 1, by omega⟩
  unfold r13_Same.l0
  rw [if_pos (by omega), if_pos (by omega), if_pos (by omega), rd47_drop a i (by omega), rd47_drop b i (by omega)]
  generalize rd_T109 a (i : Int) = x
  generalize rd_T109 b (i : Int) = y
  have e : (!(x.f0 == y.f0) || (!(x.f1 == y.f1) || !(x.f2 == y.f2))) = !eq3 x y := by
   unfold eq3
   cases x.f0 == y.f0 <;> cases x.f1 == y.f1 <;> cases x.f2 == y.f2 <;> rfl
  rw [e]
  unfold sameC
  by_cases h : eq3 x y = true
  ·rw [if_neg (by rw [h]; simp), w64 _ (by omega) (by omega), h, Bool.true_and]
   exact ih (i + 1) k (by omega) (by omega)
  ·rw [show eq3 x y = false by simpa using h]; rfl
theorem same13_is (a b : List S109) (hz : a.length ≤ 100000) (k : Nat) (hk : a.length < k) : r13_Same.f k a b = some (sameC a b) := by
 unfold r13_Same.f
 by_cases h : (a.length : Int) = (b.length : Int)
 ·rw [if_pos h]
  exact same13_l0 a b hz (by omega) a.length 0 k (by omega) hk
 ·rw [if_neg h, sameC_len a b (by omega)]
theorem likec_l0 (a b : List S109) (hz : a.length ≤ 100000) (hl : a.length = b.length) : ∀ (d i k : Nat), i + d = a.length → d < k → api_Instr.l0 k a b (a.length : Int) (i : Int) = some (sameC (a.drop i) (b.drop i)) := by
 intro d
 induction d with
 | zero =>
  intro i k h1 h2
  obtain ⟨k, rfl⟩ : ∃ m, k = m + 1 := ⟨k - 1, by omega⟩
  unfold api_Instr.l0
  rw [if_neg (by omega), List.drop_eq_nil_of_le (by omega), List.drop_eq_nil_of_le (by omega)]; rfl
 | succ d ih =>
  intro i k h1 h2
  obtain ⟨k, rfl⟩ : ∃ m, k = m + 1 := ⟨k - 1, by omega⟩
  unfold api_Instr.l0
  rw [if_pos (by omega), if_pos (by omega), if_pos (by omega), if_pos (by omega), rd47_drop a i (by omega), rd47_drop b i (by omega)]
  generalize rd_T109 a (i : Int) = x
  generalize rd_T109 b (i : Int) = y
  have e : (!(x.f0 == y.f0) || (!(x.f1 == y.f1) || !(x.f2 == y.f2))) = !eq3 x y := by
   unfold eq3
   cases x.f0 == y.f0 <;> cases x.f1 == y.f1 <;> cases x.f2 == y.f2 <;> rfl
  rw [e]
  unfold sameC
  by_cases h : eq3 x y = true
  ·rw [if_neg (by rw [h]; simp), w64 _ (by omega) (by omega), h, Bool.true_and]
   exact ih (i + 1) k (by omega) (by omega)
  ·rw [show eq3 x y = false by simpa using h]; rfl
theorem likec_is (a b : List S109) (hz : a.length ≤ 100000) (k : Nat) (hk : a.length < k) : api_Instr.f k a b = some (sameC a b) := by
 unfold api_Instr.f
 by_cases h : (a.length : Int) = (b.length : Int)
 ·rw [if_pos h]
  exact likec_l0 a b hz (by omega) a.length 0 k (by omega) hk
 ·rw [if_neg h, sameC_len a b (by omega)]
def sameU (n : ByteArray) (P : List Int) (R : Int) (L : List Int) (C : List S109) (n' : ByteArray) (P' : List Int) (R' : Int) (L' : List Int) (C' : List S109) : Bool := decide (n.toList = n'.toList) && decide (R = R') && sameI P P' && sameI L L' && sameC C C'
theorem same_is (n : ByteArray) (P : List Int) (R : Int) (L : List Int) (C : List S109) (n' : ByteArray) (P' : List Int) (R' : Int) (L' : List Int) (C' : List S109) (hP : P.length ≤ 10000) (hL : L.length ≤ 10000) (hC : C.length ≤ 10000) (k : Nat) (hk : 10001 ≤ k) : unit_Same.f k n P R L C n' P' R' L' C' = some (sameU n P R L C n' P' R' L' C') := by
 unfold unit_Same.f sameU
 by_cases h1 : n.toList = n'.toList
 ·rw [if_pos h1, decide_eq_true h1, Bool.true_and]
  by_cases h2 : R = R'
  ·rw [if_pos h2, decide_eq_true h2, Bool.true_and, likei_is P P' (by omega) k (by omega), zP, likei_is L L' (by omega) k (by omega), zP, likec_is C C' (by omega) k (by omega), zP]
   cases sameI P P' <;> cases sameI L L' <;> simp
  ·rw [if_neg h2, decide_eq_false h2]; simp
 ·rw [if_neg h1, decide_eq_false h1]; simp
theorem rsame_is (n : ByteArray) (P : List Int) (R : Int) (L : List Int) (C : List S109) (n' : ByteArray) (P' : List Int) (R' : Int) (L' : List Int) (C' : List S109) (hP : P.length ≤ 10000) (hL : L.length ≤ 10000) (hC : C.length ≤ 10000) (k : Nat) (hk : 10001 ≤ k) : r15_Same.f k n P R L C n' P' R' L' C' = some (sameU n P R L C n' P' R' L' C') := by
 unfold r15_Same.f sameU
 by_cases h1 : n.toList = n'.toList
 ·rw [if_pos h1, decide_eq_true h1, Bool.true_and]
  by_cases h2 : R = R'
  ·rw [if_pos h2, decide_eq_true h2, Bool.true_and, ints_is P P' (by omega) k (by omega), zP, ints_is L L' (by omega) k (by omega), zP, same13_is C C' (by omega) k (by omega), zP]
   cases sameI P P' <;> cases sameI L L' <;> simp
  ·rw [if_neg h2, decide_eq_false h2]; simp
 ·rw [if_neg h1, decide_eq_false h1]; simp
theorem sameU_self (n : ByteArray) (P : List Int) (R : Int) (L : List Int) (C : List S109) : sameU n P R L C n P R L C = true := by
 unfold sameU
 rw [sameI_self, sameI_self, sameC_self]; simp
end Go.Proofs.YtdbfgfgbjheibaaDoor.BPure
end

section
/- What a short program is, over the texts of the container. -/
namespace Go.Proofs.YtdbfgfgbjheibaaDoor.BPure
open Go Go.RowKit Go.Proofs.YtdbfgfgbjheibaaDoor Go.Proofs.YtdbfgfgbjheibaaDoor.PBx Go.Proofs.YtdbfgfgbjheibaaDoor.Given Go.Proofs.YtdbfgfgbjheibaaDoorW.PrintWords Go.Proofs.YtdbfgfgbjheibaaDoorW.PrintLast Go.Proofs.YtdbfgfgbjheibaaDoorW.PrintMore
set_option linter.unusedVariables false
set_option linter.unusedSimpArgs false
/-- A unit's parts are few. -/
def Ok (U : LU) : Prop := ∀ X ∈ U, X.f0.size ≤ 300 ∧ X.f1.length ≤ 20 ∧ X.f3.length ≤ 1100 ∧ X.f4.length ≤ 300
theorem few15 (X : S48) : ∃ b, w15_Few.f X.f0 X.f1 X.f2 X.f3 X.f4 = some b ∧ (b = true → X.f0.size ≤ 300 ∧ X.f1.length ≤ 20 ∧ X.f3.length ≤ 1100 ∧ X.f4.length ≤ 300) := by
 unfold w15_Few.f
 by_cases h1 : (X.f0.size : Int) ≤ 300
 ·rw [if_pos h1]
  by_cases h2 : (X.f1.length : Int) ≤ 20
  ·rw [if_pos h2]
   by_cases h3 : (X.f3.length : Int) ≤ 1100
   ·rw [if_pos h3]
    exact ⟨_, rfl, fun h => by simp at h; omega⟩
   ·rw [if_neg h3]; exact ⟨_, rfl, fun h => by cases h⟩
  ·rw [if_neg h2]; exact ⟨_, rfl, fun h => by cases h⟩
 ·rw [if_neg h1]; exact ⟨_, rfl, fun h => by cases h⟩
theorem rd_unit_at (U : LU) (j : Nat) (h : j < U.length) : rd_T48 U (j : Int) = U[j] := by
 unfold rd_T48
 rw [Int.toNat_natCast, List.getD_eq_getElem?_getD, List.getElem?_eq_getElem h]; rfl
theorem few_l2 (C : LC) (V : LV) (B : LB) (U : LU) (hl : U.length ≤ 10) : ∀ m j : Nat, j + m = U.length → ∃ b, (∀ k, m + 1 ≤ k → w16_Few.l2 k (j : Int) C V B U = some b) ∧ (b = true → ∀ i (hi : i < U.length), j ≤ i → U[i].f0.size ≤ 300 ∧ U[i].f1.length ≤ 20 ∧ U[i].f3.length ≤ 1100 ∧ U[i].f4.length ≤ 300) := by
 intro m
 induction m with
 | zero =>
  intro j hj
  refine ⟨true, fun k hk => ?_, fun _ i hi h => by omega⟩
  obtain ⟨k, rfl⟩ : ∃ m, k = m + 1 := ⟨k - 1, by omega⟩
  rw [w16_Few.l2, if_neg (by omega)]
 | succ m ih =>
  intro j hj
  have hlt : j < U.length := by omega
  obtain ⟨b1, e1, f1⟩ := few15 U[j]
  obtain ⟨b2, e2, f2⟩ := ih (j + 1) (by omega)
  refine ⟨b1 && b2, fun k hk => ?_, fun h i hi hji => ?_⟩
  ·obtain ⟨k, rfl⟩ : ∃ m, k = m + 1 := ⟨k - 1, by omega⟩
   rw [w16_Few.l2, if_pos (by omega), if_pos (by omega), rd_unit_at U j hlt, e1, zP]
   cases b1 with
   | true => rw [if_pos rfl, w64 _ (by omega) (by omega)]; exact e2 k (by omega)
   | false => rfl
  ·rw [Bool.and_eq_true] at h
   rcases Nat.lt_or_ge j i with h1 | h1
   ·exact f2 h.2 i hi h1
   ·obtain rfl : i = j := by omega
    exact f1 h.1
theorem few_l1 (C : LC) (V : LV) (B : LB) (U : LU) (hl : U.length ≤ 10) (hB : B.length ≤ 40) : ∀ m j : Nat, j + m = B.length → ∃ b, (∀ k, m + 20 ≤ k → w16_Few.l1 k (j : Int) C V B U = some b) ∧ (b = true → Ok U) := by
 intro m
 induction m with
 | zero =>
  intro j hj
  obtain ⟨b, e, f⟩ := few_l2 C V B U hl U.length 0 (by omega)
  refine ⟨b, fun k hk => ?_, fun h X hX => ?_⟩
  ·obtain ⟨k, rfl⟩ : ∃ m, k = m + 1 := ⟨k - 1, by omega⟩
   rw [w16_Few.l1, if_neg (by omega)]
   exact e k (by omega)
  ·obtain ⟨i, hi, rfl⟩ := List.getElem_of_mem hX
   exact f h i hi (Nat.zero_le _)
 | succ m ih =>
  intro j hj
  obtain ⟨b2, e2, f2⟩ := ih (j + 1) (by omega)
  by_cases hs : (((rd_T43 B (j : Int)).f0).size : Int) > 300
  ·refine ⟨false, fun k hk => ?_, fun h => by cases h⟩
   obtain ⟨k, rfl⟩ : ∃ m, k = m + 1 := ⟨k - 1, by omega⟩
   rw [w16_Few.l1, if_pos (by omega), if_pos (by omega), if_pos hs]
  ·refine ⟨b2, fun k hk => ?_, f2⟩
   obtain ⟨k, rfl⟩ : ∃ m, k = m + 1 := ⟨k - 1, by omega⟩
   rw [w16_Few.l1, if_pos (by omega), if_pos (by omega), if_neg hs, w64 _ (by omega) (by omega)]
   exact e2 k (by omega)
theorem few_l0 (C : LC) (V : LV) (B : LB) (U : LU) (hl : U.length ≤ 10) (hB : B.length ≤ 40) (hV : V.length ≤ 70) : ∀ m j : Nat, j + m = V.length → ∃ b, (∀ k, m + 70 ≤ k → w16_Few.l0 k (j : Int) C V B U = some b) ∧ (b = true → Ok U) := by
 intro m
 induction m with
 | zero =>
  intro j hj
  obtain ⟨b, e, f⟩ := few_l1 C V B U hl hB B.length 0 (by omega)
  refine ⟨b, fun k hk => ?_, f⟩
  obtain ⟨k, rfl⟩ : ∃ m, k = m + 1 := ⟨k - 1, by omega⟩
  rw [w16_Few.l0, if_neg (by omega)]
  exact e k (by omega)
 | succ m ih =>
  intro j hj
  obtain ⟨b2, e2, f2⟩ := ih (j + 1) (by omega)
  by_cases hs : (((rd_T41 V (j : Int)).f0).size : Int) > 300
  ·refine ⟨false, fun k hk => ?_, fun h => by cases h⟩
   obtain ⟨k, rfl⟩ : ∃ m, k = m + 1 := ⟨k - 1, by omega⟩
   rw [w16_Few.l0, if_pos (by omega), if_pos (by omega), if_pos hs]
  ·refine ⟨b2, fun k hk => ?_, f2⟩
   obtain ⟨k, rfl⟩ : ∃ m, k = m + 1 := ⟨k - 1, by omega⟩
   rw [w16_Few.l0, if_pos (by omega), if_pos (by omega), if_neg hs, w64 _ (by omega) (by omega)]
   exact e2 k (by omega)
theorem few_is (C : LC) (V : LV) (B : LB) (U : LU) : ∃ b, (∀ k, 200 ≤ k → w16_Few.f k C V B U = some b) ∧ (b = true → Ok U ∧ U.length ≤ 10 ∧ C.length ≤ 60 ∧ V.length ≤ 70 ∧ B.length ≤ 40) := by
 have hj : ∀ k, 1 ≤ k → w16_Few.j0 k true C V B U = some false := fun k hk => by
  obtain ⟨k, rfl⟩ : ∃ m, k = m + 1 := ⟨k - 1, by omega⟩
  rw [w16_Few.j0, if_pos rfl]
 by_cases h1 : (C.length : Int) > 60
 ·exact ⟨false, fun k hk => by unfold w16_Few.f; rw [if_pos h1]; exact hj k (by omega), fun h => by cases h⟩
 by_cases h2 : (V.length : Int) > 70
 ·exact ⟨false, fun k hk => by unfold w16_Few.f; rw [if_neg h1, if_pos h2]; exact hj k (by omega), fun h => by cases h⟩
 by_cases h3 : (B.length : Int) > 40
 ·exact ⟨false, fun k hk => by unfold w16_Few.f; rw [if_neg h1, if_neg h2, if_pos h3]; exact hj k (by omega), fun h => by cases h⟩
 by_cases h4 : (U.length : Int) > 10
 ·exact ⟨false, fun k hk => by unfold w16_Few.f; rw [if_neg h1, if_neg h2, if_neg h3, decide_eq_true h4]; exact hj k (by omega), fun h => by cases h⟩
 obtain ⟨b, e, f⟩ := few_l0 C V B U (by omega) (by omega) (by omega) V.length 0 (by omega)
 refine ⟨b, fun k hk => ?_, fun h => ⟨f h, by omega, by omega, by omega, by omega⟩⟩
 obtain ⟨k, rfl⟩ : ∃ m, k = m + 1 := ⟨k - 1, by omega⟩
 unfold w16_Few.f
 rw [if_neg h1, if_neg h2, if_neg h3, decide_eq_false h4, w16_Few.j0, if_neg (by decide)]
 exact e k (by omega)
end Go.Proofs.YtdbfgfgbjheibaaDoor.BPure
end

section
/- Whether two programs are the same, plainly: the program's and the document's tell the same. -/
namespace Go.Proofs.YtdbfgfgbjheibaaDoor.BPure
open Go Go.RowKit Go.Proofs.YtdbfgfgbjheibaaDoor Go.Proofs.YtdbfgfgbjheibaaDoor.PBx Go.Proofs.YtdbfgfgbjheibaaDoor.Given Go.Proofs.YtdbfgfgbjheibaaDoorW.PrintWords Go.Proofs.YtdbfgfgbjheibaaDoorW.PrintLast Go.Proofs.YtdbfgfgbjheibaaDoorW.PrintMore
set_option linter.unusedVariables false
set_option linter.unusedSimpArgs false
def sameL {α : Type} (e : α → α → Bool) : List α → List α → Bool
 | [], [] => true
 | x :: s, y :: t => e x y && sameL e s t
 | _, _ => false
theorem sameL_len {α : Type} (e : α → α → Bool) : ∀ a b : List α, a.length ≠ b.length → sameL e a b = false
 | [], [], h => absurd rfl h
 | [], _ :: _, _ => rfl
 | _ :: _, [], _ => rfl
 | x :: s, y :: t, h => by
  unfold sameL
  rw [sameL_len e s t (by simpa using h), Bool.and_false]
theorem sameL_self {α : Type} (e : α → α → Bool) (h : ∀ x, e x x = true) : ∀ a : List α, sameL e a a = true
 | [] => rfl
 | x :: s => by unfold sameL; rw [h x, sameL_self e h s]; rfl
def con_eq (x y : S68) : Bool := ((x.f0 == y.f0) && (x.f1 == y.f1))
theorem con_eq_self (x : S68) : con_eq x x = true := by unfold con_eq; simp
theorem con_drop (l : List S68) (i : Nat) (h : i < l.length) : l.drop i = rd_T68 l (i : Int) :: l.drop (i + 1) := by
 have : rd_T68 l (i : Int) = l[i] := by
  unfold rd_T68
  rw [Int.toNat_natCast, List.getD_eq_getElem?_getD, List.getElem?_eq_getElem h]; rfl
 rw [this]
 exact List.drop_eq_getElem_cons h
theorem con_like_l0 (a b : List S68) (hz : a.length ≤ 100000) (hl : a.length = b.length) : ∀ (d i k : Nat), i + d = a.length → d < k → api_Const_37.l0 k a b (a.length : Int) (i : Int) = some (sameL con_eq (a.drop i) (b.drop i)) := by
 intro d
 induction d with
 | zero =>
  intro i k h1 h2
  obtain ⟨k, rfl⟩ : ∃ m, k = m + 1 := ⟨k - 1, by omega⟩
  unfold api_Const_37.l0
  rw [if_neg (by omega), List.drop_eq_nil_of_le (by omega), List.drop_eq_nil_of_le (by omega)]; rfl
 | succ d ih =>
  intro i k h1 h2
  obtain ⟨k, rfl⟩ : ∃ m, k = m + 1 := ⟨k - 1, by omega⟩
  unfold api_Const_37.l0
  rw [if_pos (by omega), if_pos (by omega), if_pos (by omega), if_pos (by omega), con_drop a i (by omega), con_drop b i (by omega)]
  generalize rd_T68 a (i : Int) = x
  generalize rd_T68 b (i : Int) = y
  have e : (!(x.f0 == y.f0) || (!(x.f1 == y.f1))) = !con_eq x y := by
   unfold con_eq
   cases x.f0 == y.f0 <;> cases x.f1 == y.f1 <;> rfl
  rw [e]
  unfold sameL
  by_cases h : con_eq x y = true
  ·rw [if_neg (by rw [h]; simp), w64 _ (by omega) (by omega), h, Bool.true_and]
   exact ih (i + 1) k (by omega) (by omega)
  ·rw [show con_eq x y = false by simpa using h]; rfl
theorem con_like_is (a b : List S68) (hz : a.length ≤ 100000) (k : Nat) (hk : a.length < k) : api_Const_37.f k a b = some (sameL con_eq a b) := by
 unfold api_Const_37.f
 by_cases h : (a.length : Int) = (b.length : Int)
 ·rw [if_pos h]
  exact con_like_l0 a b hz (by omega) a.length 0 k (by omega) hk
 ·rw [if_neg h, sameL_len _ a b (by omega)]
theorem con_rsame_l0 (a b : List S68) (hz : a.length ≤ 100000) (hl : a.length = b.length) : ∀ (d i k : Nat), i + d = a.length → d < k → r14_SameConsts.l0 k a b (i : Int) = some (sameL con_eq (a.drop i) (b.drop i)) := by
 intro d
 induction d with
 | zero =>
  intro i k h1 h2
  obtain ⟨k, rfl⟩ : ∃ m, k = m + 1 := ⟨k - 1, by omega⟩
  unfold r14_SameConsts.l0
  rw [if_neg (by omega), List.drop_eq_nil_of_le (by omega), List.drop_eq_nil_of_le (by omega)]; rfl
 | succ d ih =>
  intro i k h1 h2
  obtain ⟨k, rfl⟩ : ∃ m, k = m + 1 := ⟨k - 1, by omega⟩
  unfold r14_SameConsts.l0
  rw [if_pos (by omega), if_pos (by omega), if_pos (by omega), con_drop a i (by omega), con_drop b i (by omega)]
  generalize rd_T68 a (i : Int) = x
  generalize rd_T68 b (i : Int) = y
  have e : (!(x.f0 == y.f0) || (!(x.f1 == y.f1))) = !con_eq x y := by
   unfold con_eq
   cases x.f0 == y.f0 <;> cases x.f1 == y.f1 <;> rfl
  rw [e]
  unfold sameL
  by_cases h : con_eq x y = true
  ·rw [if_neg (by rw [h]; simp), w64 _ (by omega) (by omega), h, Bool.true_and]
   exact ih (i + 1) k (by omega) (by omega)
  ·rw [show con_eq x y = false by simpa using h]; rfl
theorem con_rsame_is (a b : List S68) (hz : a.length ≤ 100000) (k : Nat) (hk : a.length < k) : r14_SameConsts.f k a b = some (sameL con_eq a b) := by
 unfold r14_SameConsts.f
 by_cases h : (a.length : Int) = (b.length : Int)
 ·rw [if_pos h]
  exact con_rsame_l0 a b hz (by omega) a.length 0 k (by omega) hk
 ·rw [if_neg h, sameL_len _ a b (by omega)]
def var_eq (x y : S41) : Bool := (((x.f0).toList == (y.f0).toList) && ((x.f1 == y.f1) && ((x.f2 == y.f2) && ((x.f3 == y.f3) && (x.f4 == y.f4)))))
theorem var_eq_self (x : S41) : var_eq x x = true := by unfold var_eq; simp
theorem var_drop (l : List S41) (i : Nat) (h : i < l.length) : l.drop i = rd_T41 l (i : Int) :: l.drop (i + 1) := by
 have : rd_T41 l (i : Int) = l[i] := by
  unfold rd_T41
  rw [Int.toNat_natCast, List.getD_eq_getElem?_getD, List.getElem?_eq_getElem h]; rfl
 rw [this]
 exact List.drop_eq_getElem_cons h
theorem var_like_l0 (a b : List S41) (hz : a.length ≤ 100000) (hl : a.length = b.length) : ∀ (d i k : Nat), i + d = a.length → d < k → api_Var_38.l0 k a b (a.length : Int) (i : Int) = some (sameL var_eq (a.drop i) (b.drop i)) := by
 intro d
 induction d with
 | zero =>
  intro i k h1 h2
  obtain ⟨k, rfl⟩ : ∃ m, k = m + 1 := ⟨k - 1, by omega⟩
  unfold api_Var_38.l0
  rw [if_neg (by omega), List.drop_eq_nil_of_le (by omega), List.drop_eq_nil_of_le (by omega)]; rfl
 | succ d ih =>
  intro i k h1 h2
  obtain ⟨k, rfl⟩ : ∃ m, k = m + 1 := ⟨k - 1, by omega⟩
  unfold api_Var_38.l0
  rw [if_pos (by omega), if_pos (by omega), if_pos (by omega), if_pos (by omega), var_drop a i (by omega), var_drop b i (by omega)]
  generalize rd_T41 a (i : Int) = x
  generalize rd_T41 b (i : Int) = y
  have e : (!((x.f0).toList == (y.f0).toList) || ((!(x.f1 == y.f1) || ((!(x.f2 == y.f2) || ((!(x.f3 == y.f3) || (!(x.f4 == y.f4))))))))) = !var_eq x y := by
   unfold var_eq
   cases (x.f0).toList == (y.f0).toList <;> cases x.f1 == y.f1 <;> cases x.f2 == y.f2 <;> cases x.f3 == y.f3 <;> cases x.f4 == y.f4 <;> rfl
  rw [e]
  unfold sameL
  by_cases h : var_eq x y = true
  ·rw [if_neg (by rw [h]; simp), w64 _ (by omega) (by omega), h, Bool.true_and]
   exact ih (i + 1) k (by omega) (by omega)
  ·rw [show var_eq x y = false by simpa using h]; rfl
theorem var_like_is (a b : List S41) (hz : a.length ≤ 100000) (k : Nat) (hk : a.length < k) : api_Var_38.f k a b = some (sameL var_eq a b) := by
 unfold api_Var_38.f
 by_cases h : (a.length : Int) = (b.length : Int)
 ·rw [if_pos h]
  exact var_like_l0 a b hz (by omega) a.length 0 k (by omega) hk
 ·rw [if_neg h, sameL_len _ a b (by omega)]
theorem var_rsame_l0 (a b : List S41) (hz : a.length ≤ 100000) (hl : a.length = b.length) : ∀ (d i k : Nat), i + d = a.length → d < k → r14_SameVars.l0 k a b (i : Int) = some (sameL var_eq (a.drop i) (b.drop i)) := by
 intro d
 induction d with
 | zero =>
  intro i k h1 h2
  obtain ⟨k, rfl⟩ : ∃ m, k = m + 1 := ⟨k - 1, by omega⟩
  unfold r14_SameVars.l0
  rw [if_neg (by omega), List.drop_eq_nil_of_le (by omega), List.drop_eq_nil_of_le (by omega)]; rfl
 | succ d ih =>
  intro i k h1 h2
  obtain ⟨k, rfl⟩ : ∃ m, k = m + 1 := ⟨k - 1, by omega⟩
  unfold r14_SameVars.l0
  rw [if_pos (by omega), if_pos (by omega), if_pos (by omega), var_drop a i (by omega), var_drop b i (by omega)]
  generalize rd_T41 a (i : Int) = x
  generalize rd_T41 b (i : Int) = y
  have e : (!((x.f0).toList == (y.f0).toList) || ((!(x.f1 == y.f1) || ((!(x.f2 == y.f2) || ((!(x.f3 == y.f3) || (!(x.f4 == y.f4))))))))) = !var_eq x y := by
   unfold var_eq
   cases (x.f0).toList == (y.f0).toList <;> cases x.f1 == y.f1 <;> cases x.f2 == y.f2 <;> cases x.f3 == y.f3 <;> cases x.f4 == y.f4 <;> rfl
  rw [e]
  unfold sameL
  by_cases h : var_eq x y = true
  ·rw [if_neg (by rw [h]; simp), w64 _ (by omega) (by omega), h, Bool.true_and]
   exact ih (i + 1) k (by omega) (by omega)
  ·rw [show var_eq x y = false by simpa using h]; rfl
theorem var_rsame_is (a b : List S41) (hz : a.length ≤ 100000) (k : Nat) (hk : a.length < k) : r14_SameVars.f k a b = some (sameL var_eq a b) := by
 unfold r14_SameVars.f
 by_cases h : (a.length : Int) = (b.length : Int)
 ·rw [if_pos h]
  exact var_rsame_l0 a b hz (by omega) a.length 0 k (by omega) hk
 ·rw [if_neg h, sameL_len _ a b (by omega)]
def blk_eq (x y : S43) : Bool := (((x.f0).toList == (y.f0).toList) && (x.f1 == y.f1))
theorem blk_eq_self (x : S43) : blk_eq x x = true := by unfold blk_eq; simp
theorem blk_drop (l : List S43) (i : Nat) (h : i < l.length) : l.drop i = rd_T43 l (i : Int) :: l.drop (i + 1) := by
 have : rd_T43 l (i : Int) = l[i] := by
  unfold rd_T43
  rw [Int.toNat_natCast, List.getD_eq_getElem?_getD, List.getElem?_eq_getElem h]; rfl
 rw [this]
 exact List.drop_eq_getElem_cons h
theorem blk_like_l0 (a b : List S43) (hz : a.length ≤ 100000) (hl : a.length = b.length) : ∀ (d i k : Nat), i + d = a.length → d < k → api_Block_39.l0 k a b (a.length : Int) (i : Int) = some (sameL blk_eq (a.drop i) (b.drop i)) := by
 intro d
 induction d with
 | zero =>
  intro i k h1 h2
  obtain ⟨k, rfl⟩ : ∃ m, k = m + 1 := ⟨k - 1, by omega⟩
  unfold api_Block_39.l0
  rw [if_neg (by omega), List.drop_eq_nil_of_le (by omega), List.drop_eq_nil_of_le (by omega)]; rfl
 | succ d ih =>
  intro i k h1 h2
  obtain ⟨k, rfl⟩ : ∃ m, k = m + 1 := ⟨k - 1, by omega⟩
  unfold api_Block_39.l0
  rw [if_pos (by omega), if_pos (by omega), if_pos (by omega), if_pos (by omega), blk_drop a i (by omega), blk_drop b i (by omega)]
  generalize rd_T43 a (i : Int) = x
  generalize rd_T43 b (i : Int) = y
  have e : (!((x.f0).toList == (y.f0).toList) || (!(x.f1 == y.f1))) = !blk_eq x y := by
   unfold blk_eq
   cases (x.f0).toList == (y.f0).toList <;> cases x.f1 == y.f1 <;> rfl
  rw [e]
  unfold sameL
  by_cases h : blk_eq x y = true
  ·rw [if_neg (by rw [h]; simp), w64 _ (by omega) (by omega), h, Bool.true_and]
   exact ih (i + 1) k (by omega) (by omega)
  ·rw [show blk_eq x y = false by simpa using h]; rfl
theorem blk_like_is (a b : List S43) (hz : a.length ≤ 100000) (k : Nat) (hk : a.length < k) : api_Block_39.f k a b = some (sameL blk_eq a b) := by
 unfold api_Block_39.f
 by_cases h : (a.length : Int) = (b.length : Int)
 ·rw [if_pos h]
  exact blk_like_l0 a b hz (by omega) a.length 0 k (by omega) hk
 ·rw [if_neg h, sameL_len _ a b (by omega)]
theorem blk_rsame_l0 (a b : List S43) (hz : a.length ≤ 100000) (hl : a.length = b.length) : ∀ (d i k : Nat), i + d = a.length → d < k → r14_SameBlocks.l0 k a b (i : Int) = some (sameL blk_eq (a.drop i) (b.drop i)) := by
 intro d
 induction d with
 | zero =>
  intro i k h1 h2
  obtain ⟨k, rfl⟩ : ∃ m, k = m + 1 := ⟨k - 1, by omega⟩
  unfold r14_SameBlocks.l0
  rw [if_neg (by omega), List.drop_eq_nil_of_le (by omega), List.drop_eq_nil_of_le (by omega)]; rfl
 | succ d ih =>
  intro i k h1 h2
  obtain ⟨k, rfl⟩ : ∃ m, k = m + 1 := ⟨k - 1, by omega⟩
  unfold r14_SameBlocks.l0
  rw [if_pos (by omega), if_pos (by omega), if_pos (by omega), blk_drop a i (by omega), blk_drop b i (by omega)]
  generalize rd_T43 a (i : Int) = x
  generalize rd_T43 b (i : Int) = y
  have e : (!((x.f0).toList == (y.f0).toList) || (!(x.f1 == y.f1))) = !blk_eq x y := by
   unfold blk_eq
   cases (x.f0).toList == (y.f0).toList <;> cases x.f1 == y.f1 <;> rfl
  rw [e]
  unfold sameL
  by_cases h : blk_eq x y = true
  ·rw [if_neg (by rw [h]; simp), w64 _ (by omega) (by omega), h, Bool.true_and]
   exact ih (i + 1) k (by omega) (by omega)
  ·rw [show blk_eq x y = false by simpa using h]; rfl
theorem blk_rsame_is (a b : List S43) (hz : a.length ≤ 100000) (k : Nat) (hk : a.length < k) : r14_SameBlocks.f k a b = some (sameL blk_eq a b) := by
 unfold r14_SameBlocks.f
 by_cases h : (a.length : Int) = (b.length : Int)
 ·rw [if_pos h]
  exact blk_rsame_l0 a b hz (by omega) a.length 0 k (by omega) hk
 ·rw [if_neg h, sameL_len _ a b (by omega)]
def uni_eq (x y : S48) : Bool := sameU x.f0 x.f1 x.f2 x.f3 x.f4 y.f0 y.f1 y.f2 y.f3 y.f4
theorem uni_eq_self (x : S48) : uni_eq x x = true := sameU_self _ _ _ _ _
theorem uni_like (C C' : LC) (V V' : LV) (B B' : LB) (a b : LU) (hz : a.length ≤ 100000) (hok : Ok a) (hl : a.length = b.length) : ∀ (d i k : Nat), i + d = a.length → d + 10001 < k → box_Same.l0 k (a.length : Int) (i : Int) C V B a C' V' B' b = some (sameL uni_eq (a.drop i) (b.drop i)) := by
 intro d
 induction d with
 | zero =>
  intro i k h1 h2
  obtain ⟨k, rfl⟩ : ∃ m, k = m + 1 := ⟨k - 1, by omega⟩
  rw [box_Same.l0, if_neg (by omega), List.drop_eq_nil_of_le (by omega), List.drop_eq_nil_of_le (by omega)]; rfl
 | succ d ih =>
  intro i k h1 h2
  obtain ⟨k, rfl⟩ : ∃ m, k = m + 1 := ⟨k - 1, by omega⟩
  have hia : i < a.length := by omega
  have hib : i < b.length := by omega
  obtain ⟨o0, o1, o2, o3⟩ := hok a[i] (List.getElem_mem hia)
  rw [box_Same.l0, if_pos (by omega), if_pos (by omega), if_pos (by omega), if_pos (by omega), rd_unit_at a i hia, rd_unit_at b i hib, List.drop_eq_getElem_cons hia, List.drop_eq_getElem_cons hib]
  rw [same_is a[i].f0 a[i].f1 a[i].f2 a[i].f3 a[i].f4 b[i].f0 b[i].f1 b[i].f2 b[i].f3 b[i].f4 (by omega) (by omega) (by omega) k (by omega), zP]
  unfold sameL uni_eq
  by_cases h : sameU a[i].f0 a[i].f1 a[i].f2 a[i].f3 a[i].f4 b[i].f0 b[i].f1 b[i].f2 b[i].f3 b[i].f4 = true
  ·rw [if_pos h, w64 _ (by omega) (by omega), h, Bool.true_and]
   exact ih (i + 1) k (by omega) (by omega)
  ·rw [if_neg h, show sameU a[i].f0 a[i].f1 a[i].f2 a[i].f3 a[i].f4 b[i].f0 b[i].f1 b[i].f2 b[i].f3 b[i].f4 = false by simpa using h]; rfl
theorem uni_rsame (C C' : LC) (V V' : LV) (B B' : LB) (a b : LU) (hz : a.length ≤ 100000) (hok : Ok a) (hl : a.length = b.length) : ∀ (d i k : Nat), i + d = a.length → d + 10001 < k → r16_Same.l0 k (i : Int) C V B a C' V' B' b = some (sameL uni_eq (a.drop i) (b.drop i)) := by
 intro d
 induction d with
 | zero =>
  intro i k h1 h2
  obtain ⟨k, rfl⟩ : ∃ m, k = m + 1 := ⟨k - 1, by omega⟩
  rw [r16_Same.l0, if_neg (by omega), List.drop_eq_nil_of_le (by omega), List.drop_eq_nil_of_le (by omega)]; rfl
 | succ d ih =>
  intro i k h1 h2
  obtain ⟨k, rfl⟩ : ∃ m, k = m + 1 := ⟨k - 1, by omega⟩
  have hia : i < a.length := by omega
  have hib : i < b.length := by omega
  obtain ⟨o0, o1, o2, o3⟩ := hok a[i] (List.getElem_mem hia)
  rw [r16_Same.l0, if_pos (by omega), if_pos (by omega), if_pos (by omega), rd_unit_at a i hia, rd_unit_at b i hib, List.drop_eq_getElem_cons hia, List.drop_eq_getElem_cons hib]
  rw [rsame_is a[i].f0 a[i].f1 a[i].f2 a[i].f3 a[i].f4 b[i].f0 b[i].f1 b[i].f2 b[i].f3 b[i].f4 (by omega) (by omega) (by omega) k (by omega), zP]
  unfold sameL uni_eq
  by_cases h : sameU a[i].f0 a[i].f1 a[i].f2 a[i].f3 a[i].f4 b[i].f0 b[i].f1 b[i].f2 b[i].f3 b[i].f4 = true
  ·rw [if_pos h, w64 _ (by omega) (by omega), h, Bool.true_and]
   exact ih (i + 1) k (by omega) (by omega)
  ·rw [if_neg h, show sameU a[i].f0 a[i].f1 a[i].f2 a[i].f3 a[i].f4 b[i].f0 b[i].f1 b[i].f2 b[i].f3 b[i].f4 = false by simpa using h]; rfl
/-- Whether two programs are the same. -/
def sameP (C : LC) (V : LV) (B : LB) (U : LU) (C' : LC) (V' : LV) (B' : LB) (U' : LU) : Bool := sameL con_eq C C' && sameL var_eq V V' && sameL blk_eq B B' && sameL uni_eq U U'
theorem sameP_self (C : LC) (V : LV) (B : LB) (U : LU) : sameP C V B U C V B U = true := by
 unfold sameP
 rw [sameL_self _ con_eq_self, sameL_self _ var_eq_self, sameL_self _ blk_eq_self, sameL_self _ uni_eq_self]; rfl
theorem box_Same_is (C : LC) (V : LV) (B : LB) (U : LU) (C' : LC) (V' : LV) (B' : LB) (U' : LU) (hC : C.length ≤ 10000) (hV : V.length ≤ 10000) (hB : B.length ≤ 10000) (hU : U.length ≤ 10000) (hok : Ok U) (k : Nat) (hk : 30000 ≤ k) : box_Same.f k C V B U C' V' B' U' = some (sameP C V B U C' V' B' U') := by
 have jt : box_Same.j0 k true C V B U C' V' B' U' = some false := by
  obtain ⟨k, rfl⟩ : ∃ m, k = m + 1 := ⟨k - 1, by omega⟩
  rw [box_Same.j0, if_pos rfl]
 unfold box_Same.f sameP
 rw [con_like_is C C' (by omega) k (by omega), zP]
 by_cases h1 : sameL con_eq C C' = true
 ·rw [if_pos h1, var_like_is V V' (by omega) k (by omega), zP, h1, Bool.true_and]
  by_cases h2 : sameL var_eq V V' = true
  ·rw [if_pos h2, blk_like_is B B' (by omega) k (by omega), zP, h2, Bool.true_and]
   by_cases h3 : sameL blk_eq B B' = true
   ·rw [if_pos h3, h3, Bool.true_and]
    obtain ⟨k, rfl⟩ : ∃ m, k = m + 1 := ⟨k - 1, by omega⟩
    rw [box_Same.j0]
    by_cases h4 : U.length = U'.length
    ·rw [if_neg (by rw [h4]; simp)]
     have := uni_like C C' V V' B B' U U' (by omega) hok h4 U.length 0 k (by omega) (by omega)
     simpa using this
    ·rw [if_pos (by simp; omega), sameL_len _ U U' h4]
   ·rw [if_neg h3, jt, show sameL blk_eq B B' = false by simpa using h3]; rfl
  ·rw [if_neg h2, jt, show sameL var_eq V V' = false by simpa using h2]; rfl
 ·rw [if_neg h1, jt, show sameL con_eq C C' = false by simpa using h1]; rfl
theorem r16_Same_is (C : LC) (V : LV) (B : LB) (U : LU) (C' : LC) (V' : LV) (B' : LB) (U' : LU) (hC : C.length ≤ 10000) (hV : V.length ≤ 10000) (hB : B.length ≤ 10000) (hU : U.length ≤ 10000) (hok : Ok U) (k : Nat) (hk : 30000 ≤ k) : r16_Same.f k C V B U C' V' B' U' = some (sameP C V B U C' V' B' U') := by
 have jt : r16_Same.j0 k true C V B U C' V' B' U' = some false := by
  obtain ⟨k, rfl⟩ : ∃ m, k = m + 1 := ⟨k - 1, by omega⟩
  rw [r16_Same.j0, if_pos rfl]
 unfold r16_Same.f sameP
 rw [con_rsame_is C C' (by omega) k (by omega), zP]
 by_cases h1 : sameL con_eq C C' = true
 ·rw [if_pos h1, var_rsame_is V V' (by omega) k (by omega), zP, h1, Bool.true_and]
  by_cases h2 : sameL var_eq V V' = true
  ·rw [if_pos h2, blk_rsame_is B B' (by omega) k (by omega), zP, h2, Bool.true_and]
   by_cases h3 : sameL blk_eq B B' = true
   ·rw [if_pos h3, h3, Bool.true_and]
    obtain ⟨k, rfl⟩ : ∃ m, k = m + 1 := ⟨k - 1, by omega⟩
    rw [r16_Same.j0]
    by_cases h4 : U.length = U'.length
    ·rw [if_neg (by rw [h4]; simp)]
     have := uni_rsame C C' V V' B B' U U' (by omega) hok h4 U.length 0 k (by omega) (by omega)
     simpa using this
    ·rw [if_pos (by simp; omega), sameL_len _ U U' h4]
   ·rw [if_neg h3, jt, show sameL blk_eq B B' = false by simpa using h3]; rfl
  ·rw [if_neg h2, jt, show sameL var_eq V V' = false by simpa using h2]; rfl
 ·rw [if_neg h1, jt, show sameL con_eq C C' = false by simpa using h1]; rfl
end Go.Proofs.YtdbfgfgbjheibaaDoor.BPure
end

section
/- A short program's container, plainly: the program's and the document's tell the same. -/
namespace Go.Proofs.YtdbfgfgbjheibaaDoor.BPure
open Go Go.RowKit Go.Proofs.YtdbfgfgbjheibaaDoor Go.Proofs.YtdbfgfgbjheibaaDoor.PBx Go.Proofs.YtdbfgfgbjheibaaDoor.Given Go.Proofs.YtdbfgfgbjheibaaDoor.BPure.Tab Go.Proofs.YtdbfgfgbjheibaaDoorW.PrintWords Go.Proofs.YtdbfgfgbjheibaaDoorW.PrintLast Go.Proofs.YtdbfgfgbjheibaaDoorW.PrintMore
set_option linter.unusedVariables false
set_option linter.unusedSimpArgs false
def BL (l : List Int) : Prop := ∀ x ∈ l, 0 ≤ x ∧ x < 256
theorem BL_nil : BL [] := fun x h => by cases h
theorem BL_app {a b : List Int} (ha : BL a) (hb : BL b) : BL (a ++ b) := fun x h => (List.mem_append.1 h).elim (ha x) (hb x)
theorem BL_le (v : Int) : ∀ m, BL (le m v)
 | 0 => BL_nil
 | m + 1 => by
  unfold le
  refine BL_app (BL_le v m) fun x hx => ?_
  obtain rfl := List.mem_singleton.1 hx
  omega
theorem BL_bytes (s : ByteArray) : BL (bytesOf s) := by
 intro x hx
 unfold bytesOf at hx
 obtain ⟨y, _, rfl⟩ := List.mem_map.1 hx
 exact ⟨Int.natCast_nonneg _, by have := y.toNat_lt; omega⟩
theorem BL_encL {α : Type} (enc : α → List Int) (h : ∀ x, BL (enc x)) (l : List α) : BL (encL enc l) := by
 intro x hx
 unfold encL at hx
 obtain ⟨y, hy, hxy⟩ := List.mem_flatten.1 hx
 obtain ⟨z, _, rfl⟩ := List.mem_map.1 hy
 exact h z x hxy
theorem BL_low (l : List Int) : BL (low l) := by
 intro x hx
 unfold low at hx
 obtain ⟨y, _, rfl⟩ := List.mem_map.1 hx
 omega
theorem BL_con (x : SC) : BL (conEnc x) := BL_app (BL_le _ _) (BL_le _ _)
theorem BL_encT (s : ByteArray) : BL (encT s) := BL_app (BL_le _ _) (BL_bytes _)
theorem BL_blk (x : SB) : BL (blkEnc x) := BL_app (BL_encT _) (BL_le _ _)
theorem BL_var (x : SV) : BL (varEnc x) := BL_app (BL_app (BL_app (BL_app (BL_encT _) (BL_le _ _)) (BL_le _ _)) (BL_le _ _)) (BL_le _ _)
theorem BL_putM {α : Type} (most : Nat) (fit : α → Bool) (enc : α → List Int) (h : ∀ x, BL (enc x)) (l : List α) : BL (putM most fit enc l).1 := by
 unfold putM
 split
 ·exact BL_nil
 ·split
  ·exact BL_app (BL_le _ _) (BL_encL enc h l)
  ·exact BL_nil
def uniFit (x : S48) : Bool := fitsF x.f0 x.f1 x.f2 x.f3 x.f4
@[irreducible] def uniB (x : S48) : List Int := putB x.f0 x.f1 x.f2 x.f3 x.f4
def uniEnc (x : S48) : List Int := le 4 ((uniB x).length : Int) ++ uniB x
theorem uniB_is (x : S48) : putB x.f0 x.f1 x.f2 x.f3 x.f4 = uniB x := by unfold uniB; rfl
theorem BL_uniB (x : S48) : BL (uniB x) := by
 rw [← uniB_is]
 exact BL_app (BL_app (BL_app (BL_app (BL_app (BL_app (BL_app (BL_app (BL_le _ _) (BL_bytes _)) (BL_le _ _)) (BL_low _)) (BL_le _ _)) (BL_le _ _)) (BL_low _)) (BL_le _ _)) (enc_byte _)
theorem BL_uni (x : S48) : BL (uniEnc x) := BL_app (BL_le _ _) (BL_uniB x)
theorem uniB_len (x : S48) (h : x.f0.size ≤ 300 ∧ x.f1.length ≤ 20 ∧ x.f3.length ≤ 1100 ∧ x.f4.length ≤ 300) : (uniB x).length ≤ 2900 := by
 unfold uniB putB
 have := text_len x.f0
 simp only [List.length_append, le_length, low_len, enc_len]
 omega
theorem put4 (l : List Int) (v : Int) (hl : l.length ≤ 1000000000) : octet_Put.f l 4 v = some (l ++ le 4 v) := by
 unfold octet_Put.f
 rw [if_pos hl]; rfl
theorem rput4 (l : List Int) (v : Int) (hl : l.length ≤ 1000000000) (k : Nat) (hk : 9 ≤ k) : r03_Put.f k l 4 v = some (l ++ le 4 v) := by
 rw [Tab.rputk l 4 v hl k hk]; rfl
set_option maxHeartbeats 400000 in
theorem units_l0 (x0 U : LU) (hl : U.length ≤ 10) (hok : Ok U) : ∀ (d i k : Nat) (o : List Int), i + d = U.length → d + 20100 < k → o.length ≤ 10 + 3000 * i → box_units.l0 k x0 o U (U.length : Int) (i : Int) = some (if (U.drop i).all uniFit = true then (o ++ encL uniEnc (U.drop i), decide ((x0.length : Int) ≤ 8)) else ([], false)) := by
 intro d
 induction d with
 | zero =>
  intro i k o h1 h2 h3
  obtain ⟨k, rfl⟩ : ∃ m, k = m + 1 := ⟨k - 1, by omega⟩
  rw [box_units.l0, if_neg (by omega), List.drop_eq_nil_of_le (by omega)]
  simp [encL]
 | succ d ih =>
  intro i k o h1 h2 h3
  obtain ⟨k, rfl⟩ : ∃ m, k = m + 1 := ⟨k - 1, by omega⟩
  have hil : i < U.length := by omega
  have ho := hok U[i] (List.getElem_mem hil)
  have hlen := uniB_len U[i] ho
  rw [box_units.l0, if_pos (by omega), if_pos (by omega), if_pos (by omega), rd_unit_at U i hil]
  rw [put_is U[i].f0 U[i].f1 U[i].f2 U[i].f3 U[i].f4 (by omega) (by omega) (by omega) (by omega) k (by omega), List.drop_eq_getElem_cons hil, List.all_cons]
  by_cases hf : uniFit U[i] = true
  ·have hf' : fitsF U[i].f0 U[i].f1 U[i].f2 U[i].f3 U[i].f4 = true := hf
   rw [if_pos hf', zP, if_pos rfl, hf, Bool.true_and, uniB_is]
   show ((octet_Put.f o 4 ((uniB U[i]).length : Int)).bind fun t => if t.length + (uniB U[i]).length < 140737488355328 then box_units.l0 k x0 (t ++ uniB U[i]) U (U.length : Int) (wrap64 ((i : Int) + 1)) else none) = _
   rw [put4 o _ (by omega), zP, if_pos (by rw [List.length_append, le_length]; omega), w64 _ (by omega) (by omega)]
   have := ih (i + 1) k (o ++ le 4 ((uniB U[i]).length : Int) ++ uniB U[i]) (by omega) (by omega) (by rw [List.length_append, List.length_append, le_length]; omega)
   rw [show ((i : Int) + 1) = ((i + 1 : Nat) : Int) by omega, this, encL_cons]
   unfold uniEnc
   simp only [List.append_assoc]
  ·have hf' : ¬ fitsF U[i].f0 U[i].f1 U[i].f2 U[i].f3 U[i].f4 = true := hf
   rw [if_neg hf', zP, if_neg (by decide), show uniFit U[i] = false by simpa using hf]; rfl
def unitsF (U : LU) : List Int × Bool := if U.all uniFit = true then (le 1 (U.length : Int) ++ encL uniEnc U, decide ((U.length : Int) ≤ 8)) else ([], false)
theorem units_is (U : LU) (hl : U.length ≤ 10) (hok : Ok U) (k : Nat) (hk : 20200 ≤ k) : box_units.f k U = some (unitsF U) := by
 unfold box_units.f unitsF
 rw [Tab.put1 [] _ (by simp), zP]
 have := units_l0 U U hl hok U.length 0 k ([] ++ le 1 (U.length : Int)) (by omega) (by omega) (by rw [List.nil_append, le_length]; omega)
 rw [List.drop_zero] at this
 rw [show (0 : Int) = ((0 : Nat) : Int) from rfl, this, List.nil_append]
def sec (l : List Int) (a : Int) (x : List Int) : List Int := l ++ le 1 a ++ le 4 (x.length : Int) ++ x
theorem sec_len (l : List Int) (a : Int) (x : List Int) : (sec l a x).length = l.length + 5 + x.length := by
 unfold sec
 simp only [List.length_append, le_length]
theorem BL_sec {l : List Int} (a : Int) {x : List Int} (hl : BL l) (hx : BL x) : BL (sec l a x) := BL_app (BL_app (BL_app hl (BL_le _ _)) (BL_le _ _)) hx
theorem sec_is (l : List Int) (a : Int) (x : List Int) (h : l.length + x.length ≤ 1000000) : box_section.f l a x = some (sec l a x) := by
 unfold box_section.f
 rw [Tab.put1 l _ (by omega), zP, put4 _ _ (by rw [List.length_append, le_length]; omega), zP, if_pos (by rw [List.length_append, List.length_append, le_length, le_length]; omega)]
 rfl
theorem rsec_is (l : List Int) (a : Int) (x : List Int) (h : l.length + x.length ≤ 1000000) (k : Nat) (hk : 9 ≤ k) : r16_section.f k l a x = some (sec l a x) := by
 unfold r16_section.f
 rw [Tab.rput1 l _ (by omega) k hk, zP, rput4 _ _ (by rw [List.length_append, le_length]; omega) k hk, zP, if_pos (by rw [List.length_append, List.length_append, le_length, le_length]; omega)]
 rfl
def body (c v x u : List Int) : List Int := sec (sec (sec (sec [76, 66, 75, 49] 1 c) 2 v) 3 x) 4 u
def sumB (b : List Int) : List Int := b ++ le 4 (4294967295 - overF 4294967295 b)
def fin (b : List Int) : List Int × Bool := if 1048576 < (sumB b).length then ([], false) else (sumB b, true)
theorem BL_body {c v x u : List Int} (hc : BL c) (hv : BL v) (hx : BL x) (hu : BL u) : BL (body c v x u) := BL_sec _ (BL_sec _ (BL_sec _ (BL_sec _ (fun y hy => by simp at hy; omega) hc) hv) hx) hu
theorem body_len (c v x u : List Int) : (body c v x u).length = c.length + v.length + x.length + u.length + 24 := by
 unfold body
 simp only [sec_len, List.length_cons, List.length_nil]
 omega
theorem tail_is (c v x u : List Int) (hb : BL (body c v x u)) (hl : c.length + v.length + x.length + u.length ≤ 900000) : encTail c v x u = some (fin (body c v x u)) := by
 have hbl := body_len c v x u
 unfold encTail
 rw [sec_is [76, 66, 75, 49] 1 c (by simp; omega), zP, sec_is _ 2 v (by simp only [sec_len, List.length_cons, List.length_nil]; omega), zP, sec_is _ 3 x (by simp only [sec_len, List.length_cons, List.length_nil]; omega), zP, sec_is _ 4 u (by simp only [sec_len, List.length_cons, List.length_nil]; omega), zP]
 show ((crc_Of.f (body c v x u)).bind fun s => (octet_Put.f (body c v x u) 4 s).bind fun b5 => if 1048576 < b5.length then some ([], false) else some (b5, true)) = _
 have ho : okB (body c v x u) := ⟨by omega, hb⟩
 unfold crc_Of.f
 rw [if_pos ho, zP, put4 _ _ (by omega), zP]
 unfold fin sumB
 split <;> rfl
theorem rputk' (n : ByteArray) (P : List Int) (R : Int) (L : List Int) (C : List S109) (hP : P.length ≤ 10000) (hL : L.length ≤ 10000) (hC : C.length ≤ 10000) (k : Nat) (hk : 41000 ≤ k) :
  r15_Put.f k n P R L C = if fitsF n P R L C = true then some (putB n P R L C, true) else some ([], false) := by
 unfold r15_Put.f
 rw [rfits_is n P R L C hP hL hC _ (by omega), zP]
 by_cases hf : fitsF n P R L C = true
 ·rw [if_pos hf, if_pos hf]
  have hR := (fits_allR hf).2.2.2.2.1
  have hn := (fits_allR hf).1
  have e : ([] : List Int) ++ encT n = [] ++ le 1 ((min n.size 255 : Nat) : Int) ++ bytesOf (textOf n) := by unfold encT; rw [text_all n hn, Nat.min_eq_left hn]; simp
  have ht := text_len n
  rw [Tab.rtextT [] n (by simp) hn k (by omega), zP, e, if_pos (by simp only [List.length_append, le_length, List.length_nil]; omega)]
  have := rputl0 n P R L C hP hL hC hR P.length 0 k ([] ++ le 1 ((min n.size 255 : Nat) : Int) ++ bytesOf (textOf n) ++ [(P.length : Int) % 256]) (by omega) (by omega) (by simp only [List.length_append, List.length_cons, le_length, List.length_nil]; omega)
  rw [List.drop_zero] at this
  rw [show (0 : Int) = ((0 : Nat) : Int) from rfl, this]
  simp [putB, le, sh]
 ·rw [if_neg hf, if_neg (by simp at hf; simp [hf])]
set_option maxHeartbeats 400000 in
theorem rloop (C : LC) (V : LV) (B : LB) (U : LU) (rc rv rb : List Int) (hc : BL rc) (hv : BL rv) (hb : BL rb) (hlen : rc.length + rv.length + rb.length ≤ 400000) (hl : U.length ≤ 10) (hok : Ok U) : ∀ (d i k : Nat) (o : List Int), i + d = U.length → d + 1000000 < k → o.length ≤ 10 + 3000 * i → BL o →
  r16_Encode.l0 k rc rv rb o (i : Int) C V B U = some (if (U.drop i).all uniFit = true then fin (body rc rv rb (o ++ encL uniEnc (U.drop i))) else ([], false)) := by
 intro d
 induction d with
 | zero =>
  intro i k o h1 h2 h3 h4
  obtain ⟨k, rfl⟩ : ∃ m, k = m + 1 := ⟨k - 1, by omega⟩
  rw [r16_Encode.l0, if_neg (by omega), List.drop_eq_nil_of_le (by omega)]
  have hbl := body_len rc rv rb o
  have hB := BL_body hc hv hb h4
  rw [rsec_is [76, 66, 75, 49] 1 rc (by simp; omega) k (by omega), zP, rsec_is _ 2 rv (by simp only [sec_len, List.length_cons, List.length_nil]; omega) k (by omega), zP, rsec_is _ 3 rb (by simp only [sec_len, List.length_cons, List.length_nil]; omega) k (by omega), zP, rsec_is _ 4 o (by simp only [sec_len, List.length_cons, List.length_nil]; omega) k (by omega), zP]
  show ((r02_Of.f k (body rc rv rb o)).bind fun s => (r03_Put.f k (body rc rv rb o) 4 (wrap64 s)).bind fun b5 => if (b5.length : Int) > 1048576 then some (([] : List Int), false) else some (b5, true)) = _
  have h := overF_lim 4294967295 (by decide) (body rc rv rb o)
  rw [ref_of _ hB (by omega) k (by omega), zP, w64 _ (by omega) (by omega), rput4 _ _ (by omega) k (by omega), zP]
  unfold fin sumB
  simp only [List.all_nil, if_true, encL, zn, List.flatten_nil, List.append_nil]
  split
  ·rw [if_pos (by omega)]
  ·rw [if_neg (by omega)]
 | succ d ih =>
  intro i k o h1 h2 h3 h4
  obtain ⟨k, rfl⟩ : ∃ m, k = m + 1 := ⟨k - 1, by omega⟩
  have hil : i < U.length := by omega
  have ho := hok U[i] (List.getElem_mem hil)
  have hlen := uniB_len U[i] ho
  rw [r16_Encode.l0, if_pos (by omega), if_pos (by omega), rd_unit_at U i hil]
  rw [rputk' U[i].f0 U[i].f1 U[i].f2 U[i].f3 U[i].f4 (by omega) (by omega) (by omega) k (by omega), List.drop_eq_getElem_cons hil, List.all_cons]
  by_cases hf : uniFit U[i] = true
  ·have hf' : fitsF U[i].f0 U[i].f1 U[i].f2 U[i].f3 U[i].f4 = true := hf
   rw [if_pos hf', zP, if_pos rfl, hf, Bool.true_and, uniB_is]
   show ((r03_Put.f k o 4 ((uniB U[i]).length : Int)).bind fun t => if t.length + (uniB U[i]).length < 140737488355328 then r16_Encode.l0 k rc rv rb (t ++ uniB U[i]) (wrap64 ((i : Int) + 1)) C V B U else none) = _
   rw [rput4 o _ (by omega) k (by omega), zP, if_pos (by rw [List.length_append, le_length]; omega), w64 _ (by omega) (by omega)]
   have := ih (i + 1) k (o ++ le 4 ((uniB U[i]).length : Int) ++ uniB U[i]) (by omega) (by omega) (by rw [List.length_append, List.length_append, le_length]; omega) (BL_app (BL_app h4 (BL_le _ _)) (BL_uniB _))
   rw [show ((i : Int) + 1) = ((i + 1 : Nat) : Int) by omega, this, encL_cons]
   unfold uniEnc
   simp only [List.append_assoc]
  ·have hf' : ¬ fitsF U[i].f0 U[i].f1 U[i].f2 U[i].f3 U[i].f4 = true := hf
   rw [if_neg hf', zP, if_neg (by decide), show uniFit U[i] = false by simpa using hf]; rfl
def encP (C : LC) (V : LV) (B : LB) (U : LU) : List Int × Bool :=
 if (putM 1024 conFit conEnc C).2 = true ∧ (putM 64 varFit varEnc V).2 = true ∧ (putM 32 blkFit blkEnc B).2 = true ∧ (unitsF U).2 = true then fin (body (putM 1024 conFit conEnc C).1 (putM 64 varFit varEnc V).1 (putM 32 blkFit blkEnc B).1 (unitsF U).1) else ([], false)
theorem encU_len : ∀ U : LU, Ok U → (encL uniEnc U).length ≤ 3000 * U.length
 | [], _ => by simp [encL]
 | x :: U, h => by
  have h1 := encU_len U (fun y hy => h y (List.mem_cons_of_mem _ hy))
  have h2 := uniB_len x (h x (List.mem_cons_self))
  rw [encL_cons, List.length_append, List.length_cons]
  unfold uniEnc at h1 ⊢
  rw [List.length_append, le_length]
  omega
theorem unitsF_len (U : LU) (hl : U.length ≤ 10) (hok : Ok U) : (unitsF U).1.length ≤ 40000 := by
 unfold unitsF
 have := encU_len U hok
 split
 ·simp only [List.length_append, le_length]; omega
 ·simp
theorem BL_unitsF (U : LU) : BL (unitsF U).1 := by
 unfold unitsF
 split
 ·exact BL_app (BL_le _ _) (BL_encL _ BL_uni _)
 ·exact BL_nil
theorem pack_is (C : LC) (V : LV) (B : LB) (U : LU) (hl : U.length ≤ 10) (hok : Ok U) : box_Encode.f C V B U = some (encP C V B U) := by
 have l1 := Tab.putM_len 1024 conFit conEnc con_len C
 have l2 := Tab.putM_len 64 varFit varEnc var_len V
 have l3 := Tab.putM_len 32 blkFit blkEnc blk_len B
 have l4 := unitsF_len U hl hok
 unfold box_Encode.f encP
 rw [con_prog C 30000 (by omega), zP, var_prog V 30000 (by omega), zP, blk_prog B 30000 (by omega), zP, units_is U hl hok 30000 (by omega), zP]
 rw [tail_is _ _ _ _ (BL_body (BL_putM _ _ _ BL_con _) (BL_putM _ _ _ BL_var _) (BL_putM _ _ _ BL_blk _) (BL_unitsF U)) (by omega)]
 split <;> rfl
theorem rpack_is (C : LC) (V : LV) (B : LB) (U : LU) (hl : U.length ≤ 10) (hok : Ok U) (k : Nat) (hk : 1100000 ≤ k) : r16_Encode.f k C V B U = some (encP C V B U) := by
 have l1 := Tab.putM_len 1024 conFit conEnc con_len C
 have l2 := Tab.putM_len 64 varFit varEnc var_len V
 have l3 := Tab.putM_len 32 blkFit blkEnc blk_len B
 have jt : ∀ a b c, r16_Encode.j0 k a b c true C V B U = some ([], false) := fun a b c => by
  obtain ⟨k, rfl⟩ : ∃ m, k = m + 1 := ⟨k - 1, by omega⟩
  rw [r16_Encode.j0, if_pos rfl]
 unfold r16_Encode.f encP
 rw [con_ref C k (by omega), zP, var_ref V k (by omega), zP, blk_ref B k (by omega), zP]
 by_cases h1 : (putM 1024 conFit conEnc C).2 = true
 ·rw [if_pos h1]
  by_cases h2 : (putM 64 varFit varEnc V).2 = true
  ·rw [if_pos h2]
   by_cases h3 : (putM 32 blkFit blkEnc B).2 = true
   ·rw [if_pos h3]
    by_cases h4 : (U.length : Int) > 8
    ·rw [decide_eq_true h4, jt, if_neg]
     rintro ⟨_, _, _, h⟩
     unfold unitsF at h
     split at h
     ·simp at h; omega
     ·cases h
    ·obtain ⟨k, rfl⟩ : ∃ m, k = m + 1 := ⟨k - 1, by omega⟩
     rw [decide_eq_false h4, r16_Encode.j0, if_neg (by decide)]
     have := rloop C V B U _ _ _ (BL_putM 1024 conFit conEnc BL_con C) (BL_putM 64 varFit varEnc BL_var V) (BL_putM 32 blkFit blkEnc BL_blk B) (by omega) hl hok U.length 0 k [(U.length : Int) % 256] (by omega) (by omega) (by simp) (fun y hy => by obtain rfl := List.mem_singleton.1 hy; omega)
     rw [List.drop_zero] at this
     rw [show (0 : Int) = ((0 : Nat) : Int) from rfl, this]
     have e1 : le 1 (U.length : Int) = [(U.length : Int) % 256] := by simp [le, sh]
     by_cases h5 : U.all uniFit = true
     ·rw [if_pos h5, if_pos ⟨h1, h2, h3, by unfold unitsF; rw [if_pos h5]; exact decide_eq_true (by omega)⟩]
      unfold unitsF
      rw [if_pos h5, e1]
     ·rw [if_neg h5, if_neg (by rintro ⟨_, _, _, h⟩; unfold unitsF at h; rw [if_neg h5] at h; cases h)]
   ·rw [if_neg h3, jt, if_neg (fun h => h3 h.2.2.1)]
  ·rw [if_neg h2, jt, if_neg (fun h => h2 h.2.1)]
 ·rw [if_neg h1, jt, if_neg (fun h => h1 h.1)]
theorem awake16 : w16_awake.f = some true := by
 unfold w16_awake.f
 rw [pack_is [] [] [] [] (by decide) (fun x hx => by cases hx)]
 decide +kernel
theorem both (u v : BR) : Both u v := by
 obtain ⟨ru, e1, f1⟩ := few_is u.C u.V u.B u.U
 obtain ⟨rv, e2, f2⟩ := few_is v.C v.V v.B v.U
 refine ⟨awake16, ⟨200, ru, e1 200 (z5 _)⟩, ⟨200, rv, e2 200 (z5 _)⟩, fun k k' h1 h2 => ?_⟩
 have hru : ru = true := by
  have := w16_Few.mono
  have h3 : Tells (fun k => w16_Few.f k u.C u.V u.B u.U) true := Tells.of_mono (k0 := k) (w16_Few.mono u.C u.V u.B u.U) h1
  obtain ⟨k0, hk0⟩ := h3
  have h4 := hk0 (k0 + 200) (by omega)
  dsimp only at h4
  rw [e1 _ (by omega)] at h4
  exact zJ h4
 obtain ⟨hok, b1, b2, b3, b4⟩ := f1 hru
 refine ⟨(encP u.C u.V u.B u.U).1, (encP u.C u.V u.B u.U).2, sameP u.C u.V u.B u.U v.C v.V v.B v.U, 1100000, ?_, ?_, ?_, ?_, ?_, ?_⟩
 ·exact pack_is u.C u.V u.B u.U b1 hok
 ·exact rpack_is u.C u.V u.B u.U b1 hok _ (z5 _)
 ·unfold BR.fitsf box_Fits.f; rw [pack_is u.C u.V u.B u.U b1 hok]; rfl
 ·exact box_Same_is _ _ _ _ _ _ _ _ (by omega) (by omega) (by omega) (by omega) hok _ (by omega)
 ·exact r16_Same_is _ _ _ _ _ _ _ _ (by omega) (by omega) (by omega) (by omega) hok _ (by omega)
 ·exact (box_Same_is _ _ _ _ _ _ _ _ (by omega) (by omega) (by omega) (by omega) hok _ (by omega)).trans (by rw [sameP_self])
end Go.Proofs.YtdbfgfgbjheibaaDoor.BPure
end

section
/- What a package's variable that is laid as plain data has in its cells; numbers, truths, texts, structs and arrays alone. -/
namespace Go.Proofs.YtdbfgfgbjheibaaDoor.Flat
open Go Go.Lib Go.RowKit
mutual
/-- The cells that a datum of numbers, bools, texts, structs and arrays says. -/
def flatW {H : Type} : DataW H → Option (List Value)
 | .lit (.int k n) => some [.int k n]
 | .lit (.bool b) => some [.bool b]
 | .lit (.string s) => some [.string ⟨s.toArray⟩]
 | .agg ps => flatWs ps
 | _ => none
def flatWs {H : Type} : List (DataW H) → Option (List Value)
 | [] => some []
 | d :: r => (flatW d).bind fun a => (flatWs r).map (a ++ ·)
end
/-- Do a type's parts lie one behind the other, without a gap? -/
def tiles (P : Program) : Nat → TypeId → Bool
 | 0, _ => false
 | n + 1, t => match P.underlying t with
  | some .bool | some (.int _) | some .string => true
  | some (.struct fs) => fs.toList.foldl (fun o f => o.bind fun k => if f.offset = k ∧ tiles P n f.type = true then some (k + P.cellsOf f.type) else none) (some 0) == some (P.cellsOf t)
  | some (.array m e) => tiles P n e && P.cellsOf t == m * P.cellsOf e
  | _ => false
theorem foldl_none {α β : Type} (f : Option β → α → Option β) (h : ∀ a, f none a = none) : ∀ l : List α, l.foldl f none = none
 | [] => rfl
 | a :: l => by rw [List.foldl_cons, h, foldl_none f h l]
theorem flat_cells {H : Type} {enc : TypeId × Value → H} {P : Program} {w : World} {base : Nat} {sp : Nat → Bool} {held : Bool} :
  ∀ (n fuel : Nat) (t : TypeId) (cs : List Value) (d : DataW H) (ps : List MemPlace) (vs : List Value), tiles P n t = true → DataW.trod enc P w base sp held fuel t cs = some (d, ps) → flatW d = some vs → cs = vs := by
 intro n
 induction n with
 | zero => intro fuel t cs d ps vs ht; simp [tiles] at ht
 | succ n ih =>
  intro fuel t cs d ps vs ht h hf
  cases fuel with
  | zero => simp [DataW.trod] at h
  | succ fuel =>
   cases hu : P.underlying t with
   | none => simp [tiles, hu] at ht
   | some u =>
    cases u with
    | bool =>
     unfold DataW.trod at h; rw [hu] at h
     split at h <;> simp_all
     obtain ⟨rfl, _⟩ := h
     simp [flatW] at hf; exact hf
    | int k =>
     unfold DataW.trod at h; rw [hu] at h
     split at h <;> simp_all
     obtain ⟨⟨rfl, _⟩, rfl, _⟩ := h
     simp [flatW] at hf; exact hf
    | string =>
     unfold DataW.trod at h; rw [hu] at h
     split at h <;> simp_all
     obtain ⟨_, rfl, _⟩ := h
     simp [flatW] at hf; exact hf
    | struct fs =>
     simp only [tiles, hu, beq_iff_eq] at ht
     unfold DataW.trod at h; rw [hu] at h
     simp only at h
     split at h
     ·rename_i hl
      obtain ⟨xs, hm, hx⟩ := Option.map_eq_some_iff.1 h
      simp only [Prod.mk.injEq] at hx
      obtain ⟨rfl, _⟩ := hx
      have key : ∀ (fs : List Field) (k : Nat) (xs : List (DataW H × List MemPlace)) (vs : List Value), k ≤ cs.length → fs.mapM (fun f => DataW.trod enc P w base sp held fuel f.type ((cs.drop f.offset).take (P.cellsOf f.type))) = some xs →
        fs.foldl (fun o f => o.bind fun k => if f.offset = k ∧ tiles P n f.type = true then some (k + P.cellsOf f.type) else none) (some k) = some cs.length → flatWs (xs.map (·.1)) = some vs → cs.drop k = vs := by
       intro fs
       induction fs with
       | nil =>
        intro k xs vs hk hm ht hf
        simp at hm; subst hm
        simp [flatWs] at hf; subst hf
        simp at ht; simp; omega
       | cons f fs ihf =>
        intro k xs vs hk hm ht hf
        simp only [List.mapM_cons, Option.bind_eq_bind, Option.bind_eq_some_iff, Option.pure_def, Option.some.injEq] at hm
        obtain ⟨b, hb, r, hr, rfl⟩ := hm
        simp only [List.foldl_cons, zP] at ht
        split at ht
        ·rename_i hc
         obtain ⟨hc1, hc2⟩ := hc
         simp only [zc, flatWs, Option.bind_eq_some_iff, Option.map_eq_some_iff] at hf
         obtain ⟨a, ha, s, hs, rfl⟩ := hf
         have e1 := ih _ _ _ b.1 b.2 a hc2 (by rw [hb]) ha
         rw [hc1] at e1
         have hle : k + P.cellsOf f.type ≤ cs.length := by
          have mono : ∀ (l : List Field) (k m : Nat), l.foldl (fun o f => o.bind fun k => if f.offset = k ∧ tiles P n f.type = true then some (k + P.cellsOf f.type) else none) (some k) = some m → k ≤ m := by
           intro l
           induction l with
           | nil => intro k m h; simp at h; omega
           | cons g l ihl =>
            intro k m h
            simp only [List.foldl_cons, zP] at h
            split at h
            ·have := ihl _ _ h; omega
            ·rw [foldl_none _ (fun _ => rfl)] at h; cases h
          exact mono _ _ _ ht
         have e2 := ihf _ _ _ hle hr ht hs
         rw [← e1, ← e2, ← List.drop_drop, List.take_append_drop]
        ·rw [foldl_none _ (fun _ => rfl)] at ht; cases ht
      have := key fs.toList 0 xs vs (Nat.zero_le _) hm (by rw [ht, hl]) (by simpa [flatW] using hf)
      simpa using this
     ·cases h
    | array m e =>
     simp only [tiles, hu, Bool.and_eq_true, beq_iff_eq] at ht
     obtain ⟨ht1, ht2⟩ := ht
     unfold DataW.trod at h; rw [hu] at h
     simp only at h
     split at h
     ·rename_i hl
      obtain ⟨xs, hm, hx⟩ := Option.map_eq_some_iff.1 h
      simp only [Prod.mk.injEq] at hx
      obtain ⟨rfl, _⟩ := hx
      have key : ∀ (j k : Nat) (xs : List (DataW H × List MemPlace)) (vs : List Value), k + j = m → (List.range' k j).mapM (fun i => DataW.trod enc P w base sp held fuel e ((cs.drop (i * P.cellsOf e)).take (P.cellsOf e))) = some xs → flatWs (xs.map (·.1)) = some vs → cs.drop (k * P.cellsOf e) = vs := by
       intro j
       induction j with
       | zero =>
        intro k xs vs hk hm hf
        simp at hm; subst hm
        simp [flatWs] at hf; subst hf
        have hkm : k = m := by omega
        subst hkm
        rw [← ht2, ← hl]; simp
       | succ j ihj =>
        intro k xs vs hk hm hf
        simp only [List.range'_succ, List.mapM_cons, Option.bind_eq_bind, Option.bind_eq_some_iff, Option.pure_def, Option.some.injEq] at hm
        obtain ⟨b, hb, r, hr, rfl⟩ := hm
        simp only [zc, flatWs, Option.bind_eq_some_iff, Option.map_eq_some_iff] at hf
        obtain ⟨a, ha, s, hs, rfl⟩ := hf
        have e1 := ih _ _ _ b.1 b.2 a ht1 (by rw [hb]) ha
        have e2 := ihj (k + 1) _ _ (by omega) hr hs
        rw [← e1, ← e2, Nat.add_mul, Nat.one_mul, ← List.drop_drop, List.take_append_drop]
      have := key m 0 xs vs (by omega) (by rw [← List.range_eq_range']; exact hm) (by simpa [flatW] using hf)
      simpa using this
     ·cases h
    | _ => simp [tiles, hu] at ht
/-- The variable holds these cells. -/
def VarIs (P : Program) (w : World) (name : String) (vs : List Value) : Prop := w.var? P name = some vs.toArray
theorem varIs_of_laid {P : Program} {W : World} {name : String} {D : DataW Unit} {vs : List Value} {g : Nat} {t : TypeId} (n : Nat)
  (hg : P.globalNamed name = some g) (hty : (P.globals[g]?).map (·.type) = some t) (ht : tiles P n t = true) (hf : flatW D = some vs) :
  ∀ {l : List (String × DataW Unit)} {ps : List MemPlace}, (name, D) ∈ l → DataW.LaidVars P W l ps → VarIs P W name vs := by
 intro l
 induction l with
 | nil => intro ps h; cases h
 | cons x l ih =>
  intro ps hm h
  obtain ⟨nm, E⟩ := x
  obtain ⟨g', t', cs, fuel, p, q, hg', ht', hvar, hd, hr, _⟩ := h
  rcases List.mem_cons.1 hm with h | h
  ·injection h with h1 h2
   subst h1 h2
   obtain rfl := zJ (hg.symm.trans hg')
   obtain rfl := zJ (hty.symm.trans ht')
   unfold VarIs
   rw [hvar, ← flat_cells n _ _ _ _ _ _ ht hd hf]
  ·exact ih h hr
theorem varIs {P : Program} {W : World} {name : String} {D : DataW Unit} {vs : List Value} {g : Nat} {t : TypeId} {l : List (String × DataW Unit)} (n : Nat)
  (h : laidMetH P l W) (hp : (l.filter fun x => x.2.handleName?.isSome) = []) (hm : (name, D) ∈ l)
  (hg : P.globalNamed name = some g) (hty : (P.globals[g]?).map (·.type) = some t) (ht : tiles P n t = true) (hf : flatW D = some vs) : VarIs P W name vs := by
 unfold laidMetH at h
 rw [hp] at h
 obtain ⟨ps, h, _⟩ := h
 exact varIs_of_laid n hg hty ht hf hm h
theorem VarIs.cell {P : Program} {W : World} {name : String} {vs : List Value} {g : Nat} (h : VarIs P W name vs) (hg : P.globalNamed name = some g) (i : Nat) : W.cell? ⟨g, i, none⟩ = vs[i]? := by
 rw [World.var?_cell hg h i]; simp
end Go.Proofs.YtdbfgfgbjheibaaDoor.Flat
end

section
/- BoxEncodes over programs that are read as data; the operations' table as the program lays it. -/
namespace Go.Proofs.YtdbfgfgbjheibaaDoor
open Go Go.RowKit Go.Proofs.YtdbfgfgbjheibaaDoorW.PrintWords Go.Proofs.YtdbfgfgbjheibaaDoor.PBx Go.Proofs.YtdbfgfgbjheibaaDoor.Given
set_option linter.unusedVariables false
namespace BxRow
theorem laidOps_of {l : List (String × DataW Unit)} {w : World} (h : laidMetH Tryd.prog l w) (hp : (l.filter fun x => x.2.handleName?.isSome) = []) (hm : ("ladderback/op.rows", Rows.laid_ladderback_op_rows) ∈ l) : LaidOps w := by
 have hv := Flat.varIs (name := "ladderback/op.rows") (D := Rows.laid_ladderback_op_rows) (vs := opsV) (g := 0) (t := 150) 6 h hp hm (by kernel_rfl) (by kernel_rfl) (by kernel_rfl) (by rfl)
 intro i v hi
 rw [hv.cell (by kernel_rfl), hi]
theorem rd_int : Bridge.Rdga Tryd.prog 3 (Kd.int .i64) (fun a => (Lit.int .i64 a).wf = true) := Bridge.Rdg.int Tryd.underlying3 (by kernel_rfl)
theorem rd_ints : Bridge.Rdga Tryd.prog 45 (Kd.slice 3 (Kd.int .i64)) (fun l => ∀ a ∈ l, (Lit.int .i64 a).wf = true) := Bridge.Rdg.slicea Tryd.underlying45 (by kernel_rfl) rd_int
theorem rd_str : Bridge.Rdga Tryd.prog 9 Kd.string (fun s => s.size ≤ 9223372036854775807) := Bridge.Rdg.string Tryd.underlying9 (by kernel_rfl)
theorem rd_instr : Bridge.Rdga Tryd.prog 109 k109 (fun _ => True) := fun m =>
 Bridge.Rdg.imp (Bridge.Rdg.iso (fun x : S109 => (x.f0, x.f1, x.f2)) (fun p => ⟨p.1, p.2.1, p.2.2⟩) (fun _ => rfl)
  (Bridge.Rdg.structa Tryd.underlying109 (by kernel_rfl) (fun m => Bridge.RdgF.cons rfl (rd_int m) (Bridge.RdgF.cons rfl (rd_int m) (Bridge.RdgF.one rfl (rd_int m)))) m)) (fun _ _ => trivial)
theorem rd_const : Bridge.Rdga Tryd.prog 68 k68 (fun _ => True) := fun m =>
 Bridge.Rdg.imp (Bridge.Rdg.iso (fun x : S68 => (x.f0, x.f1)) (fun p => ⟨p.1, p.2⟩) (fun _ => rfl)
  (Bridge.Rdg.structa Tryd.underlying68 (by kernel_rfl) (fun m => Bridge.RdgF.cons rfl (rd_int m) (Bridge.RdgF.one rfl (rd_int m))) m)) (fun _ _ => trivial)
theorem rd_var : Bridge.Rdga Tryd.prog 41 k41 (fun _ => True) := fun m =>
 Bridge.Rdg.imp (Bridge.Rdg.iso (fun x : S41 => (x.f0, x.f1, x.f2, x.f3, x.f4)) (fun p => ⟨p.1, p.2.1, p.2.2.1, p.2.2.2.1, p.2.2.2.2⟩) (fun _ => rfl)
  (Bridge.Rdg.structa Tryd.underlying41 (by kernel_rfl) (fun m => Bridge.RdgF.cons rfl (rd_str m) (Bridge.RdgF.cons rfl (rd_int m) (Bridge.RdgF.cons rfl (rd_int m) (Bridge.RdgF.cons rfl (rd_int m) (Bridge.RdgF.one rfl (rd_int m)))))) m)) (fun _ _ => trivial)
theorem rd_block : Bridge.Rdga Tryd.prog 43 k43 (fun _ => True) := fun m =>
 Bridge.Rdg.imp (Bridge.Rdg.iso (fun x : S43 => (x.f0, x.f1)) (fun p => ⟨p.1, p.2⟩) (fun _ => rfl)
  (Bridge.Rdg.structa Tryd.underlying43 (by kernel_rfl) (fun m => Bridge.RdgF.cons rfl (rd_str m) (Bridge.RdgF.one rfl (rd_int m))) m)) (fun _ _ => trivial)
theorem rd_instrs : Bridge.Rdga Tryd.prog 46 (Kd.slice 109 k109) (fun l => ∀ a ∈ l, True) := Bridge.Rdg.slicea Tryd.underlying46 (by kernel_rfl) rd_instr
theorem rd_unit : Bridge.Rdga Tryd.prog 48 k48 (fun _ => True) := fun m =>
 Bridge.Rdg.imp (Bridge.Rdg.iso (fun x : S48 => (x.f0, x.f1, x.f2, x.f3, x.f4)) (fun p => ⟨p.1, p.2.1, p.2.2.1, p.2.2.2.1, p.2.2.2.2⟩) (fun _ => rfl)
  (Bridge.Rdg.structa Tryd.underlying48 (by kernel_rfl) (fun m => Bridge.RdgF.cons rfl (rd_str m) (Bridge.RdgF.cons rfl (rd_ints m) (Bridge.RdgF.cons rfl (rd_int m) (Bridge.RdgF.cons rfl (rd_ints m) (Bridge.RdgF.one rfl (rd_instrs m)))))) m)) (fun _ _ => trivial)
/-- A program as data: its constants, variables, blocks, units. -/
def KProg : Kd (List S68 × List S41 × List S43 × List S48) := Kd.pair (Kd.slice 68 k68) (Kd.pair (Kd.slice 41 k41) (Kd.pair (Kd.slice 43 k43) (Kd.slice 48 k48)))
theorem rd_prog : Bridge.Rdga Tryd.prog 27 KProg (fun _ => True) := fun m => Bridge.Rdg.imp ((Bridge.Rdg.structa Tryd.underlying27 (by kernel_rfl) (fun m => Bridge.RdgF.cons rfl (Bridge.Rdg.slicea Tryd.underlying22 (by kernel_rfl) rd_const m) (Bridge.RdgF.cons rfl (Bridge.Rdg.slicea Tryd.underlying23 (by kernel_rfl) rd_var m) (Bridge.RdgF.cons rfl (Bridge.Rdg.slicea Tryd.underlying24 (by kernel_rfl) rd_block m) (Bridge.RdgF.one rfl (Bridge.Rdg.slicea Tryd.underlying25 (by kernel_rfl) rd_unit m)))))) m) (fun _ _ => trivial)
theorem prog_of {w : World} {x : List S68 × List S41 × List S43 × List S48} {cs : Array Value} (h : KProg.K w x cs.toList) : ∃ A0 c0 A1 c1 A2 c2 A3 c3, cs = #[.slice A0 x.1.length c0, .slice A1 x.2.1.length c1, .slice A2 x.2.2.1.length c2, .slice A3 x.2.2.2.length c3] ∧ (Kd.C k68 w A0 x.1.length x.1 ∧ x.1.length ≤ c0) ∧ (Kd.C k41 w A1 x.2.1.length x.2.1 ∧ x.2.1.length ≤ c1) ∧ (Kd.C k43 w A2 x.2.2.1.length x.2.2.1 ∧ x.2.2.1.length ≤ c2) ∧ (Kd.C k48 w A3 x.2.2.2.length x.2.2.2 ∧ x.2.2.2.length ≤ c3) := by
 obtain ⟨C, V, B, U⟩ := x
 obtain ⟨_, _, h0, ⟨A0, c0, rfl, l0, g0⟩, _, _, rfl, ⟨A1, c1, rfl, l1, g1⟩, _, _, rfl, ⟨A2, c2, rfl, l2, g2⟩, ⟨A3, c3, rfl, l3, g3⟩⟩ := h
 refine ⟨A0, c0, A1, c1, A2, c2, A3, c3, ?_, ⟨g0, l0⟩, ⟨g1, l1⟩, ⟨g2, l2⟩, ⟨g3, l3⟩⟩
 rw [show cs = cs.toList.toArray by simp, h0]
 rfl
end BxRow
theorem ok_of {A0 : Option Addr} {c0 : Nat} {A1 : Option Addr} {c1 : Nat} {A2 : Option Addr} {c2 : Nat} {A3 : Option Addr} {c3 : Nat} {w : World} {x : List S68 × List S41 × List S43 × List S48} (h0 : Kd.C k68 w A0 x.1.length x.1 ∧ x.1.length ≤ c0) (h1 : Kd.C k41 w A1 x.2.1.length x.2.1 ∧ x.2.1.length ≤ c1) (h2 : Kd.C k43 w A2 x.2.2.1.length x.2.2.1 ∧ x.2.2.1.length ≤ c2) (h3 : Kd.C k48 w A3 x.2.2.2.length x.2.2.2 ∧ x.2.2.2.length ≤ c3) : BPure.BR.Ok ⟨A0, c0, x.1, A1, c1, x.2.1, A2, c2, x.2.2.1, A3, c3, x.2.2.2⟩ w :=
 ⟨h0.1, h0.2, h1.1, h1.2, h2.1, h2.2, h3.1, h3.2⟩
set_option maxRecDepth 100000 in
theorem BoxEncodes_walk (cs : Array Value) (x : List S68 × List S41 × List S43 × List S48) (ds : Array Value) (y : List S68 × List S41 × List S43 × List S48) (w : World) (hk : BxRow.KProg.K w x cs.toList) (wf : True) (hk' : BxRow.KProg.K w y ds.toList) (wf' : True) (hL : laidMetH Tryd.prog Rows.boxEncodesRow.laid w) :
  Calls Tryd.prog 5 #[.agg cs, .agg ds] w fun e w' => e = .returned (.bool true) ∧ Below w.heap.size w w' := by
 obtain ⟨A0, c0, A1, c1, A2, c2, A3, c3, rfl, h0, h1, h2, h3⟩ := BxRow.prog_of hk
 obtain ⟨B0, d0, B1, d1, B2, d2, B3, d3, rfl, k0, k1, k2, k3⟩ := BxRow.prog_of hk'
 have hL2 : LaidOps w := BxRow.laidOps_of hL rfl (by simp [Rows.boxEncodesRow])
 have o1 := ok_of h0 h1 h2 h3
 have o2 := ok_of k0 k1 k2 k3
 clear hk hk' hL h0 h1 h2 h3 k0 k1 k2 k3
 generalize x.1 = C at *
 generalize x.2.1 = V at *
 generalize x.2.2.1 = B at *
 generalize x.2.2.2 = U at *
 generalize y.1 = C' at *
 generalize y.2.1 = V' at *
 generalize y.2.2.1 = B' at *
 generalize y.2.2.2 = U' at *
 exact BPure.boxEncodes_w ⟨A0, c0, C, A1, c1, V, A2, c2, B, A3, c3, U⟩ ⟨B0, d0, C', B1, d1, V', B2, d2, B', B3, d3, U'⟩ w o1 o2 hL2 (BPure.both _ _)
end Go.Proofs.YtdbfgfgbjheibaaDoor
end
