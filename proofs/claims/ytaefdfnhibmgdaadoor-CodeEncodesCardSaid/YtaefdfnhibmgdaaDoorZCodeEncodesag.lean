/- The law CodeEncodes holds for every input: the walk over its code shows that the call returns true and that what was read stays as it was; the row follows. The package-level tables that the code reads are tied to the program's text by the given tie. -/
import Derived.LaidLaws
import Derived.Lib.LaidTab
import Derived.OpenShut
import Derived.Test.YtaefdfnhibmgdaaDoorRows
import Derived.Test.YtaefdfnhibmgdaaDoorCards
import Derived.Test.YtaefdfnhibmgdaaDoorTie
import Derived.WalkKit
import Derived.ProofKit
import Derived.ShutString
import Derived.ChangeOld
import Derived.Below
import Derived.SizedLaws
import Derived.Deep.DeepHandedRow
import Derived.LaidMore
import Derived.Test.YtaefdfnhibmgdaaDoorZCodeEncodesaa
import Derived.Test.YtaefdfnhibmgdaaDoorZCodeEncodesad
import Derived.Test.YtaefdfnhibmgdaaDoorZCodeEncodesae
import Derived.Test.YtaefdfnhibmgdaaDoorZCodeEncodesaf
section
/- What is encoded, and the document's lines: plainly. -/
namespace Go.Proofs.YtaefdfnhibmgdaaDoor.Pure
open Go.RowKit Go.Proofs.YtaefdfnhibmgdaaDoor.PCod Go.Proofs.YtaefdfnhibmgdaaDoor.Given Go.Proofs.YtaefdfnhibmgdaaDoorW.PrintWords Go.Proofs.YtaefdfnhibmgdaaDoorW.PrintLast
set_option linter.unusedVariables false
set_option linter.unusedSimpArgs false
def sh : Nat → Int → Int
  | 0, v => v
  | n + 1, v => sh n v / 256
def le : Nat → Int → List Int
  | 0, _ => []
  | n + 1, v => le n v ++ [sh n v % 256]
theorem le_length : ∀ n v, (le n v).length = n
  | 0, _ => rfl
  | n + 1, v => by simp [le, le_length n v]
theorem mx_nat (a1 : Int) : mx 0 (mn a1 8) = ((mx 0 (mn a1 8)).toNat : Int) := by
  have : 0 ≤ mx 0 (mn a1 8) := by unfold mx; split <;> omega
  omega
theorem held_is (a : Int) : ladderbackref03_held.f a = some (mx 0 (mn a 8)) := by
  have e : mx 0 (mn a 8) = if a < 0 then 0 else if a > 8 then 8 else a := by
    unfold mx mn
    split <;> split <;> (try split) <;> (try split) <;> omega
  rw [e]
  unfold ladderbackref03_held.f
  split
  · rfl
  · split <;> rfl
theorem byte_step (v Q : Int) (hQ : 0 < Q) : (v % (256 * Q)) / 256 = (v / 256) % Q ∧ (v % (256 * Q)) % 256 = v % 256 := by
  have h0 : v = 256 * (Q * (v / (256 * Q))) + v % (256 * Q) := by
    have := Int.mul_ediv_add_emod v (256 * Q)
    rw [Int.mul_assoc] at this
    exact this.symm
  have h1 := Int.emod_nonneg v (show 256 * Q ≠ 0 by omega)
  have h2 := Int.emod_lt_of_pos v (show 0 < 256 * Q by omega)
  generalize hq : v / (256 * Q) = q at h0
  generalize hr : v % (256 * Q) = r at h0 h1 h2 ⊢
  have h3 : v / 256 = Q * q + r / 256 := by
    generalize Q * q = z at h0 ⊢
    omega
  refine ⟨?_, ?_⟩
  · rw [h3, Int.add_comm, Int.add_mul_emod_self_left]
    exact (Int.emod_eq_of_lt (by omega) (by omega)).symm
  · generalize Q * q = z at h0
    omega
theorem pow256 (m : Nat) (hm : m ≤ 8) : (256 ^ m : Int) ≤ 18446744073709551616 := by
  rcases (by omega : m = 0 ∨ m = 1 ∨ m = 2 ∨ m = 3 ∨ m = 4 ∨ m = 5 ∨ m = 6 ∨ m = 7 ∨ m = 8) with rfl | rfl | rfl | rfl | rfl | rfl | rfl | rfl | rfl <;> decide
theorem ref_put_loop (l0 : List Int) (a1 a2 : Int) (n : Nat) (hn : mx 0 (mn a1 8) = n) (hn8 : n ≤ 8) (hl : l0.length ≤ 1000000000) : ∀ (d j k : Nat), j + d = n → d < k →
    ladderbackref03_Put.l0 k a1 (l0 ++ le j a2) (sh j a2 % (256 ^ (8 - j) : Int)) j = some (l0 ++ le n a2) := by
  intro d
  induction d with
  | zero =>
    intro j k hj hk
    obtain ⟨k, rfl⟩ : ∃ m, k = m + 1 := ⟨k - 1, by omega⟩
    obtain rfl : j = n := by omega
    simp only [ladderbackref03_Put.l0]
    rw [held_is, hn]
    simp only [Option.bind_some]
    rw [if_neg (by omega)]
  | succ d ih =>
    intro j k hj hk
    obtain ⟨k, rfl⟩ : ∃ m, k = m + 1 := ⟨k - 1, by omega⟩
    simp only [ladderbackref03_Put.l0]
    rw [held_is, hn]
    simp only [Option.bind_some]
    rw [if_pos (by omega), if_pos (by rw [List.length_append, le_length]; omega)]
    have hQ : (256 ^ (8 - j) : Int) = 256 * 256 ^ (8 - (j + 1)) := by
      rw [show 8 - j = (8 - (j + 1)) + 1 from by omega, Int.pow_succ, Int.mul_comm]
    have hp : (0 : Int) < 256 ^ (8 - (j + 1)) := Int.pow_pos (by decide)
    have hs := byte_step (sh j a2) _ hp
    rw [← hQ] at hs
    have h1 := Int.emod_nonneg (sh j a2) (show (256 ^ (8 - j) : Int) ≠ 0 by rw [hQ]; omega)
    have h2 : sh j a2 % (256 ^ (8 - j) : Int) < 18446744073709551616 := by
      refine Int.lt_of_lt_of_le (Int.emod_lt_of_pos _ (by rw [hQ]; omega)) ?_
      exact pow256 _ (by omega)
    have e1 : (sh j a2 % (256 ^ (8 - j) : Int)).tmod 256 % 256 = sh j a2 % 256 := by
      rw [Int.tmod_eq_emod_of_nonneg h1, Int.emod_emod_of_dvd _ (by decide), hs.2]
    have e2 : IntKind.u64.wrap ((sh j a2 % (256 ^ (8 - j) : Int)).tdiv 256) = sh (j + 1) a2 % (256 ^ (8 - (j + 1)) : Int) := by
      rw [Int.tdiv_eq_ediv_of_nonneg h1, IntKind.wrap_u64]
      refine Eq.trans (Int.emod_eq_of_lt (by omega) (by omega)) hs.1
    have e3 : wrap64 ((j : Int) + 1) = ((j + 1 : Nat) : Int) := by unfold wrap64; omega
    rw [e1, e2, e3]
    have := ih (j + 1) k (by omega) (by omega)
    rw [← this]
    simp [le, List.append_assoc]
/-! ### Encoding -/
def enc1 (i : S30) : List Int := [i.f0 % 256, i.f1 % 256, i.f1 / 256 % 256, i.f2 % 256, i.f2 / 256 % 256]
def encF : List S30 → List Int
  | [] => []
  | i :: t => enc1 i ++ encF t
def allR : List S30 → Bool
  | [] => true
  | i :: t => right3 i.f0 i.f1 i.f2 && allR t
theorem rd47_drop (l : List S30) (i : Nat) (h : i < l.length) : l.drop i = rd_T30 l (i : Int) :: l.drop (i + 1) := by
  unfold rd_T30
  rw [Int.toNat_natCast, List.getD_eq_getElem?_getD, List.getElem?_eq_getElem h, Option.getD_some]
  exact List.drop_eq_getElem_cons h
theorem enc_l0 (l : List S30) (hz : l.length ≤ 100000) : ∀ (d i k : Nat) (out : List Int), i + d = l.length → d < k → out.length ≤ 5 * i →
    code_Encode.l0 k out l (l.length : Int) (i : Int) = if allR (l.drop i) = true then some (out ++ encF (l.drop i), true) else some ([], false) := by
  intro d
  induction d with
  | zero =>
    intro i k out h1 h2 h3
    obtain ⟨k, rfl⟩ : ∃ m, k = m + 1 := ⟨k - 1, by omega⟩
    unfold code_Encode.l0
    rw [if_neg (by omega), List.drop_eq_nil_of_le (by omega)]
    simp [allR, encF]
  | succ d ih =>
    intro i k out h1 h2 h3
    obtain ⟨k, rfl⟩ : ∃ m, k = m + 1 := ⟨k - 1, by omega⟩
    unfold code_Encode.l0
    rw [if_pos (by omega), if_pos (by omega), if_pos (by omega), rd47_drop l i (by omega)]
    generalize rd_T30 l (i : Int) = x
    have hr : op_Right.f x.f0 x.f1 x.f2 = some (right3 x.f0 x.f1 x.f2) := right_some x.f0 x.f1 x.f2
    rw [hr]
    simp only [Option.bind_some]
    rw [show encF (x :: l.drop (i + 1)) = enc1 x ++ encF (l.drop (i + 1)) from rfl]
    by_cases hq : right3 x.f0 x.f1 x.f2 = true
    · rw [if_pos hq, show allR (x :: l.drop (i + 1)) = allR (l.drop (i + 1)) by show (right3 x.f0 x.f1 x.f2 && _) = _; rw [hq, Bool.true_and]]
      rw [if_pos (by simp only [List.length_cons, List.length_nil]; omega), w64 _ (by omega) (by omega)]
      have := ih (i + 1) k (out ++ enc1 x) (by omega) (by omega) (by simp only [List.length_append, enc1, List.length_cons, List.length_nil]; omega)
      rw [show ((i + 1 : Nat) : Int) = (i : Int) + 1 by omega] at this
      unfold enc1 at this ⊢
      rw [this, List.append_assoc]
    · rw [if_neg hq, show allR (x :: l.drop (i + 1)) = false by show (right3 x.f0 x.f1 x.f2 && _) = _; simp [hq]]
      simp
theorem enc_is (l : List S30) (k : Nat) (hz : l.length ≤ 100000) (hk : l.length < k) : code_Encode.f k l = if allR l = true then some (encF l, true) else some ([], false) := by
  have := enc_l0 l hz l.length 0 k [] (by omega) hk (by simp)
  rw [List.drop_zero, List.nil_append] at this
  exact this
theorem rput_k (l0 : List Int) (a1 a2 : Int) (hl : l0.length ≤ 1000000000) (k : Nat) (hk : 9 ≤ k) : ladderbackref03_Put.f k l0 a1 a2 = some (l0 ++ le (mx 0 (mn a1 8)).toNat a2) := by
  have hn := mx_nat a1
  have hn8 : (mx 0 (mn a1 8)).toNat ≤ 8 := by unfold mx mn; split <;> split <;> omega
  have := ref_put_loop l0 a1 a2 _ hn hn8 hl (mx 0 (mn a1 8)).toNat 0 k (by omega) (by omega)
  unfold ladderbackref03_Put.f
  simp only [Option.bind_some, List.nil_append, List.length_nil]
  rw [if_pos (by omega)]
  have e : IntKind.u64.wrap a2 = sh 0 a2 % (256 ^ (8 - 0) : Int) := by rw [IntKind.wrap_u64]; rfl
  rw [e]
  simpa [le] using this
theorem enc1_le (x : S30) (o : List Int) : o ++ le 1 x.f0 ++ le 2 x.f1 ++ le 2 x.f2 = o ++ enc1 x := by
  unfold enc1
  simp [le, sh]
theorem renc_l0 (l : List S30) (hz : l.length ≤ 100000) : ∀ (d i k : Nat) (out : List Int), i + d = l.length → d + 20 < k → out.length ≤ 5 * i →
    ladderbackref13_Encode.l0 k l out (i : Int) = if allR (l.drop i) = true then some (out ++ encF (l.drop i), true) else some ([], false) := by
  intro d
  induction d with
  | zero =>
    intro i k out h1 h2 h3
    obtain ⟨k, rfl⟩ : ∃ m, k = m + 1 := ⟨k - 1, by omega⟩
    unfold ladderbackref13_Encode.l0
    rw [if_neg (by omega), List.drop_eq_nil_of_le (by omega)]
    simp [allR, encF]
  | succ d ih =>
    intro i k out h1 h2 h3
    obtain ⟨k, rfl⟩ : ∃ m, k = m + 1 := ⟨k - 1, by omega⟩
    unfold ladderbackref13_Encode.l0
    rw [if_pos (by omega), if_pos (by omega), rd47_drop l i (by omega)]
    generalize rd_T30 l (i : Int) = x
    rw [rright x.f0 x.f1 x.f2 k (by omega)]
    simp only [Option.bind_some]
    rw [show encF (x :: l.drop (i + 1)) = enc1 x ++ encF (l.drop (i + 1)) from rfl]
    by_cases hq : right3 x.f0 x.f1 x.f2 = true
    · rw [if_pos hq, show allR (x :: l.drop (i + 1)) = allR (l.drop (i + 1)) by show (right3 x.f0 x.f1 x.f2 && _) = _; rw [hq, Bool.true_and]]
      rw [rput_k out 1 x.f0 (by omega) k (by omega), show (mx 0 (mn 1 8)).toNat = 1 by decide]
      simp only [Option.bind_some]
      rw [rput_k _ 2 x.f1 (by rw [List.length_append, le_length]; omega) k (by omega), show (mx 0 (mn 2 8)).toNat = 2 by decide]
      simp only [Option.bind_some]
      rw [rput_k _ 2 x.f2 (by rw [List.length_append, List.length_append, le_length, le_length]; omega) k (by omega), show (mx 0 (mn 2 8)).toNat = 2 by decide]
      simp only [Option.bind_some]
      rw [enc1_le x out, w64 _ (by omega) (by omega)]
      have := ih (i + 1) k (out ++ enc1 x) (by omega) (by omega) (by simp only [List.length_append, enc1, List.length_cons, List.length_nil]; omega)
      rw [show ((i + 1 : Nat) : Int) = (i : Int) + 1 by omega] at this
      rw [this, List.append_assoc]
    · rw [if_neg hq, show allR (x :: l.drop (i + 1)) = false by show (right3 x.f0 x.f1 x.f2 && _) = _; simp [hq]]
      simp
theorem renc_is (l : List S30) (k : Nat) (hz : l.length ≤ 100000) (hk : l.length + 20 < k) : ladderbackref13_Encode.f k l = if allR l = true then some (encF l, true) else some ([], false) := by
  have := renc_l0 l hz l.length 0 k [] (by omega) hk (by simp)
  rw [List.drop_zero, List.nil_append] at this
  exact this
/-! ### Digits, as the document tells them -/
def dig (k : Nat) : ByteArray := (⟨#[48, 49, 50, 51, 52, 53, 54, 55, 56, 57]⟩ : ByteArray).extract k (k + 1)
theorem dig_is : ∀ k : Fin 10, dig k.val = strOfNums [48 + ((k.val : Nat) : Int)] := by decide +kernel
theorem str_cons (x : Int) (ds : List Int) : strOfNums [x] ++ strOfNums ds = strOfNums (x :: ds) := by
  unfold strOfNums
  apply ByteArray.ext
  simp
theorem str_size' (l : List Int) : (strOfNums l).size = l.length := by simp [strOfNums, ByteArray.size]
theorem digits_l0 : ∀ (f v k : Nat) (ds : List Int), v < 10 ^ f → 0 < f → f ≤ 19 → f ≤ k → ds.length + f ≤ 100 → ladderbackref04_Digits.l0 k (v : Int) (strOfNums ds) = some (strOfNums (dgs f v ds)) := by
  intro f
  induction f with
  | zero => intro v k ds _ h0; omega
  | succ f ih =>
    intro v k ds hv _ hf hk hds
    obtain ⟨k, rfl⟩ : ∃ m, k = m + 1 := ⟨k - 1, by omega⟩
    have hp : 10 ^ (f + 1) ≤ 10 ^ 19 := Nat.pow_le_pow_right (by decide) (by omega)
    have hv2 : v < 10000000000000000000 := Nat.lt_of_lt_of_le hv hp
    rw [ladderbackref04_Digits.l0]
    unfold dgs
    by_cases h : 10 ≤ v
    · have e1 : wrap64 (Int.tmod (v : Int) 10) = ((v % 10 : Nat) : Int) := by
        rw [Int.tmod_eq_emod_of_nonneg (by omega)]
        unfold wrap64; omega
      have e2 : wrap64 (((v % 10 : Nat) : Int) + 1) = ((v % 10 + 1 : Nat) : Int) := by unfold wrap64; omega
      have e3 : IntKind.u64.wrap (Int.tdiv (v : Int) 10) = ((v / 10 : Nat) : Int) := by
        rw [Int.tdiv_eq_ediv_of_nonneg (by omega), IntKind.wrap_u64]
        omega
      rw [if_pos (by omega), e1, if_pos (by omega), e2, if_pos (by omega), if_pos (by omega), if_neg (show ¬ v / 10 = 0 by omega), Int.toNat_natCast, Int.toNat_natCast]
      rw [show (⟨#[48, 49, 50, 51, 52, 53, 54, 55, 56, 57]⟩ : ByteArray).extract (v % 10) (v % 10 + 1) = dig (v % 10) from rfl, dig_is ⟨v % 10, by omega⟩, str_cons, if_pos (by rw [str_size', str_size']; simp only [List.length_cons, List.length_nil]; omega), e3]
      have hf0 : 0 < f := by
        by_cases h0 : f = 0
        · subst h0
          have : v < 10 := hv
          omega
        · omega
      exact ih (v / 10) k _ (Nat.div_lt_of_lt_mul (by rw [Nat.mul_comm, ← Nat.pow_succ]; exact hv)) hf0 (by omega) (by omega) (by simp only [List.length_cons]; omega)
    · have hm : v % 10 = v := Nat.mod_eq_of_lt (by omega)
      have e1 : wrap64 (v : Int) = (v : Int) := by unfold wrap64; omega
      have e2 : wrap64 ((v : Int) + 1) = ((v + 1 : Nat) : Int) := by unfold wrap64; omega
      rw [if_neg (by omega), e1, if_pos (by omega), e2, if_pos (by omega), if_pos (by omega), if_pos (Nat.div_eq_of_lt (by omega)), Int.toNat_natCast, Int.toNat_natCast]
      rw [show (⟨#[48, 49, 50, 51, 52, 53, 54, 55, 56, 57]⟩ : ByteArray).extract v (v + 1) = dig v from rfl, dig_is ⟨v, by omega⟩, str_cons, if_pos (by rw [str_size', str_size']; simp only [List.length_cons, List.length_nil]; omega), hm]
theorem dgs_more : ∀ (f v : Nat) (ds : List Int), 0 < f → v < 10 ^ f → dgs (f + 1) v ds = dgs f v ds
  | 0, v, ds, h, _ => by omega
  | f + 1, v, ds, _, hv => by
    rw [dgs.eq_2]
    conv => rhs; rw [dgs.eq_2]
    by_cases h : v / 10 = 0
    · rw [if_pos h, if_pos h]
    · rw [if_neg h, if_neg h]
      have hf0 : 0 < f := by
        by_cases h0 : f = 0
        · subst h0
          have : v < 10 := hv
          exact absurd (Nat.div_eq_of_lt this) h
        · omega
      exact dgs_more f _ _ hf0 (Nat.div_lt_of_lt_mul (by rw [Nat.mul_comm, ← Nat.pow_succ]; exact hv))
theorem rprint (n : Nat) (hn : n < 1000000) (k : Nat) (hk : 30 ≤ k) : ladderbackref04_Print.f k (n : Int) = some (numS n) := by
  unfold ladderbackref04_Print.f ladderbackref04_Digits.f numS
  have e : IntKind.u64.wrap (n : Int) = (n : Int) := by rw [IntKind.wrap_u64]; omega
  have h19 : n < 10 ^ 19 := Nat.lt_of_lt_of_le hn (by decide)
  have := digits_l0 19 n k [] h19 (by decide) (by decide) (by omega) (by simp)
  rw [if_pos (by omega), e, show (⟨#[]⟩ : ByteArray) = strOfNums [] from rfl, this, dgs_more 19 n [] (by decide) h19]
  rfl
theorem words_is : ∀ n : Fin 38, (ladderbackref12_Words.f.bind fun t => if ((n.val : Nat) : Int) < (t.length : Int) then some (rdOf ByteArray.empty t ((n.val : Nat) : Int)) else none) = some (opW.getD n.val ⟨#[]⟩) := by decide +kernel
theorem rline (x y z : Int) (k : Nat) (hk : 40 ≤ k) : ladderbackref12_Line.f k x y z = some (lineM x y z) := by
  unfold ladderbackref12_Line.f lineM
  rw [rright x y z k (by omega)]
  simp only [Option.bind_some]
  by_cases h : right3 x y z = true
  · have hl := right_lim h
    have hw := wordOf_size x
    have hy := num_size y.toNat
    have hz := num_size z.toNat
    rw [if_pos h, if_pos h, rshape x k (by omega)]
    simp only [Option.bind_some]
    obtain ⟨n, hn⟩ := Int.eq_ofNat_of_zero_le hl.1.1
    have hww := words_is ⟨n, by omega⟩
    have hwn : wordOf x = opW.getD n ⟨#[]⟩ := by
      unfold wordOf
      rw [if_pos (by unfold isOp; simp; omega), hn, Int.toNat_natCast]
    obtain ⟨T, hT⟩ : ∃ T, ladderbackref12_Words.f = some T := ⟨_, rfl⟩
    rw [hT] at hww ⊢
    simp only [Option.bind_some] at hww ⊢
    have hlt : x < (T.length : Int) := by
      by_cases c : ((n : Nat) : Int) < (T.length : Int)
      · omega
      · rw [if_neg c] at hww; cases hww
    have hrd : rdOf ByteArray.empty T x = wordOf x := by
      rw [if_pos (by omega)] at hww
      rw [hwn, hn]
      exact Option.some.inj hww
    have ea : ∃ m : Nat, y = (m : Int) := Int.eq_ofNat_of_zero_le hl.2.1.1
    have eb : ∃ m : Nat, z = (m : Int) := Int.eq_ofNat_of_zero_le hl.2.2.1
    obtain ⟨ya, rfl⟩ := ea
    obtain ⟨za, rfl⟩ := eb
    rw [rprint ya (by omega) k (by omega), rprint za (by omega) k (by omega)]
    simp only [Option.bind_some, Int.toNat_natCast] at hy hz ⊢
    rw [if_pos hl.1.1, if_pos hlt, hrd, show (⟨#[32]⟩ : ByteArray) = sp from rfl]
    have pa : ∀ v : Int, (v = shapeA x ∨ v = shapeB x) → 0 ≤ v := by
      have key : ∀ q : Fin 38, 0 ≤ opA.getD q.val 0 ∧ 0 ≤ opB.getD q.val 0 := by decide +kernel
      have hq := key ⟨n, by omega⟩
      intro v hv
      unfold shapeA shapeB at hv
      rw [if_pos (by unfold isOp; simp; omega), if_pos (by unfold isOp; simp; omega), hn, Int.toNat_natCast] at hv
      rcases hv with rfl | rfl
      · exact hq.1
      · exact hq.2
    have pA := pa _ (.inl rfl)
    have pB := pa _ (.inr rfl)
    by_cases ha : shapeA x = 0
    · rw [if_neg (by omega), if_pos ha]
      by_cases hb : shapeB x = 0
      · rw [if_neg (by omega), if_pos hb]
      · rw [if_pos (by omega), if_neg hb, if_pos (by omega), if_pos (by simp only [ByteArray.size_append, sp_size]; omega), ByteArray.append_assoc]
    · rw [if_pos (by omega), if_neg ha, if_pos (by omega), if_pos (by simp only [ByteArray.size_append, sp_size]; omega)]
      by_cases hb : shapeB x = 0
      · rw [if_neg (by omega), if_pos hb, ByteArray.append_assoc]
      · rw [if_pos (by omega), if_neg hb, if_pos (by simp only [ByteArray.size_append, sp_size]; omega), if_pos (by simp only [ByteArray.size_append, sp_size]; omega)]
        simp only [ByteArray.append_assoc]
  · rw [if_neg h, if_neg h]
end Go.Proofs.YtaefdfnhibmgdaaDoor.Pure
end

section
/- What a package's variable that is laid as plain data has in its cells; numbers, truths, texts, structs and arrays alone. -/
namespace Go.Proofs.YtaefdfnhibmgdaaDoor.Flat
open Go Go.Lib Go.RowKit
mutual
/-- The cells that a datum of numbers, bools, texts, structs and arrays says. -/
def flatW {H : Type} : DataW H → Option (List Value)
  | .lit (.int k n) => some [.int k n]
  | .lit (.bool b) => some [.bool b]
  | .lit (.string s) => some [.string ⟨s.toArray⟩]
  | .agg ps => flatWs ps
  | _ => none
def flatWs {H : Type} : List (DataW H) → Option (List Value)
  | [] => some []
  | d :: r => (flatW d).bind fun a => (flatWs r).map (a ++ ·)
end
/-- Do a type's parts lie one behind the other, without a gap? -/
def tiles (P : Program) : Nat → TypeId → Bool
  | 0, _ => false
  | n + 1, t => match P.underlying t with
    | some .bool | some (.int _) | some .string => true
    | some (.struct fs) => fs.toList.foldl (fun o f => o.bind fun k => if f.offset = k ∧ tiles P n f.type = true then some (k + P.cellsOf f.type) else none) (some 0) == some (P.cellsOf t)
    | some (.array m e) => tiles P n e && P.cellsOf t == m * P.cellsOf e
    | _ => false
theorem foldl_none {α β : Type} (f : Option β → α → Option β) (h : ∀ a, f none a = none) : ∀ l : List α, l.foldl f none = none
  | [] => rfl
  | a :: l => by rw [List.foldl_cons, h, foldl_none f h l]
theorem flat_cells {H : Type} {enc : TypeId × Value → H} {P : Program} {w : World} {base : Nat} {sp : Nat → Bool} {held : Bool} :
    ∀ (n fuel : Nat) (t : TypeId) (cs : List Value) (d : DataW H) (ps : List MemPlace) (vs : List Value), tiles P n t = true → DataW.trod enc P w base sp held fuel t cs = some (d, ps) → flatW d = some vs → cs = vs := by
  intro n
  induction n with
  | zero => intro fuel t cs d ps vs ht; simp [tiles] at ht
  | succ n ih =>
    intro fuel t cs d ps vs ht h hf
    cases fuel with
    | zero => simp [DataW.trod] at h
    | succ fuel =>
      cases hu : P.underlying t with
      | none => simp [tiles, hu] at ht
      | some u =>
        cases u with
        | bool =>
          unfold DataW.trod at h; rw [hu] at h
          split at h <;> simp_all
          obtain ⟨rfl, _⟩ := h
          simp [flatW] at hf; exact hf
        | int k =>
          unfold DataW.trod at h; rw [hu] at h
          split at h <;> simp_all
          obtain ⟨⟨rfl, _⟩, rfl, _⟩ := h
          simp [flatW] at hf; exact hf
        | string =>
          unfold DataW.trod at h; rw [hu] at h
          split at h <;> simp_all
          obtain ⟨_, rfl, _⟩ := h
          simp [flatW] at hf; exact hf
        | struct fs =>
          simp only [tiles, hu, beq_iff_eq] at ht
          unfold DataW.trod at h; rw [hu] at h
          simp only at h
          split at h
          · rename_i hl
            obtain ⟨xs, hm, hx⟩ := Option.map_eq_some_iff.1 h
            simp only [Prod.mk.injEq] at hx
            obtain ⟨rfl, _⟩ := hx
            have key : ∀ (fs : List Field) (k : Nat) (xs : List (DataW H × List MemPlace)) (vs : List Value), k ≤ cs.length → fs.mapM (fun f => DataW.trod enc P w base sp held fuel f.type ((cs.drop f.offset).take (P.cellsOf f.type))) = some xs →
                fs.foldl (fun o f => o.bind fun k => if f.offset = k ∧ tiles P n f.type = true then some (k + P.cellsOf f.type) else none) (some k) = some cs.length → flatWs (xs.map (·.1)) = some vs → cs.drop k = vs := by
              intro fs
              induction fs with
              | nil =>
                intro k xs vs hk hm ht hf
                simp at hm; subst hm
                simp [flatWs] at hf; subst hf
                simp at ht; simp; omega
              | cons f fs ihf =>
                intro k xs vs hk hm ht hf
                simp only [List.mapM_cons, Option.bind_eq_bind, Option.bind_eq_some_iff, Option.pure_def, Option.some.injEq] at hm
                obtain ⟨b, hb, r, hr, rfl⟩ := hm
                simp only [List.foldl_cons, Option.bind_some] at ht
                split at ht
                · rename_i hc
                  obtain ⟨hc1, hc2⟩ := hc
                  simp only [List.map_cons, flatWs, Option.bind_eq_some_iff, Option.map_eq_some_iff] at hf
                  obtain ⟨a, ha, s, hs, rfl⟩ := hf
                  have e1 := ih _ _ _ b.1 b.2 a hc2 (by rw [hb]) ha
                  rw [hc1] at e1
                  have hle : k + P.cellsOf f.type ≤ cs.length := by
                    have mono : ∀ (l : List Field) (k m : Nat), l.foldl (fun o f => o.bind fun k => if f.offset = k ∧ tiles P n f.type = true then some (k + P.cellsOf f.type) else none) (some k) = some m → k ≤ m := by
                      intro l
                      induction l with
                      | nil => intro k m h; simp at h; omega
                      | cons g l ihl =>
                        intro k m h
                        simp only [List.foldl_cons, Option.bind_some] at h
                        split at h
                        · have := ihl _ _ h; omega
                        · rw [foldl_none _ (fun _ => rfl)] at h; cases h
                    exact mono _ _ _ ht
                  have e2 := ihf _ _ _ hle hr ht hs
                  rw [← e1, ← e2, ← List.drop_drop, List.take_append_drop]
                · rw [foldl_none _ (fun _ => rfl)] at ht; cases ht
            have := key fs.toList 0 xs vs (Nat.zero_le _) hm (by rw [ht, hl]) (by simpa [flatW] using hf)
            simpa using this
          · cases h
        | array m e =>
          simp only [tiles, hu, Bool.and_eq_true, beq_iff_eq] at ht
          obtain ⟨ht1, ht2⟩ := ht
          unfold DataW.trod at h; rw [hu] at h
          simp only at h
          split at h
          · rename_i hl
            obtain ⟨xs, hm, hx⟩ := Option.map_eq_some_iff.1 h
            simp only [Prod.mk.injEq] at hx
            obtain ⟨rfl, _⟩ := hx
            have key : ∀ (j k : Nat) (xs : List (DataW H × List MemPlace)) (vs : List Value), k + j = m → (List.range' k j).mapM (fun i => DataW.trod enc P w base sp held fuel e ((cs.drop (i * P.cellsOf e)).take (P.cellsOf e))) = some xs → flatWs (xs.map (·.1)) = some vs → cs.drop (k * P.cellsOf e) = vs := by
              intro j
              induction j with
              | zero =>
                intro k xs vs hk hm hf
                simp at hm; subst hm
                simp [flatWs] at hf; subst hf
                have hkm : k = m := by omega
                subst hkm
                rw [← ht2, ← hl]; simp
              | succ j ihj =>
                intro k xs vs hk hm hf
                simp only [List.range'_succ, List.mapM_cons, Option.bind_eq_bind, Option.bind_eq_some_iff, Option.pure_def, Option.some.injEq] at hm
                obtain ⟨b, hb, r, hr, rfl⟩ := hm
                simp only [List.map_cons, flatWs, Option.bind_eq_some_iff, Option.map_eq_some_iff] at hf
                obtain ⟨a, ha, s, hs, rfl⟩ := hf
                have e1 := ih _ _ _ b.1 b.2 a ht1 (by rw [hb]) ha
                have e2 := ihj (k + 1) _ _ (by omega) hr hs
                rw [← e1, ← e2, Nat.add_mul, Nat.one_mul, ← List.drop_drop, List.take_append_drop]
            have := key m 0 xs vs (by omega) (by rw [← List.range_eq_range']; exact hm) (by simpa [flatW] using hf)
            simpa using this
          · cases h
        | _ => simp [tiles, hu] at ht
/-- The variable holds these cells. -/
def VarIs (P : Program) (w : World) (name : String) (vs : List Value) : Prop := w.var? P name = some vs.toArray
theorem varIs_of_laid {P : Program} {W : World} {name : String} {D : DataW Unit} {vs : List Value} {g : Nat} {t : TypeId} (n : Nat)
    (hg : P.globalNamed name = some g) (hty : (P.globals[g]?).map (·.type) = some t) (ht : tiles P n t = true) (hf : flatW D = some vs) :
    ∀ {l : List (String × DataW Unit)} {ps : List MemPlace}, (name, D) ∈ l → DataW.LaidVars P W l ps → VarIs P W name vs := by
  intro l
  induction l with
  | nil => intro ps h; cases h
  | cons x l ih =>
    intro ps hm h
    obtain ⟨nm, E⟩ := x
    obtain ⟨g', t', cs, fuel, p, q, hg', ht', hvar, hd, hr, _⟩ := h
    rcases List.mem_cons.1 hm with h | h
    · injection h with h1 h2
      subst h1 h2
      obtain rfl := Option.some.inj (hg.symm.trans hg')
      obtain rfl := Option.some.inj (hty.symm.trans ht')
      unfold VarIs
      rw [hvar, ← flat_cells n _ _ _ _ _ _ ht hd hf]
    · exact ih h hr
theorem varIs {P : Program} {W : World} {name : String} {D : DataW Unit} {vs : List Value} {g : Nat} {t : TypeId} {l : List (String × DataW Unit)} (n : Nat)
    (h : laidMetH P l W) (hp : (l.filter fun x => x.2.handleName?.isSome) = []) (hm : (name, D) ∈ l)
    (hg : P.globalNamed name = some g) (hty : (P.globals[g]?).map (·.type) = some t) (ht : tiles P n t = true) (hf : flatW D = some vs) : VarIs P W name vs := by
  unfold laidMetH at h
  rw [hp] at h
  obtain ⟨ps, h, _⟩ := h
  exact varIs_of_laid n hg hty ht hf hm h
theorem VarIs.cell {P : Program} {W : World} {name : String} {vs : List Value} {g : Nat} (h : VarIs P W name vs) (hg : P.globalNamed name = some g) (i : Nat) : W.cell? ⟨g, i, none⟩ = vs[i]? := by
  rw [World.var?_cell hg h i]; simp
end Go.Proofs.YtaefdfnhibmgdaaDoor.Flat
end

section
/- CodeEncodes: the plain law, and the law over what is read as data. -/
namespace Go.Proofs.YtaefdfnhibmgdaaDoor.Pure
open Go.RowKit Go.Proofs.YtaefdfnhibmgdaaDoor.PCod Go.Proofs.YtaefdfnhibmgdaaDoor.Given Go.Proofs.YtaefdfnhibmgdaaDoorW.PrintWords Go.Proofs.YtaefdfnhibmgdaaDoorW.PrintLast
set_option linter.unusedVariables false
set_option linter.unusedSimpArgs false
theorem awake13 (k : Nat) (hk : 20 ≤ k) : ladderbacklaw13_awake.f k = some true := by
  have h : ladderbacklaw13_awake.f 20 = some true := by decide +kernel
  have : ∀ d, ladderbacklaw13_awake.f (20 + d) = some true := by
    intro d
    induction d with
    | zero => exact h
    | succ d ih => exact ladderbacklaw13_awake.mono (20 + d) _ ih
  rw [show k = 20 + (k - 20) by omega]
  exact this _
theorem rtext_l0 (l : List S30) (hl : l.length ≤ 60000) : ∀ (d i k : Nat), i + d = l.length → 100 + d < k → ladderbackref13_Text.l0 k l (textF l i) (i : Int) = some (textF l l.length) := by
  intro d
  induction d with
  | zero =>
    intro i k h1 h2
    obtain ⟨k, rfl⟩ : ∃ m, k = m + 1 := ⟨k - 1, by omega⟩
    obtain rfl : i = l.length := by omega
    rw [ladderbackref13_Text.l0, if_neg (by omega)]
  | succ d ih =>
    intro i k h1 h2
    obtain ⟨k, rfl⟩ : ∃ m, k = m + 1 := ⟨k - 1, by omega⟩
    have hts := text_size l i
    have hP := num_size i
    have h0 := ih (i + 1) k (by omega) (by omega)
    have hT : textF l (i + 1) = textF l i ++ rowT i (rd_T30 l (i : Int)) := rfl
    rw [hT] at h0
    rw [ladderbackref13_Text.l0, if_pos (by omega), if_pos (by omega)]
    generalize rd_T30 l (i : Int) = x at h0
    have hS := line_size x.f0 x.f1 x.f2
    rw [rline x.f0 x.f1 x.f2 k (by omega)]
    simp only [Option.bind_some]
    rw [rprint i (by omega) k (by omega)]
    simp only [Option.bind_some]
    unfold rowT at h0
    have ew : wrap64 ((i : Int) + 1) = ((i + 1 : Nat) : Int) := by unfold wrap64; omega
    rw [ew, show (⟨#[58, 32]⟩ : ByteArray) = colon from rfl, show (⟨#[10]⟩ : ByteArray) = nl from rfl]
    have h4 : colon.size = 2 := rfl
    have h5 : nl.size = 1 := rfl
    have h6 : (⟨#[63]⟩ : ByteArray).size = 1 := rfl
    unfold qmark at h0
    by_cases hq : (lineM x.f0 x.f1 x.f2).toList = []
    · rw [if_pos hq, if_pos (by omega), if_pos (by rw [ByteArray.size_append]; omega), if_pos (by simp only [ByteArray.size_append, h4]; omega), if_pos (by simp only [ByteArray.size_append, h4, h6]; omega)]
      rw [if_pos hq] at h0
      simp only [ByteArray.append_assoc] at h0 ⊢
      exact h0
    · rw [if_neg hq, if_pos (by omega), if_pos (by rw [ByteArray.size_append]; omega), if_pos (by simp only [ByteArray.size_append, h4]; omega), if_pos (by simp only [ByteArray.size_append, h4]; omega)]
      rw [if_neg hq] at h0
      simp only [ByteArray.append_assoc] at h0 ⊢
      exact h0
theorem CodeEncodes (l : List S30) : ladderbacklaw13_CodeEncodes.f 1000 l = some true := by
  unfold ladderbacklaw13_CodeEncodes.f
  rw [awake13 1000 (by omega)]
  by_cases h : (l.length : Int) > 200
  · rw [if_pos h]; rfl
  · rw [if_neg h, enc_is l 1000 (by omega) (by omega), renc_is l 1000 (by omega) (by omega)]
    have ht : code_Text.f l = some (textF l l.length) := by unfold code_Text.f; rw [if_pos (by omega)]
    have hr : ladderbackref13_Text.f 1000 l = some (textF l l.length) := rtext_l0 l (by omega) l.length 0 1000 (by omega) (by omega)
    rw [ht, hr]
    by_cases hq : allR l = true
    · rw [if_pos hq]; simp
    · rw [if_neg hq]; simp
end Go.Proofs.YtaefdfnhibmgdaaDoor.Pure
namespace Go.Proofs.YtaefdfnhibmgdaaDoor
open Go Go.RowKit Go.Proofs.YtaefdfnhibmgdaaDoorW.PrintWords Go.Proofs.YtaefdfnhibmgdaaDoor.PCod Go.Proofs.YtaefdfnhibmgdaaDoor.Given
set_option linter.unusedVariables false
theorem laidOps_of {l : List (String × DataW Unit)} {w : World} (h : laidMetH Tryd.prog l w) (hp : (l.filter fun x => x.2.handleName?.isSome) = []) (hm : ("ladderback/op.rows", Rows.laid_ladderback_op_rows) ∈ l) : LaidOps w := by
  have hv := Flat.varIs (name := "ladderback/op.rows") (D := Rows.laid_ladderback_op_rows) (vs := opsV) (g := 0) (t := 57) 6 h hp hm (by kernel_rfl) (by kernel_rfl) (by kernel_rfl) (by rfl)
  intro i v hi
  rw [hv.cell (by kernel_rfl), hi]
theorem rd_cint : Bridge.Rdga Tryd.prog 3 (Kd.int .i64) (fun a => (Lit.int .i64 a).wf = true) := Bridge.Rdg.int Tryd.underlying3 (by kernel_rfl)
theorem rd_instr : Bridge.Rdga Tryd.prog 30 k30 (fun _ => True) := fun m =>
  Bridge.Rdg.imp (Bridge.Rdg.iso (fun x : S30 => (x.f0, x.f1, x.f2)) (fun p => ⟨p.1, p.2.1, p.2.2⟩) (fun _ => rfl)
    (Bridge.Rdg.structa Tryd.underlying30 (by kernel_rfl) (fun m => Bridge.RdgF.cons rfl (rd_cint m) (Bridge.RdgF.cons rfl (rd_cint m) (Bridge.RdgF.one rfl (rd_cint m)))) m)) (fun _ _ => trivial)
theorem rd_instrs : Bridge.Rdga Tryd.prog 22 (Kd.slice 30 k30) (fun l => ∀ a ∈ l, True) := Bridge.Rdg.slicea Tryd.underlying22 (by kernel_rfl) rd_instr
theorem CodeEncodes_walk (A0 : Option Addr) (c0 : Nat) (l : List S30) (w : World) (hC0 : k30.C w A0 l.length l) (hle0 : l.length ≤ c0) (_ : ∀ a ∈ l, True) (hL : laidMetH Tryd.prog Rows.codeEncodesRow.laid w) :
    Calls Tryd.prog 3 #[.slice A0 l.length c0] w fun e w' => e = .returned (.bool true) ∧ Below w.heap.size w w' :=
  ladderbacklaw13_CodeEncodes.calls 1000 A0 c0 l true w hC0 hle0 (Pure.CodeEncodes l) (laidOps_of hL rfl (by simp [Rows.codeEncodesRow]))
end Go.Proofs.YtaefdfnhibmgdaaDoor
end

section
/- The law CodeEncodes holds for every input: the walk over its code shows that the call returns true and that what was read stays as it was; the row follows. The package-level tables that the code reads are tied to the program's text by the given tie. -/
namespace Go.Proofs.YtaefdfnhibmgdaaDoor.codeEncodesRw
open Go.ChangeShapes Go.WideShapes Go.ChangeAt Go.RowKit
open Go.ChangeMaps (open_string shut_string)
open Go.Proofs.YtaefdfnhibmgdaaDoor.Bridge
set_option linter.unusedVariables false
set_option linter.unusedSimpArgs false
theorem own : ownKnob Tryd.prog.godebug = none := by kernel_rfl
theorem laidOut : laidOutB Tryd.prog = true := by kernel_rfl
theorem contract (H : Type) (enc : TypeId × Value → H) (W : World) (base : Nat) (args : Array Value) (ds gs : List (DataW H)) (before : List MemPlace)
    (hval : ∀ (j : Nat) t v, Tryd.f3.params[j]? = some t → args[j]? = some v → Value.okWide Tryd.prog W .any base t v)
    (hW : DataW.Whole enc Tryd.prog Tryd.f3.params.toList Rows.codeEncodesSpec.vars false W args.toList ds gs before) (hsz : (DataW.weightsEach Tryd.prog (Tryd.f3.params.toList ++ Rows.codeEncodesSpec.plain.varTypes Tryd.prog) (ds ++ gs)).all (· ≤ reachBytes) = true) (hL : laidMetH Tryd.prog Rows.codeEncodesRow.laid W) :
    Calls Tryd.prog 3 args W fun e W' => ∃ v, e = .returned v ∧ Rows.codeEncodesSpec.post enc Tryd.prog Tryd.f3 false true false false W args v W' := by
  have hW' := hW
  obtain ⟨p, q, hA0, hV, rfl, hfz, hnd⟩ := hW
  have hA : DataW.TrodAll enc Tryd.prog W 0 (fun _ => true) true Tryd.f3.params.toList args.toList ds p := hA0
  rw [Tryd.params3] at hA hval hsz
  obtain ⟨v0, vs0, d0, ds0, p0, q0, hargs, rfl, rfl, h0, r0⟩ := trodAll_cons hA
  obtain ⟨rfl, rfl, rfl⟩ := trodAll_nil r0
  obtain rfl : args = #[v0] := by cases args; simp_all
  obtain ⟨rfl, rfl⟩ := trodVars_none hV
  clear hA0
  have k0 := h0
  have lt0 : ∀ x ∈ p0, x.block < W.heap.size := by obtain ⟨m, hm⟩ := k0; exact DataW.trod_lt m _ _ _ hm
  obtain ⟨A0, len0, c0, rfl⟩ := okWide_slice Tryd.underlying22 (hval 0 22 v0 rfl rfl)
  obtain ⟨x0, hk0, wf0⟩ := Rdga.trod rd_instrs h0
  obtain ⟨A0', c0', he0, hle0, hC0⟩ := hk0
  simp only [Value.cells, List.cons.injEq, Value.slice.injEq, and_true] at he0
  obtain ⟨rfl, rfl, rfl⟩ := he0
  refine (CodeEncodes_walk A0 c0 x0 W hC0 hle0 wf0 hL).mono fun e W' ⟨he, bel⟩ => ?_
  subst he
  exact ⟨_, rfl, _, _, _, [], _, [], hW', trodAll_mk1 (shut_bool Tryd.underlying4 _), (trodAll_cons_mk (Below.trod laidOut (by kernel_rfl) (of_decide_eq_true (by kernel_rfl)) k0 bel lt0) trodAll_mk0), rfl, bel.frame _, fun h => by cases h⟩
theorem laid_met (os : Os) : laidMetH Tryd.prog Rows.codeEncodesRow.laid ((World.doorLaid Tryd.prog 4000 os).forCall (fun _ _ => 0) ⟨#[], #[.slice none 0 0], []⟩).memory :=
  laidMetH_of_parts3 (fuel := 12) (laidMet_of_run' 12 (by kernel_rfl) (by kernel_rfl)) (by kernel_rfl) (by kernel_rfl)
theorem reads (os : Os) {H : Type} (enc : TypeId × Value → H) : ∃ ds places, DataW.whole enc Tryd.prog ((World.doorLaid Tryd.prog 4000 os).forCall (fun _ _ => 0) ⟨#[], #[.slice none 0 0], []⟩).memory Tryd.f3.params.toList Rows.codeEncodesSpec.vars false (#[.slice none 0 0] : Array Value).toList 8 = some (ds, [], places) :=
  ⟨[.nil], [], by kernel_rfl⟩
set_option maxRecDepth 100000 in
theorem lifted (os : Os) (started : os.Started) (H : Type) (enc : TypeId × Value → H) (F : Stop.Interp) :
    ReturnsInHanded {} Tryd.checked os 3 .any ((OpenSpec.ofChange Rows.codeEncodesSpec).preRow enc Tryd.prog Tryd.f3 Rows.codeEncodesRow.domain false Rows.codeEncodesRow.laid) (((OpenSpec.ofChange Rows.codeEncodesSpec).at F).post enc Tryd.prog Tryd.f3 false true false false) := by
  obtain ⟨ds, places, hx⟩ := reads os enc
  refine returnsInHanded_of_row (C := Tryd.checked) (s := OpenSpec.ofChange Rows.codeEncodesSpec) own started (by kernel_rfl) Tryd.func3
    (witness_row_at (enc := enc) (C := Tryd.checked) false (World.doorLaid Tryd.prog 4000 os) #[.slice none 0 0] rfl (by kernel_rfl) (by kernel_rfl) (by kernel_rfl)
      (OpenSpec.preRow_of_cond 8 hx (by kernel_rfl) (fun k hk => by cases hk) (by kernel_rfl) (laid_met os))) ?_
  intro W base args ds gs before hval hW _ _ hsz hL _ _
  exact contract H enc W base args ds gs before hval hW hsz hL
theorem said : Rows.CodeEncodesSaid :=
  OpenClaim.holds_of_cond 3 Tryd.f3 rfl rfl rfl rfl rfl rfl rfl ⟨rfl, rfl, rfl, rfl, rfl⟩ rfl rfl rfl rfl rfl (by kernel_rfl) Tryd.func3 (by kernel_rfl)
    (of_decide_eq_true (by kernel_rfl)) (by unfold Func.isWrapper; first | (rw [if_pos (by decide +kernel)]; kernel_rfl) | (rw [if_neg (by decide +kernel)]; exact ⟨rfl, rfl⟩))
    (fun os started H enc _ F => by rw [OpenClaim.pre_eq_preRow]; exact lifted os started H enc F)
theorem plain (f : FuncId) (fn : Func) (hf : Tryd.pinned.checked.prog.funcNamed "ladderback/ladderbacklaw13.CodeEncodes" = some f) (hfn : Tryd.pinned.checked.prog.funcs[f]? = some fn) :
    false = Tryd.pinned.checked.prog.looks [] ∧ ∀ (j : Nat) t, fn.params[j]? = some t → Tryd.pinned.checked.prog.wantsStandIn t = false := by
  obtain rfl : f = 3 := Option.some.inj ((show Tryd.prog.funcNamed "ladderback/ladderbacklaw13.CodeEncodes" = some 3 by kernel_rfl).symm.trans hf) |>.symm
  obtain rfl : fn = Tryd.f3 := (Option.some.inj (Tryd.func3.symm.trans hfn)).symm
  refine ⟨by kernel_rfl, fun j t ht => ?_⟩
  rw [Tryd.params3] at ht
  have hm : t ∈ [22] := by simpa using Array.mem_of_getElem? ht
  have hall : ([22].all fun u => !Tryd.prog.wantsStandIn u) = true := by kernel_rfl
  exact (show Tryd.prog.wantsStandIn t = false by simpa using List.all_eq_true.1 hall t hm)
theorem card : Rows.CodeEncodesCardSaid :=
  Claim7.holds_tied_plain_at .later [] _ _ _ _ said (fun _ h => by cases h) (by kernel_rfl) (fun _ h => by cases h) codeEncodes_row_tie rfl ⟨rfl, rfl⟩ (by kernel_rfl) rfl plain (by kernel_rfl)
end Go.Proofs.YtaefdfnhibmgdaaDoor.codeEncodesRw
namespace Go.Proofs.YtaefdfnhibmgdaaDoor
theorem codeEncodes_holds : Rows.CodeEncodesCardSaid := codeEncodesRw.card
#print axioms codeEncodes_holds
end Go.Proofs.YtaefdfnhibmgdaaDoor
end
