/- The law BoxDecodes holds for every input: the walk over its code shows that the call returns true and that what was read stays as it was; the row follows. The package-level tables that the code reads are tied to the program's text by the given tie. -/
import Derived.Test.YtdbfgfgbjheibaaDoorZBoxDecodesq
import Derived.Test.YtdbfgfgbjheibaaDoorProg
import Derived.Test.YtdbfgfgbjheibaaDoorRows
import Derived.Test.YtdbfgfgbjheibaaDoorCards
import Derived.Test.YtdbfgfgbjheibaaDoorTie
import Derived.WalkKit
import Derived.ProofKit
import Derived.OpenShut
import Derived.ShutString
import Derived.ChangeOld
import Derived.Below
import Derived.SizedLaws
import Derived.Deep.DeepHandedRow
import Derived.Lib.LaidTab
import Derived.LaidMore
import Derived.Test.YtdbfgfgbjheibaaDoorZBoxDecodesaa
import Derived.Test.YtdbfgfgbjheibaaDoorZBoxDecodesai
import Derived.Test.YtdbfgfgbjheibaaDoorZBoxDecodesak
import Derived.Test.YtdbfgfgbjheibaaDoorZBoxDecodesal
import Derived.Test.YtdbfgfgbjheibaaDoorZBoxDecodesam
section
/- How long what bytes say as a container can be; bytes of at most 3000. -/
namespace Go.Proofs.YtdbfgfgbjheibaaDoor.Given
open Go Go.RowKit Go.Proofs.YtdbfgfgbjheibaaDoor Go.Proofs.YtdbfgfgbjheibaaDoorW.PrintWords Go.Proofs.YtdbfgfgbjheibaaDoorW.PrintLast Go.Proofs.YtdbfgfgbjheibaaDoorW.PrintMore
set_option linter.unusedVariables false
set_option linter.unusedSimpArgs false
theorem num1_lim (b : List Int) (hb : ∀ x ∈ b, 0 ≤ x ∧ x < 256) (at_ : Int) (bad : Bool) : 0 ≤ (numR b at_ bad 1).1 ∧ (numR b at_ bad 1).1 < 256 := by
 unfold numR
 split
 ·have hm : mx 0 (mn 1 8) = 1 := by decide
  rw [hm]
  have hlen : (cutR b at_ 1).length ≤ 1 := by unfold cutR; rw [zt]; exact Nat.le_trans (Nat.min_le_left _ _) (by decide)
  have h := leN_lim (cutR b at_ 1) (fun x hx => hb x (List.mem_of_mem_drop (List.mem_of_mem_take hx)))
  have h2 : (2 : Int) ^ (8 * (cutR b at_ 1).length) ≤ 256 := by
   have h3 : (cutR b at_ 1).length = 0 ∨ (cutR b at_ 1).length = 1 := by omega
   rcases h3 with h3 | h3 <;> rw [h3] <;> decide
  have e : wrap64 (leN (cutR b at_ 1)) = leN (cutR b at_ 1) := by unfold wrap64; omega
  dsimp only
  rw [e]
  omega
 ·exact ⟨Int.le_refl _, by show (0 : Int) < 256; decide⟩
theorem take_most (b : List Int) (at_ : Int) (bad : Bool) (n : Int) : (takeR b at_ bad n).1.length ≤ n.toNat := by
 unfold takeR
 split
 ·unfold cutR
  rw [zt]
  exact Nat.min_le_left _ _
 ·exact Nat.zero_le _
theorem text_lim (b : List Int) (hb : ∀ x ∈ b, 0 ≤ x ∧ x < 256) (at_ : Int) (bad : Bool) : (textR b at_ bad).1.size ≤ 255 := by
 unfold textR
 dsimp only
 rw [str_size]
 have h1 := num1_lim b hb at_ bad
 have h2 := take_most b (numR b at_ bad 1).2.1 (numR b at_ bad 1).2.2 (numR b at_ bad 1).1
 omega
theorem numbers_lim (b : List Int) (at_ : Int) (bad : Bool) (many most : Int) : (numbersR b at_ bad many most).1.length ≤ most.toNat := by
 unfold numbersR
 dsimp only
 split
 ·simp
 ·split
  ·simp
  ·dsimp only
   have := take_most b (numR b at_ bad many).2.1 (numR b at_ bad many).2.2 (numR b at_ bad many).1
   omega
theorem dec_five : ∀ (n : Nat) (l : List Int) (out : List InS), 5 * (decF n l out).1.length ≤ 5 * out.length + l.length
 | 0, _, out => by unfold decF; dsimp only; omega
 | n + 1, [], out => by unfold decF; simp
 | n + 1, [_], out => by unfold decF; simp
 | n + 1, [_, _], out => by unfold decF; simp
 | n + 1, [_, _, _], out => by unfold decF; simp
 | n + 1, [_, _, _, _], out => by unfold decF; simp
 | n + 1, a :: b :: c :: d :: e :: t, out => by
  unfold decF
  split
  ·have := dec_five n t (out ++ [⟨a, b + 256 * c, d + 256 * e⟩])
   simp only [List.length_append, List.length_cons, List.length_nil] at this ⊢
   omega
  ·simp
theorem uget_lim (b : List Int) (hb : ∀ x ∈ b, 0 ≤ x ∧ x < 256) : (ugetR b).1.1.size ≤ 255 ∧ (ugetR b).1.2.1.length ≤ 8 ∧ (ugetR b).1.2.2.2.1.length ≤ 1024 ∧ 5 * (ugetR b).1.2.2.2.2.length ≤ b.length := by
 have hz : zeroU.1.size ≤ 255 ∧ zeroU.2.1.length ≤ 8 ∧ zeroU.2.2.2.1.length ≤ 1024 ∧ 5 * zeroU.2.2.2.2.length ≤ b.length := ⟨by decide, by decide, by decide, Nat.zero_le _⟩
 unfold ugetR
 dsimp only
 have ht := text_lim b hb 0 false
 generalize textR b 0 false = t at ht
 split
 ·exact hz
 have hp := numbers_lim b t.2.1 t.2.2 1 8
 generalize numbersR b t.2.1 t.2.2 1 8 = p at hp
 split
 ·exact hz
 generalize numR b p.2.2.1 p.2.2.2 1 = r
 split
 ·exact hz
 have hl := numbers_lim b r.2.1 r.2.2 2 1024
 generalize numbersR b r.2.1 r.2.2 2 1024 = l at hl
 split
 ·exact hz
 generalize numR b l.2.2.1 l.2.2.2 2 = n
 split
 ·exact hz
 have hx := take_len (b := b) (at_ := n.2.1) (bad := n.2.2) (n := wrap64 (5 * n.1))
 generalize takeR b n.2.1 n.2.2 (wrap64 (5 * n.1)) = x at hx
 split
 ·exact hz
 have hc := dec_five x.1.length x.1 []
 generalize decF x.1.length x.1 [] = c at hc
 split
 ·exact hz
 generalize (if x.2.2 = true then (0 : Int) else (b.length : Int) - x.2.1) = d
 split
 ·exact hz
 ·refine ⟨ht, hp, hl, ?_⟩
  dsimp only
  rw [List.length_map]
  simp at hc
  omega
theorem rows_len {α : Type} (row : Int → Bool → α × Int × Bool) : ∀ (n : Nat) (at_ : Int) (bad : Bool) (out : List α), (rowsR row n at_ bad out).1.length = out.length + n
 | 0, _, _, _ => rfl
 | n + 1, at_, bad, out => by
  unfold rowsR
  rw [rows_len row n, List.length_append, List.length_singleton]
  omega
theorem get_lim {α : Type} (row : List Int → Int → Bool → α × Int × Bool) (most : Int) (b : List Int) : (getR row most b).1.length ≤ most.toNat := by
 unfold getR
 split
 ·split
  ·dsimp only
   rw [rows_len, List.length_nil, Nat.zero_add]
   have : (headR most b).1 ≤ most ∨ (headR most b).1 ≤ 0 := by
    unfold headR
    split
    ·right; exact Int.le_refl _
    ·split
     ·right; exact Int.le_refl _
     ·left; dsimp only; omega
   omega
  ·exact Nat.zero_le _
 ·exact Nat.zero_le _
theorem unitsL_lim (b : List Int) : ∀ (n : Nat) (at_ : Int) (out : List SU), (unitsL b n at_ false out).1 = 0 → (unitsL b n at_ false out).2.1.length = out.length + n ∧ ∀ x ∈ (unitsL b n at_ false out).2.1, x ∈ out ∨ ∃ t : List Int, t.length ≤ b.length ∧ (∀ y ∈ t, y ∈ b) ∧ x = mkU (ugetR t).1
 | 0, _, out, _ => ⟨rfl, fun x hx => .inl hx⟩
 | n + 1, at_, out, h => by
  unfold unitsL at h ⊢
  split at h
  ·cases h
  ·split at h
   ·rename_i h2
    exact absurd h h2
   ·rename_i h1 h2
    rw [if_neg h1, if_neg h2]
    have ih := unitsL_lim b n _ _ h
    refine ⟨by rw [ih.1, List.length_append, List.length_singleton]; omega, fun x hx => ?_⟩
    rcases ih.2 x hx with h3 | h3
    ·rcases List.mem_append.1 h3 with h4 | h4
     ·exact .inl h4
     ·exact .inr ⟨_, runF_len, runF_mem, List.mem_singleton.1 h4⟩
    ·exact .inr h3
theorem units_lim (b : List Int) (hb : ∀ x ∈ b, 0 ≤ x ∧ x < 256) (hl : b.length ≤ 3000) : (unitsR b).1.length ≤ 8 ∧ BPure.Ok (unitsR b).1 := by
 have hz : ([] : List SU).length ≤ 8 ∧ BPure.Ok [] := ⟨by decide, fun x hx => by cases hx⟩
 unfold unitsR
 have hn := num1_lim b hb 0 false
 generalize numR b 0 false 1 = n at hn
 split
 ·exact hz
 split
 ·exact hz
 split
 ·exact hz
 split
 ·exact hz
 rename_i h1 h2 h3 h4
 have := unitsL_lim b n.1.toNat n.2.1 [] (Classical.not_not.1 h3)
 refine ⟨by dsimp only; rw [this.1, List.length_nil]; omega, fun x hx => ?_⟩
 rcases this.2 x hx with h5 | ⟨t, h5, h6, rfl⟩
 ·cases h5
 ·have := uget_lim t (fun y hy => hb y (h6 y hy))
  show (ugetR t).1.1.size ≤ 300 ∧ (ugetR t).1.2.1.length ≤ 20 ∧ (ugetR t).1.2.2.2.1.length ≤ 1100 ∧ (ugetR t).1.2.2.2.2.length ≤ 600
  omega
structure PLim (P : PD) : Prop where
 c : P.1.length ≤ 1024
 v : P.2.1.length ≤ 64
 b : P.2.2.1.length ≤ 32
 d : P.2.2.2.length ≤ 8
 ok : BPure.Ok P.2.2.2
theorem noP_lim : PLim noP := ⟨by decide, by decide, by decide, by decide, fun x hx => by cases hx⟩
theorem bodyOf_mem {l : List Int} : ∀ x ∈ bodyOf l, x ∈ l := fun x hx => List.mem_of_mem_take (List.mem_of_mem_drop hx)
theorem bodyOf_len {l : List Int} : (bodyOf l).length ≤ l.length := by unfold bodyOf; rw [zd, zt]; omega
theorem readF_lim (l : List Int) (hb : ∀ x ∈ l, 0 ≤ x ∧ x < 256) (hl : l.length ≤ 3000) : PLim (readF l).2 := by
 unfold readF
 split
 ·exact noP_lim
 split
 ·exact noP_lim
 split
 ·exact noP_lim
 split
 ·exact noP_lim
 have hc : ∀ x ∈ bodyOf l, 0 ≤ x ∧ x < 256 := fun x hx => hb x (bodyOf_mem x hx)
 have hcl := Nat.le_trans (bodyOf_len (l := l)) hl
 generalize bodyOf l = c at hc hcl
 unfold readC1
 split
 ·exact noP_lim
 split
 ·exact noP_lim
 unfold readC2
 split
 ·exact noP_lim
 split
 ·exact noP_lim
 unfold readC3
 split
 ·exact noP_lim
 split
 ·exact noP_lim
 unfold readC4
 split
 ·exact noP_lim
 split
 ·exact noP_lim
 split
 ·exact noP_lim
 have hu := units_lim (takeS c (takeS c (takeS c (takeS c 0 1).2.2 2).2.2 3).2.2 4).2.1 (fun x hx => hc x (takeS_mem x hx)) (Nat.le_trans takeS_len hcl)
 exact ⟨get_lim conR 1024 _, get_lim varR 64 _, get_lim blkR 32 _, hu.1, hu.2⟩
end Go.Proofs.YtdbfgfgbjheibaaDoor.Given
end

section
/- Instructions' bytes, over the texts of the container. -/
namespace Go.Proofs.YtdbfgfgbjheibaaDoor.BPure
open Go Go.RowKit Go.Proofs.YtdbfgfgbjheibaaDoor Go.Proofs.YtdbfgfgbjheibaaDoor.PBx Go.Proofs.YtdbfgfgbjheibaaDoor.Given Go.Proofs.YtdbfgfgbjheibaaDoorW.PrintWords Go.Proofs.YtdbfgfgbjheibaaDoorW.PrintLast Go.Proofs.YtdbfgfgbjheibaaDoorW.PrintMore
set_option linter.unusedVariables false
set_option linter.unusedSimpArgs false
def enc1 (i : S109) : List Int := [i.f0 % 256, i.f1 % 256, i.f1 / 256 % 256, i.f2 % 256, i.f2 / 256 % 256]
def encF : List S109 → List Int
 | [] => []
 | i :: t => enc1 i ++ encF t
def allR : List S109 → Bool
 | [] => true
 | i :: t => right3 i.f0 i.f1 i.f2 && allR t
theorem enc_len : ∀ l : List S109, (encF l).length = 5 * l.length
 | [] => rfl
 | i :: t => by simp only [encF, List.length_append, enc_len t, enc1, List.length_cons, List.length_nil]; omega
theorem enc_byte : ∀ l : List S109, ∀ x ∈ encF l, 0 ≤ x ∧ x < 256
 | [], x, h => by cases h
 | i :: t, x, h => by
  rcases List.mem_append.1 h with h | h
  ·unfold enc1 at h
   simp only [List.mem_cons, List.not_mem_nil, or_false] at h
   omega
  ·exact enc_byte t x h
theorem rd47_drop (l : List S109) (i : Nat) (h : i < l.length) : l.drop i = rd_T109 l (i : Int) :: l.drop (i + 1) := by
 unfold rd_T109
 rw [Int.toNat_natCast, List.getD_eq_getElem?_getD, List.getElem?_eq_getElem h, Option.getD_some]
 exact List.drop_eq_getElem_cons h
theorem enc_l0 (l : List S109) (hz : l.length ≤ 100000) : ∀ (d i k : Nat) (out : List Int), i + d = l.length → d < k → out.length ≤ 5 * i →
  code_Encode.l0 k out l (l.length : Int) (i : Int) = if allR (l.drop i) = true then some (out ++ encF (l.drop i), true) else some ([], false) := by
 intro d
 induction d with
 | zero =>
  intro i k out h1 h2 h3
  obtain ⟨k, rfl⟩ : ∃ m, k = m + 1 := ⟨k - 1, by omega⟩
  unfold code_Encode.l0
  rw [if_neg (by omega), List.drop_eq_nil_of_le (by omega)]
  simp [allR, encF]
 | succ d ih =>
  intro i k out h1 h2 h3
  obtain ⟨k, rfl⟩ : ∃ m, k = m + 1 := ⟨k - 1, by omega⟩
  unfold code_Encode.l0
  rw [if_pos (by omega), if_pos (by omega), if_pos (by omega), rd47_drop l i (by omega)]
  generalize rd_T109 l (i : Int) = x
  have hr : op_Right.f x.f0 x.f1 x.f2 = some (right3 x.f0 x.f1 x.f2) := right_some x.f0 x.f1 x.f2
  rw [hr]
  simp only [zP]
  rw [show encF (x :: l.drop (i + 1)) = enc1 x ++ encF (l.drop (i + 1)) from rfl]
  by_cases hq : right3 x.f0 x.f1 x.f2 = true
  ·rw [if_pos hq, show allR (x :: l.drop (i + 1)) = allR (l.drop (i + 1)) by show (right3 x.f0 x.f1 x.f2 && _) = _; rw [hq, Bool.true_and]]
   rw [if_pos (by simp only [List.length_cons, List.length_nil]; omega), w64 _ (by omega) (by omega)]
   have := ih (i + 1) k (out ++ enc1 x) (by omega) (by omega) (by simp only [List.length_append, enc1, List.length_cons, List.length_nil]; omega)
   rw [show ((i + 1 : Nat) : Int) = (i : Int) + 1 by omega] at this
   unfold enc1 at this ⊢
   rw [this, List.append_assoc]
  ·rw [if_neg hq, show allR (x :: l.drop (i + 1)) = false by show (right3 x.f0 x.f1 x.f2 && _) = _; simp [hq]]
   simp
theorem enc_is (l : List S109) (k : Nat) (hz : l.length ≤ 100000) (hk : l.length < k) : code_Encode.f k l = if allR l = true then some (encF l, true) else some ([], false) := by
 have := enc_l0 l hz l.length 0 k [] (by omega) hk (by simp)
 rw [List.drop_zero, List.nil_append] at this
 exact this
end Go.Proofs.YtdbfgfgbjheibaaDoor.BPure
end

section
/- What the document's octets put, over the texts of the container. -/
namespace Go.Proofs.YtdbfgfgbjheibaaDoor.BPure
open Go Go.RowKit Go.Proofs.YtdbfgfgbjheibaaDoor Go.Proofs.YtdbfgfgbjheibaaDoor.PBx Go.Proofs.YtdbfgfgbjheibaaDoor.Given Go.Proofs.YtdbfgfgbjheibaaDoorW.PrintWords Go.Proofs.YtdbfgfgbjheibaaDoorW.PrintLast Go.Proofs.YtdbfgfgbjheibaaDoorW.PrintMore
set_option linter.unusedVariables false
set_option linter.unusedSimpArgs false
theorem bytesOf_length (s : ByteArray) : (bytesOf s).length = s.size := by simp [bytesOf]
end Go.Proofs.YtdbfgfgbjheibaaDoor.BPure
end

section
/- Units, plainly, over the texts of the container: whether they fit. -/
namespace Go.Proofs.YtdbfgfgbjheibaaDoor.BPure
open Go Go.RowKit Go.Proofs.YtdbfgfgbjheibaaDoor Go.Proofs.YtdbfgfgbjheibaaDoor.PBx Go.Proofs.YtdbfgfgbjheibaaDoor.Given Go.Proofs.YtdbfgfgbjheibaaDoorW.PrintWords Go.Proofs.YtdbfgfgbjheibaaDoorW.PrintLast Go.Proofs.YtdbfgfgbjheibaaDoorW.PrintMore
set_option linter.unusedVariables false
set_option linter.unusedSimpArgs false
/-- From some rounds on it tells r. -/
def Tells {α : Type} (g : Nat → Option α) (r : α) : Prop := ∃ k0, ∀ k, k0 ≤ k → g k = some r
theorem Tells.get {α : Type} {g : Nat → Option α} {r : α} (h : Tells g r) : ∃ k, g k = some r := by
 obtain ⟨k, hk⟩ := h
 exact ⟨k, hk k (z5 _)⟩
theorem rd_drop (l : List Int) (i : Nat) (h : i < l.length) : l.drop i = rd l (i : Int) :: l.drop (i + 1) := by
 unfold rd
 rw [Int.toNat_natCast, List.getD_eq_getElem?_getD, List.getElem?_eq_getElem h, Option.getD_some]
 exact List.drop_eq_getElem_cons h
def byteL : List Int → Bool
 | [] => true
 | x :: t => (decide (0 ≤ x) && decide (x ≤ 255)) && byteL t
theorem byteL_cons {x : Int} {t : List Int} (h : ¬ x < 0) (h2 : ¬ x > 255) : byteL (x :: t) = byteL t := by
 show ((decide (0 ≤ x) && decide (x ≤ 255)) && byteL t) = byteL t
 rw [decide_eq_true (by omega), decide_eq_true (by omega)]; rfl
theorem byteL_low {x : Int} {t : List Int} (h : x < 0) : byteL (x :: t) = false := by
 show ((decide (0 ≤ x) && decide (x ≤ 255)) && byteL t) = false
 rw [decide_eq_false (by omega)]; rfl
theorem byteL_high {x : Int} {t : List Int} (h : x > 255) : byteL (x :: t) = false := by
 show ((decide (0 ≤ x) && decide (x ≤ 255)) && byteL t) = false
 rw [decide_eq_false (show ¬ x ≤ 255 by omega), Bool.and_false]; rfl
theorem bytes_l0 (P : List Int) (hz : P.length ≤ 100000) : ∀ (d i k : Nat), i + d = P.length → d < k → unit_bytes.l0 k P (P.length : Int) (i : Int) = some (byteL (P.drop i)) := by
 intro d
 induction d with
 | zero =>
  intro i k h1 h2
  obtain ⟨k, rfl⟩ : ∃ m, k = m + 1 := ⟨k - 1, by omega⟩
  unfold unit_bytes.l0
  rw [if_neg (by omega), List.drop_eq_nil_of_le (by omega)]; rfl
 | succ d ih =>
  intro i k h1 h2
  obtain ⟨k, rfl⟩ : ∃ m, k = m + 1 := ⟨k - 1, by omega⟩
  unfold unit_bytes.l0
  rw [if_pos (by omega), if_pos (by omega), if_pos (by omega), rd_drop P i (by omega)]
  generalize rd P (i : Int) = x
  by_cases h : x < 0
  ·rw [if_pos h, byteL_low h]
  ·rw [if_neg h]
   by_cases h' : x > 255
   ·rw [if_pos h', byteL_high h']
   ·rw [if_neg h', byteL_cons h h', w64 _ (by omega) (by omega)]
    exact ih (i + 1) k (by omega) (by omega)
theorem bytes_is (P : List Int) (hz : P.length ≤ 100000) (k : Nat) (hk : P.length < k) : unit_bytes.f k P = some (byteL P) := bytes_l0 P hz P.length 0 k (by omega) hk
/-! ### Fits -/
def fitsF (n : ByteArray) (P : List Int) (R : Int) (L : List Int) (C : List S109) : Bool := decide (n.size ≤ 255) && decide (P.length ≤ 8) && decide (L.length ≤ 1024) && decide (C.length ≤ 16384) && allR C && byteL P && byteL L && (decide (0 ≤ R) && decide (R ≤ 255))
theorem allR_cons (x : S109) (t : List S109) : allR (x :: t) = (right3 x.f0 x.f1 x.f2 && allR t) := rfl
theorem fits_l0 (n : ByteArray) (P : List Int) (R : Int) (L : List Int) (C : List S109) (hP : P.length ≤ 10000) (hL : L.length ≤ 10000) (hC : C.length ≤ 10000) : ∀ (d i k : Nat), i + d = C.length → d + 10010 < k →
  unit_Fits.l0 k C (C.length : Int) (i : Int) n P R L C = some (allR (C.drop i) && byteL P && byteL L && (decide (0 ≤ R) && decide (R ≤ 255))) := by
 intro d
 induction d with
 | zero =>
  intro i k h1 h2
  obtain ⟨k, rfl⟩ : ∃ m, k = m + 1 := ⟨k - 1, by omega⟩
  unfold unit_Fits.l0
  rw [if_neg (by omega), List.drop_eq_nil_of_le (by omega), bytes_is P (by omega) k (by omega), bytes_is L (by omega) k (by omega), bytes_is [R] (by simp) k (by simp; omega)]
  simp only [zP]
  rw [show allR ([] : List S109) = true from rfl, show byteL [R] = (decide (0 ≤ R) && decide (R ≤ 255)) by simp [byteL]]
  cases byteL P <;> cases byteL L <;> simp
 | succ d ih =>
  intro i k h1 h2
  obtain ⟨k, rfl⟩ : ∃ m, k = m + 1 := ⟨k - 1, by omega⟩
  unfold unit_Fits.l0
  rw [if_pos (by omega), if_pos (by omega), if_pos (by omega), rd47_drop C i (by omega)]
  generalize rd_T109 C (i : Int) = x
  have hr : op_Right.f x.f0 x.f1 x.f2 = some (right3 x.f0 x.f1 x.f2) := right_some x.f0 x.f1 x.f2
  rw [hr, zP, allR_cons]
  by_cases hq : right3 x.f0 x.f1 x.f2 = true
  ·rw [if_pos hq, hq, Bool.true_and, w64 _ (by omega) (by omega)]
   exact ih (i + 1) k (by omega) (by omega)
  ·rw [if_neg hq, show right3 x.f0 x.f1 x.f2 = false by simpa using hq]; simp
theorem fits_is (n : ByteArray) (P : List Int) (R : Int) (L : List Int) (C : List S109) (hP : P.length ≤ 10000) (hL : L.length ≤ 10000) (hC : C.length ≤ 10000) (k : Nat) (hk : 20100 ≤ k) : unit_Fits.f k n P R L C = some (fitsF n P R L C) := by
 obtain ⟨k, rfl⟩ : ∃ m, k = m + 1 := ⟨k - 1, by omega⟩
 have h := fits_l0 n P R L C hP hL hC C.length 0 k (by omega) (by omega)
 rw [List.drop_zero] at h
 unfold unit_Fits.f fitsF
 have hj : ∀ b : Bool, unit_Fits.j0 (k + 1) b n P R L C = if b = true then some false else unit_Fits.l0 k C (C.length : Int) 0 n P R L C := fun b => rfl
 simp only [hj]
 rw [show ((0 : Nat) : Int) = 0 from rfl] at h
 rw [h]
 by_cases h1 : (n.size : Int) > 255
 ·rw [if_pos h1, if_pos trivial, decide_eq_false (show ¬ n.size ≤ 255 by omega)]; simp
 ·rw [if_neg h1, decide_eq_true (show n.size ≤ 255 by omega)]
  by_cases h2 : (P.length : Int) > 8
  ·rw [if_pos h2, if_pos trivial, decide_eq_false (show ¬ P.length ≤ 8 by omega)]; simp
  ·rw [if_neg h2, decide_eq_true (show P.length ≤ 8 by omega)]
   by_cases h3 : (L.length : Int) > 1024
   ·rw [if_pos h3, if_pos trivial, decide_eq_false (show ¬ L.length ≤ 1024 by omega)]; simp
   ·rw [if_neg h3, decide_eq_true (show L.length ≤ 1024 by omega), decide_eq_true (show C.length ≤ 16384 by omega), decide_eq_false (show ¬ (C.length : Int) > 16384 by omega), if_neg (by simp)]
    simp
end Go.Proofs.YtdbfgfgbjheibaaDoor.BPure
end

section
/- Units, plainly, over the texts of the container: their bytes. -/
namespace Go.Proofs.YtdbfgfgbjheibaaDoor.BPure
open Go Go.RowKit Go.Proofs.YtdbfgfgbjheibaaDoor Go.Proofs.YtdbfgfgbjheibaaDoor.PBx Go.Proofs.YtdbfgfgbjheibaaDoor.Given Go.Proofs.YtdbfgfgbjheibaaDoorW.PrintWords Go.Proofs.YtdbfgfgbjheibaaDoorW.PrintLast Go.Proofs.YtdbfgfgbjheibaaDoorW.PrintMore
set_option linter.unusedVariables false
set_option linter.unusedSimpArgs false
def low (l : List Int) : List Int := l.map (· % 256)
theorem low_len (l : List Int) : (low l).length = l.length := by simp [low]
theorem list_l0 (P : List Int) (hz : P.length ≤ 100000) : ∀ (d i k : Nat) (x0 : List Int), i + d = P.length → d < k → x0.length + d ≤ 10000000 →
  unit_list.l0 k x0 P (P.length : Int) (i : Int) = some (x0 ++ low (P.drop i)) := by
 intro d
 induction d with
 | zero =>
  intro i k x0 h1 h2 h3
  obtain ⟨k, rfl⟩ : ∃ m, k = m + 1 := ⟨k - 1, by omega⟩
  unfold unit_list.l0
  rw [if_neg (by omega), List.drop_eq_nil_of_le (by omega)]; simp [low]
 | succ d ih =>
  intro i k x0 h1 h2 h3
  obtain ⟨k, rfl⟩ : ∃ m, k = m + 1 := ⟨k - 1, by omega⟩
  unfold unit_list.l0
  rw [if_pos (by omega), if_pos (by omega), if_pos (by omega), if_pos (by omega), rd_drop P i (by omega), w64 _ (by omega) (by omega)]
  have := ih (i + 1) k (x0 ++ [rd P (i : Int) % 256]) (by omega) (by omega) (by simp only [List.length_append, List.length_cons, List.length_nil]; omega)
  rw [show ((i + 1 : Nat) : Int) = (i : Int) + 1 by omega] at this
  rw [this, List.append_assoc]
  rfl
theorem list_is (x0 : List Int) (m : Int) (P : List Int) (hz : P.length ≤ 100000) (hx : x0.length ≤ 1000000) (k : Nat) (hk : P.length < k) : unit_list.f k x0 m P = some (x0 ++ le (mx 0 (mn m 8)).toNat (P.length : Int) ++ low P) := by
 unfold unit_list.f octet_Put.f
 rw [if_pos (by omega), zP]
 have h8 : (mx 0 (mn m 8)).toNat ≤ 8 := by unfold mx mn; split <;> split <;> omega
 exact list_l0 P hz P.length 0 k _ (by omega) hk (by rw [List.length_append, le_length]; omega)
/-- A unit's bytes. -/
def putB (n : ByteArray) (P : List Int) (R : Int) (L : List Int) (C : List S109) : List Int :=
 le 1 ((min n.size 255 : Nat) : Int) ++ bytesOf (textOf n) ++ le 1 (P.length : Int) ++ low P ++ le 1 R ++ le 2 (L.length : Int) ++ low L ++ le 2 (C.length : Int) ++ encF C
theorem text_len (n : ByteArray) : (bytesOf (textOf n)).length ≤ 255 := by
 rw [bytesOf_length]
 unfold textOf
 rw [ByteArray.size_extract]
 omega
theorem m1 : (mx 0 (mn 1 8)).toNat = 1 := by decide
theorem m2 : (mx 0 (mn 2 8)).toNat = 2 := by decide
theorem fits_allR {n : ByteArray} {P : List Int} {R : Int} {L : List Int} {C : List S109} (h : fitsF n P R L C = true) : n.size ≤ 255 ∧ P.length ≤ 8 ∧ L.length ≤ 1024 ∧ C.length ≤ 16384 ∧ allR C = true ∧ byteL P = true ∧ byteL L = true ∧ 0 ≤ R ∧ R ≤ 255 := by
 unfold fitsF at h
 simp only [Bool.and_eq_true, decide_eq_true_eq] at h
 obtain ⟨⟨⟨⟨⟨⟨⟨a, b⟩, c⟩, d⟩, e⟩, f⟩, g⟩, i, j⟩ := h
 exact ⟨a, b, c, d, e, f, g, i, j⟩
theorem put_is (n : ByteArray) (P : List Int) (R : Int) (L : List Int) (C : List S109) (hn : n.size ≤ 1000) (hP : P.length ≤ 10000) (hL : L.length ≤ 10000) (hC : C.length ≤ 10000) (k : Nat) (hk : 20100 ≤ k) :
  unit_Put.f k n P R L C = if fitsF n P R L C = true then some (putB n P R L C, true) else some ([], false) := by
 unfold unit_Put.f
 rw [fits_is n P R L C hP hL hC k hk, zP]
 by_cases hf : fitsF n P R L C = true
 ·rw [if_pos hf, if_pos hf]
  have hR := (fits_allR hf).2.2.2.2.1
  have ht := text_len n
  unfold octet_Text.f
  rw [if_pos (by simp; omega), zP, list_is _ 1 P (by omega) (by simp only [List.length_append, le_length, List.length_nil]; omega) k (by omega), zP, m1]
  unfold octet_Put.f
  rw [if_pos (by simp only [List.length_append, le_length, List.length_nil, low_len]; omega), zP, list_is _ 2 L (by omega) (by simp only [List.length_append, le_length, List.length_nil, low_len, m1]; omega) k (by omega), zP, if_pos (by simp only [List.length_append, le_length, List.length_nil, low_len, m1, m2]; omega), zP, enc_is C k (by omega) (by omega), if_pos hR, zP, if_pos (by simp only [List.length_append, le_length, List.length_nil, low_len, m1, m2, enc_len]; omega)]
  rw [m1, m2, List.nil_append]
  rfl
 ·rw [if_neg hf, if_neg (by simp at hf; simp [hf])]
/-! ### The document's -/
end Go.Proofs.YtdbfgfgbjheibaaDoor.BPure
end

section
/- Tables' bytes, plainly, over the texts of the container. -/
namespace Go.Proofs.YtdbfgfgbjheibaaDoor.BPure.Tab
open Go Go.RowKit Go.Proofs.YtdbfgfgbjheibaaDoor Go.Proofs.YtdbfgfgbjheibaaDoor.PBx Go.Proofs.YtdbfgfgbjheibaaDoor.Given Go.Proofs.YtdbfgfgbjheibaaDoorW.PrintWords Go.Proofs.YtdbfgfgbjheibaaDoorW.PrintLast Go.Proofs.YtdbfgfgbjheibaaDoorW.PrintMore Go.Proofs.YtdbfgfgbjheibaaDoor.BPure
set_option linter.unusedVariables false
set_option linter.unusedSimpArgs false
abbrev TC := S68
abbrev TV := S41
abbrev TB := S43
theorem bytes_len (s : ByteArray) : (bytesOf s).length = s.size := by simp [bytesOf]
theorem text_all (s : ByteArray) (h : s.size ≤ 255) : textOf s = s := by
 unfold textOf
 rw [Nat.min_eq_left h]
 simp
variable {α : Type} {row : List Int → Int → Bool → α × Int × Bool} {fit : α → Bool} {wf : α → Prop} {enc : α → List Int}
def encL (enc : α → List Int) (l : List α) : List Int := (l.map enc).flatten
theorem encL_cons (enc : α → List Int) (x : α) (l : List α) : encL enc (x :: l) = enc x ++ encL enc l := by simp [encL]
/-- What is put of a table. -/
def putM (most : Nat) (fit : α → Bool) (enc : α → List Int) (l : List α) : List Int × Bool := if l.length > most then ([], false) else if l.all fit = true then (le 2 (l.length : Int) ++ encL enc l, true) else ([], false)
def small (n : Int) : Bool := decide (0 ≤ n) && decide (n ≤ 255)
theorem small_iff {n : Int} : small n = true ↔ 0 ≤ n ∧ n ≤ 255 := by unfold small; simp
def conFit (x : TC) : Bool := small x.f0
def conEnc (x : TC) : List Int := le 1 x.f0 ++ le 8 x.f1
def encT (s : ByteArray) : List Int := le 1 ((s.size : Nat) : Int) ++ bytesOf s
def blkFit (x : TB) : Bool := decide (x.f0.size ≤ 255) && small x.f1
def blkEnc (x : TB) : List Int := encT x.f0 ++ le 1 x.f1
def varFit (x : TV) : Bool := decide (x.f0.size ≤ 255) && (small x.f1 && (small x.f2 && small x.f3))
def varEnc (x : TV) : List Int := encT x.f0 ++ le 1 x.f1 ++ le 1 x.f2 ++ le 1 x.f3 ++ le 8 x.f4
theorem encT_len (s : ByteArray) : (encT s).length = 1 + s.size := by unfold encT; rw [List.length_append, le_length, bytes_len]
theorem put1 (l : List Int) (v : Int) (hl : l.length ≤ 1000000000) : octet_Put.f l 1 v = some (l ++ le 1 v) := by
 unfold octet_Put.f
 rw [if_pos hl, show (mx 0 (mn 1 8)).toNat = 1 by decide]
theorem put8 (l : List Int) (v : Int) (hl : l.length ≤ 1000000000) : octet_Put.f l 8 v = some (l ++ le 8 v) := by
 unfold octet_Put.f
 rw [if_pos hl, show (mx 0 (mn 8 8)).toNat = 8 by decide]
theorem put2 (v : Int) : octet_Put.f [] 2 v = some (le 2 v) := by
 unfold octet_Put.f
 rw [if_pos (by simp), show (mx 0 (mn 2 8)).toNat = 2 by decide, List.nil_append]
theorem textT (l : List Int) (s : ByteArray) (hl : l.length ≤ 999999000) (hs : s.size ≤ 255) : octet_Text.f l s = some (l ++ encT s) := by
 unfold octet_Text.f encT
 rw [if_pos ⟨hl, by omega⟩, text_all s hs, Nat.min_eq_left hs, List.append_assoc]
theorem small_l (L : List Int) (hl : L.length ≤ 10) : ∀ (d i k : Nat), i + d = L.length → d < k → tab_small.l0 k L (L.length : Int) (i : Int) = some ((L.drop i).all small) := by
 intro d
 induction d with
 | zero =>
  intro i k h1 h2
  obtain ⟨k, rfl⟩ : ∃ m, k = m + 1 := ⟨k - 1, by omega⟩
  rw [tab_small.l0, if_neg (by omega), List.drop_eq_nil_of_le (by omega)]
  rfl
 | succ d ih =>
  intro i k h1 h2
  obtain ⟨k, rfl⟩ : ∃ m, k = m + 1 := ⟨k - 1, by omega⟩
  have hil : i < L.length := by omega
  have e : rd L (i : Int) = L[i] := by unfold rd; rw [Int.toNat_natCast, List.getD_eq_getElem?_getD, List.getElem?_eq_getElem hil]; rfl
  have ew : wrap64 ((i : Int) + 1) = ((i + 1 : Nat) : Int) := by unfold wrap64; omega
  rw [tab_small.l0, if_pos (by omega), if_pos (by omega), if_pos (by omega), e, List.drop_eq_getElem_cons hil, List.all_cons, ew]
  by_cases c1 : L[i] < 0
  ·rw [if_pos c1, show small L[i] = false by unfold small; simp; omega]; rfl
  ·rw [if_neg c1]
   by_cases c2 : L[i] > 255
   ·rw [if_pos c2, show small L[i] = false by unfold small; simp; omega]; rfl
   ·rw [if_neg c2, ih (i + 1) k (by omega) (by omega), small_iff.2 ⟨by omega, by omega⟩]
    rfl
theorem small_f (L : List Int) (hl : L.length ≤ 10) (k : Nat) (hk : 20 ≤ k) : tab_small.f k L = some (L.all small) := by
 unfold tab_small.f
 have := small_l L hl L.length 0 k (by omega) (by omega)
 simpa using this
theorem wl (i : Nat) (h : i < 100000) : wrap64 ((i : Int) + 1) = ((i + 1 : Nat) : Int) := by unfold wrap64; omega
theorem encL_bound {α : Type} (enc : α → List Int) (n : Nat) : ∀ (l : List α), (∀ x ∈ l, (enc x).length ≤ n) → (encL enc l).length ≤ n * l.length
 | [], _ => by simp [encL]
 | x :: l, h => by
  have h1 := h x (by simp)
  have h2 := encL_bound enc n l (fun y hy => h y (by simp [hy]))
  rw [encL_cons, List.length_append, List.length_cons, Nat.mul_add]
  omega
theorem putM_len {α : Type} (most : Nat) (fit : α → Bool) (enc : α → List Int) (hn : ∀ x, fit x = true → (enc x).length ≤ 300) (l : List α) : (putM most fit enc l).1.length ≤ 2 + 300 * most := by
 unfold putM
 split
 ·simp
 ·split
  ·rename_i h1 h2
   have h3 := encL_bound enc 300 l (fun x hx => hn x (List.all_eq_true.1 h2 x hx))
   rw [List.length_append, le_length]
   have : 300 * l.length ≤ 300 * most := Nat.mul_le_mul_left _ (by omega)
   omega
  ·simp

end Go.Proofs.YtdbfgfgbjheibaaDoor.BPure.Tab
end

section
/- Tables' printed functions, over the texts of the container. -/
namespace Go.Proofs.YtdbfgfgbjheibaaDoor.BPure.Tab
open Go Go.RowKit Go.Proofs.YtdbfgfgbjheibaaDoor Go.Proofs.YtdbfgfgbjheibaaDoor.PBx Go.Proofs.YtdbfgfgbjheibaaDoor.Given Go.Proofs.YtdbfgfgbjheibaaDoorW.PrintWords Go.Proofs.YtdbfgfgbjheibaaDoorW.PrintLast Go.Proofs.YtdbfgfgbjheibaaDoorW.PrintMore Go.Proofs.YtdbfgfgbjheibaaDoor.BPure
set_option linter.unusedVariables false
set_option linter.unusedSimpArgs false
theorem blk_rd (l : List TB) (i : Nat) (h : i < l.length) : rd_T43 l (i : Int) = l[i] := by
 unfold rd_T43
 rw [Int.toNat_natCast, List.getD_eq_getElem?_getD, List.getElem?_eq_getElem h]
 rfl
theorem blk_fit (x : TB) (k : Nat) (hk : 20 ≤ k) : tab_PutBlocks_1.f k x.f0 x.f1 = some (blkFit x) := by
 unfold tab_PutBlocks_1.f tab_named.f blkFit
 simp only [zP]
 have e : decide ((x.f0.size : Int) ≤ 255) = decide (x.f0.size ≤ 255) := decide_eq_decide.2 (by omega)
 rw [e]
 by_cases h : x.f0.size ≤ 255
 ·rw [decide_eq_true h, if_pos rfl, small_f [x.f1] (by simp) k hk]
  simp
 ·rw [decide_eq_false h]; simp
theorem blk_put (x : TB) (l : List Int) (hl : l.length ≤ 1000000) (hf : blkFit x = true) : tab_PutBlocks_2.f l x.f0 x.f1 = some (l ++ blkEnc x) := by
 unfold blkFit at hf
 simp only [Bool.and_eq_true, decide_eq_true_eq] at hf
 unfold tab_PutBlocks_2.f blkEnc
 rw [textT l x.f0 (by omega) hf.1]
 simp only [zP]
 rw [put1 _ x.f1 (by rw [List.length_append, encT_len]; omega), List.append_assoc]
 rfl
theorem blk_len (x : TB) (h : blkFit x = true) : (blkEnc x).length ≤ 300 := by
 unfold blkFit at h
 simp only [Bool.and_eq_true, decide_eq_true_eq] at h
 unfold blkEnc
 rw [List.length_append, encT_len, le_length]
 omega
theorem blk_loop (l : List TB) (hl : l.length ≤ 32) : ∀ (d i k : Nat) (o : List Int), i + d = l.length → 400 + d < k → o.length ≤ 2 + 300 * i → api_Block_53.l0 k o l (l.length : Int) (i : Int) = some (if (l.drop i).all blkFit = true then (o ++ encL blkEnc (l.drop i), true) else ([], false)) := by
 intro d
 induction d with
 | zero =>
  intro i k o h1 h2 h3
  obtain ⟨k, rfl⟩ : ∃ m, k = m + 1 := ⟨k - 1, by omega⟩
  rw [api_Block_53.l0, if_neg (by omega), List.drop_eq_nil_of_le (by omega)]
  simp [encL]
 | succ d ih =>
  intro i k o h1 h2 h3
  obtain ⟨k, rfl⟩ : ∃ m, k = m + 1 := ⟨k - 1, by omega⟩
  have hil : i < l.length := by omega
  rw [api_Block_53.l0, if_pos (by omega), if_pos (by omega), if_pos (by omega), blk_rd l i hil, blk_fit l[i] k (by omega)]
  simp only [zP]
  by_cases hf : blkFit l[i] = true
  ·rw [if_pos hf, blk_put l[i] o (by omega) hf]
   simp only [zP]
   rw [wl i (by omega), ih (i + 1) k _ (by omega) (by omega) (by rw [List.length_append]; have := blk_len l[i] hf; omega)]
   rw [List.drop_eq_getElem_cons hil, List.all_cons, hf, Bool.true_and, encL_cons, List.append_assoc]
  ·rw [if_neg hf]
   rw [List.drop_eq_getElem_cons hil, List.all_cons, show blkFit l[i] = false by simpa using hf]
   rfl
theorem blk_prog (l : List TB) (k : Nat) (hk : 2000 ≤ k) : tab_PutBlocks.f k l = some (putM 32 blkFit blkEnc l) := by
 unfold tab_PutBlocks.f api_Block_53.f putM
 by_cases h : l.length > 32
 ·rw [if_pos (by omega), if_pos h]; rfl
 ·rw [if_neg (by omega), if_neg h, put2]
  simp only [zP]
  have := blk_loop l (by omega) l.length 0 k (le 2 (l.length : Int)) (by omega) (by omega) (by rw [le_length]; omega)
  rw [List.drop_zero] at this
  rw [show (0 : Int) = ((0 : Nat) : Int) from rfl, this]
  simp only [zP]
theorem con_rd (l : List TC) (i : Nat) (h : i < l.length) : rd_T68 l (i : Int) = l[i] := by
 unfold rd_T68
 rw [Int.toNat_natCast, List.getD_eq_getElem?_getD, List.getElem?_eq_getElem h]
 rfl
theorem con_fit (x : TC) (k : Nat) (hk : 20 ≤ k) : tab_PutConsts_1.f k x.f0 x.f1 = some (conFit x) := by
 unfold tab_PutConsts_1.f conFit
 rw [small_f [x.f0] (by simp) k hk]
 simp
theorem con_put (x : TC) (l : List Int) (hl : l.length ≤ 1000000) (hf : conFit x = true) : tab_PutConsts_2.f l x.f0 x.f1 = some (l ++ conEnc x) := by
 unfold tab_PutConsts_2.f conEnc
 rw [put1 l x.f0 (by omega)]
 simp only [zP]
 rw [put8 _ x.f1 (by rw [List.length_append, le_length]; omega), List.append_assoc]
 rfl
theorem con_len (x : TC) (_ : conFit x = true) : (conEnc x).length ≤ 300 := by unfold conEnc; simp [le_length]
theorem con_loop (l : List TC) (hl : l.length ≤ 1024) : ∀ (d i k : Nat) (o : List Int), i + d = l.length → 400 + d < k → o.length ≤ 2 + 300 * i → api_Const_44.l0 k o l (l.length : Int) (i : Int) = some (if (l.drop i).all conFit = true then (o ++ encL conEnc (l.drop i), true) else ([], false)) := by
 intro d
 induction d with
 | zero =>
  intro i k o h1 h2 h3
  obtain ⟨k, rfl⟩ : ∃ m, k = m + 1 := ⟨k - 1, by omega⟩
  rw [api_Const_44.l0, if_neg (by omega), List.drop_eq_nil_of_le (by omega)]
  simp [encL]
 | succ d ih =>
  intro i k o h1 h2 h3
  obtain ⟨k, rfl⟩ : ∃ m, k = m + 1 := ⟨k - 1, by omega⟩
  have hil : i < l.length := by omega
  rw [api_Const_44.l0, if_pos (by omega), if_pos (by omega), if_pos (by omega), con_rd l i hil, con_fit l[i] k (by omega)]
  simp only [zP]
  by_cases hf : conFit l[i] = true
  ·rw [if_pos hf, con_put l[i] o (by omega) hf]
   simp only [zP]
   rw [wl i (by omega), ih (i + 1) k _ (by omega) (by omega) (by rw [List.length_append]; have := con_len l[i] hf; omega)]
   rw [List.drop_eq_getElem_cons hil, List.all_cons, hf, Bool.true_and, encL_cons, List.append_assoc]
  ·rw [if_neg hf]
   rw [List.drop_eq_getElem_cons hil, List.all_cons, show conFit l[i] = false by simpa using hf]
   rfl
theorem con_prog (l : List TC) (k : Nat) (hk : 2000 ≤ k) : tab_PutConsts.f k l = some (putM 1024 conFit conEnc l) := by
 unfold tab_PutConsts.f api_Const_44.f putM
 by_cases h : l.length > 1024
 ·rw [if_pos (by omega), if_pos h]; rfl
 ·rw [if_neg (by omega), if_neg h, put2]
  simp only [zP]
  have := con_loop l (by omega) l.length 0 k (le 2 (l.length : Int)) (by omega) (by omega) (by rw [le_length]; omega)
  rw [List.drop_zero] at this
  rw [show (0 : Int) = ((0 : Nat) : Int) from rfl, this]
  simp only [zP]
theorem var_rd (l : List TV) (i : Nat) (h : i < l.length) : rd_T41 l (i : Int) = l[i] := by
 unfold rd_T41
 rw [Int.toNat_natCast, List.getD_eq_getElem?_getD, List.getElem?_eq_getElem h]
 rfl
theorem var_fit (x : TV) (k : Nat) (hk : 20 ≤ k) : tab_PutVars_1.f k x.f0 x.f1 x.f2 x.f3 x.f4 = some (varFit x) := by
 unfold tab_PutVars_1.f tab_named.f varFit
 simp only [zP]
 have e : decide ((x.f0.size : Int) ≤ 255) = decide (x.f0.size ≤ 255) := decide_eq_decide.2 (by omega)
 rw [e]
 by_cases h : x.f0.size ≤ 255
 ·rw [decide_eq_true h, if_pos rfl, small_f [x.f1, x.f2, x.f3] (by simp) k hk]
  simp
 ·rw [decide_eq_false h]; simp
theorem var_put (x : TV) (l : List Int) (hl : l.length ≤ 1000000) (hf : varFit x = true) : tab_PutVars_2.f l x.f0 x.f1 x.f2 x.f3 x.f4 = some (l ++ varEnc x) := by
 unfold varFit at hf
 simp only [Bool.and_eq_true, decide_eq_true_eq] at hf
 unfold tab_PutVars_2.f varEnc
 rw [textT l x.f0 (by omega) hf.1]
 simp only [zP]
 rw [put1 _ x.f1 (by simp only [List.length_append, encT_len]; omega)]
 simp only [zP]
 rw [put1 _ x.f2 (by simp only [List.length_append, encT_len, le_length]; omega)]
 simp only [zP]
 rw [put1 _ x.f3 (by simp only [List.length_append, encT_len, le_length]; omega)]
 simp only [zP]
 rw [put8 _ x.f4 (by simp only [List.length_append, encT_len, le_length]; omega)]
 simp only [zP, List.append_assoc]
theorem var_len (x : TV) (h : varFit x = true) : (varEnc x).length ≤ 300 := by
 unfold varFit at h
 simp only [Bool.and_eq_true, decide_eq_true_eq] at h
 unfold varEnc
 simp only [List.length_append, encT_len, le_length]
 omega
theorem var_loop (l : List TV) (hl : l.length ≤ 64) : ∀ (d i k : Nat) (o : List Int), i + d = l.length → 400 + d < k → o.length ≤ 2 + 300 * i → api_Var_48.l0 k o l (l.length : Int) (i : Int) = some (if (l.drop i).all varFit = true then (o ++ encL varEnc (l.drop i), true) else ([], false)) := by
 intro d
 induction d with
 | zero =>
  intro i k o h1 h2 h3
  obtain ⟨k, rfl⟩ : ∃ m, k = m + 1 := ⟨k - 1, by omega⟩
  rw [api_Var_48.l0, if_neg (by omega), List.drop_eq_nil_of_le (by omega)]
  simp [encL]
 | succ d ih =>
  intro i k o h1 h2 h3
  obtain ⟨k, rfl⟩ : ∃ m, k = m + 1 := ⟨k - 1, by omega⟩
  have hil : i < l.length := by omega
  rw [api_Var_48.l0, if_pos (by omega), if_pos (by omega), if_pos (by omega), var_rd l i hil, var_fit l[i] k (by omega)]
  simp only [zP]
  by_cases hf : varFit l[i] = true
  ·rw [if_pos hf, var_put l[i] o (by omega) hf]
   simp only [zP]
   rw [wl i (by omega), ih (i + 1) k _ (by omega) (by omega) (by rw [List.length_append]; have := var_len l[i] hf; omega)]
   rw [List.drop_eq_getElem_cons hil, List.all_cons, hf, Bool.true_and, encL_cons, List.append_assoc]
  ·rw [if_neg hf]
   rw [List.drop_eq_getElem_cons hil, List.all_cons, show varFit l[i] = false by simpa using hf]
   rfl
theorem var_prog (l : List TV) (k : Nat) (hk : 2000 ≤ k) : tab_PutVars.f k l = some (putM 64 varFit varEnc l) := by
 unfold tab_PutVars.f api_Var_48.f putM
 by_cases h : l.length > 64
 ·rw [if_pos (by omega), if_pos h]; rfl
 ·rw [if_neg (by omega), if_neg h, put2]
  simp only [zP]
  have := var_loop l (by omega) l.length 0 k (le 2 (l.length : Int)) (by omega) (by omega) (by rw [le_length]; omega)
  rw [List.drop_zero] at this
  rw [show (0 : Int) = ((0 : Nat) : Int) from rfl, this]
  simp only [zP]
end Go.Proofs.YtdbfgfgbjheibaaDoor.BPure.Tab
end

section
/- Units, plainly, over the texts of the container: whether two are the same. -/
namespace Go.Proofs.YtdbfgfgbjheibaaDoor.BPure
open Go Go.RowKit Go.Proofs.YtdbfgfgbjheibaaDoor Go.Proofs.YtdbfgfgbjheibaaDoor.PBx Go.Proofs.YtdbfgfgbjheibaaDoor.Given Go.Proofs.YtdbfgfgbjheibaaDoorW.PrintWords Go.Proofs.YtdbfgfgbjheibaaDoorW.PrintLast Go.Proofs.YtdbfgfgbjheibaaDoorW.PrintMore
set_option linter.unusedVariables false
set_option linter.unusedSimpArgs false
def sameI : List Int → List Int → Bool
 | [], [] => true
 | x :: s, y :: t => (x == y) && sameI s t
 | _, _ => false
def eq3 (x y : S109) : Bool := x.f0 == y.f0 && (x.f1 == y.f1 && x.f2 == y.f2)
def sameC : List S109 → List S109 → Bool
 | [], [] => true
 | x :: s, y :: t => eq3 x y && sameC s t
 | _, _ => false
theorem sameI_self : ∀ l, sameI l l = true
 | [] => rfl
 | x :: t => by unfold sameI; rw [sameI_self t]; simp
theorem sameC_self : ∀ l, sameC l l = true
 | [] => rfl
 | x :: t => by unfold sameC eq3; rw [sameC_self t]; simp
theorem sameI_len : ∀ a b : List Int, a.length ≠ b.length → sameI a b = false
 | [], [], h => absurd rfl h
 | [], _ :: _, _ => rfl
 | _ :: _, [], _ => rfl
 | x :: s, y :: t, h => by unfold sameI; rw [sameI_len s t (by simpa using h)]; simp
theorem sameC_len : ∀ a b : List S109, a.length ≠ b.length → sameC a b = false
 | [], [], h => absurd rfl h
 | [], _ :: _, _ => rfl
 | _ :: _, [], _ => rfl
 | x :: s, y :: t, h => by unfold sameC; rw [sameC_len s t (by simpa using h)]; simp
theorem ints_l0 (a b : List Int) (hz : a.length ≤ 100000) (hl : a.length = b.length) : ∀ (d i k : Nat), i + d = a.length → d < k → r15_Ints.l0 k a b (i : Int) = some (sameI (a.drop i) (b.drop i)) := by
 intro d
 induction d with
 | zero =>
  intro i k h1 h2
  obtain ⟨k, rfl⟩ : ∃ m, k = m + 1 := ⟨k - 1, by omega⟩
  unfold r15_Ints.l0
  rw [if_neg (by omega), List.drop_eq_nil_of_le (by omega), List.drop_eq_nil_of_le (by omega)]; rfl
 | succ d ih =>
  intro i k h1 h2
  obtain ⟨k, rfl⟩ : ∃ m, k = m + 1 := ⟨k - 1, by omega⟩
  unfold r15_Ints.l0
  rw [if_pos (by omega), if_pos (by omega), if_pos (by omega), rd_drop a i (by omega), rd_drop b i (by omega)]
  generalize rd a (i : Int) = x
  generalize rd b (i : Int) = y
  unfold sameI
  by_cases h : x = y
  ·rw [if_pos h, w64 _ (by omega) (by omega), beq_iff_eq.2 h, Bool.true_and]
   exact ih (i + 1) k (by omega) (by omega)
  ·rw [if_neg h, beq_eq_false_iff_ne.2 h]; rfl
theorem ints_is (a b : List Int) (hz : a.length ≤ 100000) (k : Nat) (hk : a.length < k) : r15_Ints.f k a b = some (sameI a b) := by
 unfold r15_Ints.f
 by_cases h : (a.length : Int) = (b.length : Int)
 ·rw [if_pos h]
  exact ints_l0 a b hz (by omega) a.length 0 k (by omega) hk
 ·rw [if_neg h, sameI_len a b (by omega)]
theorem same13_l0 (a b : List S109) (hz : a.length ≤ 100000) (hl : a.length = b.length) : ∀ (d i k : Nat), i + d = a.length → d < k → r13_Same.l0 k a b (i : Int) = some (sameC (a.drop i) (b.drop i)) := by
 intro d
 induction d with
 | zero =>
  intro i k h1 h2
  obtain ⟨k, rfl⟩ : ∃ m, k = m + 1 := ⟨k - 1, by omega⟩
  unfold r13_Same.l0
  rw [if_neg (by omega), List.drop_eq_nil_of_le (by omega), List.drop_eq_nil_of_le (by omega)]; rfl
 | succ d ih =>
  intro i k h1 h2
  obtain ⟨k, rfl⟩ : ∃ m, k = m + 1 := ⟨k - 1, by omega⟩
  unfold r13_Same.l0
  rw [if_pos (by omega), if_pos (by omega), if_pos (by omega), rd47_drop a i (by omega), rd47_drop b i (by omega)]
  generalize rd_T109 a (i : Int) = x
  generalize rd_T109 b (i : Int) = y
  have e : (!(x.f0 == y.f0) || (!(x.f1 == y.f1) || !(x.f2 == y.f2))) = !eq3 x y := by
   unfold eq3
   cases x.f0 == y.f0 <;> cases x.f1 == y.f1 <;> cases x.f2 == y.f2 <;> rfl
  rw [e]
  unfold sameC
  by_cases h : eq3 x y = true
  ·rw [if_neg (by rw [h]; simp), w64 _ (by omega) (by omega), h, Bool.true_and]
   exact ih (i + 1) k (by omega) (by omega)
  ·rw [show eq3 x y = false by simpa using h]; rfl
theorem same13_is (a b : List S109) (hz : a.length ≤ 100000) (k : Nat) (hk : a.length < k) : r13_Same.f k a b = some (sameC a b) := by
 unfold r13_Same.f
 by_cases h : (a.length : Int) = (b.length : Int)
 ·rw [if_pos h]
  exact same13_l0 a b hz (by omega) a.length 0 k (by omega) hk
 ·rw [if_neg h, sameC_len a b (by omega)]
def sameU (n : ByteArray) (P : List Int) (R : Int) (L : List Int) (C : List S109) (n' : ByteArray) (P' : List Int) (R' : Int) (L' : List Int) (C' : List S109) : Bool := decide (n.toList = n'.toList) && decide (R = R') && sameI P P' && sameI L L' && sameC C C'
theorem rsame_is (n : ByteArray) (P : List Int) (R : Int) (L : List Int) (C : List S109) (n' : ByteArray) (P' : List Int) (R' : Int) (L' : List Int) (C' : List S109) (hP : P.length ≤ 10000) (hL : L.length ≤ 10000) (hC : C.length ≤ 10000) (k : Nat) (hk : 10001 ≤ k) : r15_Same.f k n P R L C n' P' R' L' C' = some (sameU n P R L C n' P' R' L' C') := by
 unfold r15_Same.f sameU
 by_cases h1 : n.toList = n'.toList
 ·rw [if_pos h1, decide_eq_true h1, Bool.true_and]
  by_cases h2 : R = R'
  ·rw [if_pos h2, decide_eq_true h2, Bool.true_and, ints_is P P' (by omega) k (by omega), zP, ints_is L L' (by omega) k (by omega), zP, same13_is C C' (by omega) k (by omega), zP]
   cases sameI P P' <;> cases sameI L L' <;> simp
  ·rw [if_neg h2, decide_eq_false h2]; simp
 ·rw [if_neg h1, decide_eq_false h1]; simp
theorem sameU_self (n : ByteArray) (P : List Int) (R : Int) (L : List Int) (C : List S109) : sameU n P R L C n P R L C = true := by
 unfold sameU
 rw [sameI_self, sameI_self, sameC_self]; simp
end Go.Proofs.YtdbfgfgbjheibaaDoor.BPure
end

section
/- Whether two programs are the same, plainly: the program's and the document's tell the same. -/
namespace Go.Proofs.YtdbfgfgbjheibaaDoor.BPure
open Go Go.RowKit Go.Proofs.YtdbfgfgbjheibaaDoor Go.Proofs.YtdbfgfgbjheibaaDoor.PBx Go.Proofs.YtdbfgfgbjheibaaDoor.Given Go.Proofs.YtdbfgfgbjheibaaDoorW.PrintWords Go.Proofs.YtdbfgfgbjheibaaDoorW.PrintLast Go.Proofs.YtdbfgfgbjheibaaDoorW.PrintMore
set_option linter.unusedVariables false
set_option linter.unusedSimpArgs false
def sameL {α : Type} (e : α → α → Bool) : List α → List α → Bool
 | [], [] => true
 | x :: s, y :: t => e x y && sameL e s t
 | _, _ => false
theorem sameL_len {α : Type} (e : α → α → Bool) : ∀ a b : List α, a.length ≠ b.length → sameL e a b = false
 | [], [], h => absurd rfl h
 | [], _ :: _, _ => rfl
 | _ :: _, [], _ => rfl
 | x :: s, y :: t, h => by
  unfold sameL
  rw [sameL_len e s t (by simpa using h), Bool.and_false]
theorem sameL_self {α : Type} (e : α → α → Bool) (h : ∀ x, e x x = true) : ∀ a : List α, sameL e a a = true
 | [] => rfl
 | x :: s => by unfold sameL; rw [h x, sameL_self e h s]; rfl
def con_eq (x y : S68) : Bool := ((x.f0 == y.f0) && (x.f1 == y.f1))
theorem con_eq_self (x : S68) : con_eq x x = true := by unfold con_eq; simp
theorem con_drop (l : List S68) (i : Nat) (h : i < l.length) : l.drop i = rd_T68 l (i : Int) :: l.drop (i + 1) := by
 have : rd_T68 l (i : Int) = l[i] := by
  unfold rd_T68
  rw [Int.toNat_natCast, List.getD_eq_getElem?_getD, List.getElem?_eq_getElem h]; rfl
 rw [this]
 exact List.drop_eq_getElem_cons h
theorem con_rsame_l0 (a b : List S68) (hz : a.length ≤ 100000) (hl : a.length = b.length) : ∀ (d i k : Nat), i + d = a.length → d < k → r14_SameConsts.l0 k a b (i : Int) = some (sameL con_eq (a.drop i) (b.drop i)) := by
 intro d
 induction d with
 | zero =>
  intro i k h1 h2
  obtain ⟨k, rfl⟩ : ∃ m, k = m + 1 := ⟨k - 1, by omega⟩
  unfold r14_SameConsts.l0
  rw [if_neg (by omega), List.drop_eq_nil_of_le (by omega), List.drop_eq_nil_of_le (by omega)]; rfl
 | succ d ih =>
  intro i k h1 h2
  obtain ⟨k, rfl⟩ : ∃ m, k = m + 1 := ⟨k - 1, by omega⟩
  unfold r14_SameConsts.l0
  rw [if_pos (by omega), if_pos (by omega), if_pos (by omega), con_drop a i (by omega), con_drop b i (by omega)]
  generalize rd_T68 a (i : Int) = x
  generalize rd_T68 b (i : Int) = y
  have e : (!(x.f0 == y.f0) || (!(x.f1 == y.f1))) = !con_eq x y := by
   unfold con_eq
   cases x.f0 == y.f0 <;> cases x.f1 == y.f1 <;> rfl
  rw [e]
  unfold sameL
  by_cases h : con_eq x y = true
  ·rw [if_neg (by rw [h]; simp), w64 _ (by omega) (by omega), h, Bool.true_and]
   exact ih (i + 1) k (by omega) (by omega)
  ·rw [show con_eq x y = false by simpa using h]; rfl
theorem con_rsame_is (a b : List S68) (hz : a.length ≤ 100000) (k : Nat) (hk : a.length < k) : r14_SameConsts.f k a b = some (sameL con_eq a b) := by
 unfold r14_SameConsts.f
 by_cases h : (a.length : Int) = (b.length : Int)
 ·rw [if_pos h]
  exact con_rsame_l0 a b hz (by omega) a.length 0 k (by omega) hk
 ·rw [if_neg h, sameL_len _ a b (by omega)]
def var_eq (x y : S41) : Bool := (((x.f0).toList == (y.f0).toList) && ((x.f1 == y.f1) && ((x.f2 == y.f2) && ((x.f3 == y.f3) && (x.f4 == y.f4)))))
theorem var_eq_self (x : S41) : var_eq x x = true := by unfold var_eq; simp
theorem var_drop (l : List S41) (i : Nat) (h : i < l.length) : l.drop i = rd_T41 l (i : Int) :: l.drop (i + 1) := by
 have : rd_T41 l (i : Int) = l[i] := by
  unfold rd_T41
  rw [Int.toNat_natCast, List.getD_eq_getElem?_getD, List.getElem?_eq_getElem h]; rfl
 rw [this]
 exact List.drop_eq_getElem_cons h
theorem var_rsame_l0 (a b : List S41) (hz : a.length ≤ 100000) (hl : a.length = b.length) : ∀ (d i k : Nat), i + d = a.length → d < k → r14_SameVars.l0 k a b (i : Int) = some (sameL var_eq (a.drop i) (b.drop i)) := by
 intro d
 induction d with
 | zero =>
  intro i k h1 h2
  obtain ⟨k, rfl⟩ : ∃ m, k = m + 1 := ⟨k - 1, by omega⟩
  unfold r14_SameVars.l0
  rw [if_neg (by omega), List.drop_eq_nil_of_le (by omega), List.drop_eq_nil_of_le (by omega)]; rfl
 | succ d ih =>
  intro i k h1 h2
  obtain ⟨k, rfl⟩ : ∃ m, k = m + 1 := ⟨k - 1, by omega⟩
  unfold r14_SameVars.l0
  rw [if_pos (by omega), if_pos (by omega), if_pos (by omega), var_drop a i (by omega), var_drop b i (by omega)]
  generalize rd_T41 a (i : Int) = x
  generalize rd_T41 b (i : Int) = y
  have e : (!((x.f0).toList == (y.f0).toList) || ((!(x.f1 == y.f1) || ((!(x.f2 == y.f2) || ((!(x.f3 == y.f3) || (!(x.f4 == y.f4))))))))) = !var_eq x y := by
   unfold var_eq
   cases (x.f0).toList == (y.f0).toList <;> cases x.f1 == y.f1 <;> cases x.f2 == y.f2 <;> cases x.f3 == y.f3 <;> cases x.f4 == y.f4 <;> rfl
  rw [e]
  unfold sameL
  by_cases h : var_eq x y = true
  ·rw [if_neg (by rw [h]; simp), w64 _ (by omega) (by omega), h, Bool.true_and]
   exact ih (i + 1) k (by omega) (by omega)
  ·rw [show var_eq x y = false by simpa using h]; rfl
theorem var_rsame_is (a b : List S41) (hz : a.length ≤ 100000) (k : Nat) (hk : a.length < k) : r14_SameVars.f k a b = some (sameL var_eq a b) := by
 unfold r14_SameVars.f
 by_cases h : (a.length : Int) = (b.length : Int)
 ·rw [if_pos h]
  exact var_rsame_l0 a b hz (by omega) a.length 0 k (by omega) hk
 ·rw [if_neg h, sameL_len _ a b (by omega)]
def blk_eq (x y : S43) : Bool := (((x.f0).toList == (y.f0).toList) && (x.f1 == y.f1))
theorem blk_eq_self (x : S43) : blk_eq x x = true := by unfold blk_eq; simp
theorem blk_drop (l : List S43) (i : Nat) (h : i < l.length) : l.drop i = rd_T43 l (i : Int) :: l.drop (i + 1) := by
 have : rd_T43 l (i : Int) = l[i] := by
  unfold rd_T43
  rw [Int.toNat_natCast, List.getD_eq_getElem?_getD, List.getElem?_eq_getElem h]; rfl
 rw [this]
 exact List.drop_eq_getElem_cons h
theorem blk_rsame_l0 (a b : List S43) (hz : a.length ≤ 100000) (hl : a.length = b.length) : ∀ (d i k : Nat), i + d = a.length → d < k → r14_SameBlocks.l0 k a b (i : Int) = some (sameL blk_eq (a.drop i) (b.drop i)) := by
 intro d
 induction d with
 | zero =>
  intro i k h1 h2
  obtain ⟨k, rfl⟩ : ∃ m, k = m + 1 := ⟨k - 1, by omega⟩
  unfold r14_SameBlocks.l0
  rw [if_neg (by omega), List.drop_eq_nil_of_le (by omega), List.drop_eq_nil_of_le (by omega)]; rfl
 | succ d ih =>
  intro i k h1 h2
  obtain ⟨k, rfl⟩ : ∃ m, k = m + 1 := ⟨k - 1, by omega⟩
  unfold r14_SameBlocks.l0
  rw [if_pos (by omega), if_pos (by omega), if_pos (by omega), blk_drop a i (by omega), blk_drop b i (by omega)]
  generalize rd_T43 a (i : Int) = x
  generalize rd_T43 b (i : Int) = y
  have e : (!((x.f0).toList == (y.f0).toList) || (!(x.f1 == y.f1))) = !blk_eq x y := by
   unfold blk_eq
   cases (x.f0).toList == (y.f0).toList <;> cases x.f1 == y.f1 <;> rfl
  rw [e]
  unfold sameL
  by_cases h : blk_eq x y = true
  ·rw [if_neg (by rw [h]; simp), w64 _ (by omega) (by omega), h, Bool.true_and]
   exact ih (i + 1) k (by omega) (by omega)
  ·rw [show blk_eq x y = false by simpa using h]; rfl
theorem blk_rsame_is (a b : List S43) (hz : a.length ≤ 100000) (k : Nat) (hk : a.length < k) : r14_SameBlocks.f k a b = some (sameL blk_eq a b) := by
 unfold r14_SameBlocks.f
 by_cases h : (a.length : Int) = (b.length : Int)
 ·rw [if_pos h]
  exact blk_rsame_l0 a b hz (by omega) a.length 0 k (by omega) hk
 ·rw [if_neg h, sameL_len _ a b (by omega)]
def uni_eq (x y : S48) : Bool := sameU x.f0 x.f1 x.f2 x.f3 x.f4 y.f0 y.f1 y.f2 y.f3 y.f4
theorem uni_eq_self (x : S48) : uni_eq x x = true := sameU_self _ _ _ _ _
theorem uni_rsame (C C' : LC) (V V' : LV) (B B' : LB) (a b : LU) (hz : a.length ≤ 100000) (hok : Ok a) (hl : a.length = b.length) : ∀ (d i k : Nat), i + d = a.length → d + 10001 < k → r16_Same.l0 k (i : Int) C V B a C' V' B' b = some (sameL uni_eq (a.drop i) (b.drop i)) := by
 intro d
 induction d with
 | zero =>
  intro i k h1 h2
  obtain ⟨k, rfl⟩ : ∃ m, k = m + 1 := ⟨k - 1, by omega⟩
  rw [r16_Same.l0, if_neg (by omega), List.drop_eq_nil_of_le (by omega), List.drop_eq_nil_of_le (by omega)]; rfl
 | succ d ih =>
  intro i k h1 h2
  obtain ⟨k, rfl⟩ : ∃ m, k = m + 1 := ⟨k - 1, by omega⟩
  have hia : i < a.length := by omega
  have hib : i < b.length := by omega
  obtain ⟨o0, o1, o2, o3⟩ := hok a[i] (List.getElem_mem hia)
  rw [r16_Same.l0, if_pos (by omega), if_pos (by omega), if_pos (by omega), rd_unit_at a i hia, rd_unit_at b i hib, List.drop_eq_getElem_cons hia, List.drop_eq_getElem_cons hib]
  rw [rsame_is a[i].f0 a[i].f1 a[i].f2 a[i].f3 a[i].f4 b[i].f0 b[i].f1 b[i].f2 b[i].f3 b[i].f4 (by omega) (by omega) (by omega) k (by omega), zP]
  unfold sameL uni_eq
  by_cases h : sameU a[i].f0 a[i].f1 a[i].f2 a[i].f3 a[i].f4 b[i].f0 b[i].f1 b[i].f2 b[i].f3 b[i].f4 = true
  ·rw [if_pos h, w64 _ (by omega) (by omega), h, Bool.true_and]
   exact ih (i + 1) k (by omega) (by omega)
  ·rw [if_neg h, show sameU a[i].f0 a[i].f1 a[i].f2 a[i].f3 a[i].f4 b[i].f0 b[i].f1 b[i].f2 b[i].f3 b[i].f4 = false by simpa using h]; rfl
/-- Whether two programs are the same. -/
def sameP (C : LC) (V : LV) (B : LB) (U : LU) (C' : LC) (V' : LV) (B' : LB) (U' : LU) : Bool := sameL con_eq C C' && sameL var_eq V V' && sameL blk_eq B B' && sameL uni_eq U U'
theorem sameP_self (C : LC) (V : LV) (B : LB) (U : LU) : sameP C V B U C V B U = true := by
 unfold sameP
 rw [sameL_self _ con_eq_self, sameL_self _ var_eq_self, sameL_self _ blk_eq_self, sameL_self _ uni_eq_self]; rfl
theorem r16_Same_is (C : LC) (V : LV) (B : LB) (U : LU) (C' : LC) (V' : LV) (B' : LB) (U' : LU) (hC : C.length ≤ 10000) (hV : V.length ≤ 10000) (hB : B.length ≤ 10000) (hU : U.length ≤ 10000) (hok : Ok U) (k : Nat) (hk : 30000 ≤ k) : r16_Same.f k C V B U C' V' B' U' = some (sameP C V B U C' V' B' U') := by
 have jt : r16_Same.j0 k true C V B U C' V' B' U' = some false := by
  obtain ⟨k, rfl⟩ : ∃ m, k = m + 1 := ⟨k - 1, by omega⟩
  rw [r16_Same.j0, if_pos rfl]
 unfold r16_Same.f sameP
 rw [con_rsame_is C C' (by omega) k (by omega), zP]
 by_cases h1 : sameL con_eq C C' = true
 ·rw [if_pos h1, var_rsame_is V V' (by omega) k (by omega), zP, h1, Bool.true_and]
  by_cases h2 : sameL var_eq V V' = true
  ·rw [if_pos h2, blk_rsame_is B B' (by omega) k (by omega), zP, h2, Bool.true_and]
   by_cases h3 : sameL blk_eq B B' = true
   ·rw [if_pos h3, h3, Bool.true_and]
    obtain ⟨k, rfl⟩ : ∃ m, k = m + 1 := ⟨k - 1, by omega⟩
    rw [r16_Same.j0]
    by_cases h4 : U.length = U'.length
    ·rw [if_neg (by rw [h4]; simp)]
     have := uni_rsame C C' V V' B B' U U' (by omega) hok h4 U.length 0 k (by omega) (by omega)
     simpa using this
    ·rw [if_pos (by simp; omega), sameL_len _ U U' h4]
   ·rw [if_neg h3, jt, show sameL blk_eq B B' = false by simpa using h3]; rfl
  ·rw [if_neg h2, jt, show sameL var_eq V V' = false by simpa using h2]; rfl
 ·rw [if_neg h1, jt, show sameL con_eq C C' = false by simpa using h1]; rfl
end Go.Proofs.YtdbfgfgbjheibaaDoor.BPure
end

section
/- A short program's container, plainly: the program's and the document's tell the same. -/
namespace Go.Proofs.YtdbfgfgbjheibaaDoor.BPure
open Go Go.RowKit Go.Proofs.YtdbfgfgbjheibaaDoor Go.Proofs.YtdbfgfgbjheibaaDoor.PBx Go.Proofs.YtdbfgfgbjheibaaDoor.Given Go.Proofs.YtdbfgfgbjheibaaDoor.BPure.Tab Go.Proofs.YtdbfgfgbjheibaaDoorW.PrintWords Go.Proofs.YtdbfgfgbjheibaaDoorW.PrintLast Go.Proofs.YtdbfgfgbjheibaaDoorW.PrintMore
set_option linter.unusedVariables false
set_option linter.unusedSimpArgs false
def BL (l : List Int) : Prop := ∀ x ∈ l, 0 ≤ x ∧ x < 256
theorem BL_nil : BL [] := fun x h => by cases h
theorem BL_app {a b : List Int} (ha : BL a) (hb : BL b) : BL (a ++ b) := fun x h => (List.mem_append.1 h).elim (ha x) (hb x)
theorem BL_le (v : Int) : ∀ m, BL (le m v)
 | 0 => BL_nil
 | m + 1 => by
  unfold le
  refine BL_app (BL_le v m) fun x hx => ?_
  obtain rfl := List.mem_singleton.1 hx
  omega
theorem BL_bytes (s : ByteArray) : BL (bytesOf s) := by
 intro x hx
 unfold bytesOf at hx
 obtain ⟨y, _, rfl⟩ := List.mem_map.1 hx
 exact ⟨Int.natCast_nonneg _, by have := y.toNat_lt; omega⟩
theorem BL_encL {α : Type} (enc : α → List Int) (h : ∀ x, BL (enc x)) (l : List α) : BL (encL enc l) := by
 intro x hx
 unfold encL at hx
 obtain ⟨y, hy, hxy⟩ := List.mem_flatten.1 hx
 obtain ⟨z, _, rfl⟩ := List.mem_map.1 hy
 exact h z x hxy
theorem BL_low (l : List Int) : BL (low l) := by
 intro x hx
 unfold low at hx
 obtain ⟨y, _, rfl⟩ := List.mem_map.1 hx
 omega
theorem BL_con (x : TC) : BL (conEnc x) := BL_app (BL_le _ _) (BL_le _ _)
theorem BL_encT (s : ByteArray) : BL (encT s) := BL_app (BL_le _ _) (BL_bytes _)
theorem BL_blk (x : TB) : BL (blkEnc x) := BL_app (BL_encT _) (BL_le _ _)
theorem BL_var (x : TV) : BL (varEnc x) := BL_app (BL_app (BL_app (BL_app (BL_encT _) (BL_le _ _)) (BL_le _ _)) (BL_le _ _)) (BL_le _ _)
theorem BL_putM {α : Type} (most : Nat) (fit : α → Bool) (enc : α → List Int) (h : ∀ x, BL (enc x)) (l : List α) : BL (putM most fit enc l).1 := by
 unfold putM
 split
 ·exact BL_nil
 ·split
  ·exact BL_app (BL_le _ _) (BL_encL enc h l)
  ·exact BL_nil
def uniFit (x : S48) : Bool := fitsF x.f0 x.f1 x.f2 x.f3 x.f4
@[irreducible] def uniB (x : S48) : List Int := putB x.f0 x.f1 x.f2 x.f3 x.f4
def uniEnc (x : S48) : List Int := le 4 ((uniB x).length : Int) ++ uniB x
theorem uniB_is (x : S48) : putB x.f0 x.f1 x.f2 x.f3 x.f4 = uniB x := by unfold uniB; rfl
theorem BL_uniB (x : S48) : BL (uniB x) := by
 rw [← uniB_is]
 exact BL_app (BL_app (BL_app (BL_app (BL_app (BL_app (BL_app (BL_app (BL_le _ _) (BL_bytes _)) (BL_le _ _)) (BL_low _)) (BL_le _ _)) (BL_le _ _)) (BL_low _)) (BL_le _ _)) (enc_byte _)
theorem BL_uni (x : S48) : BL (uniEnc x) := BL_app (BL_le _ _) (BL_uniB x)
theorem uniB_len (x : S48) (h : x.f0.size ≤ 300 ∧ x.f1.length ≤ 20 ∧ x.f3.length ≤ 1100 ∧ x.f4.length ≤ 600) : (uniB x).length ≤ 4400 := by
 unfold uniB putB
 have := text_len x.f0
 simp only [List.length_append, le_length, low_len, enc_len]
 omega
theorem put4 (l : List Int) (v : Int) (hl : l.length ≤ 1000000000) : octet_Put.f l 4 v = some (l ++ le 4 v) := by
 unfold octet_Put.f
 rw [if_pos hl]; rfl
set_option maxHeartbeats 400000 in
theorem units_l0 (x0 U : LU) (hl : U.length ≤ 10) (hok : Ok U) : ∀ (d i k : Nat) (o : List Int), i + d = U.length → d + 20100 < k → o.length ≤ 10 + 4500 * i → box_units.l0 k x0 o U (U.length : Int) (i : Int) = some (if (U.drop i).all uniFit = true then (o ++ encL uniEnc (U.drop i), decide ((x0.length : Int) ≤ 8)) else ([], false)) := by
 intro d
 induction d with
 | zero =>
  intro i k o h1 h2 h3
  obtain ⟨k, rfl⟩ : ∃ m, k = m + 1 := ⟨k - 1, by omega⟩
  rw [box_units.l0, if_neg (by omega), List.drop_eq_nil_of_le (by omega)]
  simp [encL]
 | succ d ih =>
  intro i k o h1 h2 h3
  obtain ⟨k, rfl⟩ : ∃ m, k = m + 1 := ⟨k - 1, by omega⟩
  have hil : i < U.length := by omega
  have ho := hok U[i] (List.getElem_mem hil)
  have hlen := uniB_len U[i] ho
  rw [box_units.l0, if_pos (by omega), if_pos (by omega), if_pos (by omega), rd_unit_at U i hil]
  rw [put_is U[i].f0 U[i].f1 U[i].f2 U[i].f3 U[i].f4 (by omega) (by omega) (by omega) (by omega) k (by omega), List.drop_eq_getElem_cons hil, List.all_cons]
  by_cases hf : uniFit U[i] = true
  ·have hf' : fitsF U[i].f0 U[i].f1 U[i].f2 U[i].f3 U[i].f4 = true := hf
   rw [if_pos hf', zP, if_pos rfl, hf, Bool.true_and, uniB_is]
   show ((octet_Put.f o 4 ((uniB U[i]).length : Int)).bind fun t => if t.length + (uniB U[i]).length < 140737488355328 then box_units.l0 k x0 (t ++ uniB U[i]) U (U.length : Int) (wrap64 ((i : Int) + 1)) else none) = _
   rw [put4 o _ (by omega), zP, if_pos (by rw [List.length_append, le_length]; omega), w64 _ (by omega) (by omega)]
   have := ih (i + 1) k (o ++ le 4 ((uniB U[i]).length : Int) ++ uniB U[i]) (by omega) (by omega) (by rw [List.length_append, List.length_append, le_length]; omega)
   rw [show ((i : Int) + 1) = ((i + 1 : Nat) : Int) by omega, this, encL_cons]
   unfold uniEnc
   simp only [List.append_assoc]
  ·have hf' : ¬ fitsF U[i].f0 U[i].f1 U[i].f2 U[i].f3 U[i].f4 = true := hf
   rw [if_neg hf', zP, if_neg (by decide), show uniFit U[i] = false by simpa using hf]; rfl
def unitsF (U : LU) : List Int × Bool := if U.all uniFit = true then (le 1 (U.length : Int) ++ encL uniEnc U, decide ((U.length : Int) ≤ 8)) else ([], false)
theorem units_is (U : LU) (hl : U.length ≤ 10) (hok : Ok U) (k : Nat) (hk : 20200 ≤ k) : box_units.f k U = some (unitsF U) := by
 unfold box_units.f unitsF
 rw [Tab.put1 [] _ (by simp), zP]
 have := units_l0 U U hl hok U.length 0 k ([] ++ le 1 (U.length : Int)) (by omega) (by omega) (by rw [List.nil_append, le_length]; omega)
 rw [List.drop_zero] at this
 rw [show (0 : Int) = ((0 : Nat) : Int) from rfl, this, List.nil_append]
def sec (l : List Int) (a : Int) (x : List Int) : List Int := l ++ le 1 a ++ le 4 (x.length : Int) ++ x
theorem sec_len (l : List Int) (a : Int) (x : List Int) : (sec l a x).length = l.length + 5 + x.length := by
 unfold sec
 simp only [List.length_append, le_length]
theorem BL_sec {l : List Int} (a : Int) {x : List Int} (hl : BL l) (hx : BL x) : BL (sec l a x) := BL_app (BL_app (BL_app hl (BL_le _ _)) (BL_le _ _)) hx
theorem sec_is (l : List Int) (a : Int) (x : List Int) (h : l.length + x.length ≤ 1000000) : box_section.f l a x = some (sec l a x) := by
 unfold box_section.f
 rw [Tab.put1 l _ (by omega), zP, put4 _ _ (by rw [List.length_append, le_length]; omega), zP, if_pos (by rw [List.length_append, List.length_append, le_length, le_length]; omega)]
 rfl
def body (c v x u : List Int) : List Int := sec (sec (sec (sec [76, 66, 75, 49] 1 c) 2 v) 3 x) 4 u
def sumB (b : List Int) : List Int := b ++ le 4 (4294967295 - overF 4294967295 b)
def fin (b : List Int) : List Int × Bool := if 1048576 < (sumB b).length then ([], false) else (sumB b, true)
theorem BL_body {c v x u : List Int} (hc : BL c) (hv : BL v) (hx : BL x) (hu : BL u) : BL (body c v x u) := BL_sec _ (BL_sec _ (BL_sec _ (BL_sec _ (fun y hy => by simp at hy; omega) hc) hv) hx) hu
theorem body_len (c v x u : List Int) : (body c v x u).length = c.length + v.length + x.length + u.length + 24 := by
 unfold body
 simp only [sec_len, List.length_cons, List.length_nil]
 omega
theorem tail_is (c v x u : List Int) (hb : BL (body c v x u)) (hl : c.length + v.length + x.length + u.length ≤ 900000) : encTail c v x u = some (fin (body c v x u)) := by
 have hbl := body_len c v x u
 unfold encTail
 rw [sec_is [76, 66, 75, 49] 1 c (by simp; omega), zP, sec_is _ 2 v (by simp only [sec_len, List.length_cons, List.length_nil]; omega), zP, sec_is _ 3 x (by simp only [sec_len, List.length_cons, List.length_nil]; omega), zP, sec_is _ 4 u (by simp only [sec_len, List.length_cons, List.length_nil]; omega), zP]
 show ((crc_Of.f (body c v x u)).bind fun s => (octet_Put.f (body c v x u) 4 s).bind fun b5 => if 1048576 < b5.length then some ([], false) else some (b5, true)) = _
 have ho : okC (body c v x u) := ⟨by omega, hb⟩
 unfold crc_Of.f
 rw [if_pos ho, zP, put4 _ _ (by omega), zP]
 unfold fin sumB
 split <;> rfl
def encP (C : LC) (V : LV) (B : LB) (U : LU) : List Int × Bool :=
 if (putM 1024 conFit conEnc C).2 = true ∧ (putM 64 varFit varEnc V).2 = true ∧ (putM 32 blkFit blkEnc B).2 = true ∧ (unitsF U).2 = true then fin (body (putM 1024 conFit conEnc C).1 (putM 64 varFit varEnc V).1 (putM 32 blkFit blkEnc B).1 (unitsF U).1) else ([], false)
theorem encU_len : ∀ U : LU, Ok U → (encL uniEnc U).length ≤ 4500 * U.length
 | [], _ => by simp [encL]
 | x :: U, h => by
  have h1 := encU_len U (fun y hy => h y (List.mem_cons_of_mem _ hy))
  have h2 := uniB_len x (h x (List.mem_cons_self))
  rw [encL_cons, List.length_append, List.length_cons]
  unfold uniEnc at h1 ⊢
  rw [List.length_append, le_length]
  omega
theorem unitsF_len (U : LU) (hl : U.length ≤ 10) (hok : Ok U) : (unitsF U).1.length ≤ 50000 := by
 unfold unitsF
 have := encU_len U hok
 split
 ·simp only [List.length_append, le_length]; omega
 ·simp
theorem BL_unitsF (U : LU) : BL (unitsF U).1 := by
 unfold unitsF
 split
 ·exact BL_app (BL_le _ _) (BL_encL _ BL_uni _)
 ·exact BL_nil
theorem pack_is (C : LC) (V : LV) (B : LB) (U : LU) (hl : U.length ≤ 10) (hok : Ok U) : box_Encode.f C V B U = some (encP C V B U) := by
 have l1 := Tab.putM_len 1024 conFit conEnc con_len C
 have l2 := Tab.putM_len 64 varFit varEnc var_len V
 have l3 := Tab.putM_len 32 blkFit blkEnc blk_len B
 have l4 := unitsF_len U hl hok
 unfold box_Encode.f encP
 rw [con_prog C 30000 (by omega), zP, var_prog V 30000 (by omega), zP, blk_prog B 30000 (by omega), zP, units_is U hl hok 30000 (by omega), zP]
 rw [tail_is _ _ _ _ (BL_body (BL_putM _ _ _ BL_con _) (BL_putM _ _ _ BL_var _) (BL_putM _ _ _ BL_blk _) (BL_unitsF U)) (by omega)]
 split <;> rfl
theorem awake16 : w16_awake.f = some true := by
 unfold w16_awake.f
 rw [pack_is [] [] [] [] (by decide) (fun x hx => by cases hx)]
 decide +kernel
end Go.Proofs.YtdbfgfgbjheibaaDoor.BPure
end

section
/- The walk of BoxDecodes: for any bytes its call returns true; the operations' table as the program lays it. -/
namespace Go.Proofs.YtdbfgfgbjheibaaDoor.BPure
open Go Go.RowKit Go.Proofs.YtdbfgfgbjheibaaDoor Go.Proofs.YtdbfgfgbjheibaaDoor.PBx Go.Proofs.YtdbfgfgbjheibaaDoor.Given Go.Proofs.YtdbfgfgbjheibaaDoorW.PrintWords Go.Proofs.YtdbfgfgbjheibaaDoorW.PrintLast Go.Proofs.YtdbfgfgbjheibaaDoorW.PrintMore
set_option linter.unusedVariables false
set_option linter.unusedSimpArgs false
theorem rsame_lim (u v : BR) (P : PD) (hl : PLim P) (h : (u.C, u.V, u.B, u.U) = P) (h' : (v.C, v.V, v.B, v.U) = P) (W : World) (hu : u.Ok W) (hv : v.Ok W) : Calls Tryd.prog 11 #[.agg u.cells, .agg v.cells] W fun e w' => e = .returned (.bool true) ∧ Below W.heap.size W w' := by
 subst h
 refine rsame_c u v W hu hv 30000 true ?_
 obtain ⟨e1, e2⟩ := Prod.mk.inj h'
 obtain ⟨e2, e3⟩ := Prod.mk.inj e2
 obtain ⟨e3, e4⟩ := Prod.mk.inj e3
 have h1 := hl.c
 have h2 := hl.v
 have h3 := hl.b
 have h4 := hl.d
 dsimp only at h1 h2 h3 h4
 unfold BR.rsamef
 rw [r16_Same_is u.C u.V u.B u.U v.C v.V v.B v.U (by omega) (by omega) (by omega) (by omega) hl.ok _ (z5 _), e1, e2, e3, e4, sameP_self]
set_option maxHeartbeats 4000000 in
set_option maxRecDepth 100000 in
theorem boxDecodes_w (A : Option Addr) (c : Nat) (b : List Int) (w : World) (hr0 : Kd.C (Kd.int .u8) w A b.length b) (hc0 : b.length ≤ c) (hbb : ∀ x ∈ b, 0 ≤ x ∧ x < 256) (hL : LaidOps w) :
  Calls Tryd.prog 6 #[.slice A b.length c] w fun e w' => e = .returned (.bool true) ∧ Below w.heap.size w w' := by
 have hi : (Tryd.prog.info? 27).map (·.size) = some 4 := by kernel_rfl
 have HL := zA hL
 have HC := zA hc0
 have HC0 := zA hr0
 have HBB := zA hbb
 have AW := zA (fun W hl => awake_c W awake16 hl)
 clear hL hr0 hc0 hbb
 have step : ∀ {W W2 : World}, Below w.heap.size w W → Below W.heap.size W W2 → Below w.heap.size w W2 := fun h h2 => h.trans (h2.mono h.size)
 by_cases hlen : (b.length : Int) > 3000
 ·go_enter Tryd.func6, Tryd.ntmps6
  go_wp2_with fail
  refine (AW.out _ HL.out).mono ?_
  rintro e w2 ⟨rfl, hb2⟩
  go_wp2
  go_ret
  exact ⟨rfl, hb2⟩
 ·have P1 := zA (fun W hC hl => decode_calls2 A c b W hC HC.out (by omega) HBB.out hl)
  have P2 := zA (fun W hC => rdecode_calls2 A c b W hC HC.out (by omega) HBB.out)
  have P3 := zA (fun (u v : BR) W h h' hu hv => rsame_lim u v _ (readF_lim b HBB.out (by omega)) h h' W hu hv)
  generalize readF b = r at P1 P2 P3
  go_enter Tryd.func6, Tryd.ntmps6
  go_wp2_with fail
  refine (P1.out _ HC0.out HL.out).mono ?_
  rintro e w4 ⟨u, rfl, hu, hue, hb4⟩
  have hz0 := heap_alloc_new w4 (.cells #[.slice none 0 0, .slice none 0 0, .slice none 0 0, .slice none 0 0] 27)
  have hg5 := setRow_heap _ _ _ u.cells _ _ hz0
  have hB5 := below_setRow ((zX w4.heap.size w4).alloc (z5 _) (.cells #[.slice none 0 0, .slice none 0 0, .slice none 0 0, .slice none 0 0] 27)) (z5 w4.heap.size) u.cells
  have HU := zA hu
  have HE := zA hue
  have HB4 := zA hb4
  have HC1 := zA (zD HC0.out hb4)
  have HZ0 := zA hz0
  clear hu hue hb4 HC0 P1
  have HB5 := zA (step HB4.out hB5)
  have HC2 := zA (zD HC1.out hB5)
  have HU2 := zA (HU.out.below hB5)
  have HG5 := zA hg5
  clear hz0 hg5 hB5 HC1 HU
  go_wp2_with ((with_reducible refine gate_store (t := 27) (p := 3) (v := .tmp 14) rfl ?_); refine wpList_store_row rfl 27 (.tmp 3) (.tmp 14) rfl w4.heap.size u.cells rfl rfl 27 _ HZ0.out (by rw [hi]; rfl) rfl (by kernel_rfl) ?_)
  generalize (w4.alloc (.cells #[.slice none 0 0, .slice none 0 0, .slice none 0 0, .slice none 0 0] 27)).setRow w4.heap.size u.cells = w5 at HB5 HC2 HU2 HG5 ⊢
  clear HB4 HZ0
  refine (P2.out _ HC2.out).mono ?_
  rintro e w6 ⟨v, rfl, hv, hve, hb6⟩
  have hz0 := heap_alloc_new w6 (.cells #[.slice none 0 0, .slice none 0 0, .slice none 0 0, .slice none 0 0] 27)
  have hg7 := setRow_heap _ _ _ v.cells _ _ hz0
  have hB7 := below_setRow ((zX w6.heap.size w6).alloc (z5 _) (.cells #[.slice none 0 0, .slice none 0 0, .slice none 0 0, .slice none 0 0] 27)) (z5 w6.heap.size) v.cells
  have hg6 := (hb6.block _ (blk_lt HG5.out)).trans HG5.out
  have HG8 := zA ((hB7.block _ (blk_lt hg6)).trans hg6)
  have HG7 := zA hg7
  have HV := zA (hv.below hB7)
  have HU3 := zA ((HU2.out.below hb6).below hB7)
  have HVE := zA hve
  have HB7 := zA (step (step HB5.out hb6) hB7)
  have HZ0 := zA hz0
  clear hv hve hb6 HC2 HU2 HG5 HB5 hg6 hg7 P2 hz0 hB7
  go_wp2_with (first
   | ((with_reducible refine gate_store (t := 27) (p := 5) (v := .tmp 19) rfl ?_); refine wpList_store_row rfl 27 (.tmp 5) (.tmp 19) rfl w6.heap.size v.cells rfl rfl 27 _ HZ0.out (by rw [hi]; rfl) rfl (by kernel_rfl) ?_)
   | ((with_reducible refine gate_dst (N := 21) rfl ?_); refine wpList_load_row rfl 27 (.tmp 3) rfl w4.heap.size rfl 27 _ (0, 0) _ HG8.out Tryd.underlying27 rfl (by rw [hi]; rfl) ?_)
   | ((with_reducible refine gate_dst (N := 22) rfl ?_); refine wpList_load_row rfl 27 (.tmp 5) rfl w6.heap.size rfl 27 _ (0, 0) _ HG7.out Tryd.underlying27 rfl (by rw [hi]; rfl) ?_))
  refine (P3.out u v _ HE.out HVE.out HU3.out.ok HV.out.ok).mono ?_
  rintro e w8 ⟨rfl, hb8⟩
  have HB8 := zA (step HB7.out hb8)
  clear HV HU3 HVE HB7 HG7 HG8 HZ0 P3 hb8
  generalize r.1 = E
  go_wp2_with fail
  refine (AW.out _ (HL.out.below HB8.out)).mono ?_
  rintro e w9 ⟨rfl, hb9⟩
  have hb10 := step HB8.out hb9
  go_wp2
  go_ret
  exact ⟨rfl, hb10⟩
end Go.Proofs.YtdbfgfgbjheibaaDoor.BPure
end

section
/- Slices of octets as data are lists of octets; no conditions. -/
namespace Go.Proofs.YtdbfgfgbjheibaaDoor
open Go.Proofs.YtdbfgfgbjheibaaDoorW.PrintWords
open Go.RowKit
theorem rd_octets : Bridge.Rdga Tryd.prog 28 (Kd.slice 5 (Kd.int .u8)) (fun l => ∀ a ∈ l, (Lit.int .u8 a).wf = true) := Bridge.Rdg.slicea Tryd.underlying28 (by kernel_rfl) (Bridge.Rdg.int Tryd.underlying5 (by kernel_rfl))
end Go.Proofs.YtdbfgfgbjheibaaDoor
end

section
/- BoxDecodes over any bytes. -/
namespace Go.Proofs.YtdbfgfgbjheibaaDoor
open Go Go.RowKit Go.Proofs.YtdbfgfgbjheibaaDoorW.PrintWords Go.Proofs.YtdbfgfgbjheibaaDoor.PBx Go.Proofs.YtdbfgfgbjheibaaDoor.Given
set_option linter.unusedVariables false
set_option maxRecDepth 100000 in
theorem BoxDecodes_walk (A : Option Addr) (c : Nat) (b : List Int) (w : World) (h1 : Kd.C (Kd.int .u8) w A b.length b) (hc : b.length ≤ c) (wf1 : ∀ a ∈ b, (Lit.int .u8 a).wf = true) (hL : laidMetH Tryd.prog Rows.boxDecodesRow.laid w) :
  Calls Tryd.prog 6 #[.slice A b.length c] w fun e w' => e = .returned (.bool true) ∧ Below w.heap.size w w' :=
 BPure.boxDecodes_w A c b w h1 hc (fun x hx => wf8 (wf1 x hx)) (BxRow.laidOps_of hL rfl (by simp [Rows.boxDecodesRow]))
end Go.Proofs.YtdbfgfgbjheibaaDoor
end

section
/- The law BoxDecodes holds for every input: the walk over its code shows that the call returns true and that what was read stays as it was; the row follows. The package-level tables that the code reads are tied to the program's text by the given tie. -/
namespace Go.Proofs.YtdbfgfgbjheibaaDoor.boxDecodesRw
open Go.ChangeShapes Go.WideShapes Go.ChangeAt Go.RowKit
open Go.ChangeMaps (open_string shut_string)
open Go.Proofs.YtdbfgfgbjheibaaDoor.Bridge
set_option linter.unusedVariables false
set_option linter.unusedSimpArgs false
theorem own : ownKnob Tryd.prog.godebug = none := by kernel_rfl
theorem laidOut : laidOutB Tryd.prog = true := by kernel_rfl
set_option maxRecDepth 100000 in
theorem contract (H : Type) (enc : TypeId × Value → H) (W : World) (base : Nat) (args : Array Value) (ds gs : List (DataW H)) (before : List MemPlace)
  (hval : ∀ (j : Nat) t v, Tryd.f6.params[j]? = some t → args[j]? = some v → Value.okWide Tryd.prog W .any base t v)
  (hW : DataW.Whole enc Tryd.prog Tryd.f6.params.toList Rows.boxDecodesSpec.vars false W args.toList ds gs before) (hsz : (DataW.weightsEach Tryd.prog (Tryd.f6.params.toList ++ Rows.boxDecodesSpec.plain.varTypes Tryd.prog) (ds ++ gs)).all (· ≤ reachBytes) = true) (hL : laidMetH Tryd.prog Rows.boxDecodesRow.laid W) :
  Calls Tryd.prog 6 args W fun e W' => ∃ v, e = .returned v ∧ Rows.boxDecodesSpec.post enc Tryd.prog Tryd.f6 false true false false W args v W' := by
 have hW' := hW
 obtain ⟨p, q, hA0, hV, rfl, hfz, hnd⟩ := hW
 have hA : DataW.TrodAll enc Tryd.prog W 0 (fun _ => true) true Tryd.f6.params.toList args.toList ds p := hA0
 rw [Tryd.params6] at hA hval hsz
 obtain ⟨v0, vs0, d0, ds0, p0, q0, hargs, rfl, rfl, h0, r0⟩ := trodAll_cons hA
 obtain ⟨rfl, rfl, rfl⟩ := trodAll_nil r0
 obtain rfl : args = #[v0] := by cases args; simp_all
 obtain ⟨rfl, rfl⟩ := trodVars_none hV
 clear hA0
 have k0 := h0
 have lt0 : ∀ x ∈ p0, x.block < W.heap.size := by obtain ⟨m, hm⟩ := k0; exact DataW.trod_lt m _ _ _ hm
 obtain ⟨A0, len0, c0, rfl⟩ := okWide_slice Tryd.underlying28 (hval 0 28 v0 rfl rfl)
 obtain ⟨x0, hk0, wf0⟩ := Rdga.trod rd_octets h0
 obtain ⟨A0', c0', he0, hle0, hC0⟩ := hk0
 simp only [Value.cells, List.cons.injEq, Value.slice.injEq, and_true] at he0
 obtain ⟨rfl, rfl, rfl⟩ := he0
 refine (BoxDecodes_walk A0 c0 x0 W hC0 hle0 wf0 hL).mono fun e W' ⟨he, bel⟩ => ?_
 subst he
 exact ⟨_, rfl, _, _, _, [], _, [], hW', trodAll_mk1 (shut_bool Tryd.underlying4 _), (trodAll_cons_mk (Below.trod laidOut (by kernel_rfl) (zO (by kernel_rfl)) k0 bel lt0) trodAll_mk0), rfl, bel.frame _, fun h => by cases h⟩
theorem laid_met (os : Os) : laidMetH Tryd.prog Rows.boxDecodesRow.laid ((World.doorLaid Tryd.prog 4000 os).forCall (fun _ _ => 0) ⟨#[], #[.slice none 0 0], []⟩).memory :=
 laidMetH_of_parts3 (fuel := 12) (laidMet_of_run' 12 (by kernel_rfl) (by kernel_rfl)) (by kernel_rfl) (by kernel_rfl)
theorem reads (os : Os) {H : Type} (enc : TypeId × Value → H) : ∃ ds places, DataW.whole enc Tryd.prog ((World.doorLaid Tryd.prog 4000 os).forCall (fun _ _ => 0) ⟨#[], #[.slice none 0 0], []⟩).memory Tryd.f6.params.toList Rows.boxDecodesSpec.vars false (#[.slice none 0 0] : Array Value).toList 8 = some (ds, [], places) :=
 ⟨[.nil], [], by kernel_rfl⟩
set_option maxRecDepth 100000 in
theorem lifted (os : Os) (started : os.Started) (H : Type) (enc : TypeId × Value → H) (F : Stop.Interp) :
  ReturnsInHanded {} Tryd.checked os 6 .any ((OpenSpec.ofChange Rows.boxDecodesSpec).preRow enc Tryd.prog Tryd.f6 Rows.boxDecodesRow.domain false Rows.boxDecodesRow.laid) (((OpenSpec.ofChange Rows.boxDecodesSpec).at F).post enc Tryd.prog Tryd.f6 false true false false) := by
 obtain ⟨ds, places, hx⟩ := reads os enc
 refine returnsInHanded_of_row (C := Tryd.checked) (s := OpenSpec.ofChange Rows.boxDecodesSpec) own started (by kernel_rfl) Tryd.func6
  (witness_row_at (enc := enc) (C := Tryd.checked) false (World.doorLaid Tryd.prog 4000 os) #[.slice none 0 0] rfl (by kernel_rfl) (by kernel_rfl) (by kernel_rfl)
   (OpenSpec.preRow_of_cond 8 hx (by kernel_rfl) (fun k hk => by cases hk) (by kernel_rfl) (laid_met os))) ?_
 intro W base args ds gs before hval hW _ _ hsz hL _ _
 exact contract H enc W base args ds gs before hval hW hsz hL
theorem said : Rows.BoxDecodesSaid :=
 OpenClaim.holds_of_cond 6 Tryd.f6 rfl rfl rfl rfl rfl rfl rfl ⟨rfl, rfl, rfl, rfl, rfl⟩ rfl rfl rfl rfl rfl (by kernel_rfl) Tryd.func6 (by kernel_rfl)
  (zO (by kernel_rfl)) (by unfold Func.isWrapper; first | (rw [if_pos (by decide +kernel)]; kernel_rfl) | (rw [if_neg (by decide +kernel)]; exact ⟨rfl, rfl⟩))
  (fun os started H enc _ F => by rw [OpenClaim.pre_eq_preRow]; exact lifted os started H enc F)
theorem plain (f : FuncId) (fn : Func) (hf : Tryd.pinned.checked.prog.funcNamed "ladderback/ladderbacklaw16.BoxDecodes" = some f) (hfn : Tryd.pinned.checked.prog.funcs[f]? = some fn) :
  true = Tryd.pinned.checked.prog.looks [] ∧ ∀ (j : Nat) t, fn.params[j]? = some t → Tryd.pinned.checked.prog.wantsStandIn t = false := by
 obtain rfl : f = 6 := zJ ((show Tryd.prog.funcNamed "ladderback/ladderbacklaw16.BoxDecodes" = some 6 by kernel_rfl).symm.trans hf) |>.symm
 obtain rfl : fn = Tryd.f6 := (zJ (Tryd.func6.symm.trans hfn)).symm
 refine ⟨by kernel_rfl, fun j t ht => ?_⟩
 rw [Tryd.params6] at ht
 have hm : t ∈ [28] := by simpa using Array.mem_of_getElem? ht
 have hall : ([28].all fun u => !Tryd.prog.wantsStandIn u) = true := by kernel_rfl
 exact (show Tryd.prog.wantsStandIn t = false by simpa using List.all_eq_true.1 hall t hm)
theorem card : Rows.BoxDecodesCardSaid :=
 Claim7.holds_tied_plain_at .later [] _ _ _ _ said (fun _ h => by cases h) (by kernel_rfl) (fun _ h => by cases h) boxDecodes_row_tie rfl ⟨rfl, rfl⟩ (by kernel_rfl) rfl plain (by kernel_rfl)
end Go.Proofs.YtdbfgfgbjheibaaDoor.boxDecodesRw
namespace Go.Proofs.YtdbfgfgbjheibaaDoor
theorem boxDecodes_holds : Rows.BoxDecodesCardSaid := boxDecodesRw.card
#print axioms boxDecodes_holds
end Go.Proofs.YtdbfgfgbjheibaaDoor
end
