/- The law BoxBack holds for every input: the walk over its code shows that the call returns true and that what was read stays as it was; the row follows. The package-level tables that the code reads are tied to the program's text by the given tie. -/
import Derived.Test.YtdbfgfgbjheibaaDoorZBoxBackq
import Derived.Test.YtdbfgfgbjheibaaDoorProg
import Derived.Test.YtdbfgfgbjheibaaDoorRows
import Derived.Test.YtdbfgfgbjheibaaDoorCards
import Derived.Test.YtdbfgfgbjheibaaDoorTie
import Derived.WalkKit
import Derived.ProofKit
import Derived.OpenShut
import Derived.ShutString
import Derived.ChangeOld
import Derived.Below
import Derived.SizedLaws
import Derived.Deep.DeepHandedRow
import Derived.Lib.LaidTab
import Derived.LaidMore
import Derived.Test.YtdbfgfgbjheibaaDoorZBoxBackaa
import Derived.Test.YtdbfgfgbjheibaaDoorZBoxBackai
import Derived.Test.YtdbfgfgbjheibaaDoorZBoxBackaj
import Derived.Test.YtdbfgfgbjheibaaDoorZBoxBackak
import Derived.Test.YtdbfgfgbjheibaaDoorZBoxBackal
section
/- Whether two programs are the same, plainly: the program's and the document's tell the same. -/
namespace Go.Proofs.YtdbfgfgbjheibaaDoor.BPure
open Go Go.RowKit Go.Proofs.YtdbfgfgbjheibaaDoor Go.Proofs.YtdbfgfgbjheibaaDoor.PBx Go.Proofs.YtdbfgfgbjheibaaDoor.Given Go.Proofs.YtdbfgfgbjheibaaDoorW.PrintWords Go.Proofs.YtdbfgfgbjheibaaDoorW.PrintLast Go.Proofs.YtdbfgfgbjheibaaDoorW.PrintMore
set_option linter.unusedVariables false
set_option linter.unusedSimpArgs false
def sameL {α : Type} (e : α → α → Bool) : List α → List α → Bool
 | [], [] => true
 | x :: s, y :: t => e x y && sameL e s t
 | _, _ => false
theorem sameL_len {α : Type} (e : α → α → Bool) : ∀ a b : List α, a.length ≠ b.length → sameL e a b = false
 | [], [], h => absurd rfl h
 | [], _ :: _, _ => rfl
 | _ :: _, [], _ => rfl
 | x :: s, y :: t, h => by
  unfold sameL
  rw [sameL_len e s t (by simpa using h), Bool.and_false]
theorem sameL_self {α : Type} (e : α → α → Bool) (h : ∀ x, e x x = true) : ∀ a : List α, sameL e a a = true
 | [] => rfl
 | x :: s => by unfold sameL; rw [h x, sameL_self e h s]; rfl
def con_eq (x y : S68) : Bool := ((x.f0 == y.f0) && (x.f1 == y.f1))
theorem con_eq_self (x : S68) : con_eq x x = true := by unfold con_eq; simp
theorem con_drop (l : List S68) (i : Nat) (h : i < l.length) : l.drop i = rd_T68 l (i : Int) :: l.drop (i + 1) := by
 have : rd_T68 l (i : Int) = l[i] := by
  unfold rd_T68
  rw [Int.toNat_natCast, List.getD_eq_getElem?_getD, List.getElem?_eq_getElem h]; rfl
 rw [this]
 exact List.drop_eq_getElem_cons h
theorem con_rsame_l0 (a b : List S68) (hz : a.length ≤ 100000) (hl : a.length = b.length) : ∀ (d i k : Nat), i + d = a.length → d < k → r14_SameConsts.l0 k a b (i : Int) = some (sameL con_eq (a.drop i) (b.drop i)) := by
 intro d
 induction d with
 | zero =>
  intro i k h1 h2
  obtain ⟨k, rfl⟩ : ∃ m, k = m + 1 := ⟨k - 1, by omega⟩
  unfold r14_SameConsts.l0
  rw [if_neg (by omega), List.drop_eq_nil_of_le (by omega), List.drop_eq_nil_of_le (by omega)]; rfl
 | succ d ih =>
  intro i k h1 h2
  obtain ⟨k, rfl⟩ : ∃ m, k = m + 1 := ⟨k - 1, by omega⟩
  unfold r14_SameConsts.l0
  rw [if_pos (by omega), if_pos (by omega), if_pos (by omega), con_drop a i (by omega), con_drop b i (by omega)]
  generalize rd_T68 a (i : Int) = x
  generalize rd_T68 b (i : Int) = y
  have e : (!(x.f0 == y.f0) || (!(x.f1 == y.f1))) = !con_eq x y := by
   unfold con_eq
   cases x.f0 == y.f0 <;> cases x.f1 == y.f1 <;> rfl
  rw [e]
  unfold sameL
  by_cases h : con_eq x y = true
  ·rw [if_neg (by rw [h]; simp), w64 _ (by omega) (by omega), h, Bool.true_and]
   exact ih (i + 1) k (by omega) (by omega)
  ·rw [show con_eq x y = false by simpa using h]; rfl
theorem con_rsame_is (a b : List S68) (hz : a.length ≤ 100000) (k : Nat) (hk : a.length < k) : r14_SameConsts.f k a b = some (sameL con_eq a b) := by
 unfold r14_SameConsts.f
 by_cases h : (a.length : Int) = (b.length : Int)
 ·rw [if_pos h]
  exact con_rsame_l0 a b hz (by omega) a.length 0 k (by omega) hk
 ·rw [if_neg h, sameL_len _ a b (by omega)]
def var_eq (x y : S41) : Bool := (((x.f0).toList == (y.f0).toList) && ((x.f1 == y.f1) && ((x.f2 == y.f2) && ((x.f3 == y.f3) && (x.f4 == y.f4)))))
theorem var_eq_self (x : S41) : var_eq x x = true := by unfold var_eq; simp
theorem var_drop (l : List S41) (i : Nat) (h : i < l.length) : l.drop i = rd_T41 l (i : Int) :: l.drop (i + 1) := by
 have : rd_T41 l (i : Int) = l[i] := by
  unfold rd_T41
  rw [Int.toNat_natCast, List.getD_eq_getElem?_getD, List.getElem?_eq_getElem h]; rfl
 rw [this]
 exact List.drop_eq_getElem_cons h
theorem var_rsame_l0 (a b : List S41) (hz : a.length ≤ 100000) (hl : a.length = b.length) : ∀ (d i k : Nat), i + d = a.length → d < k → r14_SameVars.l0 k a b (i : Int) = some (sameL var_eq (a.drop i) (b.drop i)) := by
 intro d
 induction d with
 | zero =>
  intro i k h1 h2
  obtain ⟨k, rfl⟩ : ∃ m, k = m + 1 := ⟨k - 1, by omega⟩
  unfold r14_SameVars.l0
  rw [if_neg (by omega), List.drop_eq_nil_of_le (by omega), List.drop_eq_nil_of_le (by omega)]; rfl
 | succ d ih =>
  intro i k h1 h2
  obtain ⟨k, rfl⟩ : ∃ m, k = m + 1 := ⟨k - 1, by omega⟩
  unfold r14_SameVars.l0
  rw [if_pos (by omega), if_pos (by omega), if_pos (by omega), var_drop a i (by omega), var_drop b i (by omega)]
  generalize rd_T41 a (i : Int) = x
  generalize rd_T41 b (i : Int) = y
  have e : (!((x.f0).toList == (y.f0).toList) || ((!(x.f1 == y.f1) || ((!(x.f2 == y.f2) || ((!(x.f3 == y.f3) || (!(x.f4 == y.f4))))))))) = !var_eq x y := by
   unfold var_eq
   cases (x.f0).toList == (y.f0).toList <;> cases x.f1 == y.f1 <;> cases x.f2 == y.f2 <;> cases x.f3 == y.f3 <;> cases x.f4 == y.f4 <;> rfl
  rw [e]
  unfold sameL
  by_cases h : var_eq x y = true
  ·rw [if_neg (by rw [h]; simp), w64 _ (by omega) (by omega), h, Bool.true_and]
   exact ih (i + 1) k (by omega) (by omega)
  ·rw [show var_eq x y = false by simpa using h]; rfl
theorem var_rsame_is (a b : List S41) (hz : a.length ≤ 100000) (k : Nat) (hk : a.length < k) : r14_SameVars.f k a b = some (sameL var_eq a b) := by
 unfold r14_SameVars.f
 by_cases h : (a.length : Int) = (b.length : Int)
 ·rw [if_pos h]
  exact var_rsame_l0 a b hz (by omega) a.length 0 k (by omega) hk
 ·rw [if_neg h, sameL_len _ a b (by omega)]
def blk_eq (x y : S43) : Bool := (((x.f0).toList == (y.f0).toList) && (x.f1 == y.f1))
theorem blk_eq_self (x : S43) : blk_eq x x = true := by unfold blk_eq; simp
theorem blk_drop (l : List S43) (i : Nat) (h : i < l.length) : l.drop i = rd_T43 l (i : Int) :: l.drop (i + 1) := by
 have : rd_T43 l (i : Int) = l[i] := by
  unfold rd_T43
  rw [Int.toNat_natCast, List.getD_eq_getElem?_getD, List.getElem?_eq_getElem h]; rfl
 rw [this]
 exact List.drop_eq_getElem_cons h
theorem blk_rsame_l0 (a b : List S43) (hz : a.length ≤ 100000) (hl : a.length = b.length) : ∀ (d i k : Nat), i + d = a.length → d < k → r14_SameBlocks.l0 k a b (i : Int) = some (sameL blk_eq (a.drop i) (b.drop i)) := by
 intro d
 induction d with
 | zero =>
  intro i k h1 h2
  obtain ⟨k, rfl⟩ : ∃ m, k = m + 1 := ⟨k - 1, by omega⟩
  unfold r14_SameBlocks.l0
  rw [if_neg (by omega), List.drop_eq_nil_of_le (by omega), List.drop_eq_nil_of_le (by omega)]; rfl
 | succ d ih =>
  intro i k h1 h2
  obtain ⟨k, rfl⟩ : ∃ m, k = m + 1 := ⟨k - 1, by omega⟩
  unfold r14_SameBlocks.l0
  rw [if_pos (by omega), if_pos (by omega), if_pos (by omega), blk_drop a i (by omega), blk_drop b i (by omega)]
  generalize rd_T43 a (i : Int) = x
  generalize rd_T43 b (i : Int) = y
  have e : (!((x.f0).toList == (y.f0).toList) || (!(x.f1 == y.f1))) = !blk_eq x y := by
   unfold blk_eq
   cases (x.f0).toList == (y.f0).toList <;> cases x.f1 == y.f1 <;> rfl
  rw [e]
  unfold sameL
  by_cases h : blk_eq x y = true
  ·rw [if_neg (by rw [h]; simp), w64 _ (by omega) (by omega), h, Bool.true_and]
   exact ih (i + 1) k (by omega) (by omega)
  ·rw [show blk_eq x y = false by simpa using h]; rfl
theorem blk_rsame_is (a b : List S43) (hz : a.length ≤ 100000) (k : Nat) (hk : a.length < k) : r14_SameBlocks.f k a b = some (sameL blk_eq a b) := by
 unfold r14_SameBlocks.f
 by_cases h : (a.length : Int) = (b.length : Int)
 ·rw [if_pos h]
  exact blk_rsame_l0 a b hz (by omega) a.length 0 k (by omega) hk
 ·rw [if_neg h, sameL_len _ a b (by omega)]
def uni_eq (x y : S48) : Bool := sameU x.f0 x.f1 x.f2 x.f3 x.f4 y.f0 y.f1 y.f2 y.f3 y.f4
theorem uni_eq_self (x : S48) : uni_eq x x = true := sameU_self _ _ _ _ _
theorem uni_rsame (C C' : LC) (V V' : LV) (B B' : LB) (a b : LU) (hz : a.length ≤ 100000) (hok : Ok a) (hl : a.length = b.length) : ∀ (d i k : Nat), i + d = a.length → d + 10001 < k → r16_Same.l0 k (i : Int) C V B a C' V' B' b = some (sameL uni_eq (a.drop i) (b.drop i)) := by
 intro d
 induction d with
 | zero =>
  intro i k h1 h2
  obtain ⟨k, rfl⟩ : ∃ m, k = m + 1 := ⟨k - 1, by omega⟩
  rw [r16_Same.l0, if_neg (by omega), List.drop_eq_nil_of_le (by omega), List.drop_eq_nil_of_le (by omega)]; rfl
 | succ d ih =>
  intro i k h1 h2
  obtain ⟨k, rfl⟩ : ∃ m, k = m + 1 := ⟨k - 1, by omega⟩
  have hia : i < a.length := by omega
  have hib : i < b.length := by omega
  obtain ⟨o0, o1, o2, o3⟩ := hok a[i] (List.getElem_mem hia)
  rw [r16_Same.l0, if_pos (by omega), if_pos (by omega), if_pos (by omega), rd_unit_at a i hia, rd_unit_at b i hib, List.drop_eq_getElem_cons hia, List.drop_eq_getElem_cons hib]
  rw [rsame_is a[i].f0 a[i].f1 a[i].f2 a[i].f3 a[i].f4 b[i].f0 b[i].f1 b[i].f2 b[i].f3 b[i].f4 (by omega) (by omega) (by omega) k (by omega), zP]
  unfold sameL uni_eq
  by_cases h : sameU a[i].f0 a[i].f1 a[i].f2 a[i].f3 a[i].f4 b[i].f0 b[i].f1 b[i].f2 b[i].f3 b[i].f4 = true
  ·rw [if_pos h, w64 _ (by omega) (by omega), h, Bool.true_and]
   exact ih (i + 1) k (by omega) (by omega)
  ·rw [if_neg h, show sameU a[i].f0 a[i].f1 a[i].f2 a[i].f3 a[i].f4 b[i].f0 b[i].f1 b[i].f2 b[i].f3 b[i].f4 = false by simpa using h]; rfl
/-- Whether two programs are the same. -/
def sameP (C : LC) (V : LV) (B : LB) (U : LU) (C' : LC) (V' : LV) (B' : LB) (U' : LU) : Bool := sameL con_eq C C' && sameL var_eq V V' && sameL blk_eq B B' && sameL uni_eq U U'
theorem sameP_self (C : LC) (V : LV) (B : LB) (U : LU) : sameP C V B U C V B U = true := by
 unfold sameP
 rw [sameL_self _ con_eq_self, sameL_self _ var_eq_self, sameL_self _ blk_eq_self, sameL_self _ uni_eq_self]; rfl
theorem r16_Same_is (C : LC) (V : LV) (B : LB) (U : LU) (C' : LC) (V' : LV) (B' : LB) (U' : LU) (hC : C.length ≤ 10000) (hV : V.length ≤ 10000) (hB : B.length ≤ 10000) (hU : U.length ≤ 10000) (hok : Ok U) (k : Nat) (hk : 30000 ≤ k) : r16_Same.f k C V B U C' V' B' U' = some (sameP C V B U C' V' B' U') := by
 have jt : r16_Same.j0 k true C V B U C' V' B' U' = some false := by
  obtain ⟨k, rfl⟩ : ∃ m, k = m + 1 := ⟨k - 1, by omega⟩
  rw [r16_Same.j0, if_pos rfl]
 unfold r16_Same.f sameP
 rw [con_rsame_is C C' (by omega) k (by omega), zP]
 by_cases h1 : sameL con_eq C C' = true
 ·rw [if_pos h1, var_rsame_is V V' (by omega) k (by omega), zP, h1, Bool.true_and]
  by_cases h2 : sameL var_eq V V' = true
  ·rw [if_pos h2, blk_rsame_is B B' (by omega) k (by omega), zP, h2, Bool.true_and]
   by_cases h3 : sameL blk_eq B B' = true
   ·rw [if_pos h3, h3, Bool.true_and]
    obtain ⟨k, rfl⟩ : ∃ m, k = m + 1 := ⟨k - 1, by omega⟩
    rw [r16_Same.j0]
    by_cases h4 : U.length = U'.length
    ·rw [if_neg (by rw [h4]; simp)]
     have := uni_rsame C C' V V' B B' U U' (by omega) hok h4 U.length 0 k (by omega) (by omega)
     simpa using this
    ·rw [if_pos (by simp; omega), sameL_len _ U U' h4]
   ·rw [if_neg h3, jt, show sameL blk_eq B B' = false by simpa using h3]; rfl
  ·rw [if_neg h2, jt, show sameL var_eq V V' = false by simpa using h2]; rfl
 ·rw [if_neg h1, jt, show sameL con_eq C C' = false by simpa using h1]; rfl
end Go.Proofs.YtdbfgfgbjheibaaDoor.BPure
end

section
/- A short program's container, plainly: the program's and the document's tell the same. -/
namespace Go.Proofs.YtdbfgfgbjheibaaDoor.BPure
open Go Go.RowKit Go.Proofs.YtdbfgfgbjheibaaDoor Go.Proofs.YtdbfgfgbjheibaaDoor.PBx Go.Proofs.YtdbfgfgbjheibaaDoor.Given Go.Proofs.YtdbfgfgbjheibaaDoor.BPure.Tab Go.Proofs.YtdbfgfgbjheibaaDoorW.PrintWords Go.Proofs.YtdbfgfgbjheibaaDoorW.PrintLast Go.Proofs.YtdbfgfgbjheibaaDoorW.PrintMore
set_option linter.unusedVariables false
set_option linter.unusedSimpArgs false
def BL (l : List Int) : Prop := ∀ x ∈ l, 0 ≤ x ∧ x < 256
theorem BL_nil : BL [] := fun x h => by cases h
theorem BL_app {a b : List Int} (ha : BL a) (hb : BL b) : BL (a ++ b) := fun x h => (List.mem_append.1 h).elim (ha x) (hb x)
theorem BL_le (v : Int) : ∀ m, BL (le m v)
 | 0 => BL_nil
 | m + 1 => by
  unfold le
  refine BL_app (BL_le v m) fun x hx => ?_
  obtain rfl := List.mem_singleton.1 hx
  omega
theorem BL_bytes (s : ByteArray) : BL (bytesOf s) := by
 intro x hx
 unfold bytesOf at hx
 obtain ⟨y, _, rfl⟩ := List.mem_map.1 hx
 exact ⟨Int.natCast_nonneg _, by have := y.toNat_lt; omega⟩
theorem BL_encL {α : Type} (enc : α → List Int) (h : ∀ x, BL (enc x)) (l : List α) : BL (encL enc l) := by
 intro x hx
 unfold encL at hx
 obtain ⟨y, hy, hxy⟩ := List.mem_flatten.1 hx
 obtain ⟨z, _, rfl⟩ := List.mem_map.1 hy
 exact h z x hxy
theorem BL_low (l : List Int) : BL (low l) := by
 intro x hx
 unfold low at hx
 obtain ⟨y, _, rfl⟩ := List.mem_map.1 hx
 omega
theorem BL_con (x : TC) : BL (conEnc x) := BL_app (BL_le _ _) (BL_le _ _)
theorem BL_encT (s : ByteArray) : BL (encT s) := BL_app (BL_le _ _) (BL_bytes _)
theorem BL_blk (x : TB) : BL (blkEnc x) := BL_app (BL_encT _) (BL_le _ _)
theorem BL_var (x : TV) : BL (varEnc x) := BL_app (BL_app (BL_app (BL_app (BL_encT _) (BL_le _ _)) (BL_le _ _)) (BL_le _ _)) (BL_le _ _)
theorem BL_putM {α : Type} (most : Nat) (fit : α → Bool) (enc : α → List Int) (h : ∀ x, BL (enc x)) (l : List α) : BL (putM most fit enc l).1 := by
 unfold putM
 split
 ·exact BL_nil
 ·split
  ·exact BL_app (BL_le _ _) (BL_encL enc h l)
  ·exact BL_nil
def uniFit (x : S48) : Bool := fitsF x.f0 x.f1 x.f2 x.f3 x.f4
@[irreducible] def uniB (x : S48) : List Int := putB x.f0 x.f1 x.f2 x.f3 x.f4
def uniEnc (x : S48) : List Int := le 4 ((uniB x).length : Int) ++ uniB x
theorem uniB_is (x : S48) : putB x.f0 x.f1 x.f2 x.f3 x.f4 = uniB x := by unfold uniB; rfl
theorem BL_uniB (x : S48) : BL (uniB x) := by
 rw [← uniB_is]
 exact BL_app (BL_app (BL_app (BL_app (BL_app (BL_app (BL_app (BL_app (BL_le _ _) (BL_bytes _)) (BL_le _ _)) (BL_low _)) (BL_le _ _)) (BL_le _ _)) (BL_low _)) (BL_le _ _)) (enc_byte _)
theorem BL_uni (x : S48) : BL (uniEnc x) := BL_app (BL_le _ _) (BL_uniB x)
theorem uniB_len (x : S48) (h : x.f0.size ≤ 300 ∧ x.f1.length ≤ 20 ∧ x.f3.length ≤ 1100 ∧ x.f4.length ≤ 600) : (uniB x).length ≤ 4400 := by
 unfold uniB putB
 have := text_len x.f0
 simp only [List.length_append, le_length, low_len, enc_len]
 omega
theorem put4 (l : List Int) (v : Int) (hl : l.length ≤ 1000000000) : octet_Put.f l 4 v = some (l ++ le 4 v) := by
 unfold octet_Put.f
 rw [if_pos hl]; rfl
set_option maxHeartbeats 400000 in
theorem units_l0 (x0 U : LU) (hl : U.length ≤ 10) (hok : Ok U) : ∀ (d i k : Nat) (o : List Int), i + d = U.length → d + 20100 < k → o.length ≤ 10 + 4500 * i → box_units.l0 k x0 o U (U.length : Int) (i : Int) = some (if (U.drop i).all uniFit = true then (o ++ encL uniEnc (U.drop i), decide ((x0.length : Int) ≤ 8)) else ([], false)) := by
 intro d
 induction d with
 | zero =>
  intro i k o h1 h2 h3
  obtain ⟨k, rfl⟩ : ∃ m, k = m + 1 := ⟨k - 1, by omega⟩
  rw [box_units.l0, if_neg (by omega), List.drop_eq_nil_of_le (by omega)]
  simp [encL]
 | succ d ih =>
  intro i k o h1 h2 h3
  obtain ⟨k, rfl⟩ : ∃ m, k = m + 1 := ⟨k - 1, by omega⟩
  have hil : i < U.length := by omega
  have ho := hok U[i] (List.getElem_mem hil)
  have hlen := uniB_len U[i] ho
  rw [box_units.l0, if_pos (by omega), if_pos (by omega), if_pos (by omega), rd_unit_at U i hil]
  rw [put_is U[i].f0 U[i].f1 U[i].f2 U[i].f3 U[i].f4 (by omega) (by omega) (by omega) (by omega) k (by omega), List.drop_eq_getElem_cons hil, List.all_cons]
  by_cases hf : uniFit U[i] = true
  ·have hf' : fitsF U[i].f0 U[i].f1 U[i].f2 U[i].f3 U[i].f4 = true := hf
   rw [if_pos hf', zP, if_pos rfl, hf, Bool.true_and, uniB_is]
   show ((octet_Put.f o 4 ((uniB U[i]).length : Int)).bind fun t => if t.length + (uniB U[i]).length < 140737488355328 then box_units.l0 k x0 (t ++ uniB U[i]) U (U.length : Int) (wrap64 ((i : Int) + 1)) else none) = _
   rw [put4 o _ (by omega), zP, if_pos (by rw [List.length_append, le_length]; omega), w64 _ (by omega) (by omega)]
   have := ih (i + 1) k (o ++ le 4 ((uniB U[i]).length : Int) ++ uniB U[i]) (by omega) (by omega) (by rw [List.length_append, List.length_append, le_length]; omega)
   rw [show ((i : Int) + 1) = ((i + 1 : Nat) : Int) by omega, this, encL_cons]
   unfold uniEnc
   simp only [List.append_assoc]
  ·have hf' : ¬ fitsF U[i].f0 U[i].f1 U[i].f2 U[i].f3 U[i].f4 = true := hf
   rw [if_neg hf', zP, if_neg (by decide), show uniFit U[i] = false by simpa using hf]; rfl
def unitsF (U : LU) : List Int × Bool := if U.all uniFit = true then (le 1 (U.length : Int) ++ encL uniEnc U, decide ((U.length : Int) ≤ 8)) else ([], false)
theorem units_is (U : LU) (hl : U.length ≤ 10) (hok : Ok U) (k : Nat) (hk : 20200 ≤ k) : box_units.f k U = some (unitsF U) := by
 unfold box_units.f unitsF
 rw [Tab.put1 [] _ (by simp), zP]
 have := units_l0 U U hl hok U.length 0 k ([] ++ le 1 (U.length : Int)) (by omega) (by omega) (by rw [List.nil_append, le_length]; omega)
 rw [List.drop_zero] at this
 rw [show (0 : Int) = ((0 : Nat) : Int) from rfl, this, List.nil_append]
def sec (l : List Int) (a : Int) (x : List Int) : List Int := l ++ le 1 a ++ le 4 (x.length : Int) ++ x
theorem sec_len (l : List Int) (a : Int) (x : List Int) : (sec l a x).length = l.length + 5 + x.length := by
 unfold sec
 simp only [List.length_append, le_length]
theorem BL_sec {l : List Int} (a : Int) {x : List Int} (hl : BL l) (hx : BL x) : BL (sec l a x) := BL_app (BL_app (BL_app hl (BL_le _ _)) (BL_le _ _)) hx
theorem sec_is (l : List Int) (a : Int) (x : List Int) (h : l.length + x.length ≤ 1000000) : box_section.f l a x = some (sec l a x) := by
 unfold box_section.f
 rw [Tab.put1 l _ (by omega), zP, put4 _ _ (by rw [List.length_append, le_length]; omega), zP, if_pos (by rw [List.length_append, List.length_append, le_length, le_length]; omega)]
 rfl
def body (c v x u : List Int) : List Int := sec (sec (sec (sec [76, 66, 75, 49] 1 c) 2 v) 3 x) 4 u
def sumB (b : List Int) : List Int := b ++ le 4 (4294967295 - overF 4294967295 b)
def fin (b : List Int) : List Int × Bool := if 1048576 < (sumB b).length then ([], false) else (sumB b, true)
theorem BL_body {c v x u : List Int} (hc : BL c) (hv : BL v) (hx : BL x) (hu : BL u) : BL (body c v x u) := BL_sec _ (BL_sec _ (BL_sec _ (BL_sec _ (fun y hy => by simp at hy; omega) hc) hv) hx) hu
theorem body_len (c v x u : List Int) : (body c v x u).length = c.length + v.length + x.length + u.length + 24 := by
 unfold body
 simp only [sec_len, List.length_cons, List.length_nil]
 omega
theorem tail_is (c v x u : List Int) (hb : BL (body c v x u)) (hl : c.length + v.length + x.length + u.length ≤ 900000) : encTail c v x u = some (fin (body c v x u)) := by
 have hbl := body_len c v x u
 unfold encTail
 rw [sec_is [76, 66, 75, 49] 1 c (by simp; omega), zP, sec_is _ 2 v (by simp only [sec_len, List.length_cons, List.length_nil]; omega), zP, sec_is _ 3 x (by simp only [sec_len, List.length_cons, List.length_nil]; omega), zP, sec_is _ 4 u (by simp only [sec_len, List.length_cons, List.length_nil]; omega), zP]
 show ((crc_Of.f (body c v x u)).bind fun s => (octet_Put.f (body c v x u) 4 s).bind fun b5 => if 1048576 < b5.length then some ([], false) else some (b5, true)) = _
 have ho : okC (body c v x u) := ⟨by omega, hb⟩
 unfold crc_Of.f
 rw [if_pos ho, zP, put4 _ _ (by omega), zP]
 unfold fin sumB
 split <;> rfl
def encP (C : LC) (V : LV) (B : LB) (U : LU) : List Int × Bool :=
 if (putM 1024 conFit conEnc C).2 = true ∧ (putM 64 varFit varEnc V).2 = true ∧ (putM 32 blkFit blkEnc B).2 = true ∧ (unitsF U).2 = true then fin (body (putM 1024 conFit conEnc C).1 (putM 64 varFit varEnc V).1 (putM 32 blkFit blkEnc B).1 (unitsF U).1) else ([], false)
theorem encU_len : ∀ U : LU, Ok U → (encL uniEnc U).length ≤ 4500 * U.length
 | [], _ => by simp [encL]
 | x :: U, h => by
  have h1 := encU_len U (fun y hy => h y (List.mem_cons_of_mem _ hy))
  have h2 := uniB_len x (h x (List.mem_cons_self))
  rw [encL_cons, List.length_append, List.length_cons]
  unfold uniEnc at h1 ⊢
  rw [List.length_append, le_length]
  omega
theorem unitsF_len (U : LU) (hl : U.length ≤ 10) (hok : Ok U) : (unitsF U).1.length ≤ 50000 := by
 unfold unitsF
 have := encU_len U hok
 split
 ·simp only [List.length_append, le_length]; omega
 ·simp
theorem BL_unitsF (U : LU) : BL (unitsF U).1 := by
 unfold unitsF
 split
 ·exact BL_app (BL_le _ _) (BL_encL _ BL_uni _)
 ·exact BL_nil
theorem pack_is (C : LC) (V : LV) (B : LB) (U : LU) (hl : U.length ≤ 10) (hok : Ok U) : box_Encode.f C V B U = some (encP C V B U) := by
 have l1 := Tab.putM_len 1024 conFit conEnc con_len C
 have l2 := Tab.putM_len 64 varFit varEnc var_len V
 have l3 := Tab.putM_len 32 blkFit blkEnc blk_len B
 have l4 := unitsF_len U hl hok
 unfold box_Encode.f encP
 rw [con_prog C 30000 (by omega), zP, var_prog V 30000 (by omega), zP, blk_prog B 30000 (by omega), zP, units_is U hl hok 30000 (by omega), zP]
 rw [tail_is _ _ _ _ (BL_body (BL_putM _ _ _ BL_con _) (BL_putM _ _ _ BL_var _) (BL_putM _ _ _ BL_blk _) (BL_unitsF U)) (by omega)]
 split <;> rfl
theorem awake16 : w16_awake.f = some true := by
 unfold w16_awake.f
 rw [pack_is [] [] [] [] (by decide) (fun x hx => by cases hx)]
 decide +kernel
end Go.Proofs.YtdbfgfgbjheibaaDoor.BPure
end

section
/- The walk of BoxDecodes: for any bytes its call returns true; the operations' table as the program lays it. -/
namespace Go.Proofs.YtdbfgfgbjheibaaDoor.BPure
open Go Go.RowKit Go.Proofs.YtdbfgfgbjheibaaDoor Go.Proofs.YtdbfgfgbjheibaaDoor.PBx Go.Proofs.YtdbfgfgbjheibaaDoor.Given Go.Proofs.YtdbfgfgbjheibaaDoorW.PrintWords Go.Proofs.YtdbfgfgbjheibaaDoorW.PrintLast Go.Proofs.YtdbfgfgbjheibaaDoorW.PrintMore
set_option linter.unusedVariables false
set_option linter.unusedSimpArgs false
end Go.Proofs.YtdbfgfgbjheibaaDoor.BPure
end

section
/- Instructions' bytes, plainly: what is encoded, and back. -/
namespace Go.Proofs.YtdbfgfgbjheibaaDoor.Pure
open Go.RowKit Go.Proofs.YtdbfgfgbjheibaaDoor.PCod Go.Proofs.YtdbfgfgbjheibaaDoor.POp Go.Proofs.YtdbfgfgbjheibaaDoor.Given Go.Proofs.YtdbfgfgbjheibaaDoorW.PrintWords Go.Proofs.YtdbfgfgbjheibaaDoorW.PrintLast
set_option linter.unusedVariables false
set_option linter.unusedSimpArgs false
def enc1 (i : S109) : List Int := [i.f0 % 256, i.f1 % 256, i.f1 / 256 % 256, i.f2 % 256, i.f2 / 256 % 256]
def encF : List S109 → List Int
 | [] => []
 | i :: t => enc1 i ++ encF t
def allR : List S109 → Bool
 | [] => true
 | i :: t => right3 i.f0 i.f1 i.f2 && allR t
theorem enc_len : ∀ l : List S109, (encF l).length = 5 * l.length
 | [] => rfl
 | i :: t => by simp only [encF, List.length_append, enc_len t, enc1, List.length_cons, List.length_nil]; omega
theorem dec_enc : ∀ (l : List S109) (n : Nat) (out : List S109), allR l = true → l.length ≤ n → decF n (encF l) out = (out ++ l, 0, 0)
 | [], n, out, h, hn => by cases n <;> simp [encF, decF]
 | i :: t, 0, out, h, hn => by simp at hn
 | i :: t, n + 1, out, h, hn => by
  unfold allR at h
  simp only [Bool.and_eq_true] at h
  have hl := right_lim h.1
  have e1 : i.f1 % 256 + 256 * (i.f1 / 256 % 256) = i.f1 := by omega
  have e2 : i.f2 % 256 + 256 * (i.f2 / 256 % 256) = i.f2 := by omega
  have e0 : i.f0 % 256 = i.f0 := by omega
  show decF (n + 1) (i.f0 % 256 :: i.f1 % 256 :: (i.f1 / 256 % 256) :: i.f2 % 256 :: (i.f2 / 256 % 256) :: encF t) out = _
  unfold decF
  rw [e0, e1, e2, if_pos (err_right h.1), dec_enc t n _ h.2 (by simp at hn; omega)]
  simp
theorem dec_back : ∀ (n : Nat) (l : List Int) (out : List S109), l.length ≤ n → (∀ x ∈ l, 0 ≤ x ∧ x < 256) →
  ((decF n l out).2.2 ≠ 0 → (decF n l out).1 = []) ∧ ((decF n l out).2.2 = 0 → ∃ m, (decF n l out).1 = out ++ m ∧ allR m = true ∧ encF m = l)
 | 0, l, out, h, hb => by
  obtain rfl := List.eq_nil_of_length_eq_zero (by omega : l.length = 0)
  exact ⟨fun h => absurd rfl h, fun _ => ⟨[], by simp [decF], rfl, rfl⟩⟩
 | n + 1, [], out, h, hb => ⟨fun h => absurd rfl h, fun _ => ⟨[], by simp [decF], rfl, rfl⟩⟩
 | n + 1, [_], out, h, hb => ⟨fun _ => rfl, fun h => by simp [decF] at h⟩
 | n + 1, [_, _], out, h, hb => ⟨fun _ => rfl, fun h => by simp [decF] at h⟩
 | n + 1, [_, _, _], out, h, hb => ⟨fun _ => rfl, fun h => by simp [decF] at h⟩
 | n + 1, [_, _, _, _], out, h, hb => ⟨fun _ => rfl, fun h => by simp [decF] at h⟩
 | n + 1, a :: b :: c :: d :: e :: t, out, h, hb => by
  have ha := hb a (by simp)
  have hb' := hb b (by simp)
  have hc := hb c (by simp)
  have hd := hb d (by simp)
  have he := hb e (by simp)
  unfold decF
  split
  ·rename_i h0
   have ih := dec_back n t (out ++ [⟨a, b + 256 * c, d + 256 * e⟩]) (by simp only [List.length_cons] at h; omega) (fun x hx => hb x (by simp [hx]))
   refine ⟨ih.1, fun hz => ?_⟩
   obtain ⟨m, h1, h2, h3⟩ := ih.2 hz
   refine ⟨⟨a, b + 256 * c, d + 256 * e⟩ :: m, by rw [h1]; simp, ?_, ?_⟩
   ·unfold allR
    rw [right_err h0, h2]; rfl
   ·show [a % 256, (b + 256 * c) % 256, (b + 256 * c) / 256 % 256, (d + 256 * e) % 256, (d + 256 * e) / 256 % 256] ++ encF m = _
    rw [h3, show a % 256 = a by omega, show (b + 256 * c) % 256 = b by omega, show (b + 256 * c) / 256 % 256 = c by omega, show (d + 256 * e) % 256 = d by omega, show (d + 256 * e) / 256 % 256 = e by omega]
    rfl
  ·rename_i h0
   exact ⟨fun _ => rfl, fun h => absurd h h0⟩
end Go.Proofs.YtdbfgfgbjheibaaDoor.Pure
end

section
/- Units, plainly: what is read of a unit that was put, and what was put of a unit that is read; over the texts of the container. -/
namespace Go.Proofs.YtdbfgfgbjheibaaDoor.BPure
open Go.RowKit Go.Proofs.YtdbfgfgbjheibaaDoor Go.Proofs.YtdbfgfgbjheibaaDoor.Given Go.Proofs.YtdbfgfgbjheibaaDoorW.PrintWords Go.Proofs.YtdbfgfgbjheibaaDoorW.PrintLast Go.Proofs.YtdbfgfgbjheibaaDoorW.PrintMore
set_option linter.unusedVariables false
set_option linter.unusedSimpArgs false
theorem numbers_inv {b : List Int} (hb : ∀ x ∈ b, 0 ≤ x ∧ x < 256) {at_ : Int} {bad : Bool} {many most : Int} {m : Nat} (hm : mx 0 (mn many 8) = m) (hm2 : m ≤ 2) (hmost : 0 ≤ most) (h0 : 0 ≤ at_) (h1 : at_ ≤ b.length) (h : (numbersR b at_ bad many most).2.1 = 0) :
  bad = false ∧ (numbersR b at_ bad many most).2.2.2 = false ∧ ((numbersR b at_ bad many most).1.length : Int) ≤ most ∧ (∀ x ∈ (numbersR b at_ bad many most).1, 0 ≤ x ∧ x < 256) ∧ (numbersR b at_ bad many most).2.2.1 = at_ + m + (numbersR b at_ bad many most).1.length ∧ at_ + m + (numbersR b at_ bad many most).1.length ≤ b.length ∧ b.drop at_.toNat = le m ((numbersR b at_ bad many most).1.length : Int) ++ (numbersR b at_ bad many most).1 ++ b.drop (numbersR b at_ bad many most).2.2.1.toNat := by
 unfold numbersR at h ⊢
 dsimp only at h ⊢
 cases bad with
 | true =>
  rw [num_bad_true] at h
  dsimp only at h
  rw [if_neg (by omega), take_bad_true] at h
  cases h
 | false =>
  have hn := num_inv hb (at_ := at_) (many := many) (m := m) hm hm2 h0 h1
  generalize numR b at_ false many = t at h hn ⊢
  by_cases hg : t.1 > most
  ·rw [if_pos hg] at h; cases h
  ·rw [if_neg hg] at h ⊢
   cases hq : t.2.2 with
   | true =>
    rw [hq, take_bad_true] at h
    cases h
   | false =>
    obtain ⟨e1, e2, e3, e4, e5⟩ := hn hq
    rw [hq, e1] at h
    rw [e1]
    have hmm := take_mem' (b := b) (at_ := at_ + (m : Int)) (bad := false) (n := t.1)
    have hi := take_inv (b := b) (at_ := at_ + (m : Int)) (n := t.1) (by omega) e2
    generalize takeR b (at_ + (m : Int)) false t.1 = u at h hi hmm ⊢
    cases hu : u.2.2 with
    | true => rw [if_pos hu] at h; cases h
    | false =>
     obtain ⟨f1, f2, f3, f4, f5⟩ := hi hu
     rw [if_neg (by simp)]
     refine ⟨rfl, rfl, by dsimp only; omega, fun x hx => hb x (hmm x hx), by dsimp only; omega, by dsimp only; omega, ?_⟩
     dsimp only
     rw [e5, f5, f1, ← f4, ← List.append_assoc]
theorem low_id : ∀ l : List Int, (∀ x ∈ l, 0 ≤ x ∧ x < 256) → low l = l := by
 intro l h
 unfold low
 refine (List.map_congr_left (fun x hx => ?_)).trans (List.map_id _)
 have := h x hx
 show x % 256 = x
 omega
theorem byteL_of : ∀ l : List Int, (∀ x ∈ l, 0 ≤ x ∧ x < 256) → byteL l = true
 | [], _ => rfl
 | x :: t, h => by
  have := h x (by simp)
  rw [byteL_cons (by omega) (by omega)]
  exact byteL_of t (fun y hy => h y (by simp [hy]))
theorem allR_conv : ∀ l : List InS, BPure.allR (l.map conv) = Pure.allR l
 | [] => rfl
 | x :: t => by
  show (right3 _ _ _ && BPure.allR (t.map conv)) = (right3 _ _ _ && Pure.allR t)
  rw [allR_conv t]; rfl
theorem encF_conv : ∀ l : List InS, BPure.encF (l.map conv) = Pure.encF l
 | [] => rfl
 | x :: t => by
  show BPure.enc1 (conv x) ++ BPure.encF (t.map conv) = Pure.enc1 x ++ Pure.encF t
  rw [encF_conv t]; rfl
theorem uget_inv (b : List Int) (hb : ∀ x ∈ b, 0 ≤ x ∧ x < 256) (hl : b.length ≤ 1000000) (U : UD) (h : ugetR b = (U, 0)) : fitsF U.1 U.2.1 U.2.2.1 U.2.2.2.1 U.2.2.2.2 = true ∧ putB U.1 U.2.1 U.2.2.1 U.2.2.2.1 U.2.2.2.2 = b := by
 unfold ugetR at h
 dsimp only at h
 have ht := text_inv hb (at_ := 0) (by omega) (by omega)
 generalize textR b 0 false = t at h ht
 by_cases h1 : t.2.2 = true
 ·rw [if_pos h1] at h; exact absurd (congrArg Prod.snd h) (by simp)
 rw [if_neg h1] at h
 obtain ⟨t1, t2, t3, t4⟩ := ht (by simpa using h1)
 have hp := numbers_inv hb (at_ := t.2.1) (bad := t.2.2) (many := 1) (most := 8) (m := 1) (by decide) (by decide) (by omega) (by omega) (by omega)
 generalize numbersR b t.2.1 t.2.2 1 8 = p at h hp
 by_cases h2 : ¬ p.2.1 = 0
 ·rw [if_pos h2] at h; exact absurd (congrArg Prod.snd h) h2
 rw [if_neg h2] at h
 obtain ⟨_, p2, p3, p4, p5, p6, p7⟩ := hp (by simpa using h2)
 have hr := num_inv hb (at_ := p.2.2.1) (many := 1) (m := 1) (by decide) (by decide) (by omega) (by omega)
 rw [p2] at h
 generalize numR b p.2.2.1 false 1 = r at h hr
 by_cases h3 : r.2.2 = true
 ·rw [if_pos h3] at h; exact absurd (congrArg Prod.snd h) (by simp)
 rw [if_neg h3] at h
 obtain ⟨r1, r2, r3, r4, r5⟩ := hr (by simpa using h3)
 have hll := numbers_inv hb (at_ := r.2.1) (bad := r.2.2) (many := 2) (most := 1024) (m := 2) (by decide) (by decide) (by omega) (by omega) (by omega)
 generalize numbersR b r.2.1 r.2.2 2 1024 = l at h hll
 by_cases h4 : ¬ l.2.1 = 0
 ·rw [if_pos h4] at h; exact absurd (congrArg Prod.snd h) h4
 rw [if_neg h4] at h
 obtain ⟨_, l2, l3, l4, l5, l6, l7⟩ := hll (by simpa using h4)
 have hn := num_inv hb (at_ := l.2.2.1) (many := 2) (m := 2) (by decide) (by decide) (by omega) (by omega)
 rw [l2] at h
 generalize numR b l.2.2.1 false 2 = n at h hn
 by_cases h5 : n.1 > 16384
 ·rw [if_pos h5] at h; exact absurd (congrArg Prod.snd h) (by simp)
 rw [if_neg h5] at h
 cases hnb : n.2.2 with
 | true =>
  rw [hnb, take_bad_true] at h
  dsimp only at h
  rw [if_pos rfl] at h
  exact absurd (congrArg Prod.snd h) (by simp)
 | false =>
 obtain ⟨n1, n2, n3, n4, n5⟩ := hn hnb
 have hw : wrap64 (5 * n.1) = 5 * n.1 := by unfold wrap64; omega
 rw [hnb, hw] at h
 have hx := take_inv (b := b) (at_ := n.2.1) (n := 5 * n.1) (by omega) (by omega)
 have hxm := take_mem' (b := b) (at_ := n.2.1) (bad := false) (n := 5 * n.1)
 generalize takeR b n.2.1 false (5 * n.1) = x at h hx hxm
 by_cases h6 : x.2.2 = true
 ·rw [if_pos h6] at h; exact absurd (congrArg Prod.snd h) (by simp)
 rw [if_neg h6] at h
 obtain ⟨x1, x2, x3, x4, x5⟩ := hx (by simpa using h6)
 have hd := Pure.dec_back x.1.length x.1 [] (z5 _) (fun y hy => hb y (hxm y hy))
 generalize decF x.1.length x.1 [] = c at h hd
 by_cases h7 : ¬ c.2.2 = 0
 ·rw [if_pos h7] at h; exact absurd (congrArg Prod.snd h) h7
 rw [if_neg h7, if_neg h6] at h
 obtain ⟨m, c1, c2, c3⟩ := hd.2 (by simpa using h7)
 rw [List.nil_append] at c1
 by_cases h8 : (b.length : Int) - x.2.1 > 0
 ·rw [if_pos h8] at h; exact absurd (congrArg Prod.snd h) (by simp)
 rw [if_neg h8] at h
 obtain rfl := (congrArg Prod.fst h).symm
 clear h
 have hml := Pure.enc_len m
 rw [c3] at hml
 have hend : b.drop x.2.1.toNat = [] := List.drop_eq_nil_of_le (by omega)
 have hR : (2 : Int) ^ (8 * 1) = 256 := rfl
 rw [hR] at r4
 dsimp only
 rw [c1]
 constructor
 ·unfold fitsF
  rw [decide_eq_true (show t.1.size ≤ 255 from t1), decide_eq_true (show p.1.length ≤ 8 by omega), decide_eq_true (show l.1.length ≤ 1024 by omega), decide_eq_true (show (m.map conv).length ≤ 16384 by rw [List.length_map]; omega), allR_conv, c2, byteL_of _ p4, byteL_of _ l4, decide_eq_true (show 0 ≤ r.1 from r3), decide_eq_true (show r.1 ≤ 255 by omega)]
  rfl
 ·unfold putB
  rw [text_all _ t1, Nat.min_eq_left t1, low_id _ p4, low_id _ l4, encF_conv, c3, List.length_map, show ((m.length : Nat) : Int) = n.1 by omega]
  have t4' := t4
  rw [show (0 : Int).toNat = 0 from rfl, List.drop_zero, p7, r5, ← r1, l7, n5, ← n1, x5, ← x1, hend, List.append_nil] at t4'
  rw [t4']
  simp only [List.append_assoc]

theorem byteL_all : ∀ l : List Int, byteL l = true → ∀ x ∈ l, 0 ≤ x ∧ x < 256
 | [], _, x, h => by cases h
 | a :: t, h, x, hx => by
  have h' : ((decide (0 ≤ a) && decide (a ≤ 255)) && byteL t) = true := h
  simp only [Bool.and_eq_true, decide_eq_true_eq] at h'
  rcases List.mem_cons.1 hx with rfl | hx
  ·omega
  ·exact byteL_all t h'.2 x hx
theorem num_le (a c : List Int) (i many v : Int) (m : Nat) (hi : i = a.length) (hm : mx 0 (mn many 8) = m) (h0 : 0 ≤ v) (h1 : v < 2 ^ (8 * m)) (h2 : v < 9223372036854775808) : numR (a ++ le m v ++ c) i false many = (v, i + m, false) := by
 rw [num_at a (le m v) c i many hi (by rw [le_length]; exact hm), leN_le, Int.emod_eq_of_lt h0 h1, wN _ (by omega) h2, le_length]
theorem text_at (a c : List Int) (i : Int) (s : ByteArray) (hi : i = a.length) (hs : s.size ≤ 255) : textR (a ++ (le 1 ((s.size : Nat) : Int) ++ bytesOf s) ++ c) i false = (s, i + 1 + s.size, false) := by
 have hp : (2 : Int) ^ (8 * 1) = 256 := rfl
 unfold textR
 dsimp only
 rw [show a ++ (le 1 ((s.size : Nat) : Int) ++ bytesOf s) ++ c = a ++ le 1 ((s.size : Nat) : Int) ++ (bytesOf s ++ c) by simp only [List.append_assoc]]
 rw [num_le a (bytesOf s ++ c) i 1 _ 1 hi (by decide) (by omega) (by rw [hp]; omega) (by omega)]
 dsimp only
 rw [← List.append_assoc, take_at (a ++ le 1 ((s.size : Nat) : Int)) (bytesOf s) c (i + (1 : Nat)) (s.size : Int) (by rw [List.length_append, le_length]; omega) (by rw [bytes_len])]
 dsimp only
 rw [str_bytes]
 rfl
theorem numbers_at (a c P : List Int) (i many most : Int) (m : Nat) (hi : i = a.length) (hm : mx 0 (mn many 8) = m) (h1 : (P.length : Int) < 2 ^ (8 * m)) (h2 : (P.length : Int) ≤ most) (h3 : (P.length : Int) < 9223372036854775808) : numbersR (a ++ (le m (P.length : Int) ++ P) ++ c) i false many most = (P, 0, i + m + P.length, false) := by
 unfold numbersR
 dsimp only
 rw [show a ++ (le m (P.length : Int) ++ P) ++ c = a ++ le m (P.length : Int) ++ (P ++ c) by simp only [List.append_assoc]]
 rw [num_le a (P ++ c) i many _ m hi hm (by omega) h1 h3]
 dsimp only
 rw [if_neg (by omega), ← List.append_assoc, take_at (a ++ le m (P.length : Int)) P c (i + m) (P.length : Int) (by rw [List.length_append, le_length]; omega) rfl]
 dsimp only
 rw [if_neg (by simp)]
theorem conv_onto (C : List PBx.S109) : ∃ m : List InS, C = m.map conv := ⟨C.map (fun x => ⟨x.f0, x.f1, x.f2⟩), by
 rw [List.map_map]
 exact ((List.map_congr_left (fun x _ => rfl)).trans (List.map_id _)).symm⟩
theorem uget_put (n : ByteArray) (P : List Int) (R : Int) (L : List Int) (C : List PBx.S109) (h : fitsF n P R L C = true) : ugetR (putB n P R L C) = ((n, P, R, L, C), 0) := by
 obtain ⟨h1, h2, h3, h4, h5, h6, h7, h8, h9⟩ := fits_allR h
 obtain ⟨m, rfl⟩ := conv_onto C
 rw [allR_conv] at h5
 rw [List.length_map] at h4
 have hel := Pure.enc_len m
 have p1 : (2 : Int) ^ (8 * 1) = 256 := rfl
 have p2 : (2 : Int) ^ (8 * 2) = 65536 := rfl
 unfold putB
 rw [Nat.min_eq_left h1, text_all n h1, low_id P (byteL_all P h6), low_id L (byteL_all L h7), encF_conv, List.length_map]
 generalize hE : Pure.encF m = E at hel
 generalize hT : le 1 ((n.size : Nat) : Int) ++ bytesOf n = T
 have hTl : (T.length : Int) = 1 + n.size := by rw [← hT, List.length_append, le_length, bytes_len]; omega
 generalize hPP : le 1 (P.length : Int) ++ P = PP
 have hPl : (PP.length : Int) = 1 + P.length := by rw [← hPP, List.length_append, le_length]; omega
 generalize hLL : le 2 (L.length : Int) ++ L = LL
 have hLl : (LL.length : Int) = 2 + L.length := by rw [← hLL, List.length_append, le_length]; omega
 have hb : T ++ le 1 (P.length : Int) ++ P ++ le 1 R ++ le 2 (L.length : Int) ++ L ++ le 2 (m.length : Int) ++ E = T ++ PP ++ le 1 R ++ LL ++ le 2 (m.length : Int) ++ E := by rw [← hPP, ← hLL]; simp only [List.append_assoc]
 rw [hb]
 generalize hB : T ++ PP ++ le 1 R ++ LL ++ le 2 (m.length : Int) ++ E = B
 have hBl : (B.length : Int) = T.length + PP.length + 1 + LL.length + 2 + E.length := by rw [← hB]; simp only [List.length_append, le_length]; omega
 have a1 : textR B 0 false = (n, (T.length : Int), false) := by
  rw [← hB, ← hT, show le 1 ((n.size : Nat) : Int) ++ bytesOf n ++ PP ++ le 1 R ++ LL ++ le 2 (m.length : Int) ++ E = [] ++ (le 1 ((n.size : Nat) : Int) ++ bytesOf n) ++ (PP ++ le 1 R ++ LL ++ le 2 (m.length : Int) ++ E) by simp only [List.append_assoc, List.nil_append], text_at [] _ 0 n rfl h1, hT, hTl]
  rw [show (0 : Int) + 1 + (n.size : Int) = 1 + n.size by omega]
 have a2 : numbersR B (T.length : Int) false 1 8 = (P, 0, (T.length + PP.length : Int), false) := by
  rw [← hB, show T ++ PP ++ le 1 R ++ LL ++ le 2 (m.length : Int) ++ E = T ++ (le 1 (P.length : Int) ++ P) ++ (le 1 R ++ LL ++ le 2 (m.length : Int) ++ E) by rw [hPP]; simp only [List.append_assoc], numbers_at T _ P _ 1 8 1 rfl (by decide) (by rw [p1]; omega) (by omega) (by omega), hPl]
  rw [show (T.length : Int) + (1 : Nat) + P.length = T.length + (1 + P.length) by omega]
 have a3 : numR B (T.length + PP.length : Int) false 1 = (R, (T.length + PP.length + 1 : Int), false) := by
  rw [← hB, show T ++ PP ++ le 1 R ++ LL ++ le 2 (m.length : Int) ++ E = (T ++ PP) ++ le 1 R ++ (LL ++ le 2 (m.length : Int) ++ E) by simp only [List.append_assoc], num_le (T ++ PP) _ _ 1 R 1 (by rw [List.length_append]; omega) (by decide) h8 (by rw [p1]; omega) (by omega)]
  rfl
 have a4 : numbersR B (T.length + PP.length + 1 : Int) false 2 1024 = (L, 0, (T.length + PP.length + 1 + LL.length : Int), false) := by
  rw [← hB, show T ++ PP ++ le 1 R ++ LL ++ le 2 (m.length : Int) ++ E = (T ++ PP ++ le 1 R) ++ (le 2 (L.length : Int) ++ L) ++ (le 2 (m.length : Int) ++ E) by rw [hLL]; simp only [List.append_assoc], numbers_at (T ++ PP ++ le 1 R) _ L _ 2 1024 2 (by simp only [List.length_append, le_length]; omega) (by decide) (by rw [p2]; omega) (by omega) (by omega), hLl]
  rw [show (T.length + PP.length + 1 : Int) + (2 : Nat) + L.length = T.length + PP.length + 1 + (2 + L.length) by omega]
 have a5 : numR B (T.length + PP.length + 1 + LL.length : Int) false 2 = ((m.length : Int), (T.length + PP.length + 1 + LL.length + 2 : Int), false) := by
  rw [← hB, num_le (T ++ PP ++ le 1 R ++ LL) _ _ 2 (m.length : Int) 2 (by simp only [List.length_append, le_length]; omega) (by decide) (by omega) (by rw [p2]; omega) (by omega)]
  rfl
 have a6 : takeR B (T.length + PP.length + 1 + LL.length + 2 : Int) false (5 * (m.length : Int)) = (E, (B.length : Int), false) := by
  rw [show (B.length : Int) = (T.length + PP.length + 1 + LL.length + 2 : Int) + 5 * (m.length : Int) by omega, ← hB, show T ++ PP ++ le 1 R ++ LL ++ le 2 (m.length : Int) ++ E = (T ++ PP ++ le 1 R ++ LL ++ le 2 (m.length : Int)) ++ E ++ [] by simp only [List.append_nil], take_at (T ++ PP ++ le 1 R ++ LL ++ le 2 (m.length : Int)) E [] _ (5 * (m.length : Int)) (by simp only [List.length_append, le_length]; omega) (by omega)]
 have hw : wrap64 (5 * (m.length : Int)) = 5 * (m.length : Int) := wN _ (by omega) (by omega)
 have a7 : decF E.length E [] = (m, 0, 0) := by
  rw [← hE]
  have := Pure.dec_enc m (Pure.encF m).length [] h5 (by rw [Pure.enc_len]; omega)
  rw [List.nil_append] at this
  exact this
 unfold ugetR
 rw [a1]; dsimp only
 rw [if_neg (by simp), a2]; dsimp only
 rw [if_neg (by simp), a3]; dsimp only
 rw [if_neg (by simp), a4]; dsimp only
 rw [if_neg (by simp), a5]; dsimp only
 rw [if_neg (by omega), hw, a6]; dsimp only
 rw [if_neg (by simp), a7]; dsimp only
 rw [if_neg (by simp), if_neg (by simp)]
end Go.Proofs.YtdbfgfgbjheibaaDoor.BPure
end

section
/- Tables, plainly: what is read of rows that were put, and what was put of rows that are read; over the texts of the container. -/
namespace Go.Proofs.YtdbfgfgbjheibaaDoor.BPure.Tab
open Go Go.RowKit Go.Proofs.YtdbfgfgbjheibaaDoor Go.Proofs.YtdbfgfgbjheibaaDoor.PBx Go.Proofs.YtdbfgfgbjheibaaDoor.Given Go.Proofs.YtdbfgfgbjheibaaDoorW.PrintWords Go.Proofs.YtdbfgfgbjheibaaDoorW.PrintLast Go.Proofs.YtdbfgfgbjheibaaDoorW.PrintMore
set_option linter.unusedVariables false
set_option linter.unusedSimpArgs false
theorem wN (x : Int) (h0 : -9223372036854775808 ≤ x) (h1 : x < 9223372036854775808) : wrap64 x = x := by unfold wrap64; omega
theorem num_le (a c : List Int) (i many v : Int) (m : Nat) (hi : i = a.length) (hm : mx 0 (mn many 8) = m) (h0 : 0 ≤ v) (h1 : v < 2 ^ (8 * m)) (h2 : v < 9223372036854775808) : numR (a ++ le m v ++ c) i false many = (v, i + m, false) := by
 rw [num_at a (le m v) c i many hi (by rw [le_length]; exact hm), leN_le, Int.emod_eq_of_lt h0 h1, wN _ (by omega) h2, le_length]
theorem num_le8 (a c : List Int) (i v : Int) (hi : i = a.length) (h0 : -9223372036854775808 ≤ v) (h1 : v ≤ 9223372036854775807) : numR (a ++ le 8 v ++ c) i false 8 = (v, i + 8, false) := by
 have p64 : (2 : Int) ^ (8 * 8) = 18446744073709551616 := rfl
 rw [num_at a (le 8 v) c i 8 hi (by rw [le_length]; decide), leN_le, p64, le_length, show wrap64 (v % 18446744073709551616) = v by unfold wrap64; omega]
 rfl
theorem text_at (a c : List Int) (i : Int) (s : ByteArray) (hi : i = a.length) (hs : s.size ≤ 255) : textR (a ++ (le 1 ((s.size : Nat) : Int) ++ bytesOf s) ++ c) i false = (s, i + 1 + s.size, false) := by
 have hp : (2 : Int) ^ (8 * 1) = 256 := rfl
 unfold textR
 dsimp only
 rw [show a ++ (le 1 ((s.size : Nat) : Int) ++ bytesOf s) ++ c = a ++ le 1 ((s.size : Nat) : Int) ++ (bytesOf s ++ c) by simp only [List.append_assoc]]
 rw [num_le a (bytesOf s ++ c) i 1 _ 1 hi (by decide) (by omega) (by rw [hp]; omega) (by omega)]
 dsimp only
 rw [← List.append_assoc, take_at (a ++ le 1 ((s.size : Nat) : Int)) (bytesOf s) c (i + (1 : Nat)) (s.size : Int) (by rw [List.length_append, le_length]; omega) (by rw [bytes_len])]
 dsimp only
 rw [str_bytes]
 rfl
/-! ### Bytes of a number, whatever its size -/
theorem le_mod : ∀ (m : Nat) (v : Int) (n : Nat), m ≤ n → le m (v % 2 ^ (8 * n)) = le m v
 | 0, v, n, _ => rfl
 | m + 1, v, n, h => by
  show le m (v % 2 ^ (8 * n)) ++ [sh m (v % 2 ^ (8 * n)) % 256] = le m v ++ [sh m v % 256]
  rw [le_mod m v n (by omega), sh_div, sh_div]
  congr 2
  obtain ⟨d, rfl⟩ : ∃ d, n = m + 1 + d := ⟨n - m - 1, by omega⟩
  rw [show 8 * (m + 1 + d) = 8 * m + (8 + 8 * d) by omega, Int.pow_add, Int.pow_add]
  have hp : (0 : Int) < 2 ^ (8 * m) := Int.pow_pos (by decide)
  have hq : (0 : Int) < 2 ^ (8 * d) := Int.pow_pos (by decide)
  generalize (2 : Int) ^ (8 * m) = p at *
  generalize (2 : Int) ^ (8 * d) = q at *
  rw [show (2 : Int) ^ 8 = 256 from rfl]
  have e : v % (p * (256 * q)) = p * ((v / p) % (256 * q)) + v % p := by
   have h1 := Int.mul_ediv_add_emod v p
   have h2 := Int.mul_ediv_add_emod (v / p) (256 * q)
   have h3 := Int.emod_nonneg (v / p) (show (256 * q : Int) ≠ 0 by omega)
   have h4 := Int.emod_lt_of_pos (v / p) (show (0 : Int) < 256 * q by omega)
   have h5 := Int.emod_nonneg v (show p ≠ 0 by omega)
   have h6 := Int.emod_lt_of_pos v hp
   generalize v / p % (256 * q) = r at *
   generalize v / p / (256 * q) = t at *
   generalize v / p = y at *
   generalize v % p = x at *
   have e3 : v = (p * r + x) + p * (256 * q) * t := by
    rw [← h1, ← h2, Int.mul_add, ← Int.mul_assoc]
    omega
   have h7 : p * r ≤ p * (256 * q - 1) := Int.mul_le_mul_of_nonneg_left (by omega) (by omega)
   have h8 : 0 ≤ p * r := Int.mul_nonneg (by omega) h3
   rw [Int.mul_sub] at h7
   rw [e3, Int.add_mul_emod_self_left]
   exact Int.emod_eq_of_lt (by omega) (by omega)
  have h5 := Int.emod_nonneg v (show p ≠ 0 by omega)
  have h6 := Int.emod_lt_of_pos v hp
  rw [e, Int.add_comm, Int.add_mul_ediv_left _ _ (by omega), Int.ediv_eq_zero_of_lt h5 h6, Int.zero_add, Int.emod_emod_of_dvd _ (Int.dvd_mul_right _ _)]
theorem le_leN' : ∀ (n : Nat) (l : List Int), l.length = n → (∀ x ∈ l, 0 ≤ x ∧ x < 256) → le n (leN l) = l := by
 intro n
 induction n with
 | zero => intro l h _; rw [List.eq_nil_of_length_eq_zero h]; rfl
 | succ n ih =>
  intro l h hb
  obtain ⟨xs, x, rfl⟩ : ∃ xs x, l = xs ++ [x] := ⟨l.dropLast, l.getLast (by intro e; rw [e] at h; simp at h), (List.dropLast_concat_getLast _).symm⟩
  have hl : xs.length = n := by simpa using h
  have hx := hb x (by simp)
  have hxs : ∀ y ∈ xs, 0 ≤ y ∧ y < 256 := fun y hy => hb y (by simp [hy])
  have hlim := leN_lim xs hxs
  rw [hl] at hlim
  rw [leN_app, hl]
  show le n _ ++ [sh n _ % 256] = _
  rw [← le_mod n _ n (z5 _), sh_div, Int.add_mul_emod_self_right, Int.emod_eq_of_lt hlim.1 hlim.2, ih xs hl hxs, Int.add_mul_ediv_right _ _ (Int.ne_of_gt (show (0 : Int) < 2 ^ (8 * n) from Int.pow_pos (by decide))), Int.ediv_eq_zero_of_lt hlim.1 hlim.2, Int.zero_add, Int.emod_eq_of_lt hx.1 hx.2]
theorem num_inv8 {b : List Int} (hb : ∀ x ∈ b, 0 ≤ x ∧ x < 256) {at_ : Int} {many : Int} {m : Nat} (hm : mx 0 (mn many 8) = m) (hm8 : m ≤ 8) (h0 : 0 ≤ at_) (h1 : at_ ≤ b.length) (h : (numR b at_ false many).2.2 = false) :
  (numR b at_ false many).2.1 = at_ + m ∧ at_ + m ≤ b.length ∧ b.drop at_.toNat = le m (numR b at_ false many).1 ++ b.drop (at_ + m).toNat := by
 unfold numR at h ⊢
 rw [hm] at h ⊢
 by_cases hk : okR b at_ false m
 ·rw [if_pos hk]
  obtain ⟨_, _, hk⟩ := hk
  have hl : (cutR b at_ m).length = m := by unfold cutR; simp; omega
  have hc : ∀ x ∈ cutR b at_ m, 0 ≤ x ∧ x < 256 := fun x hx => hb x (List.mem_of_mem_drop (List.mem_of_mem_take hx))
  refine ⟨rfl, by omega, ?_⟩
  dsimp only
  have p64 : (2 : Int) ^ (8 * 8) = 18446744073709551616 := rfl
  have e1 : le m (wrap64 (leN (cutR b at_ m))) = le m (leN (cutR b at_ m)) := by
   rw [← le_mod m (wrap64 _) 8 hm8, ← le_mod m (leN (cutR b at_ m)) 8 hm8, p64]
   congr 1
   unfold wrap64
   omega
  rw [e1, le_leN' m _ hl hc]
  unfold cutR
  rw [show (at_ + (m : Int)).toNat = at_.toNat + (m : Int).toNat by omega, ← List.drop_drop, List.take_append_drop]
 ·rw [if_neg hk] at h
  cases h
/-! ### Rows -/
structure RowSpec {α : Type} (row : List Int → Int → Bool → α × Int × Bool) (fit : α → Bool) (wf : α → Prop) (enc : α → List Int) : Prop where
 at_ : ∀ x a c, fit x = true → wf x → row (a ++ enc x ++ c) a.length false = (x, ((a.length + (enc x).length : Nat) : Int), false)
 inv : ∀ b at_, (∀ x ∈ b, 0 ≤ x ∧ x < 256) → 0 ≤ at_ → at_ ≤ b.length → (row b at_ false).2.2 = false →
  fit (row b at_ false).1 = true ∧ (row b at_ false).2.1 = at_ + (enc (row b at_ false).1).length ∧ (row b at_ false).2.1 ≤ b.length ∧ b.drop at_.toNat = enc (row b at_ false).1 ++ b.drop (row b at_ false).2.1.toNat
 bad : ∀ b at_, (row b at_ true).2.2 = true
 byte : ∀ x, ∀ y ∈ enc x, 0 ≤ y ∧ y < 256
section
variable {α : Type} {row : List Int → Int → Bool → α × Int × Bool} {fit : α → Bool} {wf : α → Prop} {enc : α → List Int}
theorem rows_at (S : RowSpec row fit wf enc) : ∀ (l : List α) (a c : List Int) (out : List α), (∀ x ∈ l, fit x = true ∧ wf x) → rowsR (row (a ++ encL enc l ++ c)) l.length a.length false out = (out ++ l, ((a.length + (encL enc l).length : Nat) : Int), false)
 | [], a, c, out, _ => by simp [rowsR, encL]
 | x :: l, a, c, out, h => by
  have e : a ++ encL enc (x :: l) ++ c = a ++ enc x ++ (encL enc l ++ c) := by rw [encL_cons]; simp only [List.append_assoc]
  have h1 := S.at_ x a (encL enc l ++ c) (h x (by simp)).1 (h x (by simp)).2
  rw [← e] at h1
  show rowsR _ l.length _ _ _ = _
  rw [h1]
  have h2 := rows_at S l (a ++ enc x) c (out ++ [x]) (fun y hy => h y (by simp [hy]))
  rw [show a ++ enc x ++ encL enc l ++ c = a ++ encL enc (x :: l) ++ c by rw [encL_cons]; simp only [List.append_assoc], List.length_append] at h2
  rw [h2, encL_cons, List.length_append]
  simp [Nat.add_assoc]
theorem rows_bad (S : RowSpec row fit wf enc) (b : List Int) : ∀ (n : Nat) (at_ : Int) (out : List α), (rowsR (row b) n at_ true out).2.2 = true
 | 0, _, _ => rfl
 | n + 1, at_, out => by
  show (rowsR _ n _ _ _).2.2 = true
  rw [S.bad]
  exact rows_bad S b n _ _
theorem rows_inv (S : RowSpec row fit wf enc) (b : List Int) (hb : ∀ x ∈ b, 0 ≤ x ∧ x < 256) : ∀ (n : Nat) (at_ : Int) (out : List α), 0 ≤ at_ → at_ ≤ b.length → (rowsR (row b) n at_ false out).2.2 = false →
  ∃ l : List α, l.length = n ∧ (rowsR (row b) n at_ false out).1 = out ++ l ∧ (∀ x ∈ l, fit x = true) ∧ (rowsR (row b) n at_ false out).2.1 = at_ + (encL enc l).length ∧ (rowsR (row b) n at_ false out).2.1 ≤ b.length ∧ b.drop at_.toNat = encL enc l ++ b.drop (rowsR (row b) n at_ false out).2.1.toNat
 | 0, at_, out, h0, h1, h => ⟨[], rfl, by simp [rowsR], fun _ h => by simp at h, by simp [rowsR, encL], h1, by simp [rowsR, encL]⟩
 | n + 1, at_, out, h0, h1, h => by
  have e : rowsR (row b) (n + 1) at_ false out = rowsR (row b) n (row b at_ false).2.1 (row b at_ false).2.2 (out ++ [(row b at_ false).1]) := rfl
  rw [e] at h ⊢
  cases hq : (row b at_ false).2.2 with
  | true => rw [hq, rows_bad S] at h; cases h
  | false =>
   obtain ⟨i1, i2, i3, i4⟩ := S.inv b at_ hb h0 h1 hq
   rw [hq] at h
   obtain ⟨l, l1, l2, l3, l4, l5, l6⟩ := rows_inv S b hb n _ _ (by rw [i2]; omega) i3 h
   refine ⟨(row b at_ false).1 :: l, by simp [l1], by rw [l2]; simp, fun x hx => ?_, ?_, l5, ?_⟩
   ·rcases List.mem_cons.1 hx with rfl | hx
    ·exact i1
    ·exact l3 x hx
   ·rw [l4, i2, encL_cons, List.length_append]; omega
   ·rw [i4, l6, encL_cons, List.append_assoc]
theorem get_put (S : RowSpec row fit wf enc) (most : Nat) (hmost : most < 65536) (l : List α) (hwf : ∀ x ∈ l, wf x) (h : (putM most fit enc l).2 = true) : getR row most (putM most fit enc l).1 = (l, 0) := by
 unfold putM at h ⊢
 by_cases h1 : l.length > most
 ·rw [if_pos h1] at h; cases h
 ·rw [if_neg h1] at h ⊢
  by_cases h2 : l.all fit = true
  ·rw [if_pos h2]
   simp only [List.all_eq_true] at h2
   have p16 : (2 : Int) ^ (8 * 2) = 65536 := rfl
   have hn := num_le [] (encL enc l) 0 2 (l.length : Int) 2 rfl (by decide) (by omega) (by rw [p16]; omega) (by omega)
   rw [List.nil_append] at hn
   have hr := rows_at S l (le 2 (l.length : Int)) [] [] (fun x hx => ⟨h2 x hx, hwf x hx⟩)
   rw [List.append_nil, List.nil_append, le_length] at hr
   have hd : headR most (le 2 (l.length : Int) ++ encL enc l) = ((l.length : Int), 0) := by
    unfold headR
    rw [hn]
    simp only [Bool.false_eq_true, if_false]
    rw [if_neg (by omega)]
   unfold getR
   dsimp only
   rw [hd, hn]
   simp only [if_true, Int.toNat_natCast]
   rw [show (0 : Int) + ((2 : Nat) : Int) = ((2 : Nat) : Int) by omega, hr]
   have he : endR (le 2 (l.length : Int) ++ encL enc l) ((2 + (encL enc l).length : Nat) : Int) false = 0 := by
    unfold endR
    rw [if_neg (by decide), if_neg (by rw [List.length_append, le_length]; omega)]
   rw [he, if_pos rfl]
  ·rw [if_neg h2] at h; cases h
theorem get_inv (S : RowSpec row fit wf enc) (most : Nat) (hmost : most < 65536) (b : List Int) (hb : okB b = true) (h : (getR row most b).2 = 0) : putM most fit enc (getR row most b).1 = (b, true) := by
 have hbb := (okB_all hb).1
 have hrg := num2_range b hb
 unfold getR at h ⊢
 by_cases hh : (headR most b).2 = 0
 ·rw [if_pos hh] at h ⊢
  have hq : (numR b 0 false 2).2.2 = false ∧ (headR most b).1 = (numR b 0 false 2).1 ∧ (numR b 0 false 2).1 ≤ most := by
   unfold headR at hh ⊢
   by_cases c1 : (numR b 0 false 2).2.2 = true
   ·rw [if_pos c1] at hh; cases hh
   ·rw [if_neg c1] at hh ⊢
    by_cases c2 : (numR b 0 false 2).1 > most
    ·rw [if_pos c2] at hh; cases hh
    ·rw [if_neg c2]
     exact ⟨by simpa using c1, rfl, by omega⟩
  obtain ⟨q1, q2, q3⟩ := hq
  obtain ⟨n1, n2, n3⟩ := num_inv8 hbb (at_ := 0) (many := 2) (m := 2) (by decide) (by decide) (Int.le_refl _) (Int.natCast_nonneg _) q1
  rw [q1, q2] at h ⊢
  generalize hU : rowsR (row b) (numR b 0 false 2).1.toNat (numR b 0 false 2).2.1 false [] = u at h ⊢
  by_cases hz : endR b u.2.1 u.2.2 = 0
  ·rw [if_pos hz]
   have hu2 : u.2.2 = false ∧ (b.length : Int) - u.2.1 ≤ 0 := by
    unfold endR at hz
    by_cases c1 : u.2.2 = true
    ·rw [if_pos c1] at hz; cases hz
    ·rw [if_neg c1] at hz
     by_cases c2 : (b.length : Int) - u.2.1 > 0
     ·rw [if_pos c2] at hz; cases hz
     ·exact ⟨by simpa using c1, by omega⟩
   have hu3 : (rowsR (row b) (numR b 0 false 2).1.toNat (numR b 0 false 2).2.1 false []).2.2 = false := by rw [hU]; exact hu2.1
   obtain ⟨l, l1, l2, l3, l4, l5, l6⟩ := rows_inv S b hbb _ _ [] (by rw [n1]; omega) (by rw [n1]; exact n2) hu3
   rw [hU] at l2 l4 l5 l6
   rw [List.nil_append] at l2
   dsimp only
   rw [l2]
   unfold putM
   have hlen : (l.length : Int) = (numR b 0 false 2).1 := by rw [l1]; omega
   rw [if_neg (by omega), if_pos (List.all_eq_true.2 l3), hlen]
   have e0 : b.drop (0 : Int).toNat = b := by simp
   rw [e0] at n3
   rw [n1] at l6
   have e9 : b.drop u.2.1.toNat = [] := List.drop_eq_nil_of_le (by omega)
   rw [e9, List.append_nil] at l6
   rw [← l6]
   exact Prod.ext n3.symm rfl
  ·rw [if_neg hz] at h
   exact absurd h hz
 ·rw [if_neg hh] at h
  exact absurd h hh
end
/-! ### The three kinds of rows -/
theorem encT_byte (s : ByteArray) : ∀ y ∈ encT s, 0 ≤ y ∧ y < 256 := by
 intro y hy
 unfold encT at hy
 rcases List.mem_append.1 hy with h | h
 ·exact le_byte _ _ y h
 ·exact bytes_byte _ y h
theorem p8 : (2 : Int) ^ (8 * 1) = 256 := rfl
theorem text_bad_true (b : List Int) (at_ : Int) : (textR b at_ true).2.2 = true := by
 unfold textR
 dsimp only
 rw [num_bad_true]
 dsimp only
 rw [take_bad_true]
theorem conSpec : RowSpec conR conFit conWf conEnc where
 at_ := by
  intro x a c hf hw
  unfold conFit at hf
  rw [small_iff] at hf
  unfold conR conEnc
  dsimp only
  rw [show a ++ (le 1 x.f0 ++ le 8 x.f1) ++ c = a ++ le 1 x.f0 ++ (le 8 x.f1 ++ c) by simp only [List.append_assoc], num_le a (le 8 x.f1 ++ c) a.length 1 x.f0 1 rfl (by decide) hf.1 (by rw [p8]; omega) (by omega)]
  dsimp only
  rw [show a ++ le 1 x.f0 ++ (le 8 x.f1 ++ c) = a ++ le 1 x.f0 ++ le 8 x.f1 ++ c by simp only [List.append_assoc], num_le8 (a ++ le 1 x.f0) c _ x.f1 (by rw [List.length_append, le_length]; omega) hw.1 hw.2]
  simp only [List.length_append, le_length]
  exact Prod.ext rfl (Prod.ext (by dsimp only; omega) rfl)
 inv := by
  intro b at_ hb h0 h1 h
  unfold conR at h ⊢
  dsimp only at h ⊢
  have n1 := num_inv hb (at_ := at_) (many := 1) (m := 1) (by decide) (by decide) h0 h1
  generalize numR b at_ false 1 = t at h n1 ⊢
  cases hq : t.2.2 with
  | true => rw [hq, num_bad_true] at h; cases h
  | false =>
   obtain ⟨e1, e2, e3, e4, e5⟩ := n1 hq
   rw [hq, e1] at h
   have n2 := num_inv8 hb (at_ := at_ + (1 : Nat)) (many := 8) (m := 8) (by decide) (by decide) (by omega) e2 h
   rw [e1]
   generalize numR b (at_ + (1 : Nat)) false 8 = u at h n2 ⊢
   obtain ⟨f1, f2, f3⟩ := n2
   rw [p8] at e4
   unfold conFit conEnc
   dsimp only
   rw [small_iff, List.length_append, le_length, le_length, f1]
   exact ⟨by omega, by omega, by omega, by rw [e5, f3, List.append_assoc]⟩
 bad := by
  intro b at_
  unfold conR
  dsimp only
  rw [num_bad_true]
  dsimp only
  rw [num_bad_true]
 byte := by
  intro x y hy
  unfold conEnc at hy
  rcases List.mem_append.1 hy with h | h <;> exact le_byte _ _ y h
theorem blkSpec : RowSpec blkR blkFit (fun _ => True) blkEnc where
 at_ := by
  intro x a c hf _
  unfold blkFit at hf
  simp only [Bool.and_eq_true, decide_eq_true_eq, small_iff] at hf
  unfold blkR blkEnc encT
  dsimp only
  rw [show a ++ (le 1 ((x.f0.size : Nat) : Int) ++ bytesOf x.f0 ++ le 1 x.f1) ++ c = a ++ (le 1 ((x.f0.size : Nat) : Int) ++ bytesOf x.f0) ++ (le 1 x.f1 ++ c) by simp only [List.append_assoc], text_at a (le 1 x.f1 ++ c) a.length x.f0 rfl hf.1]
  dsimp only
  rw [show a ++ (le 1 ((x.f0.size : Nat) : Int) ++ bytesOf x.f0) ++ (le 1 x.f1 ++ c) = a ++ (le 1 ((x.f0.size : Nat) : Int) ++ bytesOf x.f0) ++ le 1 x.f1 ++ c by simp only [List.append_assoc], num_le (a ++ (le 1 ((x.f0.size : Nat) : Int) ++ bytesOf x.f0)) c _ 1 x.f1 1 (by simp only [List.length_append, le_length, bytes_len]; omega) (by decide) hf.2.1 (by rw [p8]; omega) (by omega)]
  simp only [List.length_append, le_length, bytes_len]
  exact Prod.ext rfl (Prod.ext (by dsimp only; omega) rfl)
 inv := by
  intro b at_ hb h0 h1 h
  unfold blkR at h ⊢
  dsimp only at h ⊢
  have n1 := text_inv hb (at_ := at_) h0 h1
  have nb := text_bad_true b at_
  generalize textR b at_ false = t at h n1 ⊢
  cases hq : t.2.2 with
  | true => rw [hq, num_bad_true] at h; cases h
  | false =>
   obtain ⟨e1, e2, e3, e4⟩ := n1 hq
   rw [hq] at h
   have n2 := num_inv hb (at_ := t.2.1) (many := 1) (m := 1) (by decide) (by decide) (by omega) (by omega) h
   generalize numR b t.2.1 false 1 = u at h n2 ⊢
   obtain ⟨f1, f2, f3, f4, f5⟩ := n2
   rw [p8] at f4
   unfold blkFit blkEnc encT
   dsimp only
   simp only [Bool.and_eq_true, decide_eq_true_eq, small_iff, List.length_append, le_length, bytes_len]
   exact ⟨by omega, by omega, by omega, by rw [e4, f5, f1]; simp only [List.append_assoc]⟩
 bad := by
  intro b at_
  unfold blkR
  dsimp only
  rw [text_bad_true, num_bad_true]
 byte := by
  intro x y hy
  unfold blkEnc at hy
  rcases List.mem_append.1 hy with h | h
  ·exact encT_byte _ y h
  ·exact le_byte _ _ y h
theorem varSpec : RowSpec varR varFit varWf varEnc where
 at_ := by
  intro x a c hf hw
  unfold varFit at hf
  simp only [Bool.and_eq_true, decide_eq_true_eq, small_iff] at hf
  obtain ⟨g0, g1, g2, g3⟩ := hf
  unfold varR varEnc
  dsimp only
  have hT : (encT x.f0).length = 1 + x.f0.size := encT_len x.f0
  have e0 : textR (a ++ (encT x.f0 ++ le 1 x.f1 ++ le 1 x.f2 ++ le 1 x.f3 ++ le 8 x.f4) ++ c) a.length false = (x.f0, (a.length : Int) + 1 + x.f0.size, false) := by
   rw [show a ++ (encT x.f0 ++ le 1 x.f1 ++ le 1 x.f2 ++ le 1 x.f3 ++ le 8 x.f4) ++ c = a ++ encT x.f0 ++ (le 1 x.f1 ++ le 1 x.f2 ++ le 1 x.f3 ++ le 8 x.f4 ++ c) by simp only [List.append_assoc]]
   exact text_at a _ a.length x.f0 rfl g0
  rw [e0]
  dsimp only
  have e1 : numR (a ++ (encT x.f0 ++ le 1 x.f1 ++ le 1 x.f2 ++ le 1 x.f3 ++ le 8 x.f4) ++ c) ((a.length : Int) + 1 + x.f0.size) false 1 = (x.f1, (a.length : Int) + 1 + x.f0.size + (1 : Nat), false) := by
   rw [show a ++ (encT x.f0 ++ le 1 x.f1 ++ le 1 x.f2 ++ le 1 x.f3 ++ le 8 x.f4) ++ c = a ++ encT x.f0 ++ le 1 x.f1 ++ (le 1 x.f2 ++ le 1 x.f3 ++ le 8 x.f4 ++ c) by simp only [List.append_assoc]]
   exact num_le _ _ _ 1 x.f1 1 (by rw [List.length_append, hT]; omega) (by decide) g1.1 (by rw [p8]; omega) (by omega)
  rw [e1]
  dsimp only
  have e2 : numR (a ++ (encT x.f0 ++ le 1 x.f1 ++ le 1 x.f2 ++ le 1 x.f3 ++ le 8 x.f4) ++ c) ((a.length : Int) + 1 + x.f0.size + (1 : Nat)) false 1 = (x.f2, (a.length : Int) + 1 + x.f0.size + (1 : Nat) + (1 : Nat), false) := by
   rw [show a ++ (encT x.f0 ++ le 1 x.f1 ++ le 1 x.f2 ++ le 1 x.f3 ++ le 8 x.f4) ++ c = a ++ encT x.f0 ++ le 1 x.f1 ++ le 1 x.f2 ++ (le 1 x.f3 ++ le 8 x.f4 ++ c) by simp only [List.append_assoc]]
   exact num_le _ _ _ 1 x.f2 1 (by rw [List.length_append, List.length_append, hT, le_length]; omega) (by decide) g2.1 (by rw [p8]; omega) (by omega)
  rw [e2]
  dsimp only
  have e3 : numR (a ++ (encT x.f0 ++ le 1 x.f1 ++ le 1 x.f2 ++ le 1 x.f3 ++ le 8 x.f4) ++ c) ((a.length : Int) + 1 + x.f0.size + (1 : Nat) + (1 : Nat)) false 1 = (x.f3, (a.length : Int) + 1 + x.f0.size + (1 : Nat) + (1 : Nat) + (1 : Nat), false) := by
   rw [show a ++ (encT x.f0 ++ le 1 x.f1 ++ le 1 x.f2 ++ le 1 x.f3 ++ le 8 x.f4) ++ c = a ++ encT x.f0 ++ le 1 x.f1 ++ le 1 x.f2 ++ le 1 x.f3 ++ (le 8 x.f4 ++ c) by simp only [List.append_assoc]]
   exact num_le _ _ _ 1 x.f3 1 (by rw [List.length_append, List.length_append, List.length_append, hT, le_length, le_length]; omega) (by decide) g3.1 (by rw [p8]; omega) (by omega)
  rw [e3]
  dsimp only
  have e4 : numR (a ++ (encT x.f0 ++ le 1 x.f1 ++ le 1 x.f2 ++ le 1 x.f3 ++ le 8 x.f4) ++ c) ((a.length : Int) + 1 + x.f0.size + (1 : Nat) + (1 : Nat) + (1 : Nat)) false 8 = (x.f4, (a.length : Int) + 1 + x.f0.size + (1 : Nat) + (1 : Nat) + (1 : Nat) + 8, false) := by
   rw [show a ++ (encT x.f0 ++ le 1 x.f1 ++ le 1 x.f2 ++ le 1 x.f3 ++ le 8 x.f4) ++ c = a ++ encT x.f0 ++ le 1 x.f1 ++ le 1 x.f2 ++ le 1 x.f3 ++ le 8 x.f4 ++ c by simp only [List.append_assoc]]
   exact num_le8 _ _ _ x.f4 (by simp only [List.length_append, hT, le_length]; omega) hw.1 hw.2
  rw [e4]
  simp only [List.length_append, hT, le_length]
  exact Prod.ext rfl (Prod.ext (by dsimp only; omega) rfl)
 inv := by
  intro b at_ hb h0 h1 h
  unfold varR at h ⊢
  dsimp only at h ⊢
  have n0 := text_inv hb (at_ := at_) h0 h1
  generalize textR b at_ false = t at h n0 ⊢
  cases q0 : t.2.2 with
  | true => rw [q0, num_bad_true] at h; dsimp only at h; rw [num_bad_true] at h; dsimp only at h; rw [num_bad_true] at h; dsimp only at h; rw [num_bad_true] at h; cases h
  | false =>
   obtain ⟨e1, e2, e3, e4⟩ := n0 q0
   rw [q0] at h
   have n1 := num_inv hb (at_ := t.2.1) (many := 1) (m := 1) (by decide) (by decide) (by omega) (by omega)
   generalize numR b t.2.1 false 1 = u1 at h n1 ⊢
   cases q1 : u1.2.2 with
   | true => rw [q1, num_bad_true] at h; dsimp only at h; rw [num_bad_true] at h; dsimp only at h; rw [num_bad_true] at h; cases h
   | false =>
    obtain ⟨f1, f2, f3, f4, f5⟩ := n1 q1
    rw [q1] at h
    have n2 := num_inv hb (at_ := u1.2.1) (many := 1) (m := 1) (by decide) (by decide) (by omega) (by omega)
    generalize numR b u1.2.1 false 1 = u2 at h n2 ⊢
    cases q2 : u2.2.2 with
    | true => rw [q2, num_bad_true] at h; dsimp only at h; rw [num_bad_true] at h; cases h
    | false =>
     obtain ⟨g1, g2, g3, g4, g5⟩ := n2 q2
     rw [q2] at h
     have n3 := num_inv hb (at_ := u2.2.1) (many := 1) (m := 1) (by decide) (by decide) (by omega) (by omega)
     generalize numR b u2.2.1 false 1 = u3 at h n3 ⊢
     cases q3 : u3.2.2 with
     | true => rw [q3, num_bad_true] at h; cases h
     | false =>
      obtain ⟨k1, k2, k3, k4, k5⟩ := n3 q3
      rw [q3] at h
      have n4 := num_inv8 hb (at_ := u3.2.1) (many := 8) (m := 8) (by decide) (by decide) (by omega) (by omega) h
      generalize numR b u3.2.1 false 8 = u4 at h n4 ⊢
      obtain ⟨m1, m2, m3⟩ := n4
      rw [p8] at f4 g4 k4
      unfold varFit varEnc
      dsimp only
      simp only [Bool.and_eq_true, decide_eq_true_eq, small_iff, List.length_append, le_length, encT_len]
      refine ⟨by omega, by omega, by omega, ?_⟩
      rw [e4, f5, ← f1, g5, ← g1, k5, ← k1, m3, m1]
      unfold encT
      simp only [List.append_assoc]
 bad := by
  intro b at_
  unfold varR
  dsimp only
  rw [text_bad_true, num_bad_true]
  dsimp only
  rw [num_bad_true]
  dsimp only
  rw [num_bad_true]
  dsimp only
  rw [num_bad_true]
 byte := by
  intro x y hy
  unfold varEnc at hy
  simp only [List.mem_append] at hy
  rcases hy with (((h | h) | h) | h) | h
  ·exact encT_byte _ y h
  all_goals exact le_byte _ _ y h
end Go.Proofs.YtdbfgfgbjheibaaDoor.BPure.Tab
end

section
/- One byte of a container changed: its first bytes or its sum tell it, plainly. -/
namespace Go.Proofs.YtdbfgfgbjheibaaDoor.Given
open Go Go.RowKit Go.Proofs.YtdbfgfgbjheibaaDoor Go.Proofs.YtdbfgfgbjheibaaDoorW.PrintWords Go.Proofs.YtdbfgfgbjheibaaDoorW.PrintLast Go.Proofs.YtdbfgfgbjheibaaDoorW.PrintMore
set_option linter.unusedVariables false
set_option linter.unusedSimpArgs false
theorem num_all (m : List Int) (hm : m.length = 4) : (numR m 0 false 4).1 = wrap64 (leN m) := by
 have := num_at [] m [] 0 4 rfl (by rw [hm]; rfl)
 rw [List.nil_append, List.append_nil] at this
 rw [this]
theorem le_mod : ∀ (m : Nat) (v : Int) (n : Nat), m ≤ n → le m (v % 2 ^ (8 * n)) = le m v
 | 0, v, n, _ => rfl
 | m + 1, v, n, h => by
  show le m (v % 2 ^ (8 * n)) ++ [sh m (v % 2 ^ (8 * n)) % 256] = le m v ++ [sh m v % 256]
  rw [le_mod m v n (by omega), sh_div, sh_div]
  congr 2
  obtain ⟨d, rfl⟩ : ∃ d, n = m + 1 + d := ⟨n - m - 1, by omega⟩
  rw [show 8 * (m + 1 + d) = 8 * m + (8 + 8 * d) by omega, Int.pow_add, Int.pow_add]
  have hp : (0 : Int) < 2 ^ (8 * m) := Int.pow_pos (by decide)
  have hq : (0 : Int) < 2 ^ (8 * d) := Int.pow_pos (by decide)
  generalize (2 : Int) ^ (8 * m) = p at *
  generalize (2 : Int) ^ (8 * d) = q at *
  rw [show (2 : Int) ^ 8 = 256 from rfl]
  have e : v % (p * (256 * q)) = p * ((v / p) % (256 * q)) + v % p := by
   have h1 := Int.mul_ediv_add_emod v p
   have h2 := Int.mul_ediv_add_emod (v / p) (256 * q)
   have h3 := Int.emod_nonneg (v / p) (show (256 * q : Int) ≠ 0 by omega)
   have h4 := Int.emod_lt_of_pos (v / p) (show (0 : Int) < 256 * q by omega)
   have h5 := Int.emod_nonneg v (show p ≠ 0 by omega)
   have h6 := Int.emod_lt_of_pos v hp
   generalize v / p % (256 * q) = r at *
   generalize v / p / (256 * q) = t at *
   generalize v / p = y at *
   generalize v % p = x at *
   have e3 : v = (p * r + x) + p * (256 * q) * t := by
    rw [← h1, ← h2, Int.mul_add, ← Int.mul_assoc]
    omega
   have h7 : p * r ≤ p * (256 * q - 1) := Int.mul_le_mul_of_nonneg_left (by omega) (by omega)
   have h8 : 0 ≤ p * r := Int.mul_nonneg (by omega) h3
   rw [Int.mul_sub] at h7
   rw [e3, Int.add_mul_emod_self_left]
   exact Int.emod_eq_of_lt (by omega) (by omega)
  have h5 := Int.emod_nonneg v (show p ≠ 0 by omega)
  have h6 := Int.emod_lt_of_pos v hp
  rw [e, Int.add_comm, Int.add_mul_ediv_left _ _ (by omega), Int.ediv_eq_zero_of_lt h5 h6, Int.zero_add, Int.emod_emod_of_dvd _ (Int.dvd_mul_right _ _)]
theorem le_leN' : ∀ (n : Nat) (l : List Int), l.length = n → (∀ x ∈ l, 0 ≤ x ∧ x < 256) → le n (leN l) = l := by
 intro n
 induction n with
 | zero => intro l h _; rw [List.eq_nil_of_length_eq_zero h]; rfl
 | succ n ih =>
  intro l h hb
  obtain ⟨xs, x, rfl⟩ : ∃ xs x, l = xs ++ [x] := ⟨l.dropLast, l.getLast (by intro e; rw [e] at h; simp at h), (List.dropLast_concat_getLast _).symm⟩
  have hl : xs.length = n := by simpa using h
  have hx := hb x (by simp)
  have hxs : ∀ y ∈ xs, 0 ≤ y ∧ y < 256 := fun y hy => hb y (by simp [hy])
  have hlim := leN_lim xs hxs
  rw [hl] at hlim
  rw [leN_app, hl]
  show le n _ ++ [sh n _ % 256] = _
  rw [← le_mod n _ n (z5 _), sh_div, Int.add_mul_emod_self_right, Int.emod_eq_of_lt hlim.1 hlim.2, ih xs hl hxs, Int.add_mul_ediv_right _ _ (Int.ne_of_gt (show (0 : Int) < 2 ^ (8 * n) from Int.pow_pos (by decide))), Int.ediv_eq_zero_of_lt hlim.1 hlim.2, Int.zero_add, Int.emod_eq_of_lt hx.1 hx.2]
end Go.Proofs.YtdbfgfgbjheibaaDoor.Given
end

section
/- One byte of a program's container changed: where it is behind the first four, the sum differs; else the first four do. -/
namespace Go.Proofs.YtdbfgfgbjheibaaDoor.BPure
open Go Go.RowKit Go.Proofs.YtdbfgfgbjheibaaDoor Go.Proofs.YtdbfgfgbjheibaaDoor.PBx Go.Proofs.YtdbfgfgbjheibaaDoor.Given Go.Proofs.YtdbfgfgbjheibaaDoor.BPure.Tab Go.Proofs.YtdbfgfgbjheibaaDoorW.PrintWords Go.Proofs.YtdbfgfgbjheibaaDoorW.PrintLast Go.Proofs.YtdbfgfgbjheibaaDoorW.PrintMore
set_option linter.unusedVariables false
set_option linter.unusedSimpArgs false
theorem magic4 (a b c d : Int) (ha : 0 ≤ a ∧ a < 256) (hb : 0 ≤ b ∧ b < 256) (hc : 0 ≤ c ∧ c < 256) (hd : 0 ≤ d ∧ d < 256) : ((strOfNums [a, b, c, d]).toList == ([76, 66, 75, 49] : List UInt8)) = decide ([a, b, c, d] = [76, 66, 75, 49]) := by
 have e : (strOfNums [a, b, c, d]).toList = [UInt8.ofNat a.toNat, UInt8.ofNat b.toNat, UInt8.ofNat c.toNat, UInt8.ofNat d.toNat] := by
  simp [strOfNums, ByteArray.toList, ByteArray.toList.loop, ByteArray.size, ByteArray.get!]
 have k : ∀ (x : Int) (n : Nat), 0 ≤ x ∧ x < 256 → n < 256 → (UInt8.ofNat x.toNat = UInt8.ofNat n ↔ x = n) := by
  intro x n hx hn
  constructor
  ·intro h
   have := congrArg UInt8.toNat h
   rw [UInt8.toNat_ofNat', UInt8.toNat_ofNat', Nat.mod_eq_of_lt (by omega), Nat.mod_eq_of_lt (by omega)] at this
   omega
  ·rintro rfl; simp
 rw [e]
 rw [Bool.eq_iff_iff, beq_iff_eq, decide_eq_true_iff]
 simp only [List.cons.injEq, and_true]
 rw [show (76 : UInt8) = UInt8.ofNat 76 from rfl, show (66 : UInt8) = UInt8.ofNat 66 from rfl, show (75 : UInt8) = UInt8.ofNat 75 from rfl, show (49 : UInt8) = UInt8.ofNat 49 from rfl, k a 76 ha (by decide), k b 66 hb (by decide), k c 75 hc (by decide), k d 49 hd (by decide)]
 rfl
/-- What the reader finds of bytes that are not as they were put: their beginning, or their sum. -/
def Told (l : List Int) : Prop := ((strOfNums (l.take 4)).toList == ([76, 66, 75, 49] : List UInt8)) = false ∨ (((strOfNums (l.take 4)).toList == ([76, 66, 75, 49] : List UInt8)) = true ∧ ¬ (numR (l.drop (l.length - 4)) 0 false 4).1 = 4294967295 - overF 4294967295 (l.take (l.length - 4)))
structure OneOk (X : List Int) : Prop where
 low : 8 ≤ X.length
 most : X.length ≤ 1048576
 byte : BL X
 tells : ∀ (i : Nat) (c : Int), 0 ≤ c ∧ c < 256 → i < X.length → X.getD i 0 ≠ c → Told (X.set i c)
theorem one_few (u : BR) : ∃ k r, u.fewf k = some r := by
 obtain ⟨ru, e1, f1⟩ := few_is u.C u.V u.B u.U
 exact ⟨200, ru, e1 200 (z5 _)⟩
end Go.Proofs.YtdbfgfgbjheibaaDoor.BPure
end

section
/- A container, plainly: what is read of units and of sections that were put. -/
namespace Go.Proofs.YtdbfgfgbjheibaaDoor.BPure
open Go Go.RowKit Go.Proofs.YtdbfgfgbjheibaaDoor Go.Proofs.YtdbfgfgbjheibaaDoor.Given Go.Proofs.YtdbfgfgbjheibaaDoor.BPure.Tab Go.Proofs.YtdbfgfgbjheibaaDoorW.PrintWords Go.Proofs.YtdbfgfgbjheibaaDoorW.PrintLast Go.Proofs.YtdbfgfgbjheibaaDoorW.PrintMore
set_option linter.unusedVariables false
set_option linter.unusedSimpArgs false
def unU (x : SU) : UD := (x.f0, x.f1, x.f2, x.f3, x.f4)
theorem mk_un (x : SU) : mkU (unU x) = x := rfl
theorem uni_get (x : SU) (h : uniFit x = true) : ugetR (uniB x) = (unU x, 0) := by
 rw [← uniB_is]
 exact uget_put x.f0 x.f1 x.f2 x.f3 x.f4 h
/-- Bytes behind how many they are, read where they were put. -/
theorem run_at (a c x : List Int) (hx : x.length ≤ 1000000) : runF (a ++ (le 4 (x.length : Int) ++ x) ++ c) a.length false = (x, ((a.length + 4 + x.length : Nat) : Int), false) := by
 have p4 : (2 : Int) ^ (8 * 4) = 4294967296 := rfl
 have h1 := num_le a (x ++ c) (a.length : Int) 4 (x.length : Int) 4 rfl (by decide) (by omega) (by rw [p4]; omega) (by omega)
 unfold runF
 rw [show a ++ (le 4 (x.length : Int) ++ x) ++ c = a ++ le 4 (x.length : Int) ++ (x ++ c) by simp only [List.append_assoc], h1]
 dsimp only
 rw [show a ++ le 4 (x.length : Int) ++ (x ++ c) = (a ++ le 4 (x.length : Int)) ++ x ++ c by simp only [List.append_assoc], take_at (a ++ le 4 (x.length : Int)) x c _ _ (by rw [List.length_append, le_length]; omega) rfl]
 refine Prod.ext rfl (Prod.ext ?_ rfl)
 dsimp only
 omega
theorem take_sec (a c x : List Int) (k : Int) (hk : 0 ≤ k ∧ k < 256) (hx : x.length ≤ 1000000) : takeS (a ++ (le 1 k ++ le 4 (x.length : Int) ++ x) ++ c) a.length k = (0, x, ((a.length + 5 + x.length : Nat) : Int)) := by
 have p1 : (2 : Int) ^ (8 * 1) = 256 := rfl
 have h1 := num_le a (le 4 (x.length : Int) ++ x ++ c) (a.length : Int) 1 k 1 rfl (by decide) hk.1 (by rw [p1]; omega) (by omega)
 have hlen : (a ++ (le 1 k ++ le 4 (x.length : Int) ++ x) ++ c).length = a.length + 5 + x.length + c.length := by simp only [List.length_append, le_length]; omega
 unfold takeS
 rw [hlen, if_neg (by omega), show a ++ (le 1 k ++ le 4 (x.length : Int) ++ x) ++ c = a ++ le 1 k ++ (le 4 (x.length : Int) ++ x ++ c) by simp only [List.append_assoc], h1]
 dsimp only
 rw [if_neg (by simp)]
 have h2 := run_at (a ++ le 1 k) c x hx
 rw [List.length_append, le_length] at h2
 rw [show a ++ le 1 k ++ (le 4 (x.length : Int) ++ x ++ c) = a ++ le 1 k ++ (le 4 (x.length : Int) ++ x) ++ c by simp only [List.append_assoc], show (a.length : Int) + (1 : Nat) = ((a.length + 1 : Nat) : Int) by omega, h2]
 dsimp only
 rw [if_neg (by simp)]
theorem unitsL_at : ∀ (l : List SU) (a c : List Int) (out : List SU), (∀ x ∈ l, uniFit x = true ∧ (uniB x).length ≤ 1000000) → unitsL (a ++ encL uniEnc l ++ c) l.length a.length false out = (0, out ++ l, ((a.length + (encL uniEnc l).length : Nat) : Int), false)
 | [], a, c, out, _ => by simp [unitsL, encL]
 | x :: l, a, c, out, h => by
  have hx := h x (by simp)
  have e : a ++ encL uniEnc (x :: l) ++ c = a ++ (le 4 ((uniB x).length : Int) ++ uniB x) ++ (encL uniEnc l ++ c) := by rw [encL_cons]; unfold uniEnc; simp only [List.append_assoc]
  have h1 := run_at a (encL uniEnc l ++ c) (uniB x) hx.2
  rw [← e] at h1
  show unitsL _ (l.length + 1) _ _ _ = _
  unfold unitsL
  rw [h1]
  dsimp only
  rw [if_neg (by simp), uni_get x hx.1]
  dsimp only
  rw [if_neg (by simp), mk_un]
  have h2 := unitsL_at l (a ++ (le 4 ((uniB x).length : Int) ++ uniB x)) c (out ++ [x]) (fun y hy => h y (by simp [hy]))
  rw [show a ++ (le 4 ((uniB x).length : Int) ++ uniB x) ++ encL uniEnc l ++ c = a ++ encL uniEnc (x :: l) ++ c by rw [e]; simp only [List.append_assoc]] at h2
  rw [List.length_append, List.length_append, le_length] at h2
  rw [show ((a.length + 4 + (uniB x).length : Nat) : Int) = ((a.length + (4 + (uniB x).length) : Nat) : Int) by omega, h2, encL_cons, List.length_append]
  unfold uniEnc
  rw [List.length_append, le_length]
  simp only [List.append_assoc, List.singleton_append, Nat.add_assoc]
theorem units_get (l : LU) (hl : l.length ≤ 10) (hok : Ok l) (h : (unitsF l).2 = true) : unitsR (unitsF l).1 = (l, 0) := by
 unfold unitsF at h ⊢
 split at h
 ·rename_i hf
  rw [if_pos hf]
  have h8 : (l.length : Int) ≤ 8 := zO h
  have p1 : (2 : Int) ^ (8 * 1) = 256 := rfl
  have hall : ∀ x ∈ l, uniFit x = true ∧ (uniB x).length ≤ 1000000 := fun x hx => ⟨List.all_eq_true.1 hf x hx, Nat.le_trans (uniB_len x (hok x hx)) (by omega)⟩
  have h1 := num_le [] (encL uniEnc l) 0 1 (l.length : Int) 1 rfl (by decide) (by omega) (by rw [p1]; omega) (by omega)
  rw [List.nil_append] at h1
  have h2 := unitsL_at l (le 1 (l.length : Int)) [] [] hall
  rw [List.append_nil, le_length, List.nil_append] at h2
  unfold unitsR
  dsimp only
  rw [h1]
  dsimp only
  rw [if_neg (by simp), if_neg (by omega), Int.toNat_natCast]
  rw [show ((0 : Int) + (1 : Nat)) = ((1 : Nat) : Int) by omega, h2]
  dsimp only
  rw [if_neg (by simp), if_neg (by rw [List.length_append, le_length]; omega)]
 ·cases h
def S5 (k : Int) (x : List Int) : List Int := le 1 k ++ le 4 (x.length : Int) ++ x
theorem S5_len (k : Int) (x : List Int) : (S5 k x).length = 5 + x.length := by unfold S5; simp only [List.length_append, le_length]
theorem body_is (c v x u : List Int) : body c v x u = [76, 66, 75, 49] ++ (S5 1 c ++ S5 2 v ++ S5 3 x ++ S5 4 u) := by
 unfold body sec S5
 simp only [List.append_assoc]
theorem take_S5 (a c x : List Int) (k : Int) (hk : 0 ≤ k ∧ k < 256) (hx : x.length ≤ 1000000) (n : Int) (hn : n = a.length) : takeS (a ++ S5 k x ++ c) n k = (0, x, ((a.length + (S5 k x).length : Nat) : Int)) := by
 subst hn
 have := take_sec a c x k hk hx
 rw [S5_len]
 unfold S5
 rw [this]
 refine Prod.ext rfl (Prod.ext rfl ?_)
 dsimp only
 omega
theorem readC_put (c v x u : List Int) (C : List SC) (V : List SV) (B : List SB) (U : List SU) (hc : c.length ≤ 1000000) (hv : v.length ≤ 1000000) (hx : x.length ≤ 1000000) (hu : u.length ≤ 1000000) (gc : getR conR 1024 c = (C, 0)) (gv : getR varR 64 v = (V, 0)) (gx : getR blkR 32 x = (B, 0)) (gu : unitsR u = (U, 0)) :
  readC1 (S5 1 c ++ S5 2 v ++ S5 3 x ++ S5 4 u) 0 = (0, (C, V, B, U)) := by
 have t1 := take_S5 [] (S5 2 v ++ S5 3 x ++ S5 4 u) c 1 (by omega) hc 0 rfl
 have t2 := take_S5 (S5 1 c) (S5 3 x ++ S5 4 u) v 2 (by omega) hv _ rfl
 have t3 := take_S5 (S5 1 c ++ S5 2 v) (S5 4 u) x 3 (by omega) hx _ rfl
 have t4 := take_S5 (S5 1 c ++ S5 2 v ++ S5 3 x) [] u 4 (by omega) hu _ rfl
 rw [List.nil_append, List.length_nil, Nat.zero_add] at t1
 rw [List.append_nil] at t4
 rw [show S5 1 c ++ (S5 2 v ++ S5 3 x ++ S5 4 u) = S5 1 c ++ S5 2 v ++ S5 3 x ++ S5 4 u by simp only [List.append_assoc]] at t1
 rw [show S5 1 c ++ S5 2 v ++ (S5 3 x ++ S5 4 u) = S5 1 c ++ S5 2 v ++ S5 3 x ++ S5 4 u by simp only [List.append_assoc]] at t2
 rw [← List.length_append] at t2 t3 t4
 generalize hZ : S5 1 c ++ S5 2 v ++ S5 3 x ++ S5 4 u = Z at *
 rw [read1 t1 gc]
 dsimp only
 rw [if_neg (by simp), if_neg (by simp), read2 t2 gv]
 dsimp only
 rw [if_neg (by simp), if_neg (by simp), read3 t3 gx]
 dsimp only
 rw [if_neg (by simp), if_neg (by simp), read4 t4 gu]
 dsimp only
 rw [if_neg (by simp), if_neg (by simp), if_neg (by omega)]
theorem sumB_len (B : List Int) : (sumB B).length = B.length + 4 := by unfold sumB; rw [List.length_append, le_length]
/-- What is read of a container is what was put into it. -/
theorem readF_put (c v x u : List Int) (C : List SC) (V : List SV) (B : List SB) (U : List SU) (hb : BL (body c v x u)) (hl : (sumB (body c v x u)).length ≤ 1000000) (gc : getR conR 1024 c = (C, 0)) (gv : getR varR 64 v = (V, 0)) (gx : getR blkR 32 x = (B, 0)) (gu : unitsR u = (U, 0)) :
  readF (sumB (body c v x u)) = (0, (C, V, B, U)) := by
 have hlen := sumB_len (body c v x u)
 have hbl := body_len c v x u
 have hov := overF_lim 4294967295 (by decide) (body c v x u)
 have hd : (sumB (body c v x u)).drop ((sumB (body c v x u)).length - 4) = le 4 (4294967295 - overF 4294967295 (body c v x u)) := by
  rw [hlen, Nat.add_sub_cancel]
  unfold sumB
  exact List.drop_left' rfl
 have ht : (sumB (body c v x u)).take ((sumB (body c v x u)).length - 4) = body c v x u := by
  rw [hlen, Nat.add_sub_cancel]
  unfold sumB
  exact List.take_left' rfl
 have hm : magicB (sumB (body c v x u)) = true := by
  unfold magicB sumB
  rw [body_is]
  show ((strOfNums [76, 66, 75, 49]).toList == ([76, 66, 75, 49] : List UInt8)) = true
  rw [magic4 76 66 75 49 (by omega) (by omega) (by omega) (by omega)]
  rfl
 have hbody : bodyOf (sumB (body c v x u)) = S5 1 c ++ S5 2 v ++ S5 3 x ++ S5 4 u := by
  unfold bodyOf
  rw [ht, body_is]
  rfl
 unfold readF
 rw [if_neg (by omega), if_neg (by omega), if_neg (by rw [hm]; simp), hd, ht, num_all _ (le_length 4 _), leN_le]
 rw [if_neg (by rw [Classical.not_not]; unfold wrap64; omega), hbody]
 exact readC_put c v x u C V B U (by omega) (by omega) (by omega) (by omega) gc gv gx gu
/-- A program whose numbers are those of an int. -/
structure WfP (C : LC) (V : LV) : Prop where
 c : ∀ x ∈ C, conWf x
 v : ∀ x ∈ V, varWf x
/-- What is read of a short program's container is the program. -/
theorem back_put (C : LC) (V : LV) (B : LB) (U : LU) (hl : U.length ≤ 10) (hok : Ok U) (hC : C.length ≤ 60) (hV : V.length ≤ 70) (hB : B.length ≤ 40) (hw : WfP C V) (X : List Int) (h : encP C V B U = (X, true)) : readF X = (0, (C, V, B, U)) ∧ X.length ≤ 1000000 ∧ BL X := by
 unfold encP at h
 split at h
 ·rename_i hh
  unfold fin at h
  split at h
  ·cases h
  ·obtain ⟨rfl, _⟩ := Prod.mk.inj h
   have l1 := Tab.putM_len 1024 conFit conEnc con_len C
   have l2 := Tab.putM_len 64 varFit varEnc var_len V
   have l3 := Tab.putM_len 32 blkFit blkEnc blk_len B
   have l4 := unitsF_len U hl hok
   have hb := BL_body (BL_putM 1024 conFit conEnc BL_con C) (BL_putM 64 varFit varEnc BL_var V) (BL_putM 32 blkFit blkEnc BL_blk B) (BL_unitsF U)
   have hlen := sumB_len (body (putM 1024 conFit conEnc C).1 (putM 64 varFit varEnc V).1 (putM 32 blkFit blkEnc B).1 (unitsF U).1)
   have hbl := body_len (putM 1024 conFit conEnc C).1 (putM 64 varFit varEnc V).1 (putM 32 blkFit blkEnc B).1 (unitsF U).1
   refine ⟨readF_put _ _ _ _ C V B U hb (by omega) (get_put conSpec 1024 (by decide) C hw.c hh.1) (get_put varSpec 64 (by decide) V hw.v hh.2.1) (get_put blkSpec 32 (by decide) B (fun _ _ => trivial) hh.2.2.1) (units_get U hl hok hh.2.2.2), by omega, BL_app hb (BL_le _ _)⟩
 ·cases h
end Go.Proofs.YtdbfgfgbjheibaaDoor.BPure
end

section
/- A container, plainly: what is put of what was read are the bytes that were read. -/
namespace Go.Proofs.YtdbfgfgbjheibaaDoor.BPure
open Go Go.RowKit Go.Proofs.YtdbfgfgbjheibaaDoor Go.Proofs.YtdbfgfgbjheibaaDoor.Given Go.Proofs.YtdbfgfgbjheibaaDoor.BPure.Tab Go.Proofs.YtdbfgfgbjheibaaDoorW.PrintWords Go.Proofs.YtdbfgfgbjheibaaDoorW.PrintLast Go.Proofs.YtdbfgfgbjheibaaDoorW.PrintMore
set_option linter.unusedVariables false
set_option linter.unusedSimpArgs false
theorem run_inv {b : List Int} (hb : ∀ x ∈ b, 0 ≤ x ∧ x < 256) {at_ : Int} (h0 : 0 ≤ at_) (h1 : at_ ≤ b.length) (h : (runF b at_ false).2.2 = false) :
  b.drop at_.toNat = le 4 ((runF b at_ false).1.length : Int) ++ (runF b at_ false).1 ++ b.drop (runF b at_ false).2.1.toNat ∧ (runF b at_ false).2.1 = at_ + 4 + (runF b at_ false).1.length ∧ (runF b at_ false).2.1 ≤ b.length := by
 unfold runF at h ⊢
 have hn := num_inv8 hb (at_ := at_) (many := 4) (m := 4) (by decide) (by decide) h0 h1
 generalize numR b at_ false 4 = n at h hn ⊢
 cases hnb : n.2.2 with
 | true => rw [hnb, take_bad_true] at h; cases h
 | false =>
  rw [hnb] at h
  obtain ⟨n1, n2, n3⟩ := hn hnb
  have ht := take_inv (b := b) (at_ := n.2.1) (n := n.1) (by omega) (by omega) h
  generalize takeR b n.2.1 false n.1 = x at h ht ⊢
  obtain ⟨t1, t2, t3, t4, t5⟩ := ht
  refine ⟨?_, by omega, by omega⟩
  rw [n3, t4, ← n1, t5, ← t1, List.append_assoc]
theorem take_S5_inv {c : List Int} (hb : ∀ x ∈ c, 0 ≤ x ∧ x < 256) {a k : Int} (h0 : 0 ≤ a) (h1 : a ≤ c.length) {t : Int × List Int × Int} (ht : takeS c a k = t) (h : t.1 = 0) :
  c.drop a.toNat = S5 k t.2.1 ++ c.drop t.2.2.toNat ∧ a ≤ t.2.2 ∧ t.2.2 ≤ c.length := by
 unfold takeS at ht
 split at ht
 ·subst ht; cases h
 have hn := num_inv8 hb (at_ := a) (many := 1) (m := 1) (by decide) (by decide) h0 h1
 have hne : (numR c a false 1).2.2 = false := by
  unfold numR
  rw [if_pos ⟨rfl, by decide, by rw [show mx 0 (mn 1 8) = 1 by decide]; omega⟩]
 generalize numR c a false 1 = n at ht hn hne
 split at ht
 ·subst ht; cases h
 rename_i hk
 have hk : n.1 = k := Classical.not_not.1 hk
 obtain ⟨n1, n2, n3⟩ := hn hne
 rw [hne] at ht
 have hr := run_inv hb (at_ := n.2.1) (by omega) (by omega)
 generalize runF c n.2.1 false = x at ht hr
 split at ht
 ·subst ht; cases h
 rename_i hx
 obtain ⟨r1, r2, r3⟩ := hr (by simpa using hx)
 subst ht
 dsimp only
 refine ⟨?_, by omega, r3⟩
 unfold S5
 rw [n3, hk, ← n1, r1]
 simp only [List.append_assoc]
theorem unitsL_inv (b : List Int) (hb : ∀ x ∈ b, 0 ≤ x ∧ x < 256) (hl : b.length ≤ 1000000) : ∀ (n : Nat) (at_ : Int) (out : List SU), 0 ≤ at_ → at_ ≤ b.length → (unitsL b n at_ false out).1 = 0 →
  ∃ l : List SU, l.length = n ∧ (unitsL b n at_ false out).2.1 = out ++ l ∧ (∀ x ∈ l, uniFit x = true) ∧ at_ ≤ (unitsL b n at_ false out).2.2.1 ∧ (unitsL b n at_ false out).2.2.1 ≤ b.length ∧ b.drop at_.toNat = encL uniEnc l ++ b.drop (unitsL b n at_ false out).2.2.1.toNat
 | 0, at_, out, h0, h1, h => ⟨[], rfl, by simp [unitsL], fun _ h => by simp at h, Int.le_refl _, h1, by simp [unitsL, encL]⟩
 | n + 1, at_, out, h0, h1, h => by
  have hr := run_inv hb (at_ := at_) h0 h1
  have hm := runF_mem (b := b) (at_ := at_) (bad := false)
  have hlen := runF_len (b := b) (at_ := at_) (bad := false)
  unfold unitsL at h ⊢
  generalize runF b at_ false = x at h hr hm hlen ⊢
  split at h
  ·cases h
  rename_i hx
  rw [if_neg hx]
  obtain ⟨r1, r2, r3⟩ := hr (by simpa using hx)
  split at h
  ·rename_i h2; exact absurd h h2
  rename_i hu
  rw [if_neg hu]
  have hi := uget_inv x.1 (fun y hy => hb y (hm y hy)) (by omega) (ugetR x.1).1 (Prod.ext rfl (Classical.not_not.1 hu))
  obtain ⟨l, l1, l2, l3, l4, l5, l6⟩ := unitsL_inv b hb hl n _ _ (by omega) r3 h
  have hB : uniB (mkU (ugetR x.1).1) = x.1 := by rw [← uniB_is]; exact hi.2
  refine ⟨mkU (ugetR x.1).1 :: l, by simp [l1], by rw [l2]; simp, fun y hy => ?_, by omega, l5, ?_⟩
  ·rcases List.mem_cons.1 hy with rfl | hy
   ·exact hi.1
   ·exact l3 y hy
  ·rw [r1, l6, encL_cons]
   unfold uniEnc
   rw [hB]
   simp only [List.append_assoc]
theorem units_inv (b : List Int) (hb : ∀ x ∈ b, 0 ≤ x ∧ x < 256) (hl : b.length ≤ 1000000) (U : LU) (h : unitsR b = (U, 0)) : unitsF U = (b, true) := by
 unfold unitsR at h
 have hn := num_inv8 hb (at_ := 0) (many := 1) (m := 1) (by decide) (by decide) (by omega) (by omega)
 have hrg := num1_lim b hb 0 false
 generalize numR b 0 false 1 = n at h hn hrg
 split at h
 ·exact absurd (congrArg Prod.snd h) (by simp)
 rename_i h1
 split at h
 ·exact absurd (congrArg Prod.snd h) (by simp)
 rename_i h2
 obtain ⟨n1, n2, n3⟩ := hn (by simpa using h1)
 split at h
 ·rename_i h3; exact absurd (congrArg Prod.snd h) h3
 rename_i h3
 obtain ⟨l, l1, l2, l3, l4, l5, l6⟩ := unitsL_inv b hb hl n.1.toNat n.2.1 [] (by omega) (by omega) (Classical.not_not.1 h3)
 split at h
 ·exact absurd (congrArg Prod.snd h) (by simp)
 rename_i h4
 have e := congrArg Prod.fst h
 dsimp only at e
 rw [l2, List.nil_append] at e
 subst e
 have hend : b.drop (unitsL b n.1.toNat n.2.1 false []).2.2.1.toNat = [] := List.drop_eq_nil_of_le (by omega)
 rw [hend, List.append_nil] at l6
 unfold unitsF
 rw [if_pos (List.all_eq_true.2 l3), decide_eq_true (by omega)]
 refine Prod.ext ?_ rfl
 dsimp only
 rw [show (l.length : Int) = n.1 by omega, ← l6, n1, ← n3]
 rfl
theorem readC_inv (c : List Int) (hb : ∀ x ∈ c, 0 ≤ x ∧ x < 256) (hl : c.length ≤ 1000000) (P : PD) (h : readC1 c 0 = (0, P)) :
  ∃ x1 x2 x3 x4, c = S5 1 x1 ++ S5 2 x2 ++ S5 3 x3 ++ S5 4 x4 ∧ (getR conR 1024 x1 = (P.1, 0) ∧ getR varR 64 x2 = (P.2.1, 0) ∧ getR blkR 32 x3 = (P.2.2.1, 0) ∧ unitsR x4 = (P.2.2.2, 0)) ∧ (∀ x ∈ x1, x ∈ c) ∧ (∀ x ∈ x2, x ∈ c) ∧ (∀ x ∈ x3, x ∈ c) ∧ (∀ x ∈ x4, x ∈ c) ∧ x1.length ≤ c.length ∧ x2.length ≤ c.length ∧ x3.length ≤ c.length ∧ x4.length ≤ c.length := by
 obtain ⟨t1, ht1⟩ : ∃ t, takeS c 0 1 = t := ⟨_, rfl⟩
 obtain ⟨u1, hu1⟩ : ∃ u, getR conR 1024 t1.2.1 = u := ⟨_, rfl⟩
 rw [read1 ht1 hu1] at h
 split at h
 ·rename_i h1; exact absurd (congrArg Prod.fst h) h1
 rename_i a1
 split at h
 ·rename_i h1; exact absurd (congrArg Prod.fst h) h1
 rename_i b1
 obtain ⟨t2, ht2⟩ : ∃ t, takeS c t1.2.2 2 = t := ⟨_, rfl⟩
 obtain ⟨u2, hu2⟩ : ∃ u, getR varR 64 t2.2.1 = u := ⟨_, rfl⟩
 rw [read2 ht2 hu2] at h
 split at h
 ·rename_i h1; exact absurd (congrArg Prod.fst h) h1
 rename_i a2
 split at h
 ·rename_i h1; exact absurd (congrArg Prod.fst h) h1
 rename_i b2
 obtain ⟨t3, ht3⟩ : ∃ t, takeS c t2.2.2 3 = t := ⟨_, rfl⟩
 obtain ⟨u3, hu3⟩ : ∃ u, getR blkR 32 t3.2.1 = u := ⟨_, rfl⟩
 rw [read3 ht3 hu3] at h
 split at h
 ·rename_i h1; exact absurd (congrArg Prod.fst h) h1
 rename_i a3
 split at h
 ·rename_i h1; exact absurd (congrArg Prod.fst h) h1
 rename_i b3
 obtain ⟨t4, ht4⟩ : ∃ t, takeS c t3.2.2 4 = t := ⟨_, rfl⟩
 obtain ⟨u4, hu4⟩ : ∃ u, unitsR t4.2.1 = u := ⟨_, rfl⟩
 rw [read4 ht4 hu4] at h
 split at h
 ·rename_i h1; exact absurd (congrArg Prod.fst h) h1
 rename_i a4
 split at h
 ·rename_i h1; exact absurd (congrArg Prod.fst h) h1
 rename_i b4
 split at h
 ·exact absurd (congrArg Prod.fst h) (by simp)
 rename_i hz
 obtain rfl := congrArg Prod.snd h
 have i1 := take_S5_inv hb (by omega) (by omega) ht1 (Classical.not_not.1 a1)
 have i2 := take_S5_inv hb (by omega) i1.2.2 ht2 (Classical.not_not.1 a2)
 have i3 := take_S5_inv hb (by omega) i2.2.2 ht3 (Classical.not_not.1 a3)
 have i4 := take_S5_inv hb (by omega) i3.2.2 ht4 (Classical.not_not.1 a4)
 have hend : c.drop t4.2.2.toNat = [] := List.drop_eq_nil_of_le (by omega)
 refine ⟨t1.2.1, t2.2.1, t3.2.1, t4.2.1, ?_, ⟨?_, ?_, ?_, ?_⟩, ?_, ?_, ?_, ?_, ?_, ?_, ?_, ?_⟩
 ·have e := i1.1
  rw [i2.1, i3.1, i4.1, hend, List.append_nil] at e
  rw [show c = c.drop (0 : Int).toNat from rfl, e]
  simp only [List.append_assoc]
 ·rw [hu1]; exact Prod.ext rfl (Classical.not_not.1 b1)
 ·rw [hu2]; exact Prod.ext rfl (Classical.not_not.1 b2)
 ·rw [hu3]; exact Prod.ext rfl (Classical.not_not.1 b3)
 ·rw [hu4]; exact Prod.ext rfl (Classical.not_not.1 b4)
 ·rw [← ht1]; exact takeS_mem
 ·rw [← ht2]; exact takeS_mem
 ·rw [← ht3]; exact takeS_mem
 ·rw [← ht4]; exact takeS_mem
 ·rw [← ht1]; exact takeS_len
 ·rw [← ht2]; exact takeS_len
 ·rw [← ht3]; exact takeS_len
 ·rw [← ht4]; exact takeS_len
/-- Bytes that are read are what is put. -/
theorem back_inv (b : List Int) (hb : ∀ x ∈ b, 0 ≤ x ∧ x < 256) (hl : b.length ≤ 3000) (P : PD) (h : readF b = (0, P)) : encP P.1 P.2.1 P.2.2.1 P.2.2.2 = (b, true) := by
 unfold readF at h
 split at h
 ·exact absurd (congrArg Prod.fst h) (by simp)
 split at h
 ·exact absurd (congrArg Prod.fst h) (by simp)
 rename_i h8
 split at h
 ·exact absurd (congrArg Prod.fst h) (by simp)
 rename_i hm
 split at h
 ·exact absurd (congrArg Prod.fst h) (by simp)
 rename_i hs
 have hs := Classical.not_not.1 hs
 have hm : magicB b = true := by simpa using hm
 have hbl := bodyOf_len (l := b)
 obtain ⟨x1, x2, x3, x4, e, ⟨g1, g2, g3, g4⟩, m1, m2, m3, m4, k1, k2, k3, k4⟩ := readC_inv (bodyOf b) (fun x hx => hb x (bodyOf_mem x hx)) (by omega) P h
 have okx : ∀ x : List Int, (∀ y ∈ x, y ∈ bodyOf b) → x.length ≤ (bodyOf b).length → okB x = true := fun x hm hx => Pure.okB_of x (by omega) (fun y hy => hb y (bodyOf_mem y (hm y hy)))
 replace g1 : getR conR ((1024 : Nat) : Int) x1 = (P.1, 0) := g1
 replace g2 : getR varR ((64 : Nat) : Int) x2 = (P.2.1, 0) := g2
 replace g3 : getR blkR ((32 : Nat) : Int) x3 = (P.2.2.1, 0) := g3
 have p1 := get_inv conSpec 1024 (by decide) x1 (okx x1 m1 k1) (by rw [g1])
 have p2 := get_inv varSpec 64 (by decide) x2 (okx x2 m2 k2) (by rw [g2])
 have p3 := get_inv blkSpec 32 (by decide) x3 (okx x3 m3 k3) (by rw [g3])
 have p4 := units_inv x4 (fun y hy => hb y (bodyOf_mem y (m4 y hy))) (by omega) P.2.2.2 g4
 rw [g1] at p1
 rw [g2] at p2
 rw [g3] at p3
 dsimp only at p1 p2 p3
 unfold encP
 rw [p1, p2, p3, p4, if_pos ⟨rfl, rfl, rfl, rfl⟩]
 dsimp only
 -- the first four, the sections, the sum
 have hT : b.take (b.length - 4) = body x1 x2 x3 x4 := by
  rw [body_is, ← e]
  have h4 : b.take 4 = [76, 66, 75, 49] := by
   obtain ⟨y1, y2, y3, y4, rest, rfl⟩ : ∃ y1 y2 y3 y4 rest, b = y1 :: y2 :: y3 :: y4 :: rest := by
    match b, h8 with
    | y1 :: y2 :: y3 :: y4 :: rest, _ => exact ⟨y1, y2, y3, y4, rest, rfl⟩
    | [], h => simp at h
    | [_], h => simp at h
    | [_, _], h => simp at h
    | [_, _, _], h => simp at h
   have hm2 : ((strOfNums [y1, y2, y3, y4]).toList == ([76, 66, 75, 49] : List UInt8)) = true := hm
   rw [magic4 y1 y2 y3 y4 (hb y1 (by simp)) (hb y2 (by simp)) (hb y3 (by simp)) (hb y4 (by simp))] at hm2
   exact zO hm2
  have := List.take_append_drop 4 (b.take (b.length - 4))
  rw [List.take_take, Nat.min_eq_left (by omega), h4] at this
  exact this.symm
 have hD : b.drop (b.length - 4) = le 4 (4294967295 - overF 4294967295 (body x1 x2 x3 x4)) := by
  have hov := overF_lim 4294967295 (by decide) (body x1 x2 x3 x4)
  have hdl : (b.drop (b.length - 4)).length = 4 := by rw [zd]; omega
  have hdb : ∀ x ∈ b.drop (b.length - 4), 0 ≤ x ∧ x < 256 := fun x hx => hb x (List.mem_of_mem_drop hx)
  have hlim := leN_lim _ hdb
  rw [hdl, show (2 : Int) ^ (8 * 4) = 4294967296 from rfl] at hlim
  rw [num_all _ hdl, hT] at hs
  have hw : wrap64 (leN (b.drop (b.length - 4))) = leN (b.drop (b.length - 4)) := by unfold wrap64; omega
  rw [hw] at hs
  rw [← hs, Given.le_leN' 4 _ hdl hdb]
 have hsum : sumB (body x1 x2 x3 x4) = b := by
  unfold sumB
  rw [← hD, ← hT]
  exact List.take_append_drop _ _
 unfold fin
 rw [hsum, if_neg (by omega)]
end Go.Proofs.YtdbfgfgbjheibaaDoor.BPure
end

section
/- The walk of BoxBack: for any program and bytes its call returns true, the plain law told; the operations' table as the program lays it. -/
namespace Go.Proofs.YtdbfgfgbjheibaaDoor.BPure
open Go Go.RowKit Go.Proofs.YtdbfgfgbjheibaaDoor Go.Proofs.YtdbfgfgbjheibaaDoor.PBx Go.Proofs.YtdbfgfgbjheibaaDoor.Given Go.Proofs.YtdbfgfgbjheibaaDoorW.PrintWords Go.Proofs.YtdbfgfgbjheibaaDoorW.PrintLast Go.Proofs.YtdbfgfgbjheibaaDoorW.PrintMore
set_option linter.unusedVariables false
set_option linter.unusedSimpArgs false
/-- What the law's plain side says of a program and bytes. -/
structure BackOk (u : BR) (b : List Int) : Prop where
 few : ∃ k r, u.fewf k = some r
 enc : ∀ k, u.fewf k = some true → ∃ X F, u.encf = some (X, F) ∧ (F = true → readF X = (0, (u.C, u.V, u.B, u.U)) ∧ X.length ≤ 1000000 ∧ (∀ x ∈ X, 0 ≤ x ∧ x < 256))
 same : ∀ k, u.fewf k = some true → ∀ v : BR, (v.C, v.V, v.B, v.U) = (u.C, u.V, u.B, u.U) → ∃ k, u.rsamef v k = some true
 back : b.length ≤ 3000 → ∃ Y F, (∀ v : BR, (v.C, v.V, v.B, v.U) = (readF b).2 → v.encf = some (Y, F)) ∧ ((readF b).1 = 0 → Y = b ∧ F = true)
theorem cell_all4 {u : BR} {W : World} {g : Nat} (h : W.heap[g]? = some (.cells u.cells 27 (0, 0))) : W.cell? ⟨g, 0, none⟩ = some (.slice u.A0 u.C.length u.c0) ∧ W.cell? ⟨g, 1, none⟩ = some (.slice u.A1 u.V.length u.c1) ∧ W.cell? ⟨g, 2, none⟩ = some (.slice u.A2 u.B.length u.c2) ∧ W.cell? ⟨g, 3, none⟩ = some (.slice u.A3 u.U.length u.c3) :=
 ⟨(zC h 0).trans rfl, (zC h 1).trans rfl, (zC h 2).trans rfl, (zC h 3).trans rfl⟩
set_option maxHeartbeats 8000000 in
set_option maxRecDepth 100000 in
theorem boxBack_w (u : BR) (A : Option Addr) (c : Nat) (b : List Int) (w : World) (hu : u.Ok w) (hr0 : Kd.C (Kd.int .u8) w A b.length b) (hc0 : b.length ≤ c) (hbb : ∀ x ∈ b, 0 ≤ x ∧ x < 256) (hL : LaidOps w) (hp : BackOk u b) :
  Calls Tryd.prog 3 #[.agg u.cells, .slice A b.length c] w fun e w' => e = .returned (.bool true) ∧ Below w.heap.size w w' := by
 have hi : (Tryd.prog.info? 27).map (·.size) = some 4 := by kernel_rfl
 have HL := zA hL
 have HC := zA hc0
 have HC0 := zA hr0
 have HBB := zA hbb
 have AW := zA (fun W hl => awake_c W awake16 hl)
 have HB2 := zA ((zX w.heap.size w).alloc (z5 _) (.cells u.cells 27))
 have HGU := zA (show (w.alloc (.cells u.cells 27)).heap[w.heap.size]? = some (.cells u.cells 27 (0, 0)) from heap_alloc_new w _)
 have HU0 := zA (hu.below HB2.out)
 clear hL hr0 hc0 hbb hu
 have step : ∀ {W W2 : World}, Below w.heap.size w W → Below W.heap.size W W2 → Below w.heap.size w W2 := fun h h2 => h.trans (h2.mono h.size)
 obtain ⟨ku, ru, hku⟩ := hp.few
 have PF := zA (fun W (h : u.Ok W) => few_c u W h ku ru hku)
 cases hfu : ru
 ·rw [hfu] at PF
  clear hfu hku hp
  go_enter Tryd.func3, Tryd.ntmps3
  go_wp2_with ((with_reducible refine gate_dst (N := 13) rfl ?_); refine wpList_load_row rfl 27 (.tmp 2) rfl w.heap.size rfl 27 _ (0, 0) _ HGU.out Tryd.underlying27 rfl (by rw [hi]; rfl) ?_)
  refine (PF.out _ HU0.out).mono ?_
  rintro e w1 ⟨rfl, hb1⟩
  have HB3 := zA (step HB2.out hb1)
  go_wp2_with fail
  refine (AW.out _ (HL.out.below HB3.out)).mono ?_
  rintro e wz ⟨rfl, hbz⟩
  have hbz := step HB3.out hbz
  go_wp2
  go_ret
  exact ⟨rfl, hbz⟩
 ·rw [hfu] at PF
  by_cases hlen : (b.length : Int) > 3000
  ·clear hfu hku hp
   go_enter Tryd.func3, Tryd.ntmps3
   go_wp2_with ((with_reducible refine gate_dst (N := 13) rfl ?_); refine wpList_load_row rfl 27 (.tmp 2) rfl w.heap.size rfl 27 _ (0, 0) _ HGU.out Tryd.underlying27 rfl (by rw [hi]; rfl) ?_)
   refine (PF.out _ HU0.out).mono ?_
   rintro e w1 ⟨rfl, hb1⟩
   have HB3 := zA (step HB2.out hb1)
   go_wp2_with fail
   refine (AW.out _ (HL.out.below HB3.out)).mono ?_
   rintro e wz ⟨rfl, hbz⟩
   have hbz := step HB3.out hbz
   go_wp2
   go_ret
   exact ⟨rfl, hbz⟩
  ·obtain ⟨X, F, h1, h2⟩ := hp.enc ku (by rw [hku, hfu])
   have P1 := zA (fun W (h : u.Ok W) hl => enc_c u W h X F h1 hl)
   have PS := zA (fun (v : BR) W (h : u.Ok W) (h' : v.Ok W) hv => Exists.elim (hp.same ku (by rw [hku, hfu]) v hv) fun k hk => rsame_c u v W h h' k true hk)
   obtain ⟨Y, FY, h3, h4⟩ := hp.back (by omega)
   have P2 := zA (fun W hC hl => decode_calls2 A c b W hC HC.out (by omega) HBB.out hl)
   have P3 := zA (fun (v : BR) W hv h hl => enc_c v W h Y FY (h3 v hv) hl)
   have HEN := zA h4
   have PD := zA (fun (hF : F = true) A' c' W hC hc hl => decode_calls2 A' c' X W hC hc (h2 hF).2.1 (h2 hF).2.2 hl)
   have HX := zA (fun (hF : F = true) => (h2 hF).1)
   generalize readF b = r at P2 P3 HEN
   clear hfu hku hp h1 h2 h3 h4
   go_enter Tryd.func3, Tryd.ntmps3
   go_wp2_with ((with_reducible refine gate_dst (N := 13) rfl ?_); refine wpList_load_row rfl 27 (.tmp 2) rfl w.heap.size rfl 27 _ (0, 0) _ HGU.out Tryd.underlying27 rfl (by rw [hi]; rfl) ?_)
   refine (PF.out _ HU0.out).mono ?_
   rintro e w1 ⟨rfl, hb1⟩
   have HB3 := zA (step HB2.out hb1)
   have HU1 := zA (HU0.out.below hb1)
   have HGU1 := zA ((hb1.block _ (blk_lt HGU.out)).trans HGU.out)
   clear HU0 HGU hb1 HB2 PF
   go_wp2_with ((with_reducible refine gate_dst (N := 23) rfl ?_); refine wpList_load_row rfl 27 (.tmp 2) rfl w.heap.size rfl 27 _ (0, 0) _ HGU1.out Tryd.underlying27 rfl (by rw [hi]; rfl) ?_)
   refine (P1.out _ HU1.out (HL.out.below HB3.out)).mono ?_
   rintro e w3 ⟨vb, rfl, ho3, hb3⟩
   obtain ⟨Ab, cb, rfl, hlb, hCb⟩ := Kd.R_reads ho3
   have HB5 := zA (step HB3.out hb3)
   have HU3 := zA (HU1.out.below hb3)
   have HGU3 := zA ((hb3.block _ (blk_lt HGU1.out)).trans HGU1.out)
   have HCb := zA (And.intro hCb hlb)
   clear HU1 HGU1 hb3 ho3 HB3 hCb hlb P1
   cases F
   ·clear PD HX
    go_wp2_with fail
    refine (P2.out _ (zD HC0.out HB5.out) (HL.out.below HB5.out)).mono ?_
    rintro e y4 ⟨v, rfl, hv, hve, hb4⟩
    have HYB := zA (step HB5.out hb4)
    have hz := heap_alloc_new y4 (.cells #[.slice none 0 0, .slice none 0 0, .slice none 0 0, .slice none 0 0] 27)
    have HZY := zA hz
    have hgy := setRow_heap _ _ _ v.cells _ _ hz
    have hBy := below_setRow ((zX y4.heap.size y4).alloc (z5 _) (.cells #[.slice none 0 0, .slice none 0 0, .slice none 0 0, .slice none 0 0] 27)) (z5 y4.heap.size) v.cells
    have HGY := zA hgy
    have HVY := zA ((hv.below hBy).ok)
    have HYB5 := zA (step HYB.out hBy)
    have HVE := zA hve
    clear hz hgy hBy hv hve hb4
    go_wp2_with (first
     | ((with_reducible refine gate_store (t := 27) (p := 9) (v := .tmp 44) rfl ?_); refine wpList_store_row rfl 27 (.tmp 9) (.tmp 44) rfl y4.heap.size v.cells rfl rfl 27 _ HZY.out (by rw [hi]; rfl) rfl (by kernel_rfl) ?_)
     | ((with_reducible refine gate_dst (N := 47) rfl ?_); refine wpList_load_row rfl 27 (.tmp 9) rfl y4.heap.size rfl 27 _ (0, 0) _ HGY.out Tryd.underlying27 rfl (by rw [hi]; rfl) ?_))
    generalize (y4.alloc (.cells #[.slice none 0 0, .slice none 0 0, .slice none 0 0, .slice none 0 0] 27)).setRow y4.heap.size v.cells = y5 at HGY HVY HYB5 ⊢
    refine (P3.out v y5 HVE.out HVY.out (HL.out.below HYB5.out)).mono ?_
    rintro e y6 ⟨vy, rfl, ho, hb6⟩
    obtain ⟨Ay, cy, rfl, hly, hCy⟩ := Kd.R_reads ho
    have HYB6 := zA (step HYB5.out hb6)
    have hs1 := Kd.C_string (c := cy) (P := Tryd.prog) Tryd.underlying28 Tryd.underlying5 Tryd.underlying9 hCy
    have hs2 := Kd.C_string (c := c) (P := Tryd.prog) Tryd.underlying28 Tryd.underlying5 Tryd.underlying9 (zD HC0.out HYB6.out)
    clear ho hly hCy HGY HVY HYB5 HYB HZY HVE hb6
    by_cases hr : r.1 = 0
    ·obtain ⟨e1, e2⟩ := HEN.out hr
     rw [e1] at hs1 ⊢
     rw [e2]
     rw [hr]
     go_wp2_with fail
     refine (AW.out _ (HL.out.below HYB6.out)).mono ?_
     rintro e wz ⟨rfl, hbz⟩
     have hbz := step HYB6.out hbz
     go_wp2
     go_ret
     exact ⟨rfl, hbz⟩
    ·have hne : (r.1 != 0) = true := by simpa using hr
     clear hs1 hs2
     go_wp2_with fail
     refine (AW.out _ (HL.out.below HYB6.out)).mono ?_
     rintro e wz ⟨rfl, hbz⟩
     have hbz := step HYB6.out hbz
     go_wp2
     go_ret
     exact ⟨rfl, hbz⟩
   ·have PD2 := zA (PD.out rfl)
    have HX2 := zA (HX.out rfl)
    clear PD HX
    go_wp2_with fail
    refine (PD2.out Ab cb _ HCb.out.1 HCb.out.2 (HL.out.below HB5.out)).mono ?_
    rw [HX2.out]
    rintro e w4 ⟨q, rfl, hq, hqe, hb4⟩
    have hz := heap_alloc_new w4 (.cells #[.slice none 0 0, .slice none 0 0, .slice none 0 0, .slice none 0 0] 27)
    have HZ4 := zA hz
    have hg4 := setRow_heap _ _ _ q.cells _ _ hz
    have hB4 := below_setRow ((zX w4.heap.size w4).alloc (z5 _) (.cells #[.slice none 0 0, .slice none 0 0, .slice none 0 0, .slice none 0 0] 27)) (z5 w4.heap.size) q.cells
    have HG4 := zA hg4
    have HQ4 := zA ((hq.below hB4).ok)
    have HU4 := zA ((HU3.out.below hb4).below hB4)
    have hgu4 := (hb4.block _ (blk_lt HGU3.out)).trans HGU3.out
    have HGU4 := zA ((hB4.block _ (blk_lt hgu4)).trans hgu4)
    have HB6 := zA (step (step HB5.out hb4) hB4)
    have HQE := zA hqe
    clear hz hg4 hB4 hgu4 hq hqe hb4 PD2 HX2 HB5 HU3 HGU3 HCb
    obtain ⟨k0, k1, k2, k3⟩ := cell_all4 HGU4.out
    obtain ⟨m0, m1, m2, m3⟩ := cell_all4 HG4.out
    go_wp2_with ((with_reducible refine gate_store (t := 27) (p := 7) (v := .tmp 31) rfl ?_); refine wpList_store_row rfl 27 (.tmp 7) (.tmp 31) rfl w4.heap.size q.cells rfl rfl 27 _ HZ4.out (by rw [hi]; rfl) rfl (by kernel_rfl) ?_)
    clear k0 k1 k2 k3 m0 m1 m2 m3
    generalize (w4.alloc (.cells #[.slice none 0 0, .slice none 0 0, .slice none 0 0, .slice none 0 0] 27)).setRow w4.heap.size q.cells = w5 at HG4 HQ4 HU4 HGU4 HB6 ⊢
    refine (PS.out q w5 HU4.out HQ4.out HQE.out).mono ?_
    rintro e w6 ⟨rfl, hb6⟩
    have HB7 := zA (step HB6.out hb6)
    clear HG4 HQ4 HU4 HGU4 HB6 HQE hb6 PS HZ4
    go_wp2_with fail
    refine (P2.out _ (zD HC0.out HB7.out) (HL.out.below HB7.out)).mono ?_
    rintro e y4 ⟨v, rfl, hv, hve, hb4⟩
    have HYB := zA (step HB7.out hb4)
    have hz := heap_alloc_new y4 (.cells #[.slice none 0 0, .slice none 0 0, .slice none 0 0, .slice none 0 0] 27)
    have HZY := zA hz
    have hgy := setRow_heap _ _ _ v.cells _ _ hz
    have hBy := below_setRow ((zX y4.heap.size y4).alloc (z5 _) (.cells #[.slice none 0 0, .slice none 0 0, .slice none 0 0, .slice none 0 0] 27)) (z5 y4.heap.size) v.cells
    have HGY := zA hgy
    have HVY := zA ((hv.below hBy).ok)
    have HYB5 := zA (step HYB.out hBy)
    have HVE := zA hve
    clear hz hgy hBy hv hve hb4
    go_wp2_with (first
     | ((with_reducible refine gate_store (t := 27) (p := 9) (v := .tmp 44) rfl ?_); refine wpList_store_row rfl 27 (.tmp 9) (.tmp 44) rfl y4.heap.size v.cells rfl rfl 27 _ HZY.out (by rw [hi]; rfl) rfl (by kernel_rfl) ?_)
     | ((with_reducible refine gate_dst (N := 47) rfl ?_); refine wpList_load_row rfl 27 (.tmp 9) rfl y4.heap.size rfl 27 _ (0, 0) _ HGY.out Tryd.underlying27 rfl (by rw [hi]; rfl) ?_))
    generalize (y4.alloc (.cells #[.slice none 0 0, .slice none 0 0, .slice none 0 0, .slice none 0 0] 27)).setRow y4.heap.size v.cells = y5 at HGY HVY HYB5 ⊢
    refine (P3.out v y5 HVE.out HVY.out (HL.out.below HYB5.out)).mono ?_
    rintro e y6 ⟨vy, rfl, ho, hb6⟩
    obtain ⟨Ay, cy, rfl, hly, hCy⟩ := Kd.R_reads ho
    have HYB6 := zA (step HYB5.out hb6)
    have hs1 := Kd.C_string (c := cy) (P := Tryd.prog) Tryd.underlying28 Tryd.underlying5 Tryd.underlying9 hCy
    have hs2 := Kd.C_string (c := c) (P := Tryd.prog) Tryd.underlying28 Tryd.underlying5 Tryd.underlying9 (zD HC0.out HYB6.out)
    clear ho hly hCy HGY HVY HYB5 HYB HZY HVE hb6
    by_cases hr : r.1 = 0
    ·obtain ⟨e1, e2⟩ := HEN.out hr
     rw [e1] at hs1 ⊢
     rw [e2]
     rw [hr]
     go_wp2_with fail
     refine (AW.out _ (HL.out.below HYB6.out)).mono ?_
     rintro e wz ⟨rfl, hbz⟩
     have hbz := step HYB6.out hbz
     go_wp2
     go_ret
     exact ⟨rfl, hbz⟩
    ·have hne : (r.1 != 0) = true := by simpa using hr
     clear hs1 hs2
     go_wp2_with fail
     refine (AW.out _ (HL.out.below HYB6.out)).mono ?_
     rintro e wz ⟨rfl, hbz⟩
     have hbz := step HYB6.out hbz
     go_wp2
     go_ret
     exact ⟨rfl, hbz⟩
end Go.Proofs.YtdbfgfgbjheibaaDoor.BPure
end

section
/- Slices of octets as data are lists of octets; no conditions. -/
namespace Go.Proofs.YtdbfgfgbjheibaaDoor
open Go.Proofs.YtdbfgfgbjheibaaDoorW.PrintWords
open Go.RowKit
theorem rd_octets : Bridge.Rdga Tryd.prog 28 (Kd.slice 5 (Kd.int .u8)) (fun l => ∀ a ∈ l, (Lit.int .u8 a).wf = true) := Bridge.Rdg.slicea Tryd.underlying28 (by kernel_rfl) (Bridge.Rdg.int Tryd.underlying5 (by kernel_rfl))
end Go.Proofs.YtdbfgfgbjheibaaDoor
end

section
/- BoxBack over programs and bytes that are read as data. -/
namespace Go.Proofs.YtdbfgfgbjheibaaDoor.BPure
open Go Go.RowKit Go.Proofs.YtdbfgfgbjheibaaDoor Go.Proofs.YtdbfgfgbjheibaaDoor.PBx Go.Proofs.YtdbfgfgbjheibaaDoor.Given Go.Proofs.YtdbfgfgbjheibaaDoorW.PrintWords Go.Proofs.YtdbfgfgbjheibaaDoorW.PrintLast Go.Proofs.YtdbfgfgbjheibaaDoorW.PrintMore
set_option linter.unusedVariables false
theorem few_true (u : BR) (k : Nat) (hf : u.fewf k = some true) : Ok u.U ∧ u.U.length ≤ 10 ∧ u.C.length ≤ 60 ∧ u.V.length ≤ 70 ∧ u.B.length ≤ 40 := by
 obtain ⟨ru, e1, f1⟩ := few_is u.C u.V u.B u.U
 have hru : ru = true := by
  have h3 : Tells (fun k => w16_Few.f k u.C u.V u.B u.U) true := Tells.of_mono (k0 := k) (w16_Few.mono u.C u.V u.B u.U) hf
  obtain ⟨k0, hk0⟩ := h3
  have h4 := hk0 (k0 + 200) (by omega)
  dsimp only at h4
  rw [e1 _ (by omega)] at h4
  exact zJ h4
 exact f1 hru
theorem back_ok (u : BR) (b : List Int) (hw : WfP u.C u.V) (hbb : ∀ x ∈ b, 0 ≤ x ∧ x < 256) : BackOk u b := by
 refine ⟨one_few u, fun k hk => ?_, fun k hk v hv => ?_, fun hl => ?_⟩
 ·obtain ⟨hok, b1, b2, b3, b4⟩ := few_true u k hk
  have hp : u.encf = some (encP u.C u.V u.B u.U) := pack_is u.C u.V u.B u.U b1 hok
  have hb := back_put u.C u.V u.B u.U b1 hok b2 b3 b4 hw
  generalize encP u.C u.V u.B u.U = Q at hp hb
  obtain ⟨X, F⟩ := Q
  exact ⟨X, F, hp, fun hF => hb X (by rw [hF])⟩
 ·obtain ⟨hok, b1, b2, b3, b4⟩ := few_true u k hk
  obtain ⟨e1, e2⟩ := Prod.mk.inj hv
  obtain ⟨e2, e3⟩ := Prod.mk.inj e2
  obtain ⟨e3, e4⟩ := Prod.mk.inj e3
  refine ⟨30000, ?_⟩
  unfold BR.rsamef
  rw [r16_Same_is u.C u.V u.B u.U v.C v.V v.B v.U (by omega) (by omega) (by omega) (by omega) hok _ (z5 _), e1, e2, e3, e4, sameP_self]
 ·have hlim := readF_lim b hbb hl
  have hinv := back_inv b hbb hl
  generalize readF b = r at hlim hinv ⊢
  obtain ⟨r1, C, V, B, U⟩ := r
  have hok := hlim.ok
  have hd := hlim.d
  dsimp only at hok hd
  refine ⟨(encP C V B U).1, (encP C V B U).2, fun v hv => ?_, fun h0 => ?_⟩
  ·obtain ⟨e1, e2⟩ := Prod.mk.inj hv
   obtain ⟨e2, e3⟩ := Prod.mk.inj e2
   obtain ⟨e3, e4⟩ := Prod.mk.inj e3
   unfold BR.encf
   rw [e1, e2, e3, e4]
   exact pack_is C V B U (by omega) hok
  ·have := hinv (C, V, B, U) (Prod.ext h0 rfl)
   dsimp only at this
   rw [this]
   exact ⟨rfl, rfl⟩
end Go.Proofs.YtdbfgfgbjheibaaDoor.BPure
namespace Go.Proofs.YtdbfgfgbjheibaaDoor
open Go Go.RowKit Go.Proofs.YtdbfgfgbjheibaaDoorW.PrintWords Go.Proofs.YtdbfgfgbjheibaaDoor.PBx Go.Proofs.YtdbfgfgbjheibaaDoor.Given
set_option linter.unusedVariables false
namespace BxRow
theorem int_wf {c : Int} (h : (Lit.int .i64 c).wf = true) : BPure.Tab.in64 c := by
 have h2 : (decide ((-9223372036854775808 : Int) ≤ c) && decide (c ≤ 9223372036854775807)) = true := h
 simp at h2
 exact h2
theorem rd_constW : Bridge.Rdga Tryd.prog 68 k68 BPure.Tab.conWf := fun m =>
 Bridge.Rdg.imp (Bridge.Rdg.iso (fun x : S68 => (x.f0, x.f1)) (fun p => ⟨p.1, p.2⟩) (fun _ => rfl)
  (Bridge.Rdg.structa Tryd.underlying68 (by kernel_rfl) (fun m => Bridge.RdgF.cons rfl (rd_int m) (Bridge.RdgF.one rfl (rd_int m))) m)) (fun _ h => int_wf h.2)
theorem rd_varW : Bridge.Rdga Tryd.prog 41 k41 BPure.Tab.varWf := fun m =>
 Bridge.Rdg.imp (Bridge.Rdg.iso (fun x : S41 => (x.f0, x.f1, x.f2, x.f3, x.f4)) (fun p => ⟨p.1, p.2.1, p.2.2.1, p.2.2.2.1, p.2.2.2.2⟩) (fun _ => rfl)
  (Bridge.Rdg.structa Tryd.underlying41 (by kernel_rfl) (fun m => Bridge.RdgF.cons rfl (rd_str m) (Bridge.RdgF.cons rfl (rd_int m) (Bridge.RdgF.cons rfl (rd_int m) (Bridge.RdgF.cons rfl (rd_int m) (Bridge.RdgF.one rfl (rd_int m)))))) m)) (fun _ h => int_wf h.2.2.2.2)
theorem rd_progW : Bridge.Rdga Tryd.prog 27 KProg (fun x => BPure.WfP x.1 x.2.1) := fun m => Bridge.Rdg.imp ((Bridge.Rdg.structa Tryd.underlying27 (by kernel_rfl) (fun m => Bridge.RdgF.cons rfl (Bridge.Rdg.slicea Tryd.underlying22 (by kernel_rfl) rd_constW m) (Bridge.RdgF.cons rfl (Bridge.Rdg.slicea Tryd.underlying23 (by kernel_rfl) rd_varW m) (Bridge.RdgF.cons rfl (Bridge.Rdg.slicea Tryd.underlying24 (by kernel_rfl) rd_block m) (Bridge.RdgF.one rfl (Bridge.Rdg.slicea Tryd.underlying25 (by kernel_rfl) rd_unit m)))))) m) (fun _ h => ⟨h.1, h.2.1⟩)
end BxRow
set_option maxRecDepth 100000 in
theorem BoxBack_walk (cs : Array Value) (x : List S68 × List S41 × List S43 × List S48) (A : Option Addr) (c : Nat) (b : List Int) (w : World) (hk : BxRow.KProg.K w x cs.toList) (wf : BPure.WfP x.1 x.2.1) (h1 : Kd.C (Kd.int .u8) w A b.length b) (hc : b.length ≤ c) (wf1 : ∀ a ∈ b, (Lit.int .u8 a).wf = true) (hL : laidMetH Tryd.prog Rows.boxBackRow.laid w) :
  Calls Tryd.prog 3 #[.agg cs, .slice A b.length c] w fun e w' => e = .returned (.bool true) ∧ Below w.heap.size w w' := by
 obtain ⟨A0, c0, A1, c1, A2, c2, A3, c3, rfl, h0, h1', h2, h3⟩ := BxRow.prog_of hk
 have hL2 : LaidOps w := BxRow.laidOps_of hL rfl (by simp [Rows.boxBackRow])
 have o1 := ok_of h0 h1' h2 h3
 have hbb : ∀ x ∈ b, 0 ≤ x ∧ x < 256 := fun x hx => wf8 (wf1 x hx)
 clear hk hL h0 h1' h2 h3 wf1
 generalize x.1 = C at *
 generalize x.2.1 = V at *
 generalize x.2.2.1 = B at *
 generalize x.2.2.2 = U at *
 exact BPure.boxBack_w ⟨A0, c0, C, A1, c1, V, A2, c2, B, A3, c3, U⟩ A c b w o1 h1 hc hbb hL2 (BPure.back_ok _ _ wf hbb)
end Go.Proofs.YtdbfgfgbjheibaaDoor
end

section
/- The law BoxBack holds for every input: the walk over its code shows that the call returns true and that what was read stays as it was; the row follows. The package-level tables that the code reads are tied to the program's text by the given tie. -/
namespace Go.Proofs.YtdbfgfgbjheibaaDoor.boxBackRw
open Go.ChangeShapes Go.WideShapes Go.ChangeAt Go.RowKit
open Go.ChangeMaps (open_string shut_string)
open Go.Proofs.YtdbfgfgbjheibaaDoor.Bridge
set_option linter.unusedVariables false
set_option linter.unusedSimpArgs false
theorem own : ownKnob Tryd.prog.godebug = none := by kernel_rfl
theorem laidOut : laidOutB Tryd.prog = true := by kernel_rfl
set_option maxRecDepth 100000 in
theorem contract (H : Type) (enc : TypeId × Value → H) (W : World) (base : Nat) (args : Array Value) (ds gs : List (DataW H)) (before : List MemPlace)
  (hval : ∀ (j : Nat) t v, Tryd.f3.params[j]? = some t → args[j]? = some v → Value.okWide Tryd.prog W .any base t v)
  (hW : DataW.Whole enc Tryd.prog Tryd.f3.params.toList Rows.boxBackSpec.vars false W args.toList ds gs before) (hsz : (DataW.weightsEach Tryd.prog (Tryd.f3.params.toList ++ Rows.boxBackSpec.plain.varTypes Tryd.prog) (ds ++ gs)).all (· ≤ reachBytes) = true) (hL : laidMetH Tryd.prog Rows.boxBackRow.laid W) :
  Calls Tryd.prog 3 args W fun e W' => ∃ v, e = .returned v ∧ Rows.boxBackSpec.post enc Tryd.prog Tryd.f3 false true false false W args v W' := by
 have hW' := hW
 obtain ⟨p, q, hA0, hV, rfl, hfz, hnd⟩ := hW
 have hA : DataW.TrodAll enc Tryd.prog W 0 (fun _ => true) true Tryd.f3.params.toList args.toList ds p := hA0
 rw [Tryd.params3] at hA hval hsz
 obtain ⟨v0, vs0, d0, ds0, p0, q0, hargs, rfl, rfl, h0, r0⟩ := trodAll_cons hA
 obtain ⟨v1, vs1, d1, ds1, p1, q1, rfl, rfl, rfl, h1, r1⟩ := trodAll_cons r0
 obtain ⟨rfl, rfl, rfl⟩ := trodAll_nil r1
 obtain rfl : args = #[v0, v1] := by cases args; simp_all
 obtain ⟨rfl, rfl⟩ := trodVars_none hV
 clear hA0
 have k0 := h0
 have lt0 : ∀ x ∈ p0, x.block < W.heap.size := by obtain ⟨m, hm⟩ := k0; exact DataW.trod_lt m _ _ _ hm
 obtain ⟨cs0, rfl⟩ : ∃ cs, v0 = .agg cs := by
  have z := (hval 0 27 v0 rfl rfl)
  unfold Value.okWide at z
  rw [Tryd.underlying27] at z
  obtain ⟨cs, e, _⟩ := z
  exact ⟨cs, e⟩
 obtain ⟨x0, hk0, wf0⟩ := Rdga.trod BxRow.rd_progW h0
 have k1 := h1
 have lt1 : ∀ x ∈ p1, x.block < W.heap.size := by obtain ⟨m, hm⟩ := k1; exact DataW.trod_lt m _ _ _ hm
 obtain ⟨A1, len1, c1, rfl⟩ := okWide_slice Tryd.underlying28 (hval 1 28 v1 rfl rfl)
 obtain ⟨x1, hk1, wf1⟩ := Rdga.trod rd_octets h1
 obtain ⟨A1', c1', he1, hle1, hC1⟩ := hk1
 simp only [Value.cells, List.cons.injEq, Value.slice.injEq, and_true] at he1
 obtain ⟨rfl, rfl, rfl⟩ := he1
 refine (BoxBack_walk cs0 x0 A1 c1 x1 W hk0 wf0 hC1 hle1 wf1 hL).mono fun e W' ⟨he, bel⟩ => ?_
 subst he
 exact ⟨_, rfl, _, _, _, [], _, [], hW', trodAll_mk1 (shut_bool Tryd.underlying4 _), (trodAll_cons_mk (Below.trod laidOut (by kernel_rfl) (zO (by kernel_rfl)) k0 bel lt0) (trodAll_cons_mk (Below.trod laidOut (by kernel_rfl) (zO (by kernel_rfl)) k1 bel lt1) trodAll_mk0)), rfl, bel.frame _, fun h => by cases h⟩
theorem laid_met (os : Os) : laidMetH Tryd.prog Rows.boxBackRow.laid ((World.doorLaid Tryd.prog 4000 os).forCall (fun _ _ => 0) ⟨#[], #[.agg #[.slice none 0 0, .slice none 0 0, .slice none 0 0, .slice none 0 0], .slice none 0 0], []⟩).memory :=
 laidMetH_of_parts3 (fuel := 12) (laidMet_of_run' 12 (by kernel_rfl) (by kernel_rfl)) (by kernel_rfl) (by kernel_rfl)
theorem reads (os : Os) {H : Type} (enc : TypeId × Value → H) : ∃ ds places, DataW.whole enc Tryd.prog ((World.doorLaid Tryd.prog 4000 os).forCall (fun _ _ => 0) ⟨#[], #[.agg #[.slice none 0 0, .slice none 0 0, .slice none 0 0, .slice none 0 0], .slice none 0 0], []⟩).memory Tryd.f3.params.toList Rows.boxBackSpec.vars false (#[.agg #[.slice none 0 0, .slice none 0 0, .slice none 0 0, .slice none 0 0], .slice none 0 0] : Array Value).toList 8 = some (ds, [], places) :=
 ⟨[.agg [.nil, .nil, .nil, .nil], .nil], [], by kernel_rfl⟩
set_option maxRecDepth 100000 in
theorem lifted (os : Os) (started : os.Started) (H : Type) (enc : TypeId × Value → H) (F : Stop.Interp) :
  ReturnsInHanded {} Tryd.checked os 3 .any ((OpenSpec.ofChange Rows.boxBackSpec).preRow enc Tryd.prog Tryd.f3 Rows.boxBackRow.domain false Rows.boxBackRow.laid) (((OpenSpec.ofChange Rows.boxBackSpec).at F).post enc Tryd.prog Tryd.f3 false true false false) := by
 obtain ⟨ds, places, hx⟩ := reads os enc
 refine returnsInHanded_of_row (C := Tryd.checked) (s := OpenSpec.ofChange Rows.boxBackSpec) own started (by kernel_rfl) Tryd.func3
  (witness_row_at (enc := enc) (C := Tryd.checked) false (World.doorLaid Tryd.prog 4000 os) #[.agg #[.slice none 0 0, .slice none 0 0, .slice none 0 0, .slice none 0 0], .slice none 0 0] rfl (by kernel_rfl) (by kernel_rfl) (by kernel_rfl)
   (OpenSpec.preRow_of_cond 8 hx (by kernel_rfl) (fun k hk => by cases hk) (by kernel_rfl) (laid_met os))) ?_
 intro W base args ds gs before hval hW _ _ hsz hL _ _
 exact contract H enc W base args ds gs before hval hW hsz hL
theorem said : Rows.BoxBackSaid :=
 OpenClaim.holds_of_cond 3 Tryd.f3 rfl rfl rfl rfl rfl rfl rfl ⟨rfl, rfl, rfl, rfl, rfl⟩ rfl rfl rfl rfl rfl (by kernel_rfl) Tryd.func3 (by kernel_rfl)
  (zO (by kernel_rfl)) (by unfold Func.isWrapper; first | (rw [if_pos (by decide +kernel)]; kernel_rfl) | (rw [if_neg (by decide +kernel)]; exact ⟨rfl, rfl⟩))
  (fun os started H enc _ F => by rw [OpenClaim.pre_eq_preRow]; exact lifted os started H enc F)
theorem plain (f : FuncId) (fn : Func) (hf : Tryd.pinned.checked.prog.funcNamed "ladderback/ladderbacklaw16.BoxBack" = some f) (hfn : Tryd.pinned.checked.prog.funcs[f]? = some fn) :
  true = Tryd.pinned.checked.prog.looks [] ∧ ∀ (j : Nat) t, fn.params[j]? = some t → Tryd.pinned.checked.prog.wantsStandIn t = false := by
 obtain rfl : f = 3 := zJ ((show Tryd.prog.funcNamed "ladderback/ladderbacklaw16.BoxBack" = some 3 by kernel_rfl).symm.trans hf) |>.symm
 obtain rfl : fn = Tryd.f3 := (zJ (Tryd.func3.symm.trans hfn)).symm
 refine ⟨by kernel_rfl, fun j t ht => ?_⟩
 rw [Tryd.params3] at ht
 have hm : t ∈ [27, 28] := by simpa using Array.mem_of_getElem? ht
 have hall : ([27, 28].all fun u => !Tryd.prog.wantsStandIn u) = true := by kernel_rfl
 exact (show Tryd.prog.wantsStandIn t = false by simpa using List.all_eq_true.1 hall t hm)
theorem card : Rows.BoxBackCardSaid :=
 Claim7.holds_tied_plain_at .later [] _ _ _ _ said (fun _ h => by cases h) (by kernel_rfl) (fun _ h => by cases h) boxBack_row_tie rfl ⟨rfl, rfl⟩ (by kernel_rfl) rfl plain (by kernel_rfl)
end Go.Proofs.YtdbfgfgbjheibaaDoor.boxBackRw
namespace Go.Proofs.YtdbfgfgbjheibaaDoor
theorem boxBack_holds : Rows.BoxBackCardSaid := boxBackRw.card
#print axioms boxBack_holds
end Go.Proofs.YtdbfgfgbjheibaaDoor
end
