/- Part 1 of the claim's texts. -/
import Derived.Test.YtimfnfifedgooaaProg
import Derived.Laws.CopyOwn
import Derived.Lib.SlBytesConst
import Derived.Deep.QuietTactic
import Derived.BigQuiet
import Derived.IntWalk
import Derived.Test.YtimfnfifedgooaaZOctetReadsaa
section
-- PRINTED BY print.sh 35421559b90ae4d0a3588c463048766b98c2df88dd9212a6774a882060cdf62d: not written by this session
/-! ### 46. Values that share: what is only read, with the blocks it lies in (its footprint 'ok'): Foot, F (a row that is read), FK (an element's cells) -/
namespace Go.Proofs.YtimfnfifedgooaaW.PrintWords
open Go.RowKit
/-- P holds in W and in every world that has W's blocks of ok. -/
def Foot (P : World → Prop) (W : World) (ok : Nat → Prop) : Prop := ∀ W' : World, (∀ k, ok k → k < W.heap.size → W'.heap[k]? = W.heap[k]?) → P W'
theorem heap_lt {W W1 : World} {k : Nat} (h : W1.heap[k]? = W.heap[k]?) (hlt : k < W.heap.size) : k < W1.heap.size := by
  rw [Array.getElem?_eq_getElem hlt] at h
  exact (Array.getElem?_eq_some_iff.1 h).1
namespace Foot
variable {P Q : World → Prop} {W W1 : World} {ok ok' : Nat → Prop}
theorem now (h : Foot P W ok) : P W := h W (fun _ _ _ => rfl)
theorem mono (h : Foot P W ok) (hok : ∀ k, ok k → ok' k) : Foot P W ok' := fun W' hW => h W' (fun k hk hlt => hW k (hok k hk) hlt)
theorem bound (h : Foot P W ok) : Foot P W (fun k => ok k ∧ k < W.heap.size) := fun W' hW => h W' (fun k hk hlt => hW k ⟨hk, hlt⟩ hlt)
theorem step (h : Foot P W ok) (hm : ∀ k, ok k → k < W.heap.size → W1.heap[k]? = W.heap[k]?) : Foot P W1 ok := fun W' hW => h W' (fun k hk hlt => (hW k hk (heap_lt (hm k hk hlt) hlt)).trans (hm k hk hlt))
theorem imp (h : Foot P W ok) (hi : ∀ W', P W' → Q W') : Foot Q W ok := fun W' hW => hi W' (h W' hW)
/-- Moved, and still elder than what is new since W. -/
theorem old (h : Foot P W ok) (hb : Below W.heap.size W W1) : Foot P W1 (fun k => ok k ∧ k < W.heap.size) := (h.bound).step (fun k _ hlt => hb.block k hlt)
end Foot
namespace Kd
/-- A row that is only read: what it leads to lies in ok. -/
def F {α : Type} (d : Kd α) (W : World) (ok : Nat → Prop) (A : Option Addr) (n : Nat) (xs : List α) : Prop := Foot (fun W => d.C W A n xs) W ok
/-- An element's cells: what they lead to lies in ok. -/
def FK {α : Type} (d : Kd α) (W : World) (ok : Nat → Prop) (x : α) (c : List Value) : Prop := Foot (fun W => d.K W x c) W ok
section
variable {α β : Type} {d : Kd α} {e base n n' cc g N : Nat} {ok ok' okp S : Nat → Prop} {w w0 w1 W W1 : World} {A A' : Option Addr} {u v v1 : Value} {xs : List α} {xs' : List β} {d' : Kd β} {x : α} {c : List Value}
end
end Kd
end Go.Proofs.YtimfnfifedgooaaW.PrintWords
end

section
-- PRINTED BY print.sh 35421559b90ae4d0a3588c463048766b98c2df88dd9212a6774a882060cdf62d: not written by this session
/-! ### 47. N: a row of the call's own whose elements share (what they lead to is only read) -/
namespace Go.Proofs.YtimfnfifedgooaaW.PrintWords
open Go.RowKit
namespace Kd
/-- The cells one behind the other, element by element. -/
def chunks (sz : Nat) (n : Nat) (inner : List Value) : List (List Value) := (List.range n).map fun j => (inner.drop (j * sz)).take sz
section
variable {α : Type} {d : Kd α} {e base n cc g : Nat} {ok ok' okp S : Nat → Prop} {w w1 W W1 : World} {A : Option Addr} {u v v1 : Value} {xs : List α} {x : α} {c : List Value}
/-- A row of elements (type e) of the call's own; what the elements lead to is only read, and is not this row. -/
def N {α : Type} (d : Kd α) (e : Nat) (w : World) (base : Nat) (ok : Nat → Prop) (v : Value) (xs : List α) : Prop :=
  (∀ k, v.ownBlock = some k → ok k) ∧ ∃ rows : List (List Value), rows.length = xs.length ∧ (raw d.sz).R e w base (fun k => some k = v.ownBlock) v rows ∧ ∀ (j : Nat) (x : α) (c : List Value), xs[j]? = some x → rows[j]? = some c → FK d w (fun k => ok k ∧ some k ≠ v.ownBlock) x c
end
end Kd
end Go.Proofs.YtimfnfifedgooaaW.PrintWords
end

section
-- PRINTED BY print.sh 35421559b90ae4d0a3588c463048766b98c2df88dd9212a6774a882060cdf62d: not written by this session
/-! ### 48. N's events: append, a whole row appended, zeros appended, literals, make, stores, cuts, an element taken out -/
namespace Go.Proofs.YtimfnfifedgooaaW.PrintWords
open Go.RowKit
namespace Kd
section
variable {α : Type} {d : Kd α} {e base n cap g : Nat} {ok ok' okp : Nat → Prop} {w w1 W : World} {v v1 : Value} {xs ys : List α}
end
section
variable {P : Program} {ops : Array Oper} {rest : List Oper} {o : Oper} {a : Act} {Q : Exit → Act → World → Prop} {Kc : Act → World → Prop} {α : Type}
end
end Kd
end Go.Proofs.YtimfnfifedgooaaW.PrintWords
end

section
-- PRINTED BY print.sh 35421559b90ae4d0a3588c463048766b98c2df88dd9212a6774a882060cdf62d: not written by this session
-- PRINTED WORDS (module Derived/Print/More.lean): go-gate-2's additions: an AI agent of Go's test side, Tue Nov 17 2026; no person has read it. Lean checks it.
namespace Go.Proofs.YtimfnfifedgooaaW.PrintMore
open Go.RowKit Go.Proofs.YtimfnfifedgooaaW.PrintWords
namespace Kd
open Go.Proofs.YtimfnfifedgooaaW.PrintWords.Kd
end Kd

namespace Kd
open Go.Proofs.YtimfnfifedgooaaW.PrintWords.Kd
section
variable {α : Type} {d : Kd α} {e base g N : Nat} {ok : Nat → Prop} {W w1 : World} {u v : Value} {xs : List α}
end
end Kd
/-- 'max' and 'min' of two whole numbers. -/
theorem max2_int (k k' : IntKind) (x y : Int) : Builtin.max2 (.int k x) (.int k' y) = pure (.int k (if x < y then y else x)) := by simp only [Builtin.max2, gt_iff_lt]
theorem min2_int (k k' : IntKind) (x y : Int) : Builtin.min2 (.int k x) (.int k' y) = pure (.int k (if y < x then y else x)) := by simp only [Builtin.min2]
end Go.Proofs.YtimfnfifedgooaaW.PrintMore
namespace Go.Proofs.YtimfnfifedgooaaW.PrintWords
open Go.RowKit
section
variable {P : Program} {ops : Array Oper} {rest : List Oper} {o : Oper} {a : Act} {Q : Exit → Act → World → Prop} {W : World}
/-- The operation is a builtin over these places. -/
theorem gate_builtin {b : Builtin} {xs : Array Operand} {ts : Array TypeId} (_ho : o.op = .call { callee := .builtin b, args := xs, argTypes := ts }) (h : wpList P ops Q (o :: rest) a W) : wpList P ops Q (o :: rest) a W := h
end
/-- The greater of two whole numbers, as Go's max tells it. -/
def mx (a b : Int) : Int := if a < b then b else a
/-- The smaller of two whole numbers, as Go's min tells it. -/
def mn (a b : Int) : Int := if b < a then b else a
/-- A shift to the left, as Go tells it: a count beyond the width leaves nothing. -/
def shl (k : IntKind) (x y : Int) : Int := k.wrap (x * 2 ^ min y.toNat k.bits)
/-- A shift to the right: a count beyond the width leaves the sign. -/
def shr (k : IntKind) (x y : Int) : Int := x / 2 ^ min y.toNat k.bits
namespace Kd
section
variable {α : Type} {d : Kd α} {e base : Nat} {ok : Nat → Prop} {W w1 : World} {v : Value} {xs : List α}
end
section
variable {α : Type} {d : Kd α} {e base g n cap : Nat} {ok oki okp : Nat → Prop} {W : World} {xs : List α} {i : Int} {c : List Value}
end
section
variable {α : Type} {d : Kd α} {e base b b' g N : Nat} {ok ok1 : Nat → Prop} {W W2 w1 : World} {u v : Value} {xs ys : List α} {S : Nat → Prop}
end
end Kd
end Go.Proofs.YtimfnfifedgooaaW.PrintWords
namespace Go.Proofs.YtimfnfifedgooaaW.PrintWords
open Go.RowKit
namespace Kd
/-- A row that is only read, told by its value: its form, its length, what it leads to (in ok). e and base say nothing; they make it as the others are. -/
def V {α : Type} (d : Kd α) (_e : Nat) (W : World) (_base : Nat) (ok : Nat → Prop) (v : Value) (xs : List α) : Prop := ∃ A c, v = .slice A xs.length c ∧ xs.length ≤ c ∧ F d W ok A xs.length xs
section
variable {α β : Type} {d : Kd α} {e base base' n m c g N' lo hi : Nat} {ok ok' S : Nat → Prop} {w W w1 : World} {A : Option Addr} {ad : Addr} {u v v1 : Value} {xs : List α}
end
end Kd
end Go.Proofs.YtimfnfifedgooaaW.PrintWords
end

section
/- Contracts of octet.Put and octet.Text: what they append to any bytes, if these are at most 1000000000 long. -/
namespace Go.Proofs.Ytimfnfifedgooaa.Given
set_option linter.unusedVariables false
open Go.RowKit Go.Proofs.YtimfnfifedgooaaW.PrintWords Go.Proofs.YtimfnfifedgooaaW.PrintLast Go.Proofs.YtimfnfifedgooaaW.PrintMore
attribute [local go_sem] max2_int min2_int
def sh : Nat → Int → Int
  | 0, v => v
  | n + 1, v => sh n v / 256
def le : Nat → Int → List Int
  | 0, _ => []
  | n + 1, v => le n v ++ [sh n v % 256]
theorem le_length : ∀ n v, (le n v).length = n
  | 0, _ => rfl
  | n + 1, v => by simp [le, le_length n v]
/-- make([]T, n, c) of whole numbers. -/
theorem make_lc {P : Program} (t e : TypeId) (k : IntKind) (bytes : Nat) (ht : P.underlying t = some (.slice e)) (hinfo : (P.info? e).map (fun i => (i.zero, i.size, i.bytes)) = some (some (.int k 0), 1, bytes))
    (n m : Nat) (c : Int) (hc : c = (m : Int)) (hnm : n ≤ m) (hb : bytes * m ≤ 281474976710656) (h63 : m ≤ 9223372036854775807) (W : World) :
    (Instr.makeSlice t (.int .i64 (n : Int)) (.int .i64 c)).run P W = .ok (.slice (some ⟨W.heap.size, 0, none⟩) n m) (W.alloc (.cells (madeCells #[.int k 0] m) e)) := by
  subst hc
  obtain ⟨i0, hi, hz0, hz1, hz2⟩ := info_parts hinfo
  have := run_make (P := P) (w := W) t e i0 (.int k 0) ht hi hz0 .i64 .i64 (n : Int) (m : Int) (by omega) (by omega) (by rw [hz2, (Int.natCast_mul bytes m).symm]; omega) (by omega)
  rw [this, hz1]
  simp [Value.cells]
theorem own_copied {W : World} {base g n m : Nat} {e : TypeId} {k : IntKind} {Z : List Value} {xs : List Int} (hZ : Z.length = m) (hx : xs.length = n) (hnm : n ≤ m) (hm : m ≤ 9223372036854775807) (hb : base ≤ g)
    (h : W.heap[g]? = some (.cells (splice Z 0 (nums k xs)).toArray e (0, 0))) : W.ownsRow base e 1 (.slice (some ⟨g, 0, none⟩) n m) n (nums k xs) := by
  have hl : (splice Z 0 (nums k xs)).length = m := by rw [length_splice, hZ]; rw [nums_length]; omega
  refine ⟨by rw [nums_length]; omega, .inr ⟨g, m, _, rfl, hb, h, hnm, by unfold maxLen; omega, by rw [List.size_toArray, hl, Nat.mul_one], ?_⟩⟩
  simp [splice, hx, nums_length]
theorem infoU8 : (Try.prog.info? 5).map (fun i => (i.zero, i.size, i.bytes)) = some (some (.int .u8 0), 1, 1) := by kernel_rfl
theorem sizeU8 : (Try.prog.info? 5).map (·.size) = some 1 := by kernel_rfl
theorem nums_one (k : IntKind) (xs : List Int) : ∀ v ∈ nums k xs, v.oneCell' = true := by
  intro v hv
  obtain ⟨x, _, rfl⟩ := List.mem_map.1 hv
  rfl
theorem C_cells {k : IntKind} {w : World} {A : Option Addr} {n : Nat} {xs : List Int} (h : Kd.C (Kd.int k) w A n xs) (hn : 0 < n) : ∃ ad, A = some ad ∧ ∀ j v, (nums k xs)[j]? = some v → w.cell? (ad.add j) = some v := by
  have hl := h.1
  obtain ⟨ad, e, hc⟩ := h.2.2 hn
  refine ⟨ad, e, fun j v hv => ?_⟩
  have hj : j < xs.length := by
    have := (List.getElem?_eq_some_iff.1 hv).1
    rwa [nums_length] at this
  obtain ⟨c, _, hK, hcell⟩ := hc j _ (List.getElem?_eq_getElem hj)
  have hK' : c = [Value.int k xs[j]] := hK
  subst hK'
  have := hcell 0 _ rfl
  simp [nums, List.getElem?_eq_getElem hj] at hv
  subst hv
  simpa [Kd.int, Kd.scalar] using this
set_option maxHeartbeats 1000000 in
theorem octet_Put_calls (A0 : Option Addr) (c0 : Nat) (l0 : List Int) (a1 a2 : Int) (n : Nat) (w : World) (hr0 : Kd.C (Kd.int .u8) w A0 l0.length l0) (hn : mx 0 (mn a1 8) = n) (hl : l0.length ≤ 1000000000) :
    Calls Try.prog 16 #[.slice A0 l0.length c0, .int .i64 a1, .int .i64 a2] w fun e w' => ∃ v0_ : Value, e = .returned v0_ ∧ Kd.R (Kd.int .u8) 5 w' w.heap.size (fun _ => True) v0_ (l0 ++ le n a2) ∧ Below w.heap.size w w' := by
  obtain ⟨Z, hZ⟩ : ∃ Z : List Value, Z.toArray = madeCells #[.int .u8 0] (l0.length + 8) := ⟨_, Array.toArray_toList⟩
  have hZs : Z.length = l0.length + 8 := by have := congrArg Array.size hZ; simpa [size_madeCells] using this
  have hmk := make_lc (P := Try.prog) 22 5 .u8 1 Try.underlying22 infoU8 l0.length (l0.length + 8) ((l0.length : Int) + 8) (by omega) (by omega) (by omega) (by omega)
  rw [← hZ] at hmk
  have hn8 : n ≤ 8 := by unfold mx mn at hn; split at hn <;> split at hn <;> omega
  obtain ⟨M, hM⟩ : ∃ M : Int, (if (8 : Int) < a1 then 8 else a1) = M := ⟨_, rfl⟩
  have hN : (if (0 : Int) < M then M else 0) = (n : Int) := by rw [← hM]; exact hn
  have HZ := Aside0.mk hZs
  clear hZ hZs
  have HC := Aside0.mk hr0
  clear hn hr0
  go_enter Try.func16, Try.ntmps16
  go_wp2_with ((with_reducible refine wpList_copy_splice rfl (.tmp 14) (.tmp 15) 22 22 rfl 5 Try.underlying22 sizeU8 (some ⟨w.heap.size, 0, none⟩) A0 l0.length (l0.length + 8) l0.length c0 rfl rfl w.heap.size 0 Z 5 ?hg (nums .u8 l0) ?hn ?hpos ?hfit (nums_one _ _) w.heap.size w ((Below.refl _ _).alloc (Nat.le_refl _) _) (Nat.le_refl _) ?_); rotate_left 4; intro w2 HG HB2; have HO := Aside0.mk (own_copied (base := w.heap.size) HZ.out rfl (Nat.le_add_right _ 8) (by omega) (Nat.le_refl _) HG.out); clear HG)
  case hg => exact heap_alloc_new w _
  case hpos =>
    intro hp
    have hx := C_cells (Kd.C_below HC.out ((Below.refl _ _).alloc (Nat.le_refl _) (.cells Z.toArray 5))) (by rwa [nums_length] at hp)
    first | exact ⟨rfl, hx⟩ | exact hx
  case hn => (simp [nums_length])
  case hfit => (have h1 := HZ.out; have h2 := nums_length .u8 l0; omega)
  clear hM hN hmk
  have HL := Aside0.mk hl
  go_loopw [2, 7, 20] (fun x v i wr => ∃ j : Nat, j ≤ n ∧ i = .int .i64 j ∧ x = .int .i64 (sh j a2) ∧ Aside0 (wr.ownsRow w.heap.size 5 1 v (l0 ++ le j a2).length (nums .u8 (l0 ++ le j a2))) ∧ Aside0 (Below w.heap.size w wr)) (fun _ _ i _ => n - (intOf i).toNat)
  case atStart => exact ⟨0, Nat.zero_le _, rfl, rfl, ⟨by simpa [le] using HO.out⟩, ⟨HB2⟩⟩
  case round =>
    clear HO HB2
    obtain ⟨j, hj, rfl, rfl, HO, HB⟩ := hrel
    by_cases hlt : j < n
    · go_wp2_with ((at_builtin; refine print_append_num w.heap.size rfl (.tmp 22) (.tmp 25) 22 5 .u8 1 rfl Try.underlying22 infoU8 (by omega) _ (l0 ++ le j a2) _ rfl rfl HO.out HB.out HB.out.size ?hl ?_); (case hl => rw [List.length_append, le_length]; have := HL.out; omega); intro v1 w1 ho hb _ _; have HO1 := Aside0.mk ho; have HB1 := Aside0.mk hb; clear ho hb)
      exact ⟨⟨j + 1, by omega, by go_num, rfl, ⟨by simpa [le, List.append_assoc] using HO1.out⟩, HB1⟩, by simp [intOf]; omega⟩
    · go_wp2
      go_ret
      have : j = n := by omega
      subst this
      exact ⟨_, rfl, Kd.R_of_own HO.out (fun _ _ => trivial), HB.out⟩
/-- The bytes behind l0: as many of a2's as are asked, at most eight. -/
def octet_Put.f (l0 : List Int) (a1 a2 : Int) : Option (List Int) := if l0.length ≤ 1000000000 then some (l0 ++ le (mx 0 (mn a1 8)).toNat a2) else none
theorem mx_nat (a1 : Int) : mx 0 (mn a1 8) = ((mx 0 (mn a1 8)).toNat : Int) := by
  have : 0 ≤ mx 0 (mn a1 8) := by unfold mx; split <;> omega
  omega
theorem octet_Put.calls (A0 : Option Addr) (c0 : Nat) (l0 : List Int) (a1 : Int) (a2 : Int) (r : List Int) (w : World) (hr0 : Kd.C (Kd.int .u8) w A0 l0.length l0) (hc0 : l0.length ≤ c0) (h : octet_Put.f l0 a1 a2 = some r) :
    Calls Try.prog 16 #[.slice A0 l0.length c0, .int .i64 a1, .int .i64 a2] w fun e w' => ∃ v0_ : Value, e = .returned (v0_) ∧ Kd.R (Kd.int .u8) 5 w' w.heap.size (fun _ => True) v0_ r ∧ Below w.heap.size w w' := by
  unfold octet_Put.f at h
  split at h
  · rename_i hl
    injection h with h
    subst h
    exact octet_Put_calls A0 c0 l0 a1 a2 _ w hr0 (mx_nat a1) hl
  · cases h
/-- What a text's bytes are: as many as go into a byte's number. -/
def textOf (s : ByteArray) : ByteArray := s.extract 0 (min s.size 255)
theorem C_const {k : IntKind} (w : World) (e : TypeId) (xs : List Int) (fr : Nat × Nat) (hm : xs.length ≤ 9223372036854775807) : Kd.C (Kd.int k) (w.alloc (.cells (nums k xs).toArray e fr)) (some ⟨w.heap.size, 0, none⟩) xs.length xs := by
  refine ⟨rfl, hm, fun _ => ⟨_, rfl, fun j p hj => ⟨[.int k p], rfl, rfl, fun i u hu => ?_⟩⟩⟩
  have hi : i = 0 := by
    have := (List.getElem?_eq_some_iff.1 hu).1
    simp at this; omega
  subst hi
  simp at hu
  subst hu
  have : ((⟨w.heap.size, 0, none⟩ : Addr).add (j * (Kd.int k).sz + 0)) = ⟨w.heap.size, j, none⟩ := by rw [show j * (Kd.int k).sz + 0 = j from by simp [Kd.int, Kd.scalar]]; exact add_plain _ _
  rw [this]
  have hh : (w.alloc (.cells (nums k xs).toArray e fr)).heap[w.heap.size]? = some (.cells (nums k xs).toArray e fr) := heap_alloc_new w _
  unfold World.cell?
  simp only [hh]
  simp [nums, hj]
end Go.Proofs.Ytimfnfifedgooaa.Given
end

section
/- A reader of octets in memory, as the program's: what printed texts ask of it; no conditions. -/
namespace Go.Proofs.Ytimfnfifedgooaa.Given
set_option linter.unusedVariables false
open Go.RowKit Go.Proofs.YtimfnfifedgooaaW.PrintWords Go.Proofs.YtimfnfifedgooaaW.PrintLast Go.Proofs.YtimfnfifedgooaaW.PrintMore
/-- The cells of a reader: its bytes came by w0, and it's not past its end. -/
def CsR (w0 : World) (cs : Array Value) (f0 : List Int) (f1 : Int) (f2 : Bool) : Prop := ∃ a c, cs = #[.slice (some a) f0.length c, .int .i64 f1, .bool f2] ∧ Kd.C (Kd.int .u8) w0 (some a) f0.length f0 ∧ f0.length ≤ c ∧ 0 ≤ f1 ∧ f1 ≤ f0.length
/-- A state of this type at block g of W. -/
def IsS39 (w0 W : World) (g : Nat) (f0 : List Int) (f1 : Int) (f2 : Bool) : Prop := ∃ cs, W.heap[g]? = some (.cells cs 39 (0, 0)) ∧ w0.heap.size ≤ g ∧ CsR w0 cs f0 f1 f2
theorem IsS39.grown {w0 W : World} {g : Nat} {f0 : List Int} {f1 : Int} {f2 : Bool} {W1 : World} {row : Option Nat} (h : IsS39 w0 W g f0 f1 f2) (hw : W.grownBy W1 row) (hne : some g ≠ row) : IsS39 w0 W1 g f0 f1 f2 := by
  obtain ⟨cs, hb, hg, hx⟩ := h
  exact ⟨cs, blk_grown hb hw hne, hg, hx⟩
theorem IsS39.kept {w0 W : World} {g : Nat} {f0 : List Int} {f1 : Int} {f2 : Bool} {W1 : World} {S : Nat → Prop} (h : IsS39 w0 W g f0 f1 f2) (hk : Kept W W1 S) (hne : ¬ S g) : IsS39 w0 W1 g f0 f1 f2 := by
  obtain ⟨cs, hb, hg, hx⟩ := h
  exact ⟨cs, blk_kept hb hk hne, hg, hx⟩
theorem IsS39.below {w0 W : World} {g : Nat} {f0 : List Int} {f1 : Int} {f2 : Bool} {W1 : World} (h : IsS39 w0 W g f0 f1 f2) (hw : Below W.heap.size W W1) : IsS39 w0 W1 g f0 f1 f2 := h.grown (grown_of_below hw none) (by simp)
theorem IsS39.alloc {w0 W : World} {g : Nat} {f0 : List Int} {f1 : Int} {f2 : Bool} (h : IsS39 w0 W g f0 f1 f2) (o : Obj) : IsS39 w0 (W.alloc o) g f0 f1 f2 := h.below (below_alloc (Below.refl _ _) o)
theorem IsS39.drewN {w0 W : World} {g : Nat} {f0 : List Int} {f1 : Int} {f2 : Bool} (h : IsS39 w0 W g f0 f1 f2) (m : Nat) : IsS39 w0 (W.drewN m) g f0 f1 f2 := h
theorem IsS39.drew {w0 W : World} {g : Nat} {f0 : List Int} {f1 : Int} {f2 : Bool} (h : IsS39 w0 W g f0 f1 f2) : IsS39 w0 W.drew g f0 f1 f2 := h
theorem IsS39.at_ {w0 W : World} {g : Nat} {f0 : List Int} {f1 : Int} {f2 : Bool} {w' : World} {m : Nat} (hq : W.drewN m = w') (h : IsS39 w0 W g f0 f1 f2) : IsS39 w0 w' g f0 f1 f2 := by subst hq; exact IsS39.drewN h m
theorem IsS39.apart {w0 W : World} {g : Nat} {f0 : List Int} {f1 : Int} {f2 : Bool} {α : Type} {d : Kd α} {e : Nat} {base : Nat} {ok : Nat → Prop} {v : Value} {xs : List α} (h : IsS39 w0 W g f0 f1 f2) (ho : d.R e W base ok v xs) (ht : ∀ q, q ∈ e :: d.E → q ≠ 39) : d.R e W base (fun k => ok k ∧ k ≠ g) v xs := by
  obtain ⟨cs, hb, hg, hx⟩ := h
  exact Kd.R_types ho hb ht
theorem IsS39.own_ne {w0 W : World} {g : Nat} {f0 : List Int} {f1 : Int} {f2 : Bool} {α : Type} {d : Kd α} {e : Nat} {base : Nat} {ok : Nat → Prop} {v : Value} {xs : List α} (h : IsS39 w0 W g f0 f1 f2) (ho : d.R e W base ok v xs) (ht : e ≠ 39) : some g ≠ v.ownBlock := by
  obtain ⟨cs, hb, hg, hx⟩ := h
  exact Kd.R_ne ho hb ht
theorem IsS39.lt {w0 W : World} {g : Nat} {f0 : List Int} {f1 : Int} {f2 : Bool} (h : IsS39 w0 W g f0 f1 f2) : g < W.heap.size := by
  obtain ⟨cs, hb, hg, hx⟩ := h
  exact blk_lt hb
theorem IsS39.far {w0 W : World} {g : Nat} {f0 : List Int} {f1 : Int} {f2 : Bool} {p : Addr} (h : IsS39 w0 W g f0 f1 f2) (hne : g ≠ p.block) (u : Value) : IsS39 w0 (W.setCell p u) g f0 f1 f2 := by
  obtain ⟨cs, hb, hg, hx⟩ := h
  exact ⟨cs, blk_far hb hne u, hg, hx⟩
end Go.Proofs.Ytimfnfifedgooaa.Given
end

section
/- The reader of octets, as the program reads: the next bytes of a reader; any reader that is not past its end. -/
namespace Go.Proofs.Ytimfnfifedgooaa.Given
set_option linter.unusedVariables false
set_option linter.unusedSimpArgs false
open Go.RowKit Go.Proofs.YtimfnfifedgooaaW.PrintWords Go.Proofs.YtimfnfifedgooaaW.PrintLast Go.Proofs.YtimfnfifedgooaaW.PrintMore
set_option maxHeartbeats 1000000 in
theorem next_ok (g : Nat) (w0 w : World) (b : List Int) (at_ : Int) (n : Int) (hI : IsS39 w0 w g b at_ false) (hB : Below w0.heap.size w0 w) (h0 : 0 ≤ n) (h1 : n ≤ b.length - at_) :
    Calls Try.prog 17 #[.pointer (some ⟨g, 0, none⟩), .int .i64 n] w fun e w' =>
      (∃ A c, e = .returned (.tuple #[.slice (some A) n.toNat c, .bool true]) ∧ Kd.C (Kd.int .u8) w0 (some A) n.toNat ((b.drop at_.toNat).take n.toNat) ∧ n.toNat ≤ c ∧ IsS39 w0 w' g b (at_ + n) false) ∧ Below w0.heap.size w0 w' ∧ KeepBut w w' g none := by
  obtain ⟨_, hb, hg, a, c, rfl, hr, hc, ha0, ha1⟩ := hI
  have c0 : w.cell? ⟨g, 0, none⟩ = some (.slice (some a) b.length c) := (blk_cell hb 0).trans rfl
  have c1 : w.cell? ⟨g, 1, none⟩ = some (.int .i64 at_) := (blk_cell hb 1).trans rfl
  have c2 : w.cell? ⟨g, 2, none⟩ = some (.bool false) := (blk_cell hb 2).trans rfl
  have hbl : b.length ≤ 9223372036854775807 := hr.2.1
  have hK := KeepBut.refl w g none
  have f1 := blk_frozen hb 1
  have f2 := blk_frozen hb 2
  have d0 : decide (n < 0) = false := decide_eq_false (by omega)
  have hw : IntKind.i64.wrap ((b.length : Int) - at_) = (b.length : Int) - at_ := IntWalk.i64_in _ (by omega)
  have d1 : decide ((b.length : Int) - at_ < n) = false := decide_eq_false (by omega)
  go_enter Try.func17, Try.ntmps17
  go_wp2_with fail
  go_quiet (fail)
  go_wp2_with fail
  obtain ⟨W1, hW1⟩ : ∃ W1, W1 = (w.drewN nq).setCell ⟨g, 1, none⟩ (.int .i64 (at_ + n)) := ⟨_, rfl⟩
  have hb1 : W1.heap[g]? = some (.cells #[.slice (some a) b.length c, .int .i64 (at_ + n), .bool false] 39 (0, 0)) := by rw [hW1]; exact blk_put (w := w.drewN nq) hb 1 _ rfl
  have hB1 : Below w0.heap.size w0 W1 := by rw [hW1]; exact below_set (pw_below_drewN hB nq) hg
  have hK1 : KeepBut w W1 g none := by rw [hW1]; exact KeepBut.set_ (keep_drewN hK nq) 1 _
  rw [← hW1]
  have hl := Kd.C_mid (k := Kd.int .u8) (lo := at_.toNat) (hi := (at_ + n).toNat) (c := c) hr (by omega) (by omega) hc
  have he : (b.take (at_ + n).toNat).drop at_.toNat = (b.drop at_.toNat).take n.toNat := by rw [List.drop_take]; congr 1; omega
  have hle : ((b.drop at_.toNat).take n.toNat).length = n.toNat := by simp; omega
  rw [he, hle] at hl
  have hnn : (at_ + n).toNat - at_.toNat = n.toNat := by omega
  have hl := Aside0.mk hl
  have hnn := Aside0.mk hnn
  clear hW1 c0 c1 c2 f1 f2 hb hK d0 d1 hw he hle
  have c0 : W1.cell? ⟨g, 0, none⟩ = some (.slice (some a) b.length c) := (blk_cell hb1 0).trans rfl
  have c1 : W1.cell? ⟨g, 1, none⟩ = some (.int .i64 (at_ + n)) := (blk_cell hb1 1).trans rfl
  have hs : IntKind.i64.wrap (at_ + n - n) = at_ := by rw [show at_ + n - n = at_ by omega]; exact IntWalk.i64_in _ (by omega)
  have s1 : at_ ≤ at_ + n := by omega
  have s2 : at_ + n ≤ (c : Int) := by omega
  go_quiet (fail)
  go_wp2_with fail
  · go_ret2
    rename_i h
    have hl := hl.out
    rw [if_pos h] at hl
    refine ⟨⟨a, 0, ?_, hl, by omega, _, hb1, hg, a, c, rfl, hr, hc, by omega, by omega⟩, pw_below_drewN hB1 _, keep_drewN hK1 _⟩
    rw [← hnn.out]
    rfl
  · go_ret2
    rename_i h
    have hl := hl.out
    rw [if_neg h, show at_.toNat * (Kd.int .u8).sz = at_.toNat from Nat.mul_one _] at hl
    refine ⟨⟨a.add at_.toNat, c - at_.toNat, ?_, hl, by omega, _, hb1, hg, a, c, rfl, hr, hc, by omega, by omega⟩, pw_below_drewN hB1 _, keep_drewN hK1 _⟩
    rw [← hnn.out]
    rfl
set_option maxHeartbeats 1000000 in
theorem next_bad (g : Nat) (w0 w : World) (b : List Int) (at_ : Int) (bad : Bool) (n : Int) (hI : IsS39 w0 w g b at_ bad) (hB : Below w0.heap.size w0 w) (h : ¬ (bad = false ∧ 0 ≤ n ∧ n ≤ b.length - at_)) :
    Calls Try.prog 17 #[.pointer (some ⟨g, 0, none⟩), .int .i64 n] w fun e w' =>
      (e = .returned (.tuple #[.slice none 0 0, .bool false]) ∧ IsS39 w0 w' g b at_ true) ∧ Below w0.heap.size w0 w' ∧ KeepBut w w' g none := by
  obtain ⟨_, hb, hg, a, c, rfl, hr, hc, ha0, ha1⟩ := hI
  have c0 : w.cell? ⟨g, 0, none⟩ = some (.slice (some a) b.length c) := (blk_cell hb 0).trans rfl
  have c1 : w.cell? ⟨g, 1, none⟩ = some (.int .i64 at_) := (blk_cell hb 1).trans rfl
  have c2 : w.cell? ⟨g, 2, none⟩ = some (.bool bad) := (blk_cell hb 2).trans rfl
  have hbl : b.length ≤ 9223372036854775807 := hr.2.1
  have hK := KeepBut.refl w g none
  have f1 := blk_frozen hb 1
  have f2 := blk_frozen hb 2
  cases bad
  · by_cases h0 : n < 0
    · have d0 : decide (n < 0) = true := decide_eq_true h0
      go_enter Try.func17, Try.ntmps17
      go_wp2_with fail
      go_quiet (fail)
      go_wp2_with fail
      go_ret2
      exact ⟨⟨rfl, _, blk_put (w := w.drewN nq) hb 2 _ rfl, hg, a, c, rfl, hr, hc, ha0, ha1⟩, below_set (pw_below_drewN hB nq) hg, KeepBut.set_ (keep_drewN hK nq) 2 _⟩
    · have d0 : decide (n < 0) = false := decide_eq_false h0
      have hw : IntKind.i64.wrap ((b.length : Int) - at_) = (b.length : Int) - at_ := IntWalk.i64_in _ (by omega)
      have d1 : decide ((b.length : Int) - at_ < n) = true := decide_eq_true (by by_cases h1 : n ≤ b.length - at_; exact absurd ⟨rfl, by omega, h1⟩ h; omega)
      go_enter Try.func17, Try.ntmps17
      go_wp2_with fail
      go_quiet (fail)
      go_wp2_with fail
      go_ret2
      exact ⟨⟨rfl, _, blk_put (w := w.drewN nq) hb 2 _ rfl, hg, a, c, rfl, hr, hc, ha0, ha1⟩, below_set (pw_below_drewN hB nq) hg, KeepBut.set_ (keep_drewN hK nq) 2 _⟩
  · go_enter Try.func17, Try.ntmps17
    go_wp2_with fail
    go_ret2
    exact ⟨⟨rfl, _, hb, hg, a, c, rfl, hr, hc, ha0, ha1⟩, hB, hK⟩
end Go.Proofs.Ytimfnfifedgooaa.Given
end

section
/- The reader of octets, as the program reads: a number, bytes, a text; any reader that is not past its end. -/
namespace Go.Proofs.Ytimfnfifedgooaa.Given
set_option linter.unusedVariables false
set_option linter.unusedSimpArgs false
open Go.RowKit Go.Proofs.YtimfnfifedgooaaW.PrintWords Go.Proofs.YtimfnfifedgooaaW.PrintLast Go.Proofs.YtimfnfifedgooaaW.PrintMore
attribute [local go_sem] max2_int min2_int
/-- The number whose bytes are l, the least first. -/
def leN : List Int → Int
  | [] => 0
  | x :: xs => x + 256 * leN xs
theorem leN_app (xs : List Int) (x : Int) : leN (xs ++ [x]) = leN xs + x * 2 ^ (8 * xs.length) := by
  induction xs with
  | nil => simp [leN]
  | cons y ys ih =>
    simp only [List.cons_append, leN, ih, List.length_cons]
    rw [show 8 * (ys.length + 1) = 8 * ys.length + 8 by omega, Int.pow_add, Int.mul_add, Int.add_assoc]
    congr 2
    rw [show (2 : Int) ^ 8 = 256 from rfl, Int.mul_comm 256, Int.mul_assoc]
theorem leN_lim (xs : List Int) (h : ∀ x ∈ xs, 0 ≤ x ∧ x < 256) : 0 ≤ leN xs ∧ leN xs < 2 ^ (8 * xs.length) := by
  induction xs with
  | nil => simp [leN]
  | cons y ys ih =>
    have h1 := h y (by simp)
    have h2 := ih (fun x hx => h x (by simp [hx]))
    simp only [leN, List.length_cons]
    rw [show 8 * (ys.length + 1) = 8 * ys.length + 8 by omega, Int.pow_add, show (2 : Int) ^ 8 = 256 from rfl]
    generalize (2 : Int) ^ (8 * ys.length) = p at *
    omega
theorem ofInt64 (n : Nat) (h : n < 2 ^ 64) : (BitVec.ofInt 64 (n : Int)).toNat = n := by
  rw [BitVec.toNat_ofInt]
  omega
theorem or_add (n x k : Nat) (hn : n < 2 ^ k) (h : x * 2 ^ k + n < 2 ^ 64) : Go.bits .or .u64 (n : Int) ((x * 2 ^ k : Nat) : Int) = ((n + x * 2 ^ k : Nat) : Int) := by
  have e : n ||| x * 2 ^ k = n + x * 2 ^ k := by
    rw [Nat.or_comm, Nat.mul_comm, ← Nat.two_pow_add_eq_or_of_lt hn, Nat.add_comm]
  show IntKind.u64.wrap ((BitVec.ofInt 64 (n : Int) ||| BitVec.ofInt 64 ((x * 2 ^ k : Nat) : Int)).toNat : Int) = _
  rw [BitVec.toNat_or, ofInt64 n (by omega), ofInt64 _ (by omega), e]
  show ((n + x * 2 ^ k : Nat) : Int) % 18446744073709551616 = _
  omega
theorem or_step (v x : Int) (j : Nat) (hj : j < 8) (hv : 0 ≤ v ∧ v < 2 ^ (8 * j)) (hx : 0 ≤ x ∧ x < 256) : Go.bits .or .u64 v (IntKind.u64.wrap (x * 2 ^ (8 * j))) = v + x * 2 ^ (8 * j) := by
  obtain ⟨n, rfl⟩ := Int.eq_ofNat_of_zero_le hv.1
  obtain ⟨y, rfl⟩ := Int.eq_ofNat_of_zero_le hx.1
  have hn : n < 2 ^ (8 * j) := by have := hv.2; exact_mod_cast this
  have hy : y < 256 := by omega
  have hp : y * 2 ^ (8 * j) + n < 2 ^ 64 := by
    have h2 : 2 ^ (8 * j) * 2 ^ (64 - 8 * j) = 2 ^ 64 := by rw [← Nat.pow_add]; congr 1; omega
    have h3 : 256 ≤ 2 ^ (64 - 8 * j) := by
      have : 2 ^ 8 ≤ 2 ^ (64 - 8 * j) := Nat.pow_le_pow_right (by omega) (by omega)
      simpa using this
    have h4 : 2 ^ (8 * j) * 256 ≤ 2 ^ 64 := by rw [← h2]; exact Nat.mul_le_mul_left _ h3
    have h5 : (y + 1) * 2 ^ (8 * j) ≤ 2 ^ (8 * j) * 256 := by rw [Nat.mul_comm]; exact Nat.mul_le_mul_left _ (by omega)
    rw [Nat.add_mul] at h5
    omega
  have e2 : (y : Int) * 2 ^ (8 * j) = ((y * 2 ^ (8 * j) : Nat) : Int) := by push_cast; rfl
  have e3 : IntKind.u64.wrap ((y * 2 ^ (8 * j) : Nat) : Int) = ((y * 2 ^ (8 * j) : Nat) : Int) := by
    show ((y * 2 ^ (8 * j) : Nat) : Int) % 18446744073709551616 = _
    omega
  show Go.bits .or .u64 (n : Int) (IntKind.u64.wrap ((y : Int) * 2 ^ (8 * j))) = (n : Int) + (y : Int) * 2 ^ (8 * j)
  rw [e2, e3, or_add n y _ hn hp]
  push_cast
  rfl
set_option maxHeartbeats 1000000 in
theorem num_ok (g : Nat) (w0 w : World) (b : List Int) (at_ : Int) (many m : Int) (hm : mx 0 (mn many 8) = m) (L : List Int) (hL : L = (b.drop at_.toNat).take m.toNat) (hI : IsS39 w0 w g b at_ false) (hB : Below w0.heap.size w0 w) (h1 : m ≤ b.length - at_) (hb : ∀ x ∈ b, 0 ≤ x ∧ x < 256) :
    Calls Try.prog 6 #[.pointer (some ⟨g, 0, none⟩), .int .i64 many] w fun e w' =>
      (e = .returned (.int .i64 (wrap64 (leN L))) ∧ IsS39 w0 w' g b (at_ + m) false) ∧ Below w0.heap.size w0 w' ∧ KeepBut w w' g none := by
  obtain ⟨M, hM⟩ : ∃ M : Int, (if (8 : Int) < many then 8 else many) = M := ⟨_, rfl⟩
  have hN : (if (0 : Int) < M then M else 0) = m := by rw [← hM, ← hm]; unfold mx mn; (repeat' split) <;> omega
  have hm0 : 0 ≤ m := by rw [← hN]; split <;> omega
  have hm8 : m ≤ 8 := by rw [← hN, ← hM]; (repeat' split) <;> omega
  go_enter Try.func6, Try.ntmps6
  go_wp2_with fail
  refine (next_ok g w0 _ b at_ m hI hB hm0 h1).mono ?_
  rintro e w1 ⟨⟨A, c, rfl, hC, hc, hI1⟩, hB1, hK1⟩
  go_wp2_with fail
  rw [← hL] at hC
  have hlen : L.length = m.toNat := by have := hC.1; omega
  have hcells : ∀ j : Nat, ∀ h : j < L.length, w1.cell? (A.add j) = some (.int .u8 L[j]) := by
    intro j h
    obtain ⟨ad, e, hc⟩ := C_cells (Kd.C_below hC hB1) (by omega)
    cases e
    exact hc j _ (by simp [nums, h])
  have hrange : ∀ x ∈ L, 0 ≤ x ∧ x < 256 := by
    intro x hx
    rw [hL] at hx
    exact hb x (List.mem_of_mem_drop (List.mem_of_mem_take hx))
  have HL := Aside0.mk hrange
  have HN := Aside0.mk hlen
  clear hM hN hm h1 hL hb hrange hlen
  go_loopw [7, 22] (fun x i wr => ∃ j : Nat, j ≤ m.toNat ∧ i = .int .i64 j ∧ x = .int .u64 (leN (L.take j)) ∧ wr = w1) (fun _ i _ => m.toNat - (intOf i).toNat)
  case atStart => exact ⟨0, Nat.zero_le _, rfl, rfl, rfl⟩
  case round =>
    obtain ⟨j, hj, rfl, rfl, rfl⟩ := hrel
    by_cases hlt : j < m.toNat
    · have hlj : j < L.length := by have := HN.out; omega
      have hlen := HN.out
      have hce := hcells j hlj
      have hx := HL.out _ (List.getElem_mem hlj)
      have ht : leN (L.take j) + L[j] * 2 ^ (8 * j) = leN (L.take (j + 1)) := by
        rw [List.take_succ_eq_append_getElem (by omega), leN_app, List.length_take, Nat.min_eq_left (by omega)]
      have hv := leN_lim (L.take j) (fun x h => HL.out x (List.mem_of_mem_take h))
      rw [List.length_take, Nat.min_eq_left (by omega)] at hv
      have ho := Aside0.mk (or_step (leN (L.take j)) L[j] j (by omega) hv hx)
      have ht := Aside0.mk ht
      clear hv
      clear hlen
      go_wp2_with fail
      refine ⟨⟨j + 1, by omega, rfl, ?_, trivial⟩, by simp [intOf]; omega⟩
      rw [ho.out, ht.out]
    · go_wp2_with fail
      go_ret
      have : j = L.length := by have := HN.out; omega
      subst this
      rw [List.take_length] at *
      exact ⟨⟨rfl, hI1⟩, hB1, hK1⟩
set_option maxHeartbeats 1000000 in
theorem num_bad (g : Nat) (w0 w : World) (b : List Int) (at_ : Int) (bad : Bool) (many m : Int) (hm : mx 0 (mn many 8) = m) (hI : IsS39 w0 w g b at_ bad) (hB : Below w0.heap.size w0 w) (h : ¬ (bad = false ∧ 0 ≤ m ∧ m ≤ b.length - at_)) :
    Calls Try.prog 6 #[.pointer (some ⟨g, 0, none⟩), .int .i64 many] w fun e w' =>
      (e = .returned (.int .i64 0) ∧ IsS39 w0 w' g b at_ true) ∧ Below w0.heap.size w0 w' ∧ KeepBut w w' g none := by
  obtain ⟨M, hM⟩ : ∃ M : Int, (if (8 : Int) < many then 8 else many) = M := ⟨_, rfl⟩
  have hN : (if (0 : Int) < M then M else 0) = m := by rw [← hM, ← hm]; unfold mx mn; (repeat' split) <;> omega
  go_enter Try.func6, Try.ntmps6
  go_wp2_with fail
  refine (next_bad g w0 _ b at_ bad m hI hB h).mono ?_
  rintro e w1 ⟨⟨rfl, hI1⟩, hB1, hK1⟩
  go_wp2_with fail
  go_ret
  exact ⟨⟨rfl, hI1⟩, hB1, hK1⟩
set_option maxHeartbeats 1000000 in
theorem take_bad (g : Nat) (w0 w : World) (b : List Int) (at_ : Int) (bad : Bool) (n : Int) (hI : IsS39 w0 w g b at_ bad) (hB : Below w0.heap.size w0 w) (h : ¬ (bad = false ∧ 0 ≤ n ∧ n ≤ b.length - at_)) :
    Calls Try.prog 8 #[.pointer (some ⟨g, 0, none⟩), .int .i64 n] w fun e w' =>
      (e = .returned (.slice none 0 0) ∧ IsS39 w0 w' g b at_ true) ∧ Below w0.heap.size w0 w' ∧ KeepBut w w' g none := by
  go_enter Try.func8, Try.ntmps8
  go_wp2_with fail
  refine (next_bad g w0 _ b at_ bad n hI hB h).mono ?_
  rintro e w1 ⟨⟨rfl, hI1⟩, hB1, hK1⟩
  go_wp2_with fail
  go_ret
  exact ⟨⟨rfl, hI1⟩, hB1, hK1⟩
set_option maxHeartbeats 1000000 in
theorem take_ok (g : Nat) (w0 w : World) (b : List Int) (at_ : Int) (n : Int) (L : List Int) (hL : L = (b.drop at_.toNat).take n.toNat) (hI : IsS39 w0 w g b at_ false) (hB : Below w0.heap.size w0 w) (h0 : 0 ≤ n) (h1 : n ≤ b.length - at_) (hbl : b.length ≤ 1000000000) (ha : 0 ≤ at_) :
    Calls Try.prog 8 #[.pointer (some ⟨g, 0, none⟩), .int .i64 n] w fun e w' =>
      (∃ v0_ : Value, e = .returned v0_ ∧ Kd.R (Kd.int .u8) 5 w' w.heap.size (fun _ => True) v0_ L ∧ IsS39 w0 w' g b (at_ + n) false) ∧ Below w0.heap.size w0 w' ∧ KeepBut w w' g none := by
  have hlen : L.length = n.toNat := by rw [hL]; simp; omega
  go_enter Try.func8, Try.ntmps8
  go_wp2_with fail
  refine (next_ok g w0 _ b at_ n hI hB h0 h1).mono ?_
  rintro e w1 ⟨⟨A, c, rfl, hC, hc, hI1⟩, hB1, hK1⟩
  rw [← hL, ← hlen] at hC
  rw [← hlen] at hc ⊢
  obtain ⟨Z, hZ⟩ : ∃ Z : List Value, Z.toArray = madeCells #[.int .u8 0] L.length := ⟨_, Array.toArray_toList⟩
  have hZs : Z.length = L.length := by have := congrArg Array.size hZ; simpa [size_madeCells] using this
  have hmk := make_lc (P := Try.prog) 22 5 .u8 1 Try.underlying22 infoU8 L.length L.length (L.length : Int) (by omega) (by omega) (by omega) (by omega)
  rw [← hZ] at hmk
  have HZ := Aside0.mk hZs
  have HL := Aside0.mk (show L.length ≤ 9223372036854775807 by omega)
  have HC := Aside0.mk hC
  clear hL hZ hZs hlen h1 hC
  go_wp2_with ((with_reducible refine wpList_copy_splice rfl (.tmp 19) (.tmp 20) 22 22 rfl 5 Try.underlying22 sizeU8 (some ⟨w1.heap.size, 0, none⟩) (some A) L.length L.length L.length c rfl rfl w1.heap.size 0 Z 5 ?hg (nums .u8 L) ?hn ?hpos ?hfit (nums_one _ _) w1.heap.size w1 ((Below.refl _ _).alloc (Nat.le_refl _) _) (Nat.le_refl _) ?_); rotate_left 4; intro w2 HG HB2; have HO := Aside0.mk (own_copied (base := w.heap.size) HZ.out rfl (Nat.le_refl _) HL.out hK1.1 HG.out); clear HG)
  case hg => exact heap_alloc_new w1 _
  case hpos =>
    intro hp
    obtain ⟨ad, e, hx⟩ := C_cells (Kd.C_below HC.out (hB1.alloc hB1.size (.cells Z.toArray 5))) (by rwa [nums_length] at hp)
    cases e
    exact hx
  case hn => (simp [nums_length])
  case hfit => (have h1 := HZ.out; have h2 := nums_length .u8 L; omega)
  go_ret
  exact ⟨⟨_, rfl, Kd.R_of_own HO.out (fun _ _ => trivial), hI1.below HB2⟩, below_then hB1 hB1.size HB2, hK1.trans (KeepBut.of_below HB2 g none) (.inl rfl)⟩
end Go.Proofs.Ytimfnfifedgooaa.Given
end

section
/- The reader of octets, as the program reads: a text, what is left, where it is, whether it's bad, and a new one; any reader that is not past its end. -/
namespace Go.Proofs.Ytimfnfifedgooaa.Given
set_option linter.unusedVariables false
set_option linter.unusedSimpArgs false
open Go.RowKit Go.Proofs.YtimfnfifedgooaaW.PrintWords Go.Proofs.YtimfnfifedgooaaW.PrintLast Go.Proofs.YtimfnfifedgooaaW.PrintMore
attribute [local go_sem] max2_int min2_int
set_option maxHeartbeats 1000000 in
theorem bad_calls (g : Nat) (w0 w : World) (b : List Int) (at_ : Int) (bad : Bool) (hI : IsS39 w0 w g b at_ bad) :
    Calls Try.prog 15 #[.pointer (some ⟨g, 0, none⟩)] w fun e w' => e = .returned (.bool bad) ∧ Drawn0 w w' := by
  obtain ⟨_, hb, hg, a, c, rfl, hr, hc, ha0, ha1⟩ := hI
  have c2 : w.cell? ⟨g, 2, none⟩ = some (.bool bad) := (blk_cell hb 2).trans rfl
  go_enter Try.func15, Try.ntmps15
  go_wp2_with fail
  go_ret
  exact ⟨rfl, Drawn0.refl _⟩
set_option maxHeartbeats 1000000 in
theorem left_calls (g : Nat) (w0 w : World) (b : List Int) (at_ : Int) (bad : Bool) (hI : IsS39 w0 w g b at_ bad) :
    Calls Try.prog 12 #[.pointer (some ⟨g, 0, none⟩)] w fun e w' => e = .returned (.int .i64 (if bad then 0 else b.length - at_)) ∧ Drawn0 w w' := by
  have hbad := Aside0.mk (bad_calls g w0 w b at_ bad hI)
  obtain ⟨_, hb, hg, a, c, rfl, hr, hc, ha0, ha1⟩ := hI
  have c0 : w.cell? ⟨g, 0, none⟩ = some (.slice (some a) b.length c) := (blk_cell hb 0).trans rfl
  have c1 : w.cell? ⟨g, 1, none⟩ = some (.int .i64 at_) := (blk_cell hb 1).trans rfl
  have hbl : b.length ≤ 9223372036854775807 := hr.2.1
  have hw : IntKind.i64.wrap ((b.length : Int) - at_) = (b.length : Int) - at_ := IntWalk.i64_in _ (by omega)
  cases bad
  · go_enter Try.func12, Try.ntmps12
    go_wp2_with fail
    refine hbad.out.mono ?_
    rintro e w1 ⟨rfl, n, rfl⟩
    go_wp2_with fail
    go_quiet (fail)
    go_wp2_with fail
    go_ret
    exact ⟨rfl, n + nq, rfl⟩
  · go_enter Try.func12, Try.ntmps12
    go_wp2_with fail
    refine hbad.out.mono ?_
    rintro e w1 ⟨rfl, n, rfl⟩
    go_wp2_with fail
    go_ret
    exact ⟨rfl, n, rfl⟩
/-- What a reader tells of the next n bytes. -/
def okR (b : List Int) (at_ : Int) (bad : Bool) (n : Int) : Prop := bad = false ∧ 0 ≤ n ∧ n ≤ b.length - at_
instance (b : List Int) (at_ : Int) (bad : Bool) (n : Int) : Decidable (okR b at_ bad n) := by unfold okR; infer_instance
def cutR (b : List Int) (at_ n : Int) : List Int := (b.drop at_.toNat).take n.toNat
def numR (b : List Int) (at_ : Int) (bad : Bool) (many : Int) : Int × Int × Bool := if okR b at_ bad (mx 0 (mn many 8)) then (wrap64 (leN (cutR b at_ (mx 0 (mn many 8)))), at_ + mx 0 (mn many 8), false) else (0, at_, true)
def takeR (b : List Int) (at_ : Int) (bad : Bool) (n : Int) : List Int × Int × Bool := if okR b at_ bad n then (cutR b at_ n, at_ + n, false) else ([], at_, true)
def okB (b : List Int) : Bool := b.all (fun x => decide (0 ≤ x) && decide (x < 256)) && decide (b.length ≤ 1000000000)
theorem okB_all {b : List Int} (h : okB b = true) : (∀ x ∈ b, 0 ≤ x ∧ x < 256) ∧ b.length ≤ 1000000000 := by
  unfold okB at h
  simp only [Bool.and_eq_true, List.all_eq_true, decide_eq_true_eq] at h
  exact h
theorem num_calls (g : Nat) (w0 w : World) (b : List Int) (at_ : Int) (bad : Bool) (many : Int) (hI : IsS39 w0 w g b at_ bad) (hB : Below w0.heap.size w0 w) (hb : okB b = true) :
    Calls Try.prog 6 #[.pointer (some ⟨g, 0, none⟩), .int .i64 many] w fun e w' =>
      e = .returned (.int .i64 (numR b at_ bad many).1) ∧ IsS39 w0 w' g b (numR b at_ bad many).2.1 (numR b at_ bad many).2.2 ∧ Below w0.heap.size w0 w' ∧ KeepBut w w' g none := by
  unfold numR
  by_cases h : okR b at_ bad (mx 0 (mn many 8))
  · rw [if_pos h]
    obtain ⟨rfl, h0, h1⟩ := h
    exact (num_ok g w0 w b at_ many _ rfl _ rfl hI hB h1 (okB_all hb).1).mono fun e w' ⟨⟨h1, h2⟩, h3, h4⟩ => ⟨h1, h2, h3, h4⟩
  · rw [if_neg h]
    exact (num_bad g w0 w b at_ bad many _ rfl hI hB h).mono fun e w' ⟨⟨h1, h2⟩, h3, h4⟩ => ⟨h1, h2, h3, h4⟩
theorem take_calls (g : Nat) (w0 w : World) (b : List Int) (at_ : Int) (bad : Bool) (n : Int) (hI : IsS39 w0 w g b at_ bad) (hB : Below w0.heap.size w0 w) (hb : okB b = true) :
    Calls Try.prog 8 #[.pointer (some ⟨g, 0, none⟩), .int .i64 n] w fun e w' =>
      ∃ v0_ : Value, e = .returned v0_ ∧ Kd.R (Kd.int .u8) 5 w' w.heap.size (fun _ => True) v0_ (takeR b at_ bad n).1 ∧ IsS39 w0 w' g b (takeR b at_ bad n).2.1 (takeR b at_ bad n).2.2 ∧ Below w0.heap.size w0 w' ∧ KeepBut w w' g none := by
  unfold takeR
  by_cases h : okR b at_ bad n
  · rw [if_pos h]
    obtain ⟨rfl, h0, h1⟩ := h
    have ha : 0 ≤ at_ := by obtain ⟨_, _, _, _, _, _, _, _, ha, _⟩ := hI; exact ha
    exact (take_ok g w0 w b at_ n _ rfl hI hB h0 h1 (okB_all hb).2 ha).mono fun e w' ⟨⟨v, h1, h2, h3⟩, h4, h5⟩ => ⟨v, h1, h2, h3, h4, h5⟩
  · rw [if_neg h]
    exact (take_bad g w0 w b at_ bad n hI hB h).mono fun e w' ⟨⟨h1, h2⟩, h3, h4⟩ => ⟨_, h1, Kd.R_nil _ _ _ _ _, h2, h3, h4⟩
/-- A text: as many bytes as the next byte says. -/
def textR (b : List Int) (at_ : Int) (bad : Bool) : ByteArray × Int × Bool :=
  let t := numR b at_ bad 1
  let u := takeR b t.2.1 t.2.2 t.1
  (strOfNums u.1, u.2.1, u.2.2)
set_option maxHeartbeats 1000000 in
theorem text_calls (g : Nat) (w0 w : World) (b : List Int) (at_ : Int) (bad : Bool) (hI : IsS39 w0 w g b at_ bad) (hB : Below w0.heap.size w0 w) (hb : okB b = true) :
    Calls Try.prog 10 #[.pointer (some ⟨g, 0, none⟩)] w fun e w' =>
      e = .returned (.string (textR b at_ bad).1) ∧ IsS39 w0 w' g b (textR b at_ bad).2.1 (textR b at_ bad).2.2 ∧ Below w0.heap.size w0 w' ∧ KeepBut w w' g none := by
  unfold textR
  dsimp only
  generalize ht : numR b at_ bad 1 = t
  generalize hu : takeR b t.2.1 t.2.2 t.1 = u
  have HT := Aside0.mk ht
  have HU := Aside0.mk hu
  have HB := Aside0.mk hb
  clear ht hu hb
  go_enter Try.func10, Try.ntmps10
  go_wp2_with fail
  refine (num_calls g w0 _ b at_ bad 1 hI hB HB.out).mono ?_
  rw [HT.out]
  rintro e w1 ⟨rfl, hI1, hB1, hK1⟩
  go_wp2_with fail
  refine (take_calls g w0 _ b t.2.1 t.2.2 t.1 hI1 hB1 HB.out).mono ?_
  rw [HU.out]
  rintro e w2 ⟨v, rfl, ho, hI2, hB2, hK2⟩
  have hcv := own_string (P := Try.prog) Try.underlying22 Try.underlying5 Try.underlying9 (Kd.own_of_R ho)
  go_wp2_with fail
  go_ret
  exact ⟨rfl, hI2, hB2, hK1.trans hK2 (.inl rfl)⟩
set_option maxHeartbeats 1000000 in
theorem new_calls (A0 : Option Addr) (c0 : Nat) (L : List Int) (w : World) (hr0 : Kd.C (Kd.int .u8) w A0 L.length L) (hc0 : L.length ≤ c0) (hl : L.length ≤ 1000000000) :
    Calls Try.prog 5 #[.slice A0 L.length c0] w fun e w' => ∃ (w1 : World) (g : Nat), e = .returned (.pointer (some ⟨g, 0, none⟩)) ∧ IsS39 w1 w' g L 0 false ∧ Below w.heap.size w w1 ∧ Below w1.heap.size w1 w' := by
  obtain ⟨Z, hZ⟩ : ∃ Z : List Value, Z.toArray = madeCells #[.int .u8 0] L.length := ⟨_, Array.toArray_toList⟩
  have hZs : Z.length = L.length := by have := congrArg Array.size hZ; simpa [size_madeCells] using this
  have hmk := make_lc (P := Try.prog) 22 5 .u8 1 Try.underlying22 infoU8 L.length L.length (L.length : Int) (by omega) (by omega) (by omega) (by omega)
  rw [← hZ] at hmk
  have HZ := Aside0.mk hZs
  have HL := Aside0.mk (show L.length ≤ 9223372036854775807 by omega)
  have HC := Aside0.mk hr0
  clear hZ hZs hr0 hl
  go_enter Try.func5, Try.ntmps5
  go_wp2_with ((with_reducible refine wpList_copy_splice rfl (.tmp 7) (.tmp 8) 22 22 rfl 5 Try.underlying22 sizeU8 (some ⟨w.heap.size, 0, none⟩) A0 L.length L.length L.length c0 rfl rfl w.heap.size 0 Z 5 ?hg (nums .u8 L) ?hn ?hpos ?hfit (nums_one _ _) w.heap.size w ((Below.refl _ _).alloc (Nat.le_refl _) _) (Nat.le_refl _) ?_); rotate_left 4; intro w2 HG HB2; have HO := Aside0.mk (own_copied (base := w.heap.size) HZ.out rfl (Nat.le_refl _) HL.out (Nat.le_refl _) HG.out); clear HG)
  case hg => exact heap_alloc_new w _
  case hpos =>
    intro hp
    have hx := C_cells (Kd.C_below HC.out ((Below.refl _ _).alloc (Nat.le_refl _) (.cells Z.toArray 5))) (by rwa [nums_length] at hp)
    first | exact ⟨rfl, hx⟩ | exact hx
  case hn => (simp [nums_length])
  case hfit => (have h1 := HZ.out; have h2 := nums_length .u8 L; omega)
  go_ret
  have hR : Kd.R (Kd.int .u8) 5 w2 w.heap.size (fun _ => True) (.slice (some ⟨w.heap.size, 0, none⟩) L.length L.length) L := Kd.R_of_own HO.out (fun _ _ => trivial)
  have hCC := (Kd.R_reads' hR).2.2
  exact ⟨w2, w2.heap.size, rfl, ⟨_, heap_alloc_new _ _, Nat.le_refl _, ⟨w.heap.size, 0, none⟩, L.length, rfl, hCC, Nat.le_refl _, Int.le_refl _, Int.natCast_nonneg _⟩, HB2, (Below.refl _ _).alloc (Nat.le_refl _) _⟩
end Go.Proofs.Ytimfnfifedgooaa.Given
end

section
/- The document's reader of octets: what it tells of the next bytes; any reader that is not past its end. -/
namespace Go.Proofs.Ytimfnfifedgooaa.Given
set_option linter.unusedVariables false
set_option linter.unusedSimpArgs false
open Go.RowKit Go.Proofs.YtimfnfifedgooaaW.PrintWords Go.Proofs.YtimfnfifedgooaaW.PrintLast Go.Proofs.YtimfnfifedgooaaW.PrintMore
attribute [local go_sem] max2_int min2_int
/-- The cells of a document's reader of f0, that is at f1: what is left lies behind. -/
def CsF (w0 : World) (cs : Array Value) (f0 : List Int) (f1 : Int) (f2 : Bool) : Prop := ∃ a c, cs = #[.slice a (f0.drop f1.toNat).length c, .int .i64 f1, .bool f2] ∧ Kd.C (Kd.int .u8) w0 a (f0.drop f1.toNat).length (f0.drop f1.toNat) ∧ (f0.drop f1.toNat).length ≤ c ∧ 0 ≤ f1 ∧ f1 ≤ f0.length
/-- A state of this type at block g of W. -/
def IsS29 (w0 W : World) (g : Nat) (f0 : List Int) (f1 : Int) (f2 : Bool) : Prop := ∃ cs, W.heap[g]? = some (.cells cs 29 (0, 0)) ∧ w0.heap.size ≤ g ∧ CsF w0 cs f0 f1 f2
theorem IsS29.grown {w0 W : World} {g : Nat} {f0 : List Int} {f1 : Int} {f2 : Bool} {W1 : World} {row : Option Nat} (h : IsS29 w0 W g f0 f1 f2) (hw : W.grownBy W1 row) (hne : some g ≠ row) : IsS29 w0 W1 g f0 f1 f2 := by
  obtain ⟨cs, hb, hg, hx⟩ := h
  exact ⟨cs, blk_grown hb hw hne, hg, hx⟩
theorem IsS29.kept {w0 W : World} {g : Nat} {f0 : List Int} {f1 : Int} {f2 : Bool} {W1 : World} {S : Nat → Prop} (h : IsS29 w0 W g f0 f1 f2) (hk : Kept W W1 S) (hne : ¬ S g) : IsS29 w0 W1 g f0 f1 f2 := by
  obtain ⟨cs, hb, hg, hx⟩ := h
  exact ⟨cs, blk_kept hb hk hne, hg, hx⟩
theorem IsS29.below {w0 W : World} {g : Nat} {f0 : List Int} {f1 : Int} {f2 : Bool} {W1 : World} (h : IsS29 w0 W g f0 f1 f2) (hw : Below W.heap.size W W1) : IsS29 w0 W1 g f0 f1 f2 := h.grown (grown_of_below hw none) (by simp)
theorem IsS29.alloc {w0 W : World} {g : Nat} {f0 : List Int} {f1 : Int} {f2 : Bool} (h : IsS29 w0 W g f0 f1 f2) (o : Obj) : IsS29 w0 (W.alloc o) g f0 f1 f2 := h.below (below_alloc (Below.refl _ _) o)
theorem IsS29.drewN {w0 W : World} {g : Nat} {f0 : List Int} {f1 : Int} {f2 : Bool} (h : IsS29 w0 W g f0 f1 f2) (m : Nat) : IsS29 w0 (W.drewN m) g f0 f1 f2 := h
theorem IsS29.drew {w0 W : World} {g : Nat} {f0 : List Int} {f1 : Int} {f2 : Bool} (h : IsS29 w0 W g f0 f1 f2) : IsS29 w0 W.drew g f0 f1 f2 := h
theorem IsS29.at_ {w0 W : World} {g : Nat} {f0 : List Int} {f1 : Int} {f2 : Bool} {w' : World} {m : Nat} (hq : W.drewN m = w') (h : IsS29 w0 W g f0 f1 f2) : IsS29 w0 w' g f0 f1 f2 := by subst hq; exact IsS29.drewN h m
theorem IsS29.apart {w0 W : World} {g : Nat} {f0 : List Int} {f1 : Int} {f2 : Bool} {α : Type} {d : Kd α} {e : Nat} {base : Nat} {ok : Nat → Prop} {v : Value} {xs : List α} (h : IsS29 w0 W g f0 f1 f2) (ho : d.R e W base ok v xs) (ht : ∀ q, q ∈ e :: d.E → q ≠ 29) : d.R e W base (fun k => ok k ∧ k ≠ g) v xs := by
  obtain ⟨cs, hb, hg, hx⟩ := h
  exact Kd.R_types ho hb ht
theorem IsS29.own_ne {w0 W : World} {g : Nat} {f0 : List Int} {f1 : Int} {f2 : Bool} {α : Type} {d : Kd α} {e : Nat} {base : Nat} {ok : Nat → Prop} {v : Value} {xs : List α} (h : IsS29 w0 W g f0 f1 f2) (ho : d.R e W base ok v xs) (ht : e ≠ 29) : some g ≠ v.ownBlock := by
  obtain ⟨cs, hb, hg, hx⟩ := h
  exact Kd.R_ne ho hb ht
theorem IsS29.lt {w0 W : World} {g : Nat} {f0 : List Int} {f1 : Int} {f2 : Bool} (h : IsS29 w0 W g f0 f1 f2) : g < W.heap.size := by
  obtain ⟨cs, hb, hg, hx⟩ := h
  exact blk_lt hb
theorem IsS29.far {w0 W : World} {g : Nat} {f0 : List Int} {f1 : Int} {f2 : Bool} {p : Addr} (h : IsS29 w0 W g f0 f1 f2) (hne : g ≠ p.block) (u : Value) : IsS29 w0 (W.setCell p u) g f0 f1 f2 := by
  obtain ⟨cs, hb, hg, hx⟩ := h
  exact ⟨cs, blk_far hb hne u, hg, hx⟩
set_option maxHeartbeats 1000000 in
theorem rtake_ok (g : Nat) (w0 w : World) (b : List Int) (at_ : Int) (n : Int) (hI : IsS29 w0 w g b at_ false) (hB : Below w0.heap.size w0 w) (h0 : 0 ≤ n) (h1 : n ≤ b.length - at_) (hbl : b.length ≤ 1000000000) :
    Calls Try.prog 9 #[.pointer (some ⟨g, 0, none⟩), .int .i64 n] w fun e w' =>
      (∃ A c, e = .returned (.slice A n.toNat c) ∧ Kd.C (Kd.int .u8) w0 A n.toNat (cutR b at_ n) ∧ n.toNat ≤ c ∧ IsS29 w0 w' g b (at_ + n) false) ∧ Below w0.heap.size w0 w' ∧ KeepBut w w' g none := by
  obtain ⟨_, hb, hg, a, c, rfl, hr, hc, ha0, ha1⟩ := hI
  obtain ⟨L, hL⟩ : ∃ L, L = b.drop at_.toNat := ⟨_, rfl⟩
  have hLl : (L.length : Int) = b.length - at_ := by rw [hL]; simp; omega
  have hcut : cutR b at_ n = L.take n.toNat := by unfold cutR; rw [hL]
  have hnx : b.drop (at_ + n).toNat = L.drop n.toNat := by rw [hL, List.drop_drop]; congr 1; omega
  rw [← hL] at hb hr hc
  rw [hcut]
  have hD := Kd.C_drop (k := Kd.int .u8) (m := n.toNat) (c := c) hr (by omega) hc
  have hT := Kd.C_take (k := Kd.int .u8) (m := n.toNat) hr (by omega)
  rw [show (L.take n.toNat).length = n.toNat by simp; omega] at hT
  rw [show n.toNat * (Kd.int .u8).sz = n.toNat from Nat.mul_one _] at hD
  have HN := Aside0.mk (show ∀ (W1 : World) (A' : Option Addr) (c' : Nat), W1.heap[g]? = some (.cells #[.slice A' (L.length - n.toNat) c', .int .i64 (at_ + n), .bool false] 29 (0, 0)) → (if c = n.toNat then a else a.map (·.add n.toNat)) = A' → c' = c - n.toNat → IsS29 w0 W1 g b (at_ + n) false by
    intro W1 A' c' hb1 hA hc'
    rw [hA] at hD
    refine ⟨_, hb1, hg, A', c', ?_, ?_, ?_, by omega, by omega⟩
    · rw [hnx, List.length_drop]
    · rw [hnx]; exact hD
    · rw [hnx, List.length_drop]; omega)
  have HT := Aside0.mk hT
  have hab : at_ + n ≤ 1000000000 := by omega
  have hwb : 0 ≤ at_ + n := by omega
  have hcm : n.toNat ≤ c := by omega
  clear hL hnx hD hT hcut
  have hK := KeepBut.refl w g none
  have hLb : L.length ≤ 9223372036854775807 := hr.2.1
  have c0 : w.cell? ⟨g, 0, none⟩ = some (.slice a L.length c) := (blk_cell hb 0).trans rfl
  have c1 : w.cell? ⟨g, 1, none⟩ = some (.int .i64 at_) := (blk_cell hb 1).trans rfl
  have c2 : w.cell? ⟨g, 2, none⟩ = some (.bool false) := (blk_cell hb 2).trans rfl
  have f0 := blk_frozen hb 0
  have f1 := blk_frozen hb 1
  have f2 := blk_frozen hb 2
  have d0 : decide (n < 0) = false := decide_eq_false (by omega)
  have d1 : decide ((L.length : Int) < n) = false := decide_eq_false (by omega)
  go_enter Try.func9, Try.ntmps9
  go_wp2_with fail
  all_goals go_ret
  · rename_i h
    refine ⟨⟨a, n.toNat, rfl, HT.out, by omega, HN.out _ a 0 (blk_put (blk_put hb 0 _ rfl) 1 _ rfl) (if_pos h) (by omega)⟩, below_set (below_set hB hg) hg, KeepBut.set_ (KeepBut.set_ hK 0 _) 1 _⟩
  · rename_i h
    refine ⟨⟨a, c, rfl, HT.out, by omega, HN.out _ (a.map (·.add n.toNat)) (c - n.toNat) (blk_put (blk_put hb 0 _ rfl) 1 _ rfl) (if_neg h) rfl⟩, below_set (below_set hB hg) hg, KeepBut.set_ (KeepBut.set_ hK 0 _) 1 _⟩
set_option maxHeartbeats 1000000 in
theorem rtake_bad (g : Nat) (w0 w : World) (b : List Int) (at_ : Int) (bad : Bool) (n : Int) (hI : IsS29 w0 w g b at_ bad) (hB : Below w0.heap.size w0 w) (h : ¬ okR b at_ bad n) :
    Calls Try.prog 9 #[.pointer (some ⟨g, 0, none⟩), .int .i64 n] w fun e w' =>
      (e = .returned (.slice none 0 0) ∧ IsS29 w0 w' g b at_ true) ∧ Below w0.heap.size w0 w' ∧ KeepBut w w' g none := by
  unfold okR at h
  obtain ⟨_, hb, hg, a, c, rfl, hr, hc, ha0, ha1⟩ := hI
  have HX := Aside0.mk (show ∀ W1 : World, W1.heap[g]? = some (.cells #[.slice a (b.drop at_.toNat).length c, .int .i64 at_, .bool true] 29 (0, 0)) → IsS29 w0 W1 g b at_ true from fun W1 hb1 => ⟨_, hb1, hg, a, c, rfl, hr, hc, ha0, ha1⟩)
  have hLl : (((b.drop at_.toNat).length : Nat) : Int) = b.length - at_ := by simp; omega
  generalize b.drop at_.toNat = L at *
  have hK := KeepBut.refl w g none
  have c0 : w.cell? ⟨g, 0, none⟩ = some (.slice a L.length c) := (blk_cell hb 0).trans rfl
  have c2 : w.cell? ⟨g, 2, none⟩ = some (.bool bad) := (blk_cell hb 2).trans rfl
  have f2 := blk_frozen hb 2
  have HF := Aside0.mk hb
  cases bad
  · by_cases h0 : n < 0
    · have d0 : decide (n < 0) = true := decide_eq_true h0
      clear h hLl
      go_enter Try.func9, Try.ntmps9
      go_wp2_with fail
      go_ret
      exact ⟨⟨rfl, HX.out _ (blk_put HF.out 2 _ rfl)⟩, below_set hB hg, KeepBut.set_ hK 2 _⟩
    · have d0 : decide (n < 0) = false := decide_eq_false h0
      have h1 : (L.length : Int) < n := by by_cases h1 : n ≤ b.length - at_; exact absurd ⟨rfl, by omega, h1⟩ h; omega
      have d1 : decide ((L.length : Int) < n) = true := decide_eq_true h1
      clear h hLl
      go_enter Try.func9, Try.ntmps9
      go_wp2_with fail
      go_ret
      exact ⟨⟨rfl, HX.out _ (blk_put HF.out 2 _ rfl)⟩, below_set hB hg, KeepBut.set_ hK 2 _⟩
  · clear h hLl
    go_enter Try.func9, Try.ntmps9
    go_wp2_with fail
    go_ret
    exact ⟨⟨rfl, HX.out _ (blk_put HF.out 2 _ rfl)⟩, below_set hB hg, KeepBut.set_ hK 2 _⟩
theorem held_calls (many : Int) (w : World) : Calls Try.prog 18 #[.int .i64 many] w fun e w' => e = .returned (.int .i64 (mx 0 (mn many 8))) ∧ w' = w := by
  by_cases h0 : many < 0
  · rw [show mx 0 (mn many 8) = 0 by unfold mx mn; (repeat' split) <;> omega]
    go_enter Try.func18, Try.ntmps18
    go_wp2_with fail
    go_ret
    exact ⟨rfl, rfl⟩
  · by_cases h8 : 8 < many
    · rw [show mx 0 (mn many 8) = 8 by unfold mx mn; (repeat' split) <;> omega]
      go_enter Try.func18, Try.ntmps18
      go_wp2_with fail
      go_ret
      exact ⟨rfl, rfl⟩
    · rw [show mx 0 (mn many 8) = many by unfold mx mn; (repeat' split) <;> omega]
      go_enter Try.func18, Try.ntmps18
      go_wp2_with fail
      go_ret
      exact ⟨rfl, rfl⟩
theorem leN_drop (L : List Int) (j : Nat) (h : j < L.length) : leN (L.drop j) = L[j] + 256 * leN (L.drop (j + 1)) := by
  rw [List.drop_eq_getElem_cons h]
  rfl
theorem leN_8 (L : List Int) (hb : ∀ x ∈ L, 0 ≤ x ∧ x < 256) (j : Nat) (hj : L.length ≤ j + 8) : 0 ≤ leN (L.drop j) ∧ leN (L.drop j) < 18446744073709551616 := by
  have h := leN_lim (L.drop j) (fun x hx => hb x (List.mem_of_mem_drop hx))
  have hp : (2 : Int) ^ (8 * (L.drop j).length) ≤ 2 ^ 64 := by
    have : 2 ^ (8 * (L.drop j).length) ≤ 2 ^ 64 := Nat.pow_le_pow_right (by decide) (by simp; omega)
    exact_mod_cast this
  refine ⟨h.1, ?_⟩
  have : (2 : Int) ^ 64 = 18446744073709551616 := rfl
  omega
set_option maxHeartbeats 2000000 in
theorem rnum_ok (g : Nat) (w0 w : World) (b : List Int) (at_ : Int) (many m : Int) (hm : mx 0 (mn many 8) = m) (L : List Int) (hL : L = cutR b at_ m) (hI : IsS29 w0 w g b at_ false) (hB : Below w0.heap.size w0 w) (h1 : m ≤ b.length - at_) (hb : ∀ x ∈ b, 0 ≤ x ∧ x < 256) (hbl : b.length ≤ 1000000000) (ha : 0 ≤ at_) :
    Calls Try.prog 7 #[.pointer (some ⟨g, 0, none⟩), .int .i64 many] w fun e w' =>
      (e = .returned (.int .i64 (wrap64 (leN L))) ∧ IsS29 w0 w' g b (at_ + m) false) ∧ Below w0.heap.size w0 w' ∧ KeepBut w w' g none := by
  have hm0 : 0 ≤ m := by rw [← hm]; unfold mx; split <;> omega
  have hm8 : m ≤ 8 := by rw [← hm]; unfold mx mn; (repeat' split) <;> omega
  have hH := Aside0.mk (held_calls many w)
  rw [hm] at hH
  go_enter Try.func7, Try.ntmps7
  go_wp2_with fail
  refine hH.out.mono ?_
  rintro e w2 ⟨rfl, rfl⟩
  go_wp2_with fail
  refine (rtake_ok g w0 _ b at_ m hI hB hm0 h1 hbl).mono ?_
  rintro e w1 ⟨⟨A, c, rfl, hC, hc, hI1⟩, hB1, hK1⟩
  rw [← hL] at hC
  have hlen : L.length = m.toNat := by have := hC.1; omega
  have hcells : ∀ j : Nat, ∀ h : j < L.length, ∃ ad, A = some ad ∧ w1.cell? (ad.add j) = some (.int .u8 L[j]) := by
    intro j h
    obtain ⟨ad, e, hc⟩ := C_cells (Kd.C_below hC hB1) (by omega)
    exact ⟨ad, e, hc j _ (by simp [nums, h])⟩
  have hrange : ∀ x ∈ L, 0 ≤ x ∧ x < 256 := by
    intro x hx
    rw [hL] at hx
    exact hb x (List.mem_of_mem_drop (List.mem_of_mem_take hx))
  have HL := Aside0.mk hrange
  have HN := Aside0.mk hlen
  have HC := Aside0.mk hcells
  have HM := Aside0.mk hm8
  clear hm h1 hL hb hrange hlen hcells hC hH ha hbl
  go_wp2_with fail
  go_loopw [6, 7] (fun x i wr => ∃ j : Nat, j ≤ m.toNat ∧ i = .int .i64 ((j : Int) - 1) ∧ x = .int .u64 (leN (L.drop j)) ∧ wr = w1) (fun _ i _ => (intOf i + 1).toNat)
  case atStart => exact ⟨m.toNat, Nat.le_refl _, by congr 1; omega, by rw [List.drop_of_length_le (by have := HN.out; omega)]; rfl, rfl⟩
  case round =>
    obtain ⟨j, hj, rfl, rfl, rfl⟩ := hrel
    cases j with
    | zero =>
      go_wp2_with fail
      go_ret
      rw [List.drop_zero]
      exact ⟨⟨rfl, hI1⟩, hB1, hK1⟩
    | succ j =>
      have hlj : j < L.length := by have := HN.out; omega
      obtain ⟨ad, rfl, hce⟩ := HC.out j hlj
      have hx := HL.out _ (List.getElem_mem hlj)
      have hs := leN_drop L j hlj
      have h8 := leN_8 L HL.out j (by have := HN.out; omega)
      have h9 := leN_8 L HL.out (j + 1) (by have := HN.out; omega)
      generalize leN (L.drop (j + 1)) = v at *
      have hs := Aside0.mk hs
      have h8 := Aside0.mk h8
      rw [show ((j + 1 : Nat) : Int) - 1 = (j : Int) by omega]
      go_wp2_with fail
      refine ⟨⟨j, by omega, rfl, ?_, trivial⟩, by first | (simp [intOf]; done) | (simp [intOf]; omega)⟩
      rw [hs.out]
      congr 1
      omega
theorem rnum_bad (g : Nat) (w0 w : World) (b : List Int) (at_ : Int) (bad : Bool) (many m : Int) (hm : mx 0 (mn many 8) = m) (hI : IsS29 w0 w g b at_ bad) (hB : Below w0.heap.size w0 w) (h : ¬ okR b at_ bad m) :
    Calls Try.prog 7 #[.pointer (some ⟨g, 0, none⟩), .int .i64 many] w fun e w' =>
      (e = .returned (.int .i64 0) ∧ IsS29 w0 w' g b at_ true) ∧ Below w0.heap.size w0 w' ∧ KeepBut w w' g none := by
  have hH := Aside0.mk (held_calls many w)
  rw [hm] at hH
  go_enter Try.func7, Try.ntmps7
  go_wp2_with fail
  refine hH.out.mono ?_
  rintro e w2 ⟨rfl, rfl⟩
  go_wp2_with fail
  refine (rtake_bad g w0 _ b at_ bad m hI hB h).mono ?_
  rintro e w1 ⟨⟨rfl, hI1⟩, hB1, hK1⟩
  go_wp2_with fail
  go_loopw [6, 7] (fun x i wr => i = .int .i64 (-1) ∧ x = .int .u64 0 ∧ wr = w1) (fun _ _ _ => 0)
  case atStart => exact ⟨rfl, rfl, rfl⟩
  case round =>
    obtain ⟨rfl, rfl, rfl⟩ := hrel
    go_wp2_with fail
    go_ret
    exact ⟨⟨rfl, hI1⟩, hB1, hK1⟩
theorem at_range {w0 w : World} {g : Nat} {b : List Int} {at_ : Int} {bad : Bool} (hI : IsS29 w0 w g b at_ bad) : 0 ≤ at_ := by
  obtain ⟨_, _, _, _, _, _, _, _, ha, _⟩ := hI
  exact ha
theorem rnum_calls (g : Nat) (w0 w : World) (b : List Int) (at_ : Int) (bad : Bool) (many : Int) (hI : IsS29 w0 w g b at_ bad) (hB : Below w0.heap.size w0 w) (hb : okB b = true) :
    Calls Try.prog 7 #[.pointer (some ⟨g, 0, none⟩), .int .i64 many] w fun e w' =>
      e = .returned (.int .i64 (numR b at_ bad many).1) ∧ IsS29 w0 w' g b (numR b at_ bad many).2.1 (numR b at_ bad many).2.2 ∧ Below w0.heap.size w0 w' ∧ KeepBut w w' g none := by
  unfold numR
  by_cases h : okR b at_ bad (mx 0 (mn many 8))
  · rw [if_pos h]
    obtain ⟨rfl, h0, h1⟩ := h
    exact (rnum_ok g w0 w b at_ many _ rfl _ rfl hI hB h1 (okB_all hb).1 (okB_all hb).2 (at_range hI)).mono fun e w' ⟨⟨h1, h2⟩, h3, h4⟩ => ⟨h1, h2, h3, h4⟩
  · rw [if_neg h]
    exact (rnum_bad g w0 w b at_ bad many _ rfl hI hB h).mono fun e w' ⟨⟨h1, h2⟩, h3, h4⟩ => ⟨h1, h2, h3, h4⟩
theorem rtake_calls (g : Nat) (w0 w : World) (b : List Int) (at_ : Int) (bad : Bool) (n : Int) (hI : IsS29 w0 w g b at_ bad) (hB : Below w0.heap.size w0 w) (hb : okB b = true) :
    Calls Try.prog 9 #[.pointer (some ⟨g, 0, none⟩), .int .i64 n] w fun e w' =>
      ∃ A c, e = .returned (.slice A (takeR b at_ bad n).1.length c) ∧ Kd.C (Kd.int .u8) w0 A (takeR b at_ bad n).1.length (takeR b at_ bad n).1 ∧ (takeR b at_ bad n).1.length ≤ c ∧ IsS29 w0 w' g b (takeR b at_ bad n).2.1 (takeR b at_ bad n).2.2 ∧ Below w0.heap.size w0 w' ∧ KeepBut w w' g none := by
  unfold takeR
  by_cases h : okR b at_ bad n
  · rw [if_pos h]
    obtain ⟨rfl, h0, h1⟩ := h
    have hl : (cutR b at_ n).length = n.toNat := by have := at_range hI; unfold cutR; simp; omega
    refine (rtake_ok g w0 w b at_ n hI hB h0 h1 (okB_all hb).2).mono fun e w' ⟨⟨A, c, h1, h2, h3, h4⟩, h5, h6⟩ => ⟨A, c, ?_, ?_, ?_, h4, h5, h6⟩
    · rw [h1]; dsimp only; rw [hl]
    · dsimp only; rw [hl]; exact h2
    · dsimp only; rw [hl]; exact h3
  · rw [if_neg h]
    exact (rtake_bad g w0 w b at_ bad n hI hB h).mono fun e w' ⟨⟨h1, h2⟩, h3, h4⟩ => ⟨none, 0, h1, ⟨rfl, Nat.zero_le _, fun h => absurd h (Nat.lt_irrefl 0)⟩, Nat.le_refl _, h2, h3, h4⟩
set_option maxHeartbeats 1000000 in
theorem rtext_calls (g : Nat) (w0 w : World) (b : List Int) (at_ : Int) (bad : Bool) (hI : IsS29 w0 w g b at_ bad) (hB : Below w0.heap.size w0 w) (hb : okB b = true) :
    Calls Try.prog 11 #[.pointer (some ⟨g, 0, none⟩)] w fun e w' =>
      e = .returned (.string (textR b at_ bad).1) ∧ IsS29 w0 w' g b (textR b at_ bad).2.1 (textR b at_ bad).2.2 ∧ Below w0.heap.size w0 w' ∧ KeepBut w w' g none := by
  unfold textR
  dsimp only
  generalize ht : numR b at_ bad 1 = t
  generalize hu : takeR b t.2.1 t.2.2 t.1 = u
  have HT := Aside0.mk ht
  have HU := Aside0.mk hu
  have HB := Aside0.mk hb
  clear ht hu hb
  go_enter Try.func11, Try.ntmps11
  go_wp2_with fail
  refine (rnum_calls g w0 _ b at_ bad 1 hI hB HB.out).mono ?_
  rw [HT.out]
  rintro e w1 ⟨rfl, hI1, hB1, hK1⟩
  go_wp2_with fail
  refine (rtake_calls g w0 _ b t.2.1 t.2.2 t.1 hI1 hB1 HB.out).mono ?_
  rw [HU.out]
  rintro e w2 ⟨A, c, rfl, hC, hc, hI2, hB2, hK2⟩
  have hcv := Kd.C_string (c := c) (P := Try.prog) Try.underlying22 Try.underlying5 Try.underlying9 (Kd.C_below hC hB2)
  go_wp2_with fail
  go_ret
  exact ⟨rfl, hI2, hB2, hK1.trans hK2 (.inl rfl)⟩
end Go.Proofs.Ytimfnfifedgooaa.Given
end

section
/- How much is left of the document's reader; any reader that is not past its end. -/
namespace Go.Proofs.Ytimfnfifedgooaa.Given
set_option linter.unusedVariables false
set_option linter.unusedSimpArgs false
open Go.RowKit Go.Proofs.YtimfnfifedgooaaW.PrintWords Go.Proofs.YtimfnfifedgooaaW.PrintLast Go.Proofs.YtimfnfifedgooaaW.PrintMore
set_option maxHeartbeats 1000000 in
theorem rleft_calls (g : Nat) (w0 w : World) (b : List Int) (at_ : Int) (bad : Bool) (hI : IsS29 w0 w g b at_ bad) :
    Calls Try.prog 13 #[.pointer (some ⟨g, 0, none⟩)] w fun e w' => e = .returned (.int .i64 (if bad then 0 else b.length - at_)) ∧ Drawn0 w w' := by
  obtain ⟨_, hb, hg, a, c, rfl, hr, hc, ha0, ha1⟩ := hI
  have c0 : w.cell? ⟨g, 0, none⟩ = some (.slice a (b.drop at_.toNat).length c) := (blk_cell hb 0).trans rfl
  have c2 : w.cell? ⟨g, 2, none⟩ = some (.bool bad) := (blk_cell hb 2).trans rfl
  have hl : (((b.drop at_.toNat).length : Nat) : Int) = b.length - at_ := by simp; omega
  generalize b.drop at_.toNat = L at *
  rw [← hl]
  clear hl hr hb
  cases bad
  · go_enter Try.func13, Try.ntmps13
    go_wp2_with fail
    go_ret
    exact ⟨rfl, Drawn0.refl _⟩
  · go_enter Try.func13, Try.ntmps13
    go_wp2_with fail
    go_ret
    exact ⟨rfl, Drawn0.refl _⟩
end Go.Proofs.Ytimfnfifedgooaa.Given
end

section
/- Two readers at once: each one's contracts taken over the world cut to the blocks below it. -/
namespace Go.Proofs.Ytimfnfifedgooaa.Given
open Go Go.RowKit Go.Proofs.YtimfnfifedgooaaW.PrintWords Go.Proofs.YtimfnfifedgooaaW.PrintLast Go.Proofs.YtimfnfifedgooaaW.PrintMore
set_option linter.unusedVariables false
/-- The world's blocks below g alone. -/
def cut (w : World) (g : Nat) : World := { w with heap := w.heap.extract 0 g }
theorem cut_size {w : World} {g : Nat} (h : g ≤ w.heap.size) : (cut w g).heap.size = g := by simp [cut]; omega
theorem cut_get {w : World} {g k : Nat} (hk : k < g) (h : g ≤ w.heap.size) : (cut w g).heap[k]? = w.heap[k]? := by
  simp only [cut, Array.getElem?_extract]
  rw [if_pos (by omega), Nat.zero_add]
theorem cut_below {w : World} {g : Nat} (h : g ≤ w.heap.size) : Below (cut w g).heap.size (cut w g) w := ⟨rfl, rfl, rfl, by rw [cut_size h]; exact h, fun k hk => by rw [cut_size h] at hk; exact (cut_get hk h).symm⟩
theorem C_same {w w1 : World} {A : Option Addr} {b : List Int} (h : Kd.C (Kd.int .u8) w A b.length b) (hs : 0 < b.length → ∀ ad, A = some ad → w1.heap[ad.block]? = w.heap[ad.block]?) : Kd.C (Kd.int .u8) w1 A b.length b :=
  ⟨h.1, h.2.1, fun hn => by
    obtain ⟨ad, e, hc⟩ := h.2.2 hn
    refine ⟨ad, e, fun j p hj => ?_⟩
    obtain ⟨c, hz, hr, hcell⟩ := hc j p hj
    exact ⟨c, hz, hr, fun i u hu => (World.cell?_of_block (w := w) (by rw [add_block]; exact hs hn ad e)).trans (hcell i u hu)⟩⟩
theorem C_lt {w : World} {a : Addr} {b : List Int} (h : Kd.C (Kd.int .u8) w (some a) b.length b) (hn : 0 < b.length) : a.block < w.heap.size := by
  obtain ⟨ad, e, hc⟩ := Kd.at_int h 0 (by omega) (by omega)
  injection e with e
  subst e
  have := World.block_lt_of_cell? w _ hc
  rw [add_block] at this
  exact this
/-- The program's reader, of any world. -/
def RI (W : World) (g : Nat) (b : List Int) (at_ : Int) (bad : Bool) : Prop := ∃ a c, W.heap[g]? = some (.cells #[.slice (some a) b.length c, .int .i64 at_, .bool bad] 39 (0, 0)) ∧ Kd.C (Kd.int .u8) W (some a) b.length b ∧ b.length ≤ c ∧ 0 ≤ at_ ∧ at_ ≤ b.length ∧ (0 < b.length → a.block < g)
theorem RI.of {w0 W : World} {g : Nat} {b : List Int} {at_ : Int} {bad : Bool} (h : IsS39 w0 W g b at_ bad) (hB : Below w0.heap.size w0 W) : RI W g b at_ bad := by
  obtain ⟨cs, hb, hg, a, c, rfl, hC, hle, h0, h1⟩ := h
  exact ⟨a, c, hb, Kd.C_below hC hB, hle, h0, h1, fun hn => Nat.lt_of_lt_of_le (C_lt hC hn) hg⟩
theorem RI.cut {W : World} {g : Nat} {b : List Int} {at_ : Int} {bad : Bool} (h : RI W g b at_ bad) : IsS39 (cut W g) W g b at_ bad ∧ Below (Given.cut W g).heap.size (Given.cut W g) W := by
  obtain ⟨a, c, hb, hC, hle, h0, h1, hl⟩ := h
  have hg : g ≤ W.heap.size := Nat.le_of_lt (blk_lt hb)
  refine ⟨⟨_, hb, by rw [cut_size hg]; exact Nat.le_refl _, a, c, rfl, C_same hC (fun hn ad e => by injection e with e; subst e; exact cut_get (hl hn) hg), hle, h0, h1⟩, cut_below hg⟩
theorem cell_in {W : World} {g : Nat} {cs : Array Value} {t : TypeId} {fr : Nat × Nat} {a : Addr} {v : Value} (hb : W.heap[g]? = some (.cells cs t fr)) (ha : a.block = g) (hc : W.cell? a = some v) : v ∈ cs.toList := by
  unfold World.cell? at hc
  rw [ha, hb] at hc
  simp only at hc
  split at hc
  · cases hc
  · exact List.mem_of_getElem? (by rw [Array.getElem?_toList]; exact hc)
theorem row_ne {W : World} {g : Nat} {cs : Array Value} {t : TypeId} {fr : Nat × Nat} {a : Addr} {b : List Int} (h : Kd.C (Kd.int .u8) W (some a) b.length b) (hn : 0 < b.length) (hb : W.heap[g]? = some (.cells cs t fr)) (hcs : ∀ n, (.int .u8 n : Value) ∉ cs.toList) : a.block ≠ g := by
  intro e
  obtain ⟨ad, e2, hc⟩ := Kd.at_int h 0 (by omega) (by omega)
  injection e2 with e2
  subst e2
  exact hcs _ (cell_in hb (by rw [add_block]; exact e) hc)
theorem RI.keep {W W' : World} {g g2 : Nat} {b : List Int} {at_ : Int} {bad : Bool} {cs : Array Value} {t : TypeId} (h : RI W g b at_ bad) (hk : KeepBut W W' g2 none) (hne : g ≠ g2) (hb2 : W.heap[g2]? = some (.cells cs t (0, 0))) (hcs : ∀ n, (.int .u8 n : Value) ∉ cs.toList) : RI W' g b at_ bad := by
  obtain ⟨a, c, hb, hC, hle, h0, h1, hl⟩ := h
  refine ⟨a, c, (hk.2 g (blk_lt hb) hne (by simp)).trans hb, C_same hC (fun hn ad e => ?_), hle, h0, h1, hl⟩
  injection e with e
  subst e
  exact hk.2 _ (C_lt hC hn) (row_ne hC hn hb2 hcs) (by simp)
theorem cut_bk {W w' : World} {g : Nat} (hk : KeepBut W w' g none) (hB : Below (cut W g).heap.size (cut W g) w') (hg : g ≤ W.heap.size) : Below g W w' :=
  ⟨hB.os, hB.tape, hB.output, hk.1, fun k hlt => (hB.block k (by rw [cut_size hg]; exact hlt)).trans (cut_get hlt hg)⟩
theorem RI.lt {W : World} {g : Nat} {b : List Int} {at_ : Int} {bad : Bool} (h : RI W g b at_ bad) : g ≤ W.heap.size := by
  obtain ⟨_, _, hb, _⟩ := h
  exact Nat.le_of_lt (blk_lt hb)
theorem num_i (g : Nat) (W : World) (b : List Int) (at_ : Int) (bad : Bool) (many : Int) (h : RI W g b at_ bad) (hb : okB b = true) :
    Calls Try.prog 6 #[.pointer (some ⟨g, 0, none⟩), .int .i64 many] W fun e w' => e = .returned (.int .i64 (numR b at_ bad many).1) ∧ RI w' g b (numR b at_ bad many).2.1 (numR b at_ bad many).2.2 ∧ KeepBut W w' g none ∧ Below g W w' :=
  (num_calls g (cut W g) W b at_ bad many h.cut.1 h.cut.2 hb).mono fun e w' ⟨h1, h2, h3, h4⟩ => ⟨h1, RI.of h2 h3, h4, cut_bk h4 h3 h.lt⟩
theorem take_i (g : Nat) (W : World) (b : List Int) (at_ : Int) (bad : Bool) (n : Int) (h : RI W g b at_ bad) (hb : okB b = true) :
    Calls Try.prog 8 #[.pointer (some ⟨g, 0, none⟩), .int .i64 n] W fun e w' => ∃ v0_ : Value, e = .returned v0_ ∧ Kd.R (Kd.int .u8) 5 w' W.heap.size (fun _ => True) v0_ (takeR b at_ bad n).1 ∧ RI w' g b (takeR b at_ bad n).2.1 (takeR b at_ bad n).2.2 ∧ KeepBut W w' g none ∧ Below g W w' :=
  (take_calls g (cut W g) W b at_ bad n h.cut.1 h.cut.2 hb).mono fun e w' ⟨v, h1, h0, h2, h3, h4⟩ => ⟨v, h1, h0, RI.of h2 h3, h4, cut_bk h4 h3 h.lt⟩
/-- The document's reader, of any world. -/
def RJ (W : World) (g : Nat) (b : List Int) (at_ : Int) (bad : Bool) : Prop := ∃ a c, W.heap[g]? = some (.cells #[.slice a (b.drop at_.toNat).length c, .int .i64 at_, .bool bad] 29 (0, 0)) ∧ Kd.C (Kd.int .u8) W a (b.drop at_.toNat).length (b.drop at_.toNat) ∧ (b.drop at_.toNat).length ≤ c ∧ 0 ≤ at_ ∧ at_ ≤ b.length ∧ (∀ ad, a = some ad → 0 < (b.drop at_.toNat).length → ad.block < g)
theorem RJ.of {w0 W : World} {g : Nat} {b : List Int} {at_ : Int} {bad : Bool} (h : IsS29 w0 W g b at_ bad) (hB : Below w0.heap.size w0 W) : RJ W g b at_ bad := by
  obtain ⟨cs, hb, hg, a, c, rfl, hC, hle, h0, h1⟩ := h
  exact ⟨a, c, hb, Kd.C_below hC hB, hle, h0, h1, fun ad e hn => by subst e; exact Nat.lt_of_lt_of_le (C_lt hC hn) hg⟩
theorem RJ.lt {W : World} {g : Nat} {b : List Int} {at_ : Int} {bad : Bool} (h : RJ W g b at_ bad) : g ≤ W.heap.size := by
  obtain ⟨_, _, hb, _⟩ := h
  exact Nat.le_of_lt (blk_lt hb)
theorem RJ.cut {W : World} {g : Nat} {b : List Int} {at_ : Int} {bad : Bool} (h : RJ W g b at_ bad) : IsS29 (cut W g) W g b at_ bad ∧ Below (Given.cut W g).heap.size (Given.cut W g) W := by
  have hg := h.lt
  obtain ⟨a, c, hb, hC, hle, h0, h1, hl⟩ := h
  exact ⟨⟨_, hb, by rw [cut_size hg]; exact Nat.le_refl _, a, c, rfl, C_same hC (fun hn ad e => cut_get (hl ad e hn) hg), hle, h0, h1⟩, cut_below hg⟩
theorem RJ.keep {W W' : World} {g g2 : Nat} {b : List Int} {at_ : Int} {bad : Bool} {cs : Array Value} {t : TypeId} (h : RJ W g b at_ bad) (hk : KeepBut W W' g2 none) (hne : g ≠ g2) (hb2 : W.heap[g2]? = some (.cells cs t (0, 0))) (hcs : ∀ n, (.int .u8 n : Value) ∉ cs.toList) : RJ W' g b at_ bad := by
  obtain ⟨a, c, hb, hC, hle, h0, h1, hl⟩ := h
  refine ⟨a, c, (hk.2 g (blk_lt hb) hne (by simp)).trans hb, C_same hC (fun hn ad e => ?_), hle, h0, h1, hl⟩
  subst e
  exact hk.2 _ (C_lt hC hn) (row_ne hC hn hb2 hcs) (by simp)
theorem rnum_j (g : Nat) (W : World) (b : List Int) (at_ : Int) (bad : Bool) (many : Int) (h : RJ W g b at_ bad) (hb : okB b = true) :
    Calls Try.prog 7 #[.pointer (some ⟨g, 0, none⟩), .int .i64 many] W fun e w' => e = .returned (.int .i64 (numR b at_ bad many).1) ∧ RJ w' g b (numR b at_ bad many).2.1 (numR b at_ bad many).2.2 ∧ KeepBut W w' g none ∧ Below g W w' :=
  (rnum_calls g (cut W g) W b at_ bad many h.cut.1 h.cut.2 hb).mono fun e w' ⟨h1, h2, h3, h4⟩ => ⟨h1, RJ.of h2 h3, h4, cut_bk h4 h3 h.lt⟩
theorem text_i (g : Nat) (W : World) (b : List Int) (at_ : Int) (bad : Bool) (h : RI W g b at_ bad) (hb : okB b = true) :
    Calls Try.prog 10 #[.pointer (some ⟨g, 0, none⟩)] W fun e w' => e = .returned (.string (textR b at_ bad).1) ∧ RI w' g b (textR b at_ bad).2.1 (textR b at_ bad).2.2 ∧ KeepBut W w' g none ∧ Below g W w' :=
  (text_calls g (cut W g) W b at_ bad h.cut.1 h.cut.2 hb).mono fun e w' ⟨h1, h2, h3, h4⟩ => ⟨h1, RI.of h2 h3, h4, cut_bk h4 h3 h.lt⟩
theorem rtext_j (g : Nat) (W : World) (b : List Int) (at_ : Int) (bad : Bool) (h : RJ W g b at_ bad) (hb : okB b = true) :
    Calls Try.prog 11 #[.pointer (some ⟨g, 0, none⟩)] W fun e w' => e = .returned (.string (textR b at_ bad).1) ∧ RJ w' g b (textR b at_ bad).2.1 (textR b at_ bad).2.2 ∧ KeepBut W w' g none ∧ Below g W w' :=
  (rtext_calls g (cut W g) W b at_ bad h.cut.1 h.cut.2 hb).mono fun e w' ⟨h1, h2, h3, h4⟩ => ⟨h1, RJ.of h2 h3, h4, cut_bk h4 h3 h.lt⟩
theorem rtake_j (g : Nat) (W : World) (b : List Int) (at_ : Int) (bad : Bool) (n : Int) (h : RJ W g b at_ bad) (hb : okB b = true) :
    Calls Try.prog 9 #[.pointer (some ⟨g, 0, none⟩), .int .i64 n] W fun e w' => ∃ A c, e = .returned (.slice A (takeR b at_ bad n).1.length c) ∧ Kd.C (Kd.int .u8) w' A (takeR b at_ bad n).1.length (takeR b at_ bad n).1 ∧ (takeR b at_ bad n).1.length ≤ c ∧ RJ w' g b (takeR b at_ bad n).2.1 (takeR b at_ bad n).2.2 ∧ KeepBut W w' g none ∧ Below g W w' :=
  (rtake_calls g (cut W g) W b at_ bad n h.cut.1 h.cut.2 hb).mono fun e w' ⟨A, c, h1, h0, hl, h2, h3, h4⟩ => ⟨A, c, h1, Kd.C_below h0 h3, hl, RJ.of h2 h3, h4, cut_bk h4 h3 h.lt⟩
end Go.Proofs.Ytimfnfifedgooaa.Given
end

section
/- The reader of octets, as the program reads: where it is; any reader that is not past its end. -/
namespace Go.Proofs.Ytimfnfifedgooaa.Given
set_option linter.unusedVariables false
set_option linter.unusedSimpArgs false
open Go.RowKit Go.Proofs.YtimfnfifedgooaaW.PrintWords Go.Proofs.YtimfnfifedgooaaW.PrintLast Go.Proofs.YtimfnfifedgooaaW.PrintMore
attribute [local go_sem] max2_int min2_int
set_option maxHeartbeats 1000000 in
theorem at_calls (g : Nat) (w0 w : World) (b : List Int) (at_ : Int) (bad : Bool) (hI : IsS39 w0 w g b at_ bad) :
    Calls Try.prog 14 #[.pointer (some ⟨g, 0, none⟩)] w fun e w' => e = .returned (.int .i64 at_) ∧ Drawn0 w w' := by
  obtain ⟨_, hb, hg, a, c, rfl, hr, hc, ha0, ha1⟩ := hI
  have c1 : w.cell? ⟨g, 1, none⟩ = some (.int .i64 at_) := (blk_cell hb 1).trans rfl
  go_enter Try.func14, Try.ntmps14
  go_wp2_with fail
  go_ret
  exact ⟨rfl, Drawn0.refl _⟩
end Go.Proofs.Ytimfnfifedgooaa.Given
end

section
/- The example of OctetPuts is answered: its call returns true; no conditions. -/
namespace Go.Proofs.Ytimfnfifedgooaa
open Go.RowKit Go.Proofs.YtimfnfifedgooaaW.PrintWords Go.Proofs.YtimfnfifedgooaaW.PrintLast Go.Proofs.YtimfnfifedgooaaW.PrintMore Go.Proofs.Ytimfnfifedgooaa.Given
theorem awake03 (w : World) : Calls Try.prog 4 #[] w fun e w' => e = .returned (.bool true) ∧ Below w.heap.size w w' := by
  have kc := fun (w : World) (C : Array Value) (n c : Nat) => Lib.run_convert_bytes_const (P := Try.prog) w 22 5 C n c Try.underlying22 Try.underlying5
  have HP : Aside0 (octet_Put.f [97] 2 258 = some [97, 2, 1]) := ⟨by rfl⟩
  go_enter Try.func4, Try.ntmps4
  go_wp2_with fail
  refine (octet_Put.calls _ 1 [97] 2 258 _ _ (C_const w 5 [97] _ (by decide)) (by decide) HP.out).mono ?_
  rintro e w1 ⟨v1, rfl, ho, hb⟩
  have hcv := own_string (P := Try.prog) Try.underlying22 Try.underlying5 Try.underlying9 (Kd.own_of_R ho)
  go_wp2
  go_ret
  refine ⟨?_, ((Below.refl _ _).alloc (Nat.le_refl _) _).trans (hb.mono (by simp))⟩
  rw [show ((strOfNums [97, 2, 1]).toList == [97, 2, 1]) = true from by rw [ByteArray.toList_eq]; rfl]
  rfl
end Go.Proofs.Ytimfnfifedgooaa
end

section
/- Two readers at once, what else OctetReads asks: what stays, the readers' states, no reader at all, what is asked. -/
namespace Go.Proofs.Ytimfnfifedgooaa.Given
open Go Go.RowKit Go.Proofs.YtimfnfifedgooaaW.PrintWords Go.Proofs.YtimfnfifedgooaaW.PrintLast Go.Proofs.YtimfnfifedgooaaW.PrintMore
set_option linter.unusedVariables false
set_option linter.unusedSimpArgs false
attribute [local go_sem] max2_int min2_int
theorem RI.below {W W' : World} {g : Nat} {b : List Int} {at_ : Int} {bad : Bool} (h : RI W g b at_ bad) (hb : Below W.heap.size W W') : RI W' g b at_ bad := by
  obtain ⟨a, c, h1, hC, hle, h0, h2, hl⟩ := h
  exact ⟨a, c, (hb.block _ (blk_lt h1)).trans h1, Kd.C_below hC hb, hle, h0, h2, hl⟩
theorem RJ.below {W W' : World} {g : Nat} {b : List Int} {at_ : Int} {bad : Bool} (h : RJ W g b at_ bad) (hb : Below W.heap.size W W') : RJ W' g b at_ bad := by
  obtain ⟨a, c, h1, hC, hle, h0, h2, hl⟩ := h
  exact ⟨a, c, (hb.block _ (blk_lt h1)).trans h1, Kd.C_below hC hb, hle, h0, h2, hl⟩
theorem no_u8 (v : Value) (at_ : Int) (bad : Bool) (h : ∀ n, v ≠ .int .u8 n) : ∀ n, (.int .u8 n : Value) ∉ (#[v, .int .i64 at_, .bool bad] : Array Value).toList := by
  intro n hm
  simp only [List.mem_cons, List.not_mem_nil, or_false] at hm
  rcases hm with e | e | e
  · exact h n e.symm
  · injection e with e; cases e
  · cases e
theorem RJ.after {W W' : World} {g gx : Nat} {b b2 : List Int} {at_ at2 : Int} {bad bad2 : Bool} (h : RJ W gx b at_ bad) (hi : RI W g b2 at2 bad2) (hk : KeepBut W W' g none) (hne : gx ≠ g) : RJ W' gx b at_ bad := by
  obtain ⟨a, c, h1, _⟩ := hi
  exact h.keep hk hne h1 (no_u8 _ _ _ (fun n e => by cases e))
theorem RI.after {W W' : World} {g gx : Nat} {b b2 : List Int} {at_ at2 : Int} {bad bad2 : Bool} (h : RI W g b at_ bad) (hi : RJ W gx b2 at2 bad2) (hk : KeepBut W W' gx none) (hne : g ≠ gx) : RI W' g b at_ bad := by
  obtain ⟨a, c, h1, _⟩ := hi
  exact h.keep hk hne h1 (no_u8 _ _ _ (fun n e => by cases e))
/-- Both readers stand alike. -/
def TwoR (w : World) (g gx : Nat) (b : List Int) (at_ : Int) (bad : Bool) (at2 : Int) (bad2 : Bool) (W : World) : Prop := Below w.heap.size w W ∧ w.heap.size ≤ g ∧ w.heap.size ≤ gx ∧ g ≠ gx ∧ RI W g b at_ bad ∧ RJ W gx b at2 bad2
theorem TwoR.below {w W W' : World} {g gx : Nat} {b : List Int} {at_ at2 : Int} {bad bad2 : Bool} (h : TwoR w g gx b at_ bad at2 bad2 W) (hb : Below W.heap.size W W') : TwoR w g gx b at_ bad at2 bad2 W' :=
  ⟨h.1.trans (hb.mono h.1.size), h.2.1, h.2.2.1, h.2.2.2.1, h.2.2.2.2.1.below hb, h.2.2.2.2.2.below hb⟩
theorem TwoR.drewN {w W : World} {g gx : Nat} {b : List Int} {at_ at2 : Int} {bad bad2 : Bool} (h : TwoR w g gx b at_ bad at2 bad2 W) (m : Nat) : TwoR w g gx b at_ bad at2 bad2 (W.drewN m) := h.below (pw_below_drewN (Below.refl _ _) m)
theorem TwoR.one {w W W' : World} {g gx : Nat} {b : List Int} {at_ at2 at3 : Int} {bad bad2 bad3 : Bool} (h : TwoR w g gx b at_ bad at2 bad2 W) (h1 : RI W' g b at3 bad3) (hk : KeepBut W W' g none) (hb : Below g W W') : TwoR w g gx b at3 bad3 at2 bad2 W' :=
  ⟨h.1.trans (hb.mono h.2.1), h.2.1, h.2.2.1, h.2.2.2.1, h1, h.2.2.2.2.2.after h.2.2.2.2.1 hk (Ne.symm h.2.2.2.1)⟩
theorem TwoR.two {w W W' : World} {g gx : Nat} {b : List Int} {at_ at2 at3 : Int} {bad bad2 bad3 : Bool} (h : TwoR w g gx b at_ bad at2 bad2 W) (h1 : RJ W' gx b at3 bad3) (hk : KeepBut W W' gx none) (hb : Below gx W W') : TwoR w g gx b at_ bad at3 bad3 W' :=
  ⟨h.1.trans (hb.mono h.2.2.1), h.2.1, h.2.2.1, h.2.2.2.1, h.2.2.2.2.1.after h.2.2.2.2.2 hk h.2.2.2.1, h1⟩
theorem bad_i (g : Nat) (W : World) (b : List Int) (at_ : Int) (bad : Bool) (h : RI W g b at_ bad) : Calls Try.prog 15 #[.pointer (some ⟨g, 0, none⟩)] W fun e w' => e = .returned (.bool bad) ∧ Drawn0 W w' := bad_calls g _ W b at_ bad h.cut.1
theorem at_i (g : Nat) (W : World) (b : List Int) (at_ : Int) (bad : Bool) (h : RI W g b at_ bad) : Calls Try.prog 14 #[.pointer (some ⟨g, 0, none⟩)] W fun e w' => e = .returned (.int .i64 at_) ∧ Drawn0 W w' := at_calls g _ W b at_ bad h.cut.1
theorem left_i (g : Nat) (W : World) (b : List Int) (at_ : Int) (bad : Bool) (q : Int) (hq : (if bad then 0 else b.length - at_ : Int) = q) (h : RI W g b at_ bad) : Calls Try.prog 12 #[.pointer (some ⟨g, 0, none⟩)] W fun e w' => e = .returned (.int .i64 q) ∧ Drawn0 W w' := by rw [← hq]; exact left_calls g _ W b at_ bad h.cut.1
theorem rleft_j (g : Nat) (W : World) (b : List Int) (at_ : Int) (bad : Bool) (q : Int) (hq : (if bad then 0 else b.length - at_ : Int) = q) (h : RJ W g b at_ bad) : Calls Try.prog 13 #[.pointer (some ⟨g, 0, none⟩)] W fun e w' => e = .returned (.int .i64 q) ∧ Drawn0 W w' := by rw [← hq]; exact rleft_calls g _ W b at_ bad h.cut.1
/-! ### No reader -/
theorem next_nil (w : World) (n : Int) : Calls Try.prog 17 #[.pointer none, .int .i64 n] w fun e w' => e = .returned (.tuple #[.slice none 0 0, .bool false]) ∧ w' = w := by
  go_enter Try.func17, Try.ntmps17
  go_wp2_with fail
  go_ret2
  exact ⟨rfl, rfl⟩
theorem bad_nil (w : World) : Calls Try.prog 15 #[.pointer none] w fun e w' => e = .returned (.bool true) ∧ w' = w := by
  go_enter Try.func15, Try.ntmps15
  go_wp2_with fail
  go_ret
  exact ⟨rfl, rfl⟩
theorem at_nil (w : World) : Calls Try.prog 14 #[.pointer none] w fun e w' => e = .returned (.int .i64 0) ∧ w' = w := by
  go_enter Try.func14, Try.ntmps14
  go_wp2_with fail
  go_ret
  exact ⟨rfl, rfl⟩
theorem left_nil (w : World) : Calls Try.prog 12 #[.pointer none] w fun e w' => e = .returned (.int .i64 0) ∧ w' = w := by
  go_enter Try.func12, Try.ntmps12
  go_wp2_with fail
  refine (bad_nil w).mono ?_
  rintro e w1 ⟨rfl, rfl⟩
  go_wp2_with fail
  go_ret
  exact ⟨rfl, rfl⟩
theorem num_nil (w : World) : Calls Try.prog 6 #[.pointer none, .int .i64 1] w fun e w' => e = .returned (.int .i64 0) ∧ w' = w := by
  go_enter Try.func6, Try.ntmps6
  go_wp2_with fail
  refine (next_nil w 1).mono ?_
  rintro e w1 ⟨rfl, rfl⟩
  go_wp2_with fail
  go_ret
  exact ⟨rfl, rfl⟩
theorem take_nil (w : World) (n : Int) : Calls Try.prog 8 #[.pointer none, .int .i64 n] w fun e w' => e = .returned (.slice none 0 0) ∧ w' = w := by
  go_enter Try.func8, Try.ntmps8
  go_wp2_with fail
  refine (next_nil w n).mono ?_
  rintro e w1 ⟨rfl, rfl⟩
  go_wp2_with fail
  go_ret
  exact ⟨rfl, rfl⟩
theorem text_nil (w : World) : Calls Try.prog 10 #[.pointer none] w fun e w' => e = .returned (.string (strOfNums [])) ∧ w' = w := by
  have hcv := Kd.C_string (c := 0) (P := Try.prog) Try.underlying22 Try.underlying5 Try.underlying9 (show Kd.C (Kd.int .u8) w none ([] : List Int).length [] from ⟨rfl, by decide, fun h => absurd h (by decide)⟩)
  simp only [List.length_nil] at hcv
  go_enter Try.func10, Try.ntmps10
  go_wp2_with fail
  refine (num_nil w).mono ?_
  rintro e w1 ⟨rfl, rfl⟩
  go_wp2_with fail
  refine (take_nil w1 0).mono ?_
  rintro e w2 ⟨rfl, rfl⟩
  go_wp2_with fail
  go_ret
  exact ⟨rfl, rfl⟩
/-! ### What is asked -/
/-- An ask: its kind, its number. -/
abbrev AskN := Int × Int
def KAsk : Kd AskN := Kd.pair (Kd.int .i64) (Kd.int .i64)
theorem add_off (a : Addr) (k : Nat) : (a.add k).off = a.off + k := by unfold Addr.add; split <;> simp_all
theorem add_succ (a : Addr) (k m : Nat) (h : 0 < m) : a.add (k + m) = ⟨a.block, a.off + k + m, none⟩ := by unfold Addr.add; rw [if_neg (by omega), Nat.add_assoc]
theorem ask_at {w : World} {A : Option Addr} {l : List AskN} (h : Kd.C KAsk w A l.length l) (i : Nat) (hi : i < l.length) : ∃ ad, A = some ad ∧ w.cell? (ad.add (i * 2)) = some (.int .i64 l[i].1) ∧ w.cell? ⟨(ad.add (i * 2)).block, (ad.add (i * 2)).off + 1, none⟩ = some (.int .i64 l[i].2) := by
  obtain ⟨ad, cs, e, _, hK, hc⟩ := Kd.C_get h (0, 0) (i : Int) (by omega) (by omega)
  rw [show l.getD (i : Int).toNat (0, 0) = l[i] by rw [Int.toNat_natCast, List.getD_eq_getElem?_getD, List.getElem?_eq_getElem hi]; rfl] at hK
  obtain ⟨_, _, rfl, rfl, rfl⟩ := hK
  refine ⟨ad, e, ?_, ?_⟩
  · have := hc 0 _ rfl
    rw [Int.toNat_natCast] at this
    simpa [KAsk, Kd.pair, Kd.int, Kd.scalar] using this
  · have := hc 1 _ rfl
    rw [Int.toNat_natCast, show KAsk.sz = 2 from rfl, add_succ _ _ _ (by omega)] at this
    rw [add_block, add_off]
    exact this
end Go.Proofs.Ytimfnfifedgooaa.Given
end

section
-- PRINTED BY print.sh 35421559b90ae4d0a3588c463048766b98c2df88dd9212a6774a882060cdf62d: not written by this session
/-! ### 50. A region's order in a table, made once a region: each step asks the table (numbers alone), not the operations -/
namespace Go.Proofs.YtimfnfifedgooaaW.PrintLast
open Go.Proofs.YtimfnfifedgooaaW.PrintWords (Aside0)
def needsOf (md : Region.Mode) (o : Oper) : List Nat := (o.after.toList.filter (fun e => Region.binds md e)).map (fun e => e.on)
def clashOf (md : Region.Mode) (ops : Array Oper) (i : Nat) (oi : Oper) : List Nat := (List.range ops.size).filter fun j => !(j == i) && match ops[j]? with
  | some oj => !(oj.after.any (fun e => Region.binds md e && e.on == i) || oi.apart ops oj)
  | none => false
/-- No select in it; for each operation: what must have come up before it, and what may not come up behind it if it is taken first. -/
def rtab (md : Region.Mode) (ops : Array Oper) : Bool × List (List Nat × List Nat) := (Region.noSelect ops, (List.range ops.size).map fun i => match ops[i]? with
  | some o => (needsOf md o, clashOf md ops i o)
  | none => ([], []))
def readyAt (T : List (List Nat × List Nat)) (l : List Bool) (i : Nat) : Bool := !l.getD i true && match T[i]? with
  | some r => r.1.all (fun j => l.getD j false)
  | none => false
def readyT (T : List (List Nat × List Nat)) (l : List Bool) : List Nat := (List.range T.length).filter (readyAt T l)
def freeT (T : List (List Nat × List Nat)) (l : List Bool) (i : Nat) : Bool := match T[i]? with
  | some r => r.2.all (fun j => l.getD j true)
  | none => false
def closedT (T : List (List Nat × List Nat)) (l : List Bool) : Bool := (List.range T.length).all fun j => !l.getD j false || match T[j]? with
  | some r => r.1.all (fun k => l.getD k false)
  | none => true
def reachT (T : List (List Nat × List Nat)) (i : Nat) : Nat → Nat → Bool
  | 0, _ => false
  | fuel + 1, d => match T[d]? with
    | some r => r.1.any fun j => j == i || reachT T i fuel j
    | none => false
def lastT (T : List (List Nat × List Nat)) (l : List Bool) (ds : List Nat) (i : Nat) : Bool := ds.all fun d => l.getD d true || reachT T i T.length d
section
variable {md : Region.Mode} {ops : Array Oper} {T : Bool × List (List Nat × List Nat)} {l l' li lj lk : Array Bool} {ds : List Nat} {i j k : Nat}
theorem gd (l : Array Bool) (j : Nat) (b : Bool) : l.getD j b = l.toList.getD j b := by simp [Array.getD_eq_getD_getElem?, List.getD_eq_getElem?_getD]
theorem needs_all (o : Oper) (p : Nat → Bool) : o.after.all (fun e => !Region.binds md e || p e.on) = (needsOf md o).all p := by
  unfold needsOf
  rw [← Array.all_toList]
  induction o.after.toList with
  | nil => rfl
  | cons e r ih =>
    rw [List.all_cons, ih, List.filter_cons]
    cases h : Region.binds md e <;> simp
theorem rtab_length : (rtab md ops).2.length = ops.size := by simp [rtab]
theorem rtab_some {o : Oper} (h : ops[i]? = some o) : (rtab md ops).2[i]? = some (needsOf md o, clashOf md ops i o) := by
  have hi := (Array.getElem?_eq_some_iff.1 h).1
  unfold rtab
  rw [List.getElem?_map, List.getElem?_range hi, Option.map_some, h]
theorem rtab_none (h : ops[i]? = none) : (rtab md ops).2[i]? = none := by
  have hi : ops.size ≤ i := Array.getElem?_eq_none_iff.1 h
  exact List.getElem?_eq_none (by rw [rtab_length]; exact hi)
theorem readyAt_eq : readyAt (rtab md ops).2 l.toList i = (!l.getD i true && ((ops[i]?).map (·.after.all fun e => !Region.binds md e || l.getD e.on false)).getD false) := by
  unfold readyAt
  rw [gd]
  cases h : ops[i]? with
  | none => rw [rtab_none h]; rfl
  | some o =>
    rw [rtab_some h]
    simp only [Option.map_some, Option.getD_some]
    rw [← needs_all]
    simp only [gd]
theorem ready_eq : Region.ready md ops l = readyT (rtab md ops).2 l.toList := by
  unfold Region.ready readyT
  rw [rtab_length]
  refine List.filter_congr (fun i _ => ?_)
  rw [readyAt_eq]
def anyT (T : Bool × List (List Nat × List Nat)) (l l' : List Bool) (i : Nat) : Bool := T.1 && freeT T.2 l i && readyAt T.2 l i && (l.set i true == l')
def takeT (T : Bool × List (List Nat × List Nat)) (ds : List Nat) (l l' : List Bool) (i : Nat) : Bool := T.1 && freeT T.2 l i && readyAt T.2 l i && closedT T.2 l && lastT T.2 l ds i && (l.set i true == l')
/-- What d waits for, as_ bits: told in the table (B), checked in one pass: each bit is a need of d, or a bit of an earlier need's. -/
def upM (B : List Nat) (d : Nat) : List Nat → Nat
  | [] => 0
  | n :: r => (2 ^ n ||| (if n < d then B.getD n 0 else 0)) ||| upM B d r
def waitsOk (T : List (List Nat × List Nat)) (B : List Nat) : Bool := (List.range T.length).all fun d => match T[d]? with
  | some r => (B.getD d 0 ||| upM B d r.1) == upM B d r.1
  | none => false
theorem upM_bit {B : List Nat} {d i : Nat} : ∀ {ns : List Nat}, (upM B d ns).testBit i = true → ∃ n ∈ ns, n = i ∨ (n < d ∧ (B.getD n 0).testBit i = true)
  | [], h => by simp [upM] at h
  | n :: r, h => by
    unfold upM at h
    rw [Nat.testBit_or, Nat.testBit_or, Bool.or_eq_true, Bool.or_eq_true] at h
    rcases h with (h | h) | h
    · rw [Nat.testBit_two_pow] at h
      exact ⟨n, List.mem_cons_self, .inl (by simpa using h)⟩
    · by_cases hn : n < d
      · rw [if_pos hn] at h
        exact ⟨n, List.mem_cons_self, .inr ⟨hn, h⟩⟩
      · rw [if_neg hn] at h
        simp at h
    · obtain ⟨m, hm, h2⟩ := upM_bit h
      exact ⟨m, List.mem_cons_of_mem _ hm, h2⟩
def lastW (T : List (List Nat × List Nat)) (B : List Nat) (l : List Bool) (ds : List Nat) (i : Nat) : Bool := ds.all fun d => l.getD d true || (decide (d < T.length) && (B.getD d 0).testBit i)
def takeW (T : Bool × List (List Nat × List Nat)) (B : List Nat) (ds : List Nat) (l l' : List Bool) (i : Nat) : Bool := T.1 && freeT T.2 l i && readyAt T.2 l i && closedT T.2 l && lastW T.2 B l ds i && (l.set i true == l')
end
/-- The operations of a region, by its number. -/
def opsIn : Code → Nat → Option (Array Oper)
  | .region id ops _, k => if id == k then some ops else none
  | .seq a b, k => match opsIn a k with
    | some o => some o
    | none => opsIn b k
  | .cond _ a b, k => match opsIn a k with
    | some o => some o
    | none => opsIn b k
  | .block _ c, k => opsIn c k
  | .loop c, k => opsIn c k
  | .scope c, k => opsIn c k
  | .rangeFunc _ _ a b, k => match opsIn a k with
    | some o => some o
    | none => opsIn b k
  | _, _ => none
def opsOf (f : Func) (k : Nat) : Array Oper := ((f.body.bind fun c => opsIn c k)).getD #[]
end Go.Proofs.YtimfnfifedgooaaW.PrintLast
end

section
-- PRINTED BY print.sh 35421559b90ae4d0a3588c463048766b98c2df88dd9212a6774a882060cdf62d: not written by this session
/-! ### 57. A region of open order by ONE relation over what is listed so far: each operation is shown once, whatever came up before it -/
namespace Go.Proofs.YtimfnfifedgooaaW.PrintLast
/-- Number i is listed too. -/
def up (b : Nat → Bool) (i : Nat) : Nat → Bool := fun j => if j = i then true else b j
theorem up_self (b : Nat → Bool) (i : Nat) : up b i i = true := by simp [up]
theorem up_ne {b : Nat → Bool} {i j : Nat} (h : j ≠ i) : up b i j = b j := by simp [up, h]
/-- What is listed: O's operations by b, all else already. -/
def lof (n : Nat) (O : List Nat) (b : Nat → Bool) : List Bool := (List.range n).map fun j => if O.contains j then b j else true
/-- The destinations of what is listed are filled. -/
def putSel (a : Act) (b : Nat → Bool) : List (Nat × Tmp × Value) → Act
  | [] => a
  | e :: r => putSel (if b e.1 = true then a.put (some e.2.1) e.2.2 else a) b r
section
variable {P : Program} {ops : Array Oper} {Q : Exit → Act → World → Prop} {md : Region.Mode} {T : Bool × List (List Nat × List Nat)} {B : List Nat} {O : List Nat} {b : Nat → Bool} {i j n : Nat}
theorem lof_length : (lof n O b).length = n := by simp [lof]
theorem lof_get {d : Bool} (hj : j < n) : (lof n O b).getD j d = if O.contains j then b j else true := by
  simp [lof, List.getD_eq_getElem?_getD, hj]
theorem lof_up (hi : O.contains i = true) : (lof n O b).set i true = lof n O (up b i) := by
  apply List.ext_getElem?
  intro j
  by_cases hj : j < n
  · by_cases hij : i = j
    · subst hij
      have hl : i < (lof n O b).length := by rw [lof_length]; exact hj
      rw [List.getElem?_set_self hl]
      simp only [lof, List.getElem?_map, List.getElem?_range hj, Option.map_some, hi, if_true, up_self]
    · rw [List.getElem?_set_ne hij]
      simp only [lof, List.getElem?_map, List.getElem?_range hj, Option.map_some]
      rw [up_ne (Ne.symm hij)]
  · rw [List.getElem?_eq_none (by simp [lof]; omega), List.getElem?_eq_none (by simp [lof]; omega)]
/-- The step of operation i: out of the relation, it not being listed, all it waits for being so, and nothing that waits for it. -/
def StepAt (P : Program) (ops : Array Oper) (Q : Exit → Act → World → Prop) (B : List Nat) (O : List Nat) (I : (Nat → Bool) → Act → World → Prop) (i : Nat) : Prop :=
  ∀ b a w, I b a w → b i = false → (∀ j, (O.contains j && (B.getD i 0).testBit j) = true → b j = true) → (∀ d, (O.contains d && (B.getD d 0).testBit i) = true → b d = false) →
    ∃ oi, ops[i]? = some oi ∧ ∀ K : Act → World → Prop, Shut (∀ a' w', I (up b i) a' w' → K a' w') → if Region.wanted oi (yielded ops a.tmps) = true then Oper.wp P oi a w K Q else K (a.put oi.dst undef) w
/-- Every edge goes to an earlier operation; what is listed already waits for nothing of O; O's numbers are the region's, each once. -/
def baseOk (T : List (List Nat × List Nat)) (O : List Nat) : Bool :=
  (List.range T.length).all (fun d => match T[d]? with
    | some r => (O.contains d || r.1.all fun n => !O.contains n) && r.1.all fun n => decide (n < d)
    | none => false) && O.all (fun i => decide (i < T.length)) && decide O.Nodup
theorem baseOk_row {T : List (List Nat × List Nat)} (h : baseOk T O = true) {d : Nat} {r : List Nat × List Nat} (hr : T[d]? = some r) : (O.contains d = false → ∀ n ∈ r.1, O.contains n = false) ∧ ∀ n ∈ r.1, n < d := by
  simp only [baseOk, Bool.and_eq_true] at h
  have h1 := List.all_eq_true.1 h.1.1 d (List.mem_range.2 (List.getElem?_eq_some_iff.1 hr).1)
  rw [hr] at h1
  simp only [Bool.and_eq_true, Bool.or_eq_true, List.all_eq_true, decide_eq_true_eq] at h1
  refine ⟨fun hd n hn => ?_, h1.2⟩
  rcases h1.1 with h2 | h2
  · rw [hd] at h2; cases h2
  · simpa using h2 n hn
theorem baseOk_lt {T : List (List Nat × List Nat)} (h : baseOk T O = true) {i : Nat} (hi : i ∈ O) : i < T.length := by
  simp only [baseOk, Bool.and_eq_true] at h
  simpa using List.all_eq_true.1 h.1.2 i hi
theorem baseOk_nodup {T : List (List Nat × List Nat)} (h : baseOk T O = true) : O.Nodup := by
  simp only [baseOk, Bool.and_eq_true] at h
  exact of_decide_eq_true h.2
def Closed (T : List (List Nat × List Nat)) (O : List Nat) (b : Nat → Bool) : Prop := ∀ d r, T[d]? = some r → O.contains d = true → b d = true → ∀ n ∈ r.1, O.contains n = true → b n = true
/-- What waits for nothing of O has none of it in its bits. -/
theorem bits_out {T : List (List Nat × List Nat)} (hw : waitsOk T B = true) (hk : baseOk T O = true) : ∀ (m d : Nat), d ≤ m → d < T.length → O.contains d = false → ∀ j, (B.getD d 0).testBit j = true → O.contains j = false := by
  intro m
  induction m with
  | zero =>
    intro d hd hl hO j hj
    have hd0 : d = 0 := by omega
    subst hd0
    have hr : T[0]? = some T[0] := List.getElem?_eq_getElem hl
    have h1 := List.all_eq_true.1 hw 0 (List.mem_range.2 hl)
    rw [hr] at h1
    simp only [beq_iff_eq] at h1
    have h2 : (upM B 0 T[0].1).testBit j = true := by rw [← h1, Nat.testBit_or, hj, Bool.true_or]
    obtain ⟨n, hn, h3⟩ := upM_bit h2
    have := (baseOk_row hk hr).2 n hn
    omega
  | succ m ih =>
    intro d hd hl hO j hj
    have hr : T[d]? = some T[d] := List.getElem?_eq_getElem hl
    have h1 := List.all_eq_true.1 hw d (List.mem_range.2 hl)
    rw [hr] at h1
    simp only [beq_iff_eq] at h1
    have h2 : (upM B d T[d].1).testBit j = true := by rw [← h1, Nat.testBit_or, hj, Bool.true_or]
    obtain ⟨n, hn, h3⟩ := upM_bit h2
    have hO2 := (baseOk_row hk hr).1 hO n hn
    rcases h3 with rfl | ⟨h4, h5⟩
    · exact hO2
    · exact ih n (by omega) (by omega) hO2 j h5
theorem closed_bits {T : List (List Nat × List Nat)} (hw : waitsOk T B = true) (hk : baseOk T O = true) (hc : Closed T O b) : ∀ (m d : Nat), d ≤ m → d < T.length → O.contains d = true → b d = true → ∀ j, O.contains j = true → (B.getD d 0).testBit j = true → b j = true := by
  intro m
  induction m with
  | zero =>
    intro d hd hl hO hb j hjO hj
    have hd0 : d = 0 := by omega
    subst hd0
    have hr : T[0]? = some T[0] := List.getElem?_eq_getElem hl
    have h1 := List.all_eq_true.1 hw 0 (List.mem_range.2 hl)
    rw [hr] at h1
    simp only [beq_iff_eq] at h1
    have h2 : (upM B 0 T[0].1).testBit j = true := by rw [← h1, Nat.testBit_or, hj, Bool.true_or]
    obtain ⟨n, hn, h3⟩ := upM_bit h2
    have := (baseOk_row hk hr).2 n hn
    omega
  | succ m ih =>
    intro d hd hl hO hb j hjO hj
    have hr : T[d]? = some T[d] := List.getElem?_eq_getElem hl
    have h1 := List.all_eq_true.1 hw d (List.mem_range.2 hl)
    rw [hr] at h1
    simp only [beq_iff_eq] at h1
    have h2 : (upM B d T[d].1).testBit j = true := by rw [← h1, Nat.testBit_or, hj, Bool.true_or]
    obtain ⟨n, hn, h3⟩ := upM_bit h2
    rcases h3 with rfl | ⟨h4, h5⟩
    · exact hc d _ hr hO hb n hn hjO
    · cases hO2 : O.contains n with
      | true => exact ih n (by omega) (by omega) hO2 (hc d _ hr hO hb n hn hO2) j hjO h5
      | false =>
        have := bits_out hw hk n n (Nat.le_refl _) (by omega) hO2 j h5
        rw [hjO] at this
        cases this
theorem up_count : ∀ {O : List Nat}, O.Nodup → i ∈ O → b i = false → (O.filter fun j => !up b i j).length + 1 = (O.filter fun j => !b j).length
  | [], _, hi, _ => by cases hi
  | x :: r, hn, hi, hb => by
    rw [List.nodup_cons] at hn
    rcases List.mem_cons.1 hi with rfl | hi
    · have h1 : (r.filter fun j => !up b i j) = r.filter fun j => !b j := by
        refine List.filter_congr (fun j hj => ?_)
        rw [up_ne (fun e => hn.1 (by rw [← e]; exact hj))]
      rw [List.filter_cons, List.filter_cons]
      simp [up_self, hb, h1]
    · have hxi : x ≠ i := fun e => hn.1 (e ▸ hi)
      have h1 := up_count hn.2 hi hb
      rw [List.filter_cons, List.filter_cons, up_ne hxi]
      cases hbx : b x
      · simp only [Bool.not_false, if_true, List.length_cons]
        omega
      · simpa using h1
theorem inv_all (hT : rtab md ops = T) (hw : waitsOk T.2 B = true) (hk : baseOk T.2 O = true) (I : (Nat → Bool) → Act → World → Prop) (hs : ∀ i ∈ O, StepAt P ops Q B O I i)
    (hend : ∀ b a w, (∀ j, O.contains j = true → b j = true) → I b a w → Q .normal a w) :
    ∀ (m : Nat) (b : Nat → Bool) (a : Act) (w : World), (O.filter fun j => !b j).length = m → Closed T.2 O b → I b a w → wpAnyLast P md ops Q (fun _ => True) [] m (lof T.2.length O b).toArray a w := by
  subst hT
  have mem_ready' : ∀ {b : Nat → Bool} {i : Nat}, i ∈ Region.ready md ops (lof (rtab md ops).2.length O b).toArray → i < (rtab md ops).2.length ∧ O.contains i = true ∧ b i = false ∧ ∀ r, (rtab md ops).2[i]? = some r → ∀ n ∈ r.1, n < (rtab md ops).2.length → O.contains n = true → b n = true := by
    intro b i hi
    rw [ready_eq] at hi
    unfold readyT at hi
    rw [List.mem_filter, List.mem_range] at hi
    obtain ⟨hl, h1⟩ := hi
    unfold readyAt at h1
    rw [Bool.and_eq_true, lof_get hl] at h1
    obtain ⟨h2, h3⟩ := h1
    have h4 : O.contains i = true := by
      cases h : O.contains i with
      | true => rfl
      | false => rw [h] at h2; simp at h2
    rw [h4] at h2
    refine ⟨hl, h4, by simpa using h2, fun r hr n hn hnl hO => ?_⟩
    rw [hr] at h3
    simp only [List.all_eq_true] at h3
    have h5 := h3 n hn
    rw [lof_get hnl, hO] at h5
    simpa using h5
  intro m
  induction m with
  | zero =>
    intro b a w hm hc hI
    have hall : ∀ j, O.contains j = true → b j = true := by
      intro j hj
      cases hb : b j with
      | true => rfl
      | false =>
        have : j ∈ O.filter fun j => !b j := List.mem_filter.2 ⟨List.contains_iff_mem.1 hj, by simp [hb]⟩
        rw [List.eq_nil_of_length_eq_zero hm] at this
        cases this
    refine ⟨?_, hend b a w hall hI⟩
    refine List.eq_nil_iff_forall_not_mem.2 (fun i hi => ?_)
    obtain ⟨_, h1, h2, _⟩ := mem_ready' hi
    rw [hall i h1] at h2
    cases h2
  | succ m ih =>
    intro b a w hm hc hI
    refine ⟨fun hr => ?_, fun i hi => ?_⟩
    · exfalso
      -- the smallest number that isn't listed is ready
      have hex : ∃ i, O.contains i = true ∧ b i = false := by
        cases hf : O.filter (fun j => !b j) with
        | nil => rw [hf] at hm; simp at hm
        | cons x r =>
          have hx : x ∈ O.filter (fun j => !b j) := by rw [hf]; exact List.mem_cons_self
          rw [List.mem_filter] at hx
          exact ⟨x, List.contains_iff_mem.2 hx.1, by simpa using hx.2⟩
      have hmin : ∀ k, (∃ i, i ≤ k ∧ O.contains i = true ∧ b i = false) → ∃ i, O.contains i = true ∧ b i = false ∧ ∀ j, j < i → O.contains j = true → b j = true := by
        intro k
        induction k with
        | zero =>
          rintro ⟨i, hi, h1, h2⟩
          exact ⟨i, h1, h2, fun j hj => by omega⟩
        | succ k ihk =>
          rintro ⟨i, hi, h1, h2⟩
          by_cases hlow : ∃ j, j ≤ k ∧ O.contains j = true ∧ b j = false
          · exact ihk hlow
          · refine ⟨i, h1, h2, fun j hj hO => ?_⟩
            cases hb : b j with
            | true => rfl
            | false => exact absurd ⟨j, by omega, hO, hb⟩ hlow
      obtain ⟨i0, h1, h2⟩ := hex
      obtain ⟨i, hO, hb, hlow⟩ := hmin i0 ⟨i0, Nat.le_refl _, h1, h2⟩
      have hl := baseOk_lt hk (List.contains_iff_mem.1 hO)
      have hin : i ∈ Region.ready md ops (lof (rtab md ops).2.length O b).toArray := by
        rw [ready_eq]
        unfold readyT
        rw [List.mem_filter, List.mem_range]
        refine ⟨hl, ?_⟩
        unfold readyAt
        rw [lof_get hl, hO, hb]
        have hr2 : (rtab md ops).2[i]? = some (rtab md ops).2[i] := List.getElem?_eq_getElem hl
        rw [hr2]
        simp only [if_true, Bool.not_false, Bool.true_and, List.all_eq_true]
        intro n hn
        have hni := (baseOk_row hk hr2).2 n hn
        rw [lof_get (by omega)]
        cases hOn : O.contains n with
        | true => simpa using hlow n hni hOn
        | false => simp
      rw [hr] at hin
      cases hin
    · obtain ⟨hl, hO, hb, hneed⟩ := mem_ready' hi
      have hon : ∀ j, (O.contains j && (B.getD i 0).testBit j) = true → b j = true := by
        intro j hj
        rw [Bool.and_eq_true] at hj
        have hr2 : (rtab md ops).2[i]? = some (rtab md ops).2[i] := List.getElem?_eq_getElem hl
        have h1 := List.all_eq_true.1 hw i (List.mem_range.2 hl)
        rw [hr2] at h1
        simp only [beq_iff_eq] at h1
        have h2 : (upM B i (rtab md ops).2[i].1).testBit j = true := by rw [← h1, Nat.testBit_or, hj.2, Bool.true_or]
        obtain ⟨n, hn, h3⟩ := upM_bit h2
        have hni := (baseOk_row hk hr2).2 n hn
        rcases h3 with rfl | ⟨h4, h5⟩
        · exact hneed _ hr2 n hn (by omega) hj.1
        · cases hO2 : O.contains n with
          | true => exact closed_bits hw hk hc n n (Nat.le_refl _) (by omega) hO2 (hneed _ hr2 n hn (by omega) hO2) j hj.1 h5
          | false =>
            have := bits_out hw hk n n (Nat.le_refl _) (by omega) hO2 j h5
            rw [hj.1] at this
            cases this
      have hoff : ∀ d, (O.contains d && (B.getD d 0).testBit i) = true → b d = false := by
        intro d hd
        rw [Bool.and_eq_true] at hd
        cases hbd : b d with
        | false => rfl
        | true =>
          have hdl := baseOk_lt hk (List.contains_iff_mem.1 hd.1)
          have := closed_bits hw hk hc d d (Nat.le_refl _) hdl hd.1 hbd i hO hd.2
          rw [hb] at this
          cases this
      obtain ⟨oi, hoi, hK⟩ := hs i (List.contains_iff_mem.1 hO) b a w hI hb hon hoff
      refine wpOp_step hoi (fun K' hK' => hK K' (fun a' w' hI' => hK' a' w' ⟨fun _ _ => trivial, ?_⟩))
      have hset : (lof (rtab md ops).2.length O b).toArray.setIfInBounds i true = (lof (rtab md ops).2.length O (up b i)).toArray := by
        apply Array.ext'
        rw [Array.toList_setIfInBounds]
        exact lof_up hO
      rw [hset]
      refine ih (up b i) a' w' ?_ ?_ hI'
      · have := up_count (baseOk_nodup hk) (List.contains_iff_mem.1 hO) hb
        omega
      · intro d r hr hOd hbd n hn hOn
        by_cases hni : n = i
        · rw [hni, up_self]
        · rw [up_ne hni]
          by_cases hdi : d = i
          · subst hdi
            exact hneed r hr n hn (by have := (baseOk_row hk hr).2 n hn; omega) hOn
          · rw [up_ne hdi] at hbd
            exact hc d r hr hOd hbd n hn hOn
/-! The frame: what is listed has its destination filled. -/
/-- THE REGION FROM HERE TO ITS END, by one relation I: l has all listed but O's operations; I holds with none of them listed; each step; with all listed what follows. -/
theorem inv_ {l : Array Bool} {fuel : Nat} {a : Act} {w : World} (O : List Nat) (I : (Nat → Bool) → Act → World → Prop) (hT : rtab md ops = T) (hw : waitsOk T.2 B = true) (hk : baseOk T.2 O = true)
    (hl : (lof T.2.length O (fun _ => false) == l.toList && O.length == fuel) = true) (h0 : I (fun _ => false) a w) (hs : ∀ i ∈ O, StepAt P ops Q B O I i)
    (hend : ∀ b a w, (∀ j, O.contains j = true → b j = true) → I b a w → Q .normal a w) : wpAnyLast P md ops Q (fun _ => True) [] fuel l a w := by
  rw [Bool.and_eq_true, beq_iff_eq, beq_iff_eq] at hl
  have h1 := inv_all hT hw hk I hs hend fuel (fun _ => false) a w (by rw [← hl.2]; simp) (fun d r _ _ hb => by cases hb) h0
  have h2 : (lof T.2.length O (fun _ => false)).toArray = l := by apply Array.ext'; exact hl.1
  rw [h2] at h1
  exact h1
end
end Go.Proofs.YtimfnfifedgooaaW.PrintLast
end

section
/- A region that draws its order: each operation by itself, whatever order comes up; no conditions. -/
namespace Go.Proofs.Ytimfnfifedgooaa.Reg
open Go Go.RowKit Go.Proofs.YtimfnfifedgooaaW.PrintWords Go.Proofs.YtimfnfifedgooaaW.PrintLast
/-- What stands while a region's operations come up in whatever order. D: the slots that they fill; S: what each one's value is. -/
structure RegI (D : List (Option Tmp)) (S : Nat → World → Value → Prop) (a0 : Act) (w0 : World) (b : Nat → Bool) (a : Act) (w : World) : Prop where
  below : Below w0.heap.size w0 w
  defers : a.defers = a0.defers
  size : a.tmps.size = a0.tmps.size
  elder : ∀ t, some t ∉ D → a.tmps[t]? = a0.tmps[t]?
  vals : ∀ (i : Nat) (t : Tmp), D[i]? = some (some t) → b i = true → ∃ v, a.tmps[t]? = some v ∧ S i w v
/-- Operation i, all that it waits for having come up. -/
def RStep (P : Program) (ops : Array Oper) (Q : Exit → Act → World → Prop) (B : List Nat) (D : List (Option Tmp)) (S : Nat → World → Value → Prop) (a0 : Act) (w0 : World) (i : Nat) : Prop :=
  ∀ a w, Below w0.heap.size w0 w → a.tmps.size = a0.tmps.size → (∀ t, some t ∉ D → a.tmps[t]? = a0.tmps[t]?) →
    (∀ (j : Nat) (t : Tmp), (B.getD i 0).testBit j = true → D[j]? = some (some t) → ∃ v, a.tmps[t]? = some v ∧ S j w v) →
    ∃ oi, ops[i]? = some oi ∧ ∀ K : Act → World → Prop, Shut (∀ v w', Below w.heap.size w w' → S i w' v → K (a.put oi.dst v) w') →
      if Region.wanted oi (yielded ops a.tmps) = true then Oper.wp P oi a w K Q else K (a.put oi.dst undef) w
theorem distinct {D : List (Option Tmp)} (h : (D.filterMap id).Nodup) : ∀ {i j : Nat} {t : Tmp}, D[i]? = some (some t) → D[j]? = some (some t) → i = j := by
  induction D with
  | nil => intro i j t hi; simp at hi
  | cons d D ih =>
    intro i j t hi hj
    have mem : ∀ {k : Nat}, D[k]? = some (some t) → t ∈ D.filterMap id := fun {k} hk => List.mem_filterMap.2 ⟨some t, List.mem_of_getElem? hk, rfl⟩
    cases d with
    | none =>
      have h' : (D.filterMap id).Nodup := by simpa using h
      cases i with
      | zero => simp at hi
      | succ i =>
        cases j with
        | zero => simp at hj
        | succ j => exact congrArg (· + 1) (ih h' (by simpa using hi) (by simpa using hj))
    | some u =>
      have h' : u ∉ D.filterMap id ∧ (D.filterMap id).Nodup := by simpa using h
      cases i with
      | zero =>
        cases j with
        | zero => rfl
        | succ j =>
          have hu : u = t := by simpa using hi
          subst hu
          exact absurd (mem (by simpa using hj)) h'.1
      | succ i =>
        cases j with
        | zero =>
          have hu : u = t := by simpa using hj
          subst hu
          exact absurd (mem (by simpa using hi)) h'.1
        | succ j => exact congrArg (· + 1) (ih h'.2 (by simpa using hi) (by simpa using hj))
/-- Is each of a list of specifications kept as the world grows? -/
def MonoS (s : World → Value → Prop) : Prop := ∀ w1 w2 v, Below w1.heap.size w1 w2 → s w1 v → s w2 v
/-- A value is a slice that holds these. -/
def Rs {α : Type} (d : Kd α) (w : World) (v : Value) (xs : List α) : Prop := ∃ A c, v = .slice A xs.length c ∧ xs.length ≤ c ∧ d.C w A xs.length xs
end Go.Proofs.Ytimfnfifedgooaa.Reg
end

section
/- A region that draws its order, some of whose calls turn blocks in memory one after the other; no conditions. -/
namespace Go.Proofs.Ytimfnfifedgooaa.Reg
open Go Go.RowKit Go.Proofs.YtimfnfifedgooaaW.PrintWords Go.Proofs.YtimfnfifedgooaaW.PrintLast
/-- All blocks stay but these. -/
def KeepL (gs : List Nat) (w w' : World) : Prop := w.heap.size ≤ w'.heap.size ∧ ∀ i, i < w.heap.size → i ∉ gs → w'.heap[i]? = w.heap[i]?
theorem KeepL.of_below (gs : List Nat) {w w' : World} (h : Below w.heap.size w w') : KeepL gs w w' := ⟨h.size, fun i hi _ => h.block i hi⟩
theorem KeepL.of_keep {gs : List Nat} {g : Nat} {w w' : World} (h : KeepBut w w' g none) (hg : g ∈ gs) : KeepL gs w w' := ⟨h.1, fun i hi hn => h.2 i hi (fun e => hn (e ▸ hg)) (by simp)⟩
/-- What stands of the world, by the last of the calls that has come up (the latest call first). -/
def Zc : List (Nat × (World → Prop)) → (World → Prop) → (Nat → Bool) → World → Prop
  | [], z0, _, w => z0 w
  | (c, z) :: l, z0, b, w => if b c = true then z w else Zc l z0 b w
def MonoZ (z : World → Prop) : Prop := ∀ w1 w2, Below w1.heap.size w1 w2 → z w1 → z w2
theorem monoZ_nil : ∀ c ∈ ([] : List (Nat × (World → Prop))), MonoZ c.2 := fun _ h => by cases h
theorem monoZ_cons {c : Nat × (World → Prop)} {l : List (Nat × (World → Prop))} (h : MonoZ c.2) (hs : ∀ t ∈ l, MonoZ t.2) : ∀ t ∈ c :: l, MonoZ t.2 := fun t ht => by
  rcases List.mem_cons.1 ht with rfl | ht
  · exact h
  · exact hs t ht
theorem Zc.step {l : List (Nat × (World → Prop))} {z0 : World → Prop} (hz0 : MonoZ z0) {b : Nat → Bool} {i : Nat} {w w' : World} (hb : Below w.heap.size w w') : ∀ (_ : ∀ c ∈ l, MonoZ c.2) (_ : ∀ c ∈ l, c.1 ≠ i), Zc l z0 b w → Zc l z0 (up b i) w' := by
  induction l with
  | nil => intro _ _ h; exact hz0 w w' hb h
  | cons c l ih =>
    intro hm hne h
    obtain ⟨c, z⟩ := c
    unfold Zc at h ⊢
    rw [up_ne (hne (c, z) (by simp))]
    split
    · rename_i hc
      rw [if_pos hc] at h
      exact hm (c, z) (by simp) w w' hb h
    · rename_i hc
      rw [if_neg hc] at h
      exact ih (fun t ht => hm t (by simp [ht])) (fun t ht => hne t (by simp [ht])) h
theorem ne_chain {l : List (Nat × (World → Prop))} {i : Nat} (h : (l.map (·.1)).contains i = false) : ∀ c ∈ l, c.1 ≠ i := fun c hc e => by
  have : (l.map (·.1)).contains i = true := by
    rw [List.contains_iff_mem]
    exact List.mem_map.2 ⟨c, hc, e⟩
  rw [this] at h
  cases h
theorem Zc.drew {l : List (Nat × (World → Prop))} {z0 : World → Prop} {w : World} (h : ∀ m, z0 (w.drewN m)) (m : Nat) : Zc l z0 (fun _ => false) (w.drewN m) := by
  induction l with
  | nil => exact h m
  | cons c l ih => unfold Zc; rw [if_neg (by simp)]; exact ih
structure RegZ (D : List (Option Tmp)) (S : Nat → World → Value → Prop) (Z : (Nat → Bool) → World → Prop) (a0 : Act) (wb : World) (b : Nat → Bool) (a : Act) (w : World) : Prop where
  below : Below wb.heap.size wb w
  z : Z b w
  defers : a.defers = a0.defers
  size : a.tmps.size = a0.tmps.size
  elder : ∀ t, some t ∉ D → a.tmps[t]? = a0.tmps[t]?
  vals : ∀ (i : Nat) (t : Tmp), D[i]? = some (some t) → b i = true → ∃ v, a.tmps[t]? = some v ∧ S i w v
def ZStep (P : Program) (ops : Array Oper) (Q : Exit → Act → World → Prop) (B : List Nat) (D : List (Option Tmp)) (S : Nat → World → Value → Prop) (Z : (Nat → Bool) → World → Prop) (gs : List Nat) (a0 : Act) (wb : World) (i : Nat) : Prop :=
  ∀ b a w, Below wb.heap.size wb w → Z b w → a.tmps.size = a0.tmps.size → (∀ t, some t ∉ D → a.tmps[t]? = a0.tmps[t]?) → b i = false →
    (∀ j, ((List.range ops.size).contains j && (B.getD i 0).testBit j) = true → b j = true) → (∀ d, ((List.range ops.size).contains d && (B.getD d 0).testBit i) = true → b d = false) →
    (∀ (j : Nat) (t : Tmp), (B.getD i 0).testBit j = true → D[j]? = some (some t) → ∃ v, a.tmps[t]? = some v ∧ S j w v) →
    ∃ oi, ops[i]? = some oi ∧ ∀ K : Act → World → Prop, Shut (∀ v w', Below wb.heap.size wb w' → KeepL gs w w' → Z (up b i) w' → S i w' v → K (a.put oi.dst v) w') →
      if Region.wanted oi (yielded ops a.tmps) = true then Oper.wp P oi a w K Q else K (a.put oi.dst undef) w
theorem ZStep.of_r {P : Program} {ops : Array Oper} {Q : Exit → Act → World → Prop} {B : List Nat} {D : List (Option Tmp)} {S : Nat → World → Value → Prop} {l : List (Nat × (World → Prop))} {z0 : World → Prop} {gs : List Nat} {a0 : Act} {wb : World} {i : Nat}
    (hz0 : MonoZ z0) (hm : ∀ c ∈ l, MonoZ c.2) (hne : ∀ c ∈ l, c.1 ≠ i) (h : RStep P ops Q B D S a0 wb i) : ZStep P ops Q B D S (Zc l z0) gs a0 wb i := by
  intro b a w hb hz hs hel hi hup hoff hon
  obtain ⟨oi, hoi, hK⟩ := h a w hb hs hel hon
  exact ⟨oi, hoi, fun K hS => hK K (fun v w' hbw hsi => hS.out v w' (hb.trans (hbw.mono hb.size)) (KeepL.of_below gs hbw) (Zc.step hz0 hbw hm hne hz) hsi)⟩
theorem region_z {P : Program} {ops : Array Oper} {Q : Exit → Act → World → Prop} {id : Nat} {a0 : Act} {w0 : World} (D : List (Option Tmp)) (B : List Nat) (T : Bool × List (List Nat × List Nat)) (S : Nat → World → Value → Prop) (Z : (Nat → Bool) → World → Prop) (gs : List Nat) (wb : World)
    (hm : P.follows .mixedOrders = true) (hT : rtab .any ops = T) (hB : waitsOk T.2 B = true) (hk : baseOk T.2 (List.range ops.size) = true) (hD : ops.toList.map (·.dst) = D) (hd : (D.filterMap _root_.id).Nodup)
    (hsz : (D.filterMap _root_.id).all (fun t => Nat.blt t a0.tmps.size) = true) (hb0 : Below wb.heap.size wb w0) (hz0 : ∀ m, Z (fun _ => false) (w0.drewN m))
    (hmono : ∀ i w1 w2 v, KeepL gs w1 w2 → S i w1 v → S i w2 v) (O : List Nat) (hO : List.range ops.size = O) (hstep : ∀ i ∈ O, ZStep P ops Q B D S Z gs a0 wb i)
    (hend : ∀ a w, RegZ D S Z a0 wb (fun _ => true) a w → Q .normal a w) (hZt : ∀ b w, (∀ j, (List.range ops.size).contains j = true → b j = true) → Z b w → Z (fun _ => true) w) : (Code.region id ops true).wp P Q a0 w0 := by
  subst hO
  refine wp_region_last (S := fun _ => True) (ds := []) hm ?_
  have hl : T.2.length = ops.size := by rw [← hT]; exact rtab_length
  refine inv_ (T := T) (B := B) (List.range ops.size) (RegZ D S Z a0 wb) hT hB hk ?_ ?_ ?_ ?_
  · rw [hl]
    simp only [Bool.and_eq_true, beq_iff_eq, List.length_range, and_true]
    apply List.ext_getElem?
    intro j
    by_cases hj : j < ops.size
    · simp [lof, hj]
    · simp [lof, hj]
  · exact ⟨pw_below_drewN hb0 1, hz0 1, rfl, rfl, fun _ _ => rfl, fun _ _ _ h => by cases h⟩
  · intro i hi b a w hI hb hon hoff
    have hi' : i < ops.size := List.mem_range.1 hi
    obtain ⟨oi, hoi, hK⟩ := hstep i hi b a w hI.below hI.z hI.size hI.elder hb hon hoff (fun j t hj ht => by
      refine hI.vals j t ht (hon j ?_)
      rw [hj, Bool.and_true, List.contains_iff_mem, List.mem_range]
      have := (List.getElem?_eq_some_iff.1 ht).1
      rw [← hD] at this
      simpa using this)
    refine ⟨oi, hoi, fun K hS => hK K (fun v w' hbel hbw hz' hs => hS.out _ _ ?_)⟩
    have hDi : D[i]? = some oi.dst := by rw [← hD, List.getElem?_map, Array.getElem?_toList, hoi]; rfl
    refine ⟨hbel, hz', by cases oi.dst <;> simp [Act.put, hI.defers], by cases oi.dst <;> simp [Act.put, hI.size], fun t ht => ?_, fun j t hj hbj => ?_⟩
    · cases hdst : oi.dst with
      | none => simpa [Act.put] using hI.elder t ht
      | some u =>
        have hne : u ≠ t := by
          rintro rfl
          exact ht (List.mem_of_getElem? (by rw [hDi, hdst]))
        simp [Act.put, Array.getElem?_setIfInBounds_ne hne]
        exact hI.elder t ht
    · by_cases hji : j = i
      · subst hji
        rw [hDi] at hj
        injection hj with hj
        refine ⟨v, ?_, hs⟩
        rw [hj]
        have : t < a.tmps.size := by
          rw [hI.size]
          have h1 := List.all_eq_true.1 hsz t (List.mem_filterMap.2 ⟨some t, List.mem_of_getElem? (by rw [hDi, hj]), rfl⟩)
          simpa using h1
        simp [Act.put, this]
      · rw [up_ne hji] at hbj
        obtain ⟨x, hx, hsx⟩ := hI.vals j t hj hbj
        refine ⟨x, ?_, hmono _ _ _ _ hbw hsx⟩
        cases hdst : oi.dst with
        | none => simpa [Act.put] using hx
        | some u =>
          have hne : u ≠ t := by
            rintro rfl
            exact hji (distinct hd hj (by rw [hDi, hdst]))
          simp [Act.put, Array.getElem?_setIfInBounds_ne hne]
          exact hx
  · intro b a w hb hI
    exact hend a w ⟨hI.below, hZt b w hb hI.z, hI.defers, hI.size, hI.elder, fun i t hi _ => hI.vals i t hi (hb i (by
      rw [List.contains_iff_mem, List.mem_range]
      have := (List.getElem?_eq_some_iff.1 hi).1
      rw [← hD] at this
      simpa using this))⟩
theorem zs_nil {P : Program} {ops : Array Oper} {Q : Exit → Act → World → Prop} {B : List Nat} {D : List (Option Tmp)} {S : Nat → World → Value → Prop} {Z : (Nat → Bool) → World → Prop} {gs : List Nat} {a0 : Act} {wb : World} : ∀ i ∈ ([] : List Nat), ZStep P ops Q B D S Z gs a0 wb i := fun _ h => by cases h
theorem zs_cons {P : Program} {ops : Array Oper} {Q : Exit → Act → World → Prop} {B : List Nat} {D : List (Option Tmp)} {S : Nat → World → Value → Prop} {Z : (Nat → Bool) → World → Prop} {gs : List Nat} {a0 : Act} {wb : World} {i : Nat} {rs : List Nat} (h : ZStep P ops Q B D S Z gs a0 wb i) (hs : ∀ j ∈ rs, ZStep P ops Q B D S Z gs a0 wb j) : ∀ j ∈ i :: rs, ZStep P ops Q B D S Z gs a0 wb j := fun j hj => by
  rcases List.mem_cons.1 hj with rfl | hj
  · exact h
  · exact hs j hj
/-- Is a specification kept while all blocks stay but these? -/
def MonoL (gs : List Nat) (s : World → Value → Prop) : Prop := ∀ w1 w2 v, KeepL gs w1 w2 → s w1 v → s w2 v
theorem monoL_eq {gs : List Nat} (x : Value) : MonoL gs (fun _ v => v = x) := fun _ _ _ _ h => h
theorem monoL_nil {gs : List Nat} : ∀ s ∈ ([] : List (World → Value → Prop)), MonoL gs s := fun _ h => by cases h
theorem monoL_cons {gs : List Nat} {s : World → Value → Prop} {l : List (World → Value → Prop)} (h : MonoL gs s) (hs : ∀ t ∈ l, MonoL gs t) : ∀ t ∈ s :: l, MonoL gs t := fun t ht => by
  rcases List.mem_cons.1 ht with rfl | ht
  · exact h
  · exact hs t ht
theorem monoL_getD {gs : List Nat} {l : List (World → Value → Prop)} (h : ∀ s ∈ l, MonoL gs s) : ∀ i w1 w2 v, KeepL gs w1 w2 → l.getD i (fun _ _ => False) w1 v → l.getD i (fun _ _ => False) w2 v := by
  intro i w1 w2 v hb hs
  rw [List.getD_eq_getElem?_getD] at hs ⊢
  cases hi : l[i]? with
  | none => rw [hi] at hs; exact hs.elim
  | some s => rw [hi] at hs; exact h s (List.mem_of_getElem? hi) w1 w2 v hb hs
theorem monoL_R {gs : List Nat} {α : Type} (d : Kd α) (e base : Nat) (ok : Nat → Prop) (xs : List α) (hok : ∀ k, ok k → k ∉ gs) : MonoL gs (fun w v => d.R e w base ok v xs) := fun _ _ _ hk h => Kd.R_step h (fun k ho hlt => hk.2 k hlt (hok k ho))
end Go.Proofs.Ytimfnfifedgooaa.Reg
end

section
/- Behind a region that draws: its frame written out, slot by slot. No conditions. -/
namespace Go.Proofs.Ytimfnfifedgooaa.Reg
open Go Go.RowKit Go.Proofs.YtimfnfifedgooaaW.PrintWords Go.Proofs.YtimfnfifedgooaaW.PrintLast
/-- The slots of D filled out of g. -/
def puts (g : Tmp → Value) : List (Option Tmp) → Act → Act
  | [], a => a
  | none :: D, a => puts g D a
  | some t :: D, a => puts g D (a.put (some t) (g t))
theorem puts_defers (g : Tmp → Value) : ∀ D a, (puts g D a).defers = a.defers
  | [], _ => rfl
  | none :: D, a => puts_defers g D a
  | some t :: D, a => (puts_defers g D _).trans (by simp [Act.put])
theorem puts_size (g : Tmp → Value) : ∀ D a, (puts g D a).tmps.size = a.tmps.size
  | [], _ => rfl
  | none :: D, a => puts_size g D a
  | some t :: D, a => (puts_size g D _).trans (by simp [Act.put])
theorem puts_out (g : Tmp → Value) : ∀ D a t, some t ∉ D → (puts g D a).tmps[t]? = a.tmps[t]?
  | [], _, _, _ => rfl
  | none :: D, a, t, h => puts_out g D a t (fun h' => h (List.mem_cons_of_mem _ h'))
  | some u :: D, a, t, h => by
    have hne : u ≠ t := fun e => h (by rw [e]; exact List.mem_cons_self)
    refine (puts_out g D _ t (fun h' => h (List.mem_cons_of_mem _ h'))).trans ?_
    simp [Act.put, Array.getElem?_setIfInBounds_ne hne]
theorem puts_in (g : Tmp → Value) : ∀ D a t, some t ∈ D → t < a.tmps.size → (puts g D a).tmps[t]? = some (g t)
  | [], _, _, h, _ => by cases h
  | none :: D, a, t, h, hs => puts_in g D a t (by simpa using h) hs
  | some u :: D, a, t, h, hs => by
    show (puts g D (a.put (some u) (g u))).tmps[t]? = some (g t)
    by_cases hD : some t ∈ D
    · exact puts_in g D _ t hD (by simpa [Act.put] using hs)
    · have hu : u = t := by
        rcases List.mem_cons.1 h with h | h
        · exact (Option.some.inj h).symm
        · exact absurd h hD
      subst hu
      rw [puts_out g D _ u hD]
      simp [Act.put, hs]
/-- The frame that the region leaves. -/
theorem RegI.frame {D : List (Option Tmp)} {S : Nat → World → Value → Prop} {a0 : Act} {w0 : World} {b : Nat → Bool} {a : Act} {w : World} (h : RegI D S a0 w0 b a w) : a = puts (fun t => a.tmps.getD t undef) D a0 := by
  have h1 : a.tmps = (puts (fun t => a.tmps.getD t undef) D a0).tmps := by
    apply Array.ext_getElem?
    intro t
    by_cases hD : some t ∈ D
    · by_cases hs : t < a0.tmps.size
      · rw [puts_in _ D a0 t hD hs]
        have hs' : t < a.tmps.size := by rw [h.size]; exact hs
        simp [Array.getD_eq_getD_getElem?, hs']
      · rw [Array.getElem?_eq_none (by rw [h.size]; omega), Array.getElem?_eq_none (by rw [puts_size]; omega)]
    · rw [puts_out _ D a0 t hD, h.elder t hD]
  have h2 : a.defers = (puts (fun t => a.tmps.getD t undef) D a0).defers := by rw [puts_defers, h.defers]
  generalize puts (fun t => a.tmps.getD t undef) D a0 = c at h1 h2
  cases a; cases c
  simp only at h1 h2
  rw [h1, h2]
theorem getD_of {a : Act} {t : Tmp} {v : Value} (h : a.tmps[t]? = some v) : a.tmps.getD t undef = v := by simp [Array.getD_eq_getD_getElem?, h]
end Go.Proofs.Ytimfnfifedgooaa.Reg
end

section
-- PRINTED BY print.sh 35421559b90ae4d0a3588c463048766b98c2df88dd9212a6774a882060cdf62d: not written by this session
/-! ### 52. A row that stays read whatever happens to a block (a set of blocks) doesn't lie there -/
namespace Go.Proofs.YtimfnfifedgooaaW.PrintWords
open Go.RowKit
namespace Kd
section
variable {α : Type} {d : Kd α} {W : World} {g n : Nat} {S ok : Nat → Prop} {A : Option Addr} {ad : Addr} {xs : List α}
theorem C_not_empty (h : d.C W (some ad) n xs) (hn : 0 < n) (hs : 0 < d.sz) : W.cell? ad ≠ none := by
  obtain ⟨ad', he, hc⟩ := h.2.2 hn
  injection he with he
  subst he
  obtain ⟨c, hcl, _, hcell⟩ := hc 0 _ (List.getElem?_eq_getElem (by rw [h.1]; exact hn))
  have h1 := hcell 0 _ (List.getElem?_eq_getElem (by omega))
  rw [Nat.zero_mul, Nat.zero_add, Addr.add_zero'] at h1
  rw [h1]
  exact Option.some_ne_none _
/-- It lies in a block that stands. -/
theorem C_lt (h : d.C W (some ad) n xs) (hn : 0 < n) (hs : 0 < d.sz) : ad.block < W.heap.size := by
  cases hc : W.cell? ad with
  | none => exact absurd hc (C_not_empty h hn hs)
  | some v => exact World.block_lt_of_cell? W ad hc
end
end Kd
end Go.Proofs.YtimfnfifedgooaaW.PrintWords
end

section
-- PRINTED BY print.sh 35421559b90ae4d0a3588c463048766b98c2df88dd9212a6774a882060cdf62d: not written by this session
namespace Go.Proofs.YtimfnfifedgooaaW.PrintWords
open Go.RowKit
end Go.Proofs.YtimfnfifedgooaaW.PrintWords
namespace Go.Proofs.YtimfnfifedgooaaW.PrintLast
section
variable {ops : Array Oper} {a : Act} {o og : Oper} {g : Nat} {t : Tmp} {u : Bool}
end
end Go.Proofs.YtimfnfifedgooaaW.PrintLast
end
