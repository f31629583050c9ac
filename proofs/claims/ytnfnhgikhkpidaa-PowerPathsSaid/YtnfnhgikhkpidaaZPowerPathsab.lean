/- A map keyed by pairs of numbers: its look-up, and the store by 'm[k]++'. -/
import Derived.Laws.StructEq
import Derived.Test.YtnfnhgikhkpidaaProg
import Derived.Below
import Derived.Deep.Draws
import Derived.Deep.AppendLies
import Derived.Maps.AppendAt
import Derived.OwnWalk
import Derived.Laws.BytesArg
import Derived.Laws.MakeOwn
import Derived.Laws.OwnMore
import Derived.Deep.OwnRows
import Derived.Tactics
import Derived.Lib.ConvBytes
import Derived.Laws.Slices
import Derived.WalkKit
import Derived.KernelRfl
import Derived.RowKit3
import Derived.Deep.LoopGhost
import Derived.Deep.QuietTactic
import Derived.BigQuiet
import Derived.WideLaws
import Derived.Deep.DeepCutAuto
import Derived.Deep.CutBlock
import Derived.Deep.RegionHeld3
import Derived.Laws.Rows
import Derived.Lib.AppendStr
import Derived.ArgAppend
import Derived.Laws.IdiomCopy
import Derived.OrdersHeld
import Derived.Laws.BitsLemmas
import Derived.RowKit
import Derived.Maps.OwnOps
import Derived.Laws.CopyOwn
import Derived.Laws.Tables
import Derived.Maps.OwnSet
import Derived.Maps.Views
import Derived.DeepKeys4
import Derived.WideKeyEntry
import Derived.Test.YtnfnhgikhkpidaaZPowerPathsaa
section
-- PRINTED BY print.sh 35421559b90ae4d0a3588c463048766b98c2df88dd9212a6774a882060cdf62d: not written by this session
/-! ### 40. Elements whose inner rows lie apart: what is stored into one says nothing of the others.
   S: as_ R, with an owner function f (block to element's index). H: as_ S with a hole: of element i its cells alone are told, its blocks are oki. -/
namespace Go.Proofs.YtnfnhgikhkpidaaW.PrintWords
open Go.RowKit
namespace Kd
/-- An element with its index: its blocks are those that f gives to it. -/
def tag {α : Type} (f : Nat → Nat) (d : Kd α) : Kd (α × Nat) where
  sz := d.sz
  E := d.E
  K := fun w x cs => d.K w x.1 cs
  M := fun w base ok x cs => d.M w base (fun k => ok k ∧ f k = x.2) x.1 cs
  K_len := fun h => d.K_len h
  K_one := fun h => d.K_one h
  K_below := fun hb h => d.K_below hb h
  K_of_M := fun h => d.K_of_M h
  M_mono := fun hok h => d.M_mono (fun k hk => ⟨hok k hk.1, hk.2⟩) h
  M_bound := fun h => d.M_mono (fun _ hk => ⟨⟨hk.1.1, hk.2⟩, hk.1.2⟩) (d.M_bound h)
  M_move := fun hm h => d.M_move (fun k hk => hm k hk.1) h
  M_lower := fun hb h => d.M_lower hb h
/-- Nothing but its cells: no block is said of it. -/
def bare {α : Type} (d : Kd α) : Kd α where
  sz := d.sz
  E := d.E
  K := d.K
  M := fun w base _ x cs => d.M w base (fun _ => False) x cs
  K_len := fun h => d.K_len h
  K_one := fun h => d.K_one h
  K_below := fun hb h => d.K_below hb h
  K_of_M := fun h => d.K_of_M h
  M_mono := fun _ h => h
  M_bound := fun h => h
  M_move := fun _ h => d.M_move (fun _ hk => hk.elim) h
  M_lower := fun hb h => d.M_lower hb h
/-- The cells themselves. -/
def raw (sz : Nat) : Kd (List Value) where
  sz := sz
  E := []
  K := fun _ x cs => cs = x ∧ cs.length = sz ∧ ∀ u ∈ cs, u.oneCell' = true
  M := fun _ _ _ x cs => cs = x ∧ cs.length = sz ∧ ∀ u ∈ cs, u.oneCell' = true
  K_len := fun h => h.2.1
  K_one := fun h => h.2.2
  K_below := fun _ h => h
  K_of_M := fun h => h
  M_mono := fun _ h => h
  M_bound := fun h => h
  M_move := fun _ h => h
  M_lower := fun _ h => h
/-- A row of elements (type e) of the call's own, no two of which lead to one block. -/
def S {α : Type} (d : Kd α) (e : Nat) (w : World) (base : Nat) (ok : Nat → Prop) (v : Value) (xs : List α) : Prop := ∃ f, (tag f d).R e w base ok v xs.zipIdx
section
variable {α β : Type} {d : Kd α} {d' : Kd β} {e e' : Nat} {w w1 W : World} {base b : Nat} {ok ok' okv oku : Nat → Prop} {u v : Value} {xs : List α} {ys : List β}
/-- A row whose elements lead to nothing: its blocks are its own one. -/
theorem R_tight (hE : d.E = []) (h : d.R e w base ok v xs) : d.R e w base (fun k => some k = v.ownBlock) v xs := by
  obtain ⟨h0, inner, ho, hr⟩ := h
  refine ⟨fun k hk => hk.symm, inner, ho, hr.imp_ (fun p c hp => d.M_mono (fun k hk => ?_) (d.M_bound hp))⟩
  obtain ⟨_, _, _, q, hq, _⟩ := hk
  rw [hE] at hq
  cases hq
theorem S_nil (d : Kd α) (e : Nat) (w : World) (base : Nat) (ok : Nat → Prop) : S d e w base ok (.slice none 0 0) [] := ⟨fun _ => 0, R_nil _ _ _ _ _⟩
end
section
variable {α β : Type} {d : Kd α} {d' : Kd β} {e e' g : Nat} {w w1 W : World} {base b : Nat} {ok ok' okv oku : Nat → Prop} {u v : Value} {xs : List α} {ys : List β}
end
/-! #### append, make, literals: the new element's blocks are none of the elder ones' -/
section
variable {P : Program} {ops : Array Oper} {rest : List Oper} {o : Oper} {a : Act} {Q : Exit → Act → World → Prop} {Kc : Act → World → Prop} {α : Type}
end
/-! #### a row with a hole: element i is lent, its blocks are oki; of it the row says its cells alone -/
/-- Element i is these cells; the others are d's. -/
def gap {α : Type} (f : Nat → Nat) (d : Kd α) (i : Nat) (c : List Value) : Kd (α × Nat) where
  sz := d.sz
  E := d.E
  K := fun w x cs => (x.2 = i → cs = c ∧ cs.length = d.sz ∧ ∀ u ∈ cs, u.oneCell' = true) ∧ (x.2 ≠ i → d.K w x.1 cs)
  M := fun w base ok x cs => (x.2 = i → cs = c ∧ cs.length = d.sz ∧ ∀ u ∈ cs, u.oneCell' = true) ∧ (x.2 ≠ i → d.M w base (fun k => ok k ∧ f k = x.2) x.1 cs)
  K_len := fun {w x cs} h => by
    by_cases hx : x.2 = i
    · exact (h.1 hx).2.1
    · exact d.K_len (h.2 hx)
  K_one := fun {w x cs} h => by
    by_cases hx : x.2 = i
    · exact (h.1 hx).2.2
    · exact d.K_one (h.2 hx)
  K_below := fun hb h => ⟨h.1, fun hx => d.K_below hb (h.2 hx)⟩
  K_of_M := fun h => ⟨h.1, fun hx => d.K_of_M (h.2 hx)⟩
  M_mono := fun hok h => ⟨h.1, fun hx => d.M_mono (fun k hk => ⟨hok k hk.1, hk.2⟩) (h.2 hx)⟩
  M_bound := fun h => ⟨h.1, fun hx => d.M_mono (fun _ hk => ⟨⟨hk.1.1, hk.2⟩, hk.1.2⟩) (d.M_bound (h.2 hx))⟩
  M_move := fun hm h => ⟨h.1, fun hx => d.M_move (fun k hk => hm k hk.1) (h.2 hx)⟩
  M_lower := fun hb h => ⟨h.1, fun hx => d.M_lower hb (h.2 hx)⟩
def H {α : Type} (d : Kd α) (e : Nat) (w : World) (base : Nat) (ok : Nat → Prop) (v : Value) (xs : List α) (i : Int) (oki : Nat → Prop) (c : List Value) : Prop :=
  (∀ k, oki k → ok k) ∧ ∃ f, (gap f d i.toNat c).R e w base (fun k => ok k ∧ ¬ oki k) v xs.zipIdx
section
variable {α β : Type} {d : Kd α} {e e' g n cap : Nat} {w w1 W : World} {base : Nat} {ok ok' oki okp : Nat → Prop} {u v : Value} {xs : List α} {i : Int} {c : List Value}
end
section
variable {P : Program} {ops : Array Oper} {rest : List Oper} {o : Oper} {a : Act} {Q : Exit → Act → World → Prop} {α : Type}
end
end Kd
end Go.Proofs.YtnfnhgikhkpidaaW.PrintWords
end

section
-- PRINTED BY print.sh 35421559b90ae4d0a3588c463048766b98c2df88dd9212a6774a882060cdf62d: not written by this session
/-! ### 41. Arrays '[n]T' as_ values: a kind (a field, an element of a row), an element read, an element set -/
namespace Go.Proofs.YtnfnhgikhkpidaaW.PrintWords
open Go.RowKit
namespace Kd
theorem reps_one {α : Type} {R : α → List Value → Prop} {size : Nat} {ps : List α} {cs : List Value} (h : Reps R size ps cs) (hs0 : 0 < size) (hR : ∀ p c, R p c → ∀ u ∈ c, u.oneCell' = true) : ∀ u ∈ cs, u.oneCell' = true := by
  intro u hu
  obtain ⟨q, hq, rfl⟩ := List.mem_iff_getElem.1 hu
  have hql : q / size < ps.length := by
    rw [Nat.div_lt_iff_lt_mul hs0, ← h.1]
    exact hq
  refine hR _ _ (h.2 (q / size) _ (List.getElem?_eq_getElem hql)) _ ?_
  rw [List.mem_iff_getElem?]
  refine ⟨q % size, ?_⟩
  rw [List.getElem?_take, if_pos (Nat.mod_lt _ hs0), List.getElem?_drop, Nat.mul_comm, Nat.div_add_mod, List.getElem?_eq_getElem hq]
/-- An array of n elements of kind d. -/
def arr {α : Type} (n : Nat) (d : Kd α) (hs : 0 < d.sz) : Kd (List α) where
  sz := n * d.sz
  E := d.E
  K := fun w xs cs => xs.length = n ∧ Reps (d.K w) d.sz xs cs
  M := fun w base ok xs cs => xs.length = n ∧ Reps (d.M w base ok) d.sz xs cs
  K_len := fun h => by rw [← h.1]; exact h.2.1
  K_one := fun h => reps_one h.2 hs (fun _ _ hk => d.K_one hk)
  K_below := fun hb h => ⟨h.1, h.2.imp_ (fun _ _ hk => d.K_below hb hk)⟩
  K_of_M := fun h => ⟨h.1, h.2.imp_ (fun _ _ hk => d.K_of_M hk)⟩
  M_mono := fun hok h => ⟨h.1, h.2.imp_ (fun _ _ hk => d.M_mono hok hk)⟩
  M_bound := fun h => ⟨h.1, h.2.imp_ (fun _ _ hk => d.M_bound hk)⟩
  M_move := fun hm h => ⟨h.1, h.2.imp_ (fun _ _ hk => d.M_move hm hk)⟩
  M_lower := fun hb h => ⟨h.1, h.2.imp_ (fun _ _ hk => d.M_lower hb hk)⟩
section
variable {α : Type} {n : Nat} {d : Kd α} {hs : 0 < d.sz} {w : World} {base : Nat} {ok : Nat → Prop} {xs : List α} {cs : List Value}
end
section
variable {α : Type} {n : Nat} {enc : α → Value} {h1 : ∀ x, (enc x).oneCell' = true} {hs : 0 < (scalar enc h1).sz} {w : World} {base : Nat} {ok : Nat → Prop} {xs : List α} {cs : List Value}
end
end Kd
end Go.Proofs.YtnfnhgikhkpidaaW.PrintWords
end

section
-- PRINTED BY print.sh 35421559b90ae4d0a3588c463048766b98c2df88dd9212a6774a882060cdf62d: not written by this session
/-! ### 42. append(v, make([]T, n)...): the operation comes as_ append with the number in the second place -/
namespace Go.Proofs.YtnfnhgikhkpidaaW.PrintWords
open Go.RowKit
section
variable {P : Program}
end
namespace Kd
section
variable {P : Program} {ops : Array Oper} {rest : List Oper} {o : Oper} {a : Act} {Q : Exit → Act → World → Prop} {Kc : Act → World → Prop} {α : Type}
end
/-! #### the same for rows whose elements lie apart -/
/-- As_ tag; an element without index leads to nothing. -/
def tagO {α : Type} (f : Nat → Nat) (d : Kd α) : Kd (α × Option Nat) where
  sz := d.sz
  E := d.E
  K := fun w x cs => d.K w x.1 cs
  M := fun w base ok x cs => d.M w base (fun k => ok k ∧ some (f k) = x.2) x.1 cs
  K_len := fun h => d.K_len h
  K_one := fun h => d.K_one h
  K_below := fun hb h => d.K_below hb h
  K_of_M := fun h => d.K_of_M h
  M_mono := fun hok h => d.M_mono (fun k hk => ⟨hok k hk.1, hk.2⟩) h
  M_bound := fun h => d.M_mono (fun _ hk => ⟨⟨hk.1.1, hk.2⟩, hk.1.2⟩) (d.M_bound h)
  M_move := fun hm h => d.M_move (fun k hk => hm k hk.1) h
  M_lower := fun hb h => d.M_lower hb h
section
variable {α : Type} {d : Kd α} {e : Nat} {w : World} {base : Nat} {ok : Nat → Prop} {v : Value} {xs : List α}
def zipO (xs : List α) (z : α) (m : Nat) : List (α × Option Nat) := xs.zipIdx.map (fun p => (p.1, some p.2)) ++ List.replicate m (z, none)
end
section
variable {P : Program} {ops : Array Oper} {rest : List Oper} {o : Oper} {a : Act} {Q : Exit → Act → World → Prop} {Kc : Act → World → Prop} {α : Type}
end
end Kd
end Go.Proofs.YtnfnhgikhkpidaaW.PrintWords
end

section
-- PRINTED BY print.sh 35421559b90ae4d0a3588c463048766b98c2df88dd9212a6774a882060cdf62d: not written by this session
/-! ### 43. What is read beside a state: it stays read whatever the state's calls turn ('∀ W', KeepBut w W' g none → d.C W' A n xs') -/
namespace Go.Proofs.YtnfnhgikhkpidaaW.PrintWords
open Go.RowKit
namespace Kd
/-- What a kind reads lies in the blocks: nothing else of the world is looked at. -/
structure Heap {α : Type} (d : Kd α) : Prop where
  K : ∀ {w w1 : World} {x : α} {cs : List Value}, (∀ k, k < w.heap.size → w1.heap[k]? = w.heap[k]?) → d.K w x cs → d.K w1 x cs
theorem cell_heap {w w1 : World} (hb : ∀ k, k < w.heap.size → w1.heap[k]? = w.heap[k]?) {a : Addr} {v : Value} (h : w.cell? a = some v) : w1.cell? a = some v := by
  have := hb a.block (World.block_lt_of_cell? w a h)
  simpa [World.cell?, this] using h
theorem Heap.C {α : Type} {d : Kd α} (hd : Heap d) {w w1 : World} {A : Option Addr} {n : Nat} {xs : List α} (hb : ∀ k, k < w.heap.size → w1.heap[k]? = w.heap[k]?) (h : d.C w A n xs) : d.C w1 A n xs :=
  ⟨h.1, h.2.1, fun hn => by
    obtain ⟨ad, e, hc⟩ := h.2.2 hn
    refine ⟨ad, e, fun j p hj => ?_⟩
    obtain ⟨c, hs, hr, hcell⟩ := hc j p hj
    exact ⟨c, hs, hd.K hb hr, fun i u hu => cell_heap hb (hcell i u hu)⟩⟩
theorem heap_int (k : IntKind) : Heap (Kd.int k) := ⟨fun _ h => h⟩
theorem heap_bool : Heap Kd.bool := ⟨fun _ h => h⟩
theorem heap_slice {α : Type} {d : Kd α} (e : Nat) (hd : Heap d) : Heap (slice e d) := ⟨by
  rintro w w1 x cs hb ⟨A, c, rfl, hl, hr⟩
  exact ⟨A, c, rfl, hl, hd.C hb hr⟩⟩
theorem heap_pair {α β : Type} {a : Kd α} {b : Kd β} (ha : Heap a) (hb' : Heap b) : Heap (pair a b) := ⟨by
  rintro w w1 x cs hb ⟨c0, c1, rfl, h0, h1⟩
  exact ⟨c0, c1, rfl, ha.K hb h0, hb'.K hb h1⟩⟩
theorem heap_iso {α β : Type} {d : Kd α} (f : β → α) (hd : Heap d) : Heap (iso d f) := ⟨fun hb h => hd.K hb h⟩
theorem heap_bot {α : Type} (sz : Nat) (E : List Nat) : Heap (bot sz E : Kd α) := ⟨fun _ h => h⟩
theorem heap_upto {α : Type} {F : Kd α → Kd α} {sz : Nat} {E : List Nat} (hF : ∀ d, Heap d → Heap (F d)) : ∀ n, Heap (upto F sz E n)
  | 0 => heap_bot sz E
  | n + 1 => hF _ (heap_upto hF n)
theorem heap_fix {α : Type} {F : Kd α → Kd α} {sz : Nat} {E : List Nat} {hs : ∀ n, (upto F sz E n).sz = sz} {hE : ∀ n q, q ∈ (upto F sz E n).E → q ∈ E} (hF : ∀ d, Heap d → Heap (F d)) : Heap (fix F sz E hs hE) := ⟨by
  rintro w w1 x cs hb ⟨n, h⟩
  exact ⟨n, (heap_upto hF n).K hb h⟩⟩
section
variable {α : Type} {d : Kd α} {e base g n c : Nat} {ok : Nat → Prop} {w w0 W : World} {A : Option Addr} {xs : List α}
end
end Kd
end Go.Proofs.YtnfnhgikhkpidaaW.PrintWords
end

section
-- PRINTED BY print.sh 35421559b90ae4d0a3588c463048766b98c2df88dd9212a6774a882060cdf62d: not written by this session
/-! ### 45. What a call keeps: all but the blocks of S (the rows that it was given to write) and what is new since -/
namespace Go.Proofs.YtnfnhgikhkpidaaW.PrintWords
open Go.RowKit
def Kept (w W : World) (S : Nat → Prop) : Prop := w.heap.size ≤ W.heap.size ∧ ∀ i, i < w.heap.size → ¬ S i → W.heap[i]? = w.heap[i]?
section
variable {w W W2 : World} {S S2 S' : Nat → Prop}
theorem Kept.refl (w : World) (S : Nat → Prop) : Kept w w S := ⟨Nat.le_refl _, fun _ _ _ => rfl⟩
theorem Kept.of_below (h : Below w.heap.size w W) (S : Nat → Prop) : Kept w W S := ⟨h.size, fun i hi _ => h.block i hi⟩
theorem Kept.mono (h : Kept w W S) (hs : ∀ k, S k → S' k) : Kept w W S' := ⟨h.1, fun i hi hn => h.2 i hi (fun hk => hn (hs i hk))⟩
theorem Kept.then_ (h : Kept w W S) (k : Kept W W2 S2) (hs : ∀ k, S2 k → S k ∨ w.heap.size ≤ k) : Kept w W2 S :=
  ⟨Nat.le_trans h.1 k.1, fun i hi hn => (k.2 i (Nat.lt_of_lt_of_le hi h.1) (fun h2 => (hs i h2).elim hn (fun h3 => by omega))).trans (h.2 i hi hn)⟩
theorem Kept.of_grown {row : Option Nat} (hg : W.grownBy W2 row) (h : Kept w W S) (hr : ∀ k, row = some k → S k ∨ w.heap.size ≤ k) : Kept w W2 S :=
  h.then_ (S2 := fun k => row = some k) ⟨hg.size, fun i hi hn => hg.block i hi (fun he => hn he.symm)⟩ hr
theorem Kept.below (h : Kept w W S) (hb : Below W.heap.size W W2) : Kept w W2 S := h.then_ (Kept.of_below hb (fun _ => False)) (fun _ hk => hk.elim)
theorem Kept.alloc (h : Kept w W S) (o : Obj) : Kept w (W.alloc o) S := h.below (below_alloc (Below.refl _ _) o)
theorem Kept.drew (h : Kept w W S) : Kept w W.drew S := h
theorem Kept.drewN (h : Kept w W S) (m : Nat) : Kept w (W.drewN m) S := h
theorem Kept.setCell (h : Kept w W S) {p : Addr} (hp : S p.block ∨ w.heap.size ≤ p.block) (u : Value) : Kept w (W.setCell p u) S :=
  h.then_ (S2 := fun k => k = p.block) ⟨by simp [World.setCell], fun i _ hn => Below.heap_setCell W p u i hn⟩ (fun k hk => by rw [hk]; exact hp)
/-- Beside a state: what was written is new since. -/
theorem Kept.keep {g : Nat} (h : KeepBut w W g none) (k : Kept W W2 S2) (hs : ∀ k, S2 k → w.heap.size ≤ k) : KeepBut w W2 g none :=
  ⟨Nat.le_trans h.1 k.1, fun i hi hg hr => (k.2 i (Nat.lt_of_lt_of_le hi h.1) (fun h2 => by have := hs i h2; omega)).trans (h.2 i hi hg hr)⟩
end
namespace Kd
section
variable {α : Type} {d : Kd α} {e base n c : Nat} {ok oki S S2 : Nat → Prop} {w w0 W W1 W2 : World} {v : Value} {A : Option Addr} {xs : List α} {i : Int} {cs : List Value}
/-- A row that came in. -/
theorem C_kept_came (hd : Heap d) (h : d.C w0 A n xs) (hb : Below w0.heap.size w0 W) (hS : ∀ k, S k → w0.heap.size ≤ k) : ∀ W', Kept W W' S → d.C W' A n xs := fun W' hk =>
  hd.C (fun k hlt => (hk.2 k (Nat.lt_of_lt_of_le hlt hb.size) (fun h2 => by have := hS k h2; omega)).trans (hb.block k hlt)) h
/-- .. and at a call that writes less. -/
theorem C_kept_call (h : ∀ W', Kept w W' S → d.C W' A n xs) (hk : Kept w W S) (hs : ∀ k, S2 k → S k ∨ w.heap.size ≤ k) : ∀ W', Kept W W' S2 → d.C W' A n xs := fun W' hk' => h W' (hk.then_ hk' hs)
theorem C_kept_now (h : ∀ W', Kept w W' S → d.C W' A n xs) (hk : Kept w W S) : d.C W A n xs := h W hk
end
end Kd
end Go.Proofs.YtnfnhgikhkpidaaW.PrintWords
end

section
-- PRINTED BY print.sh 35421559b90ae4d0a3588c463048766b98c2df88dd9212a6774a882060cdf62d: not written by this session
/-! ### 46. Values that share: what is only read, with the blocks it lies in (its footprint 'ok'): Foot, F (a row that is read), FK (an element's cells) -/
namespace Go.Proofs.YtnfnhgikhkpidaaW.PrintWords
open Go.RowKit
/-- P holds in W and in every world that has W's blocks of ok. -/
def Foot (P : World → Prop) (W : World) (ok : Nat → Prop) : Prop := ∀ W' : World, (∀ k, ok k → k < W.heap.size → W'.heap[k]? = W.heap[k]?) → P W'
theorem heap_lt {W W1 : World} {k : Nat} (h : W1.heap[k]? = W.heap[k]?) (hlt : k < W.heap.size) : k < W1.heap.size := by
  rw [Array.getElem?_eq_getElem hlt] at h
  exact (Array.getElem?_eq_some_iff.1 h).1
namespace Foot
variable {P Q : World → Prop} {W W1 : World} {ok ok' : Nat → Prop}
theorem now (h : Foot P W ok) : P W := h W (fun _ _ _ => rfl)
theorem mono (h : Foot P W ok) (hok : ∀ k, ok k → ok' k) : Foot P W ok' := fun W' hW => h W' (fun k hk hlt => hW k (hok k hk) hlt)
theorem bound (h : Foot P W ok) : Foot P W (fun k => ok k ∧ k < W.heap.size) := fun W' hW => h W' (fun k hk hlt => hW k ⟨hk, hlt⟩ hlt)
theorem step (h : Foot P W ok) (hm : ∀ k, ok k → k < W.heap.size → W1.heap[k]? = W.heap[k]?) : Foot P W1 ok := fun W' hW => h W' (fun k hk hlt => (hW k hk (heap_lt (hm k hk hlt) hlt)).trans (hm k hk hlt))
theorem imp (h : Foot P W ok) (hi : ∀ W', P W' → Q W') : Foot Q W ok := fun W' hW => hi W' (h W' hW)
/-- Moved, and still elder than what is new since W. -/
theorem old (h : Foot P W ok) (hb : Below W.heap.size W W1) : Foot P W1 (fun k => ok k ∧ k < W.heap.size) := (h.bound).step (fun k _ hlt => hb.block k hlt)
end Foot
namespace Kd
/-- A row that is only read: what it leads to lies in ok. -/
def F {α : Type} (d : Kd α) (W : World) (ok : Nat → Prop) (A : Option Addr) (n : Nat) (xs : List α) : Prop := Foot (fun W => d.C W A n xs) W ok
/-- An element's cells: what they lead to lies in ok. -/
def FK {α : Type} (d : Kd α) (W : World) (ok : Nat → Prop) (x : α) (c : List Value) : Prop := Foot (fun W => d.K W x c) W ok
section
variable {α β : Type} {d : Kd α} {e base n n' cc g N : Nat} {ok ok' okp S : Nat → Prop} {w w0 w1 W W1 : World} {A A' : Option Addr} {u v v1 : Value} {xs : List α} {xs' : List β} {d' : Kd β} {x : α} {c : List Value}
theorem F_nil (d : Kd α) (W : World) (ok : Nat → Prop) : F d W ok none ([] : List α).length [] := fun W' _ => C_nil d W'
theorem FK_of_M (h : d.M W base ok x c) : FK d W ok x c := fun _ hW => d.K_of_M (M_step h hW)
end
end Kd
end Go.Proofs.YtnfnhgikhkpidaaW.PrintWords
end

section
-- PRINTED BY print.sh 35421559b90ae4d0a3588c463048766b98c2df88dd9212a6774a882060cdf62d: not written by this session
/-! ### 47. N: a row of the call's own whose elements share (what they lead to is only read) -/
namespace Go.Proofs.YtnfnhgikhkpidaaW.PrintWords
open Go.RowKit
namespace Kd
/-- The cells one behind the other, element by element. -/
def chunks (sz : Nat) (n : Nat) (inner : List Value) : List (List Value) := (List.range n).map fun j => (inner.drop (j * sz)).take sz
theorem chunks_length (sz n : Nat) (inner : List Value) : (chunks sz n inner).length = n := by simp [chunks]
theorem chunks_at {sz n : Nat} {inner : List Value} {j : Nat} (hj : j < n) : (chunks sz n inner)[j]? = some ((inner.drop (j * sz)).take sz) := by simp [chunks, hj]
theorem chunks_get {sz n : Nat} {inner : List Value} {j : Nat} {c : List Value} (h : (chunks sz n inner)[j]? = some c) : c = (inner.drop (j * sz)).take sz := by
  have hj : j < n := by have := (List.getElem?_eq_some_iff.1 h).1; rwa [chunks_length] at this
  rw [chunks_at hj] at h
  injection h with h
  exact h.symm
theorem reps_raw {α : Type} {Rr : α → List Value → Prop} {sz : Nat} {xs : List α} {inner : List Value} (h : Reps Rr sz xs inner) (hR : ∀ x c, Rr x c → c.length = sz ∧ ∀ u ∈ c, u.oneCell' = true) : Reps (fun x cs => cs = x ∧ cs.length = sz ∧ ∀ u ∈ cs, u.oneCell' = true) sz (chunks sz xs.length inner) inner := by
  refine ⟨by rw [chunks_length]; exact h.1, fun j p hj => ?_⟩
  have hjl : j < xs.length := by have := (List.getElem?_eq_some_iff.1 hj).1; rwa [chunks_length] at this
  have hp := chunks_get hj
  exact ⟨hp.symm, hR _ _ (h.2 j _ (List.getElem?_eq_getElem hjl))⟩
section
variable {α : Type} {d : Kd α} {e base n cc g : Nat} {ok ok' okp S : Nat → Prop} {w w1 W W1 : World} {A : Option Addr} {u v v1 : Value} {xs : List α} {x : α} {c : List Value}
/-- A row of elements (type e) of the call's own; what the elements lead to is only read, and is not this row. -/
def N {α : Type} (d : Kd α) (e : Nat) (w : World) (base : Nat) (ok : Nat → Prop) (v : Value) (xs : List α) : Prop :=
  (∀ k, v.ownBlock = some k → ok k) ∧ ∃ rows : List (List Value), rows.length = xs.length ∧ (raw d.sz).R e w base (fun k => some k = v.ownBlock) v rows ∧ ∀ (j : Nat) (x : α) (c : List Value), xs[j]? = some x → rows[j]? = some c → FK d w (fun k => ok k ∧ some k ≠ v.ownBlock) x c
theorem R_N (h : d.R e w base ok v xs) : N d e w base ok v xs := by
  obtain ⟨h0, inner, ho, hr⟩ := h
  refine ⟨h0, chunks d.sz xs.length inner, chunks_length _ _ _, ⟨fun k hk => hk.symm, inner, by rw [chunks_length]; exact ho, reps_raw hr (fun x c hp => ⟨d.K_len (d.K_of_M hp), d.K_one (d.K_of_M hp)⟩)⟩, fun j x c hx hc => ?_⟩
  rw [chunks_get hc]
  exact FK_of_M (hr.2 j x hx)
theorem N_nil (d : Kd α) (e : Nat) (w : World) (base : Nat) (ok : Nat → Prop) : N d e w base ok (.slice none 0 0) [] := R_N (R_nil _ _ _ _ _)
end
end Kd
end Go.Proofs.YtnfnhgikhkpidaaW.PrintWords
end

section
-- PRINTED BY print.sh 35421559b90ae4d0a3588c463048766b98c2df88dd9212a6774a882060cdf62d: not written by this session
/-! ### 52. A row that stays read whatever happens to a block (a set of blocks) doesn't lie there -/
namespace Go.Proofs.YtnfnhgikhkpidaaW.PrintWords
open Go.RowKit
namespace Kd
section
variable {α : Type} {d : Kd α} {W : World} {g n : Nat} {S ok : Nat → Prop} {A : Option Addr} {ad : Addr} {xs : List α}
end
end Kd
end Go.Proofs.YtnfnhgikhkpidaaW.PrintWords
end

section
-- PRINTED BY print.sh 35421559b90ae4d0a3588c463048766b98c2df88dd9212a6774a882060cdf62d: not written by this session
/-! ### 54. Behind orders that were drawn quietly: the same facts at the world's new name; a flat row's foot -/
namespace Go.Proofs.YtnfnhgikhkpidaaW.PrintWords
open Go.RowKit
section
variable {w w' u : World} {m B g : Nat} {o : Obj} {row : Option Nat} {S : Nat → Prop} {a : Addr} {v : Value}
end
namespace Kd
section
variable {α : Type} {d : Kd α} {e base n m : Nat} {ok : Nat → Prop} {w w' : World} {v : Value} {A : Option Addr} {xs : List α}
end
end Kd
end Go.Proofs.YtnfnhgikhkpidaaW.PrintWords
end

section
-- PRINTED BY print.sh 35421559b90ae4d0a3588c463048766b98c2df88dd9212a6774a882060cdf62d: not written by this session
/-! ### 53. '==' of structs as_ one Bool -/
namespace Go.Proofs.YtnfnhgikhkpidaaW.PrintWords
open Go.RowKit
section
variable {P : Program} {d : Nat} {xs ys : Array Value} {f : Field} {fs : List Field} {a b : Value} {r s : Bool} {w : World}
/-- The last field that counts. -/
theorem eqf_last (hn : (f.name == "_") = false) (ha : (part f.type xs f.offset).run P w = .ok a w) (hb : (part f.type ys f.offset).run P w = .ok b w) (he : (Op.equalIn d f.type a b).run P w = .ok r w) : (Op.eqFields d xs ys [f]).run P w = .ok r w := by
  have hn' : f.name ≠ "_" := by simpa using hn
  simp only [Op.eqFields, if_pos hn', Sem.run_bind, ha, hb, he, Result.andThen_ok]
  cases r <;> simp
theorem eqf_cons (hn : (f.name == "_") = false) (ha : (part f.type xs f.offset).run P w = .ok a w) (hb : (part f.type ys f.offset).run P w = .ok b w) (he : (Op.equalIn d f.type a b).run P w = .ok r w) (hr : (Op.eqFields d xs ys fs).run P w = .ok s w) : (Op.eqFields d xs ys (f :: fs)).run P w = .ok (r && s) w := by
  have hn' : f.name ≠ "_" := by simpa using hn
  rw [Op.eqFields]
  simp only [if_pos hn', Sem.run_bind, ha, hb, he, Result.andThen_ok]
  cases r
  · simp
  · simpa using hr
theorem eqA_of {t : TypeId} {fs : Array Field} (hu : P.underlying t = some (.struct fs)) (hp : P.stoodInHeld t = false) (h : (Op.eqFields d xs ys fs.toList).run P w = .ok r w) : (Op.equalIn (d + 1) t (.agg xs) (.agg ys)).run P w = .ok r w := by
  have hf : P.fieldsOf t = fs := by simp [Program.fieldsOf, hu]
  rw [run_equalIn_struct (P := P) w d t xs ys (by rw [hf]; exact hu) hp, hf]
  exact h
end
end Go.Proofs.YtnfnhgikhkpidaaW.PrintWords
end

section
-- PRINTED BY print.sh 35421559b90ae4d0a3588c463048766b98c2df88dd9212a6774a882060cdf62d: not written by this session
/-! ### 55. Reps told from the front, no append: for rows of one-cell elements and of wider ones -/
namespace Go.Proofs.YtnfnhgikhkpidaaW.PrintWords
/-- One cell an element. -/
theorem Reps.one {α : Type} {R : α → List Value → Prop} {ps : List α} {cs : List Value} {p : α} {v : Value} (hp : R p [v]) (h : Reps R 1 ps cs) : Reps R 1 (p :: ps) (v :: cs) := by
  refine ⟨by simp [h.1], fun j q hq => ?_⟩
  cases j with
  | zero =>
    simp only [List.getElem?_cons_zero, Option.some.injEq] at hq
    subst hq
    simpa using hp
  | succ j =>
    simp only [List.getElem?_cons_succ] at hq
    have h1 := h.2 j q hq
    simpa [Nat.mul_one] using h1
/-- More cells an element: told apart by the cells' list. -/
theorem Reps.front {α : Type} {R : α → List Value → Prop} {size : Nat} {ps : List α} {cs c all : List Value} {p : α} (hp : R p c) (hc : c.length = size) (h : Reps R size ps cs) (ha : c ++ cs = all) : Reps R size (p :: ps) all := by
  subst ha
  refine ⟨by rw [List.length_append, hc, h.1, List.length_cons, Nat.succ_mul, Nat.add_comm], fun j q hq => ?_⟩
  cases j with
  | zero =>
    simp only [List.getElem?_cons_zero, Option.some.injEq] at hq
    subst hq
    rw [Nat.zero_mul, List.drop_zero, List.take_append_of_le_length (by omega), List.take_of_length_le (by omega)]
    exact hp
  | succ j =>
    simp only [List.getElem?_cons_succ] at hq
    have h1 := h.2 j q hq
    rw [Nat.succ_mul, List.drop_append, List.drop_of_length_le (by rw [hc]; exact Nat.le_add_left _ _), List.nil_append, hc, Nat.add_sub_cancel]
    exact h1
theorem Reps.c2 {α : Type} {R : α → List Value → Prop} {ps : List α} {cs : List Value} {p : α} {va vb : Value} (hp : R p [va, vb]) (h : Reps R 2 ps cs) : Reps R 2 (p :: ps) (va :: vb :: cs) := Reps.front hp rfl h rfl
theorem Reps.c3 {α : Type} {R : α → List Value → Prop} {ps : List α} {cs : List Value} {p : α} {va vb vc : Value} (hp : R p [va, vb, vc]) (h : Reps R 3 ps cs) : Reps R 3 (p :: ps) (va :: vb :: vc :: cs) := Reps.front hp rfl h rfl
theorem Reps.c4 {α : Type} {R : α → List Value → Prop} {ps : List α} {cs : List Value} {p : α} {va vb vc vd : Value} (hp : R p [va, vb, vc, vd]) (h : Reps R 4 ps cs) : Reps R 4 (p :: ps) (va :: vb :: vc :: vd :: cs) := Reps.front hp rfl h rfl
theorem Reps.c5 {α : Type} {R : α → List Value → Prop} {ps : List α} {cs : List Value} {p : α} {va vb vc vd ve : Value} (hp : R p [va, vb, vc, vd, ve]) (h : Reps R 5 ps cs) : Reps R 5 (p :: ps) (va :: vb :: vc :: vd :: ve :: cs) := Reps.front hp rfl h rfl
theorem Reps.c6 {α : Type} {R : α → List Value → Prop} {ps : List α} {cs : List Value} {p : α} {va vb vc vd ve vf : Value} (hp : R p [va, vb, vc, vd, ve, vf]) (h : Reps R 6 ps cs) : Reps R 6 (p :: ps) (va :: vb :: vc :: vd :: ve :: vf :: cs) := Reps.front hp rfl h rfl
theorem Reps.c7 {α : Type} {R : α → List Value → Prop} {ps : List α} {cs : List Value} {p : α} {va vb vc vd ve vf vg : Value} (hp : R p [va, vb, vc, vd, ve, vf, vg]) (h : Reps R 7 ps cs) : Reps R 7 (p :: ps) (va :: vb :: vc :: vd :: ve :: vf :: vg :: cs) := Reps.front hp rfl h rfl
theorem Reps.c8 {α : Type} {R : α → List Value → Prop} {ps : List α} {cs : List Value} {p : α} {va vb vc vd ve vf vg vh : Value} (hp : R p [va, vb, vc, vd, ve, vf, vg, vh]) (h : Reps R 8 ps cs) : Reps R 8 (p :: ps) (va :: vb :: vc :: vd :: ve :: vf :: vg :: vh :: cs) := Reps.front hp rfl h rfl
theorem Reps.c9 {α : Type} {R : α → List Value → Prop} {ps : List α} {cs : List Value} {p : α} {va vb vc vd ve vf vg vh vi : Value} (hp : R p [va, vb, vc, vd, ve, vf, vg, vh, vi]) (h : Reps R 9 ps cs) : Reps R 9 (p :: ps) (va :: vb :: vc :: vd :: ve :: vf :: vg :: vh :: vi :: cs) := Reps.front hp rfl h rfl
theorem Reps.c10 {α : Type} {R : α → List Value → Prop} {ps : List α} {cs : List Value} {p : α} {va vb vc vd ve vf vg vh vi vj : Value} (hp : R p [va, vb, vc, vd, ve, vf, vg, vh, vi, vj]) (h : Reps R 10 ps cs) : Reps R 10 (p :: ps) (va :: vb :: vc :: vd :: ve :: vf :: vg :: vh :: vi :: vj :: cs) := Reps.front hp rfl h rfl
end Go.Proofs.YtnfnhgikhkpidaaW.PrintWords
end

section
-- PRINTED BY print.sh 35421559b90ae4d0a3588c463048766b98c2df88dd9212a6774a882060cdf62d: not written by this session
/-! ### 57. A region of open order by ONE relation over what is listed so far: each operation is shown once, whatever came up before it -/
namespace Go.Proofs.YtnfnhgikhkpidaaW.PrintLast
/-- Number i is listed too. -/
def up (b : Nat → Bool) (i : Nat) : Nat → Bool := fun j => if j = i then true else b j
/-- What is listed: O's operations by b, all else already. -/
def lof (n : Nat) (O : List Nat) (b : Nat → Bool) : List Bool := (List.range n).map fun j => if O.contains j then b j else true
/-- The destinations of what is listed are filled. -/
def putSel (a : Act) (b : Nat → Bool) : List (Nat × Tmp × Value) → Act
  | [] => a
  | e :: r => putSel (if b e.1 = true then a.put (some e.2.1) e.2.2 else a) b r
section
variable {P : Program} {ops : Array Oper} {Q : Exit → Act → World → Prop} {md : Region.Mode} {T : Bool × List (List Nat × List Nat)} {B : List Nat} {O : List Nat} {b : Nat → Bool} {i j n : Nat}
/-- The step of operation i: out of the relation, it not being listed, all it waits for being so, and nothing that waits for it. -/
def StepAt (P : Program) (ops : Array Oper) (Q : Exit → Act → World → Prop) (B : List Nat) (O : List Nat) (I : (Nat → Bool) → Act → World → Prop) (i : Nat) : Prop :=
  ∀ b a w, I b a w → b i = false → (∀ j, (O.contains j && (B.getD i 0).testBit j) = true → b j = true) → (∀ d, (O.contains d && (B.getD d 0).testBit i) = true → b d = false) →
    ∃ oi, ops[i]? = some oi ∧ ∀ K : Act → World → Prop, Shut (∀ a' w', I (up b i) a' w' → K a' w') → if Region.wanted oi (yielded ops a.tmps) = true then Oper.wp P oi a w K Q else K (a.put oi.dst undef) w
/-- Every edge goes to an earlier operation; what is listed already waits for nothing of O; O's numbers are the region's, each once. -/
def baseOk (T : List (List Nat × List Nat)) (O : List Nat) : Bool :=
  (List.range T.length).all (fun d => match T[d]? with
    | some r => (O.contains d || r.1.all fun n => !O.contains n) && r.1.all fun n => decide (n < d)
    | none => false) && O.all (fun i => decide (i < T.length)) && decide O.Nodup
def Closed (T : List (List Nat × List Nat)) (O : List Nat) (b : Nat → Bool) : Prop := ∀ d r, T[d]? = some r → O.contains d = true → b d = true → ∀ n ∈ r.1, O.contains n = true → b n = true
/-! The frame: what is listed has its destination filled. -/
end
end Go.Proofs.YtnfnhgikhkpidaaW.PrintLast
end

section
-- PRINTED BY print.sh 35421559b90ae4d0a3588c463048766b98c2df88dd9212a6774a882060cdf62d: not written by this session
namespace Go.Proofs.YtnfnhgikhkpidaaW.PrintWords
open Go.RowKit
end Go.Proofs.YtnfnhgikhkpidaaW.PrintWords
namespace Go.Proofs.YtnfnhgikhkpidaaW.PrintLast
section
variable {ops : Array Oper} {a : Act} {o og : Oper} {g : Nat} {t : Tmp} {u : Bool}
end
end Go.Proofs.YtnfnhgikhkpidaaW.PrintLast
end

section
-- PRINTED BY print.sh 35421559b90ae4d0a3588c463048766b98c2df88dd9212a6774a882060cdf62d: not written by this session
/-! ### 58. A guarded operation whose guard is known to want it: the same goal without the guard -/
namespace Go.Proofs.YtnfnhgikhkpidaaW.PrintWords
open Go.RowKit
section
variable {P : Program} {ops : Array Oper} {rest : List Oper} {o : Oper} {a : Act} {Q : Exit → Act → World → Prop} {W : World}
end
end Go.Proofs.YtnfnhgikhkpidaaW.PrintWords
end

section
-- PRINTED BY print.sh 35421559b90ae4d0a3588c463048766b98c2df88dd9212a6774a882060cdf62d: not written by this session
/-! ### 48. N's events: append, a whole row appended, zeros appended, literals, make, stores, cuts, an element taken out -/
namespace Go.Proofs.YtnfnhgikhkpidaaW.PrintWords
open Go.RowKit
namespace Kd
section
variable {α : Type} {d : Kd α} {e base n cap g : Nat} {ok ok' okp : Nat → Prop} {w w1 W : World} {v v1 : Value} {xs ys : List α}
end
section
variable {P : Program} {ops : Array Oper} {rest : List Oper} {o : Oper} {a : Act} {Q : Exit → Act → World → Prop} {Kc : Act → World → Prop} {α : Type}
end
end Kd
end Go.Proofs.YtnfnhgikhkpidaaW.PrintWords
end

section
-- PRINTED BY print.sh 35421559b90ae4d0a3588c463048766b98c2df88dd9212a6774a882060cdf62d: not written by this session
-- PRINTED WORDS (module Derived/Print/More.lean): go-gate-2's additions: an AI agent of Go's test side, Tue Nov 17 2026; no person has read it. Lean checks it.
namespace Go.Proofs.YtnfnhgikhkpidaaW.PrintMore
open Go.RowKit Go.Proofs.YtnfnhgikhkpidaaW.PrintWords
namespace Kd
open Go.Proofs.YtnfnhgikhkpidaaW.PrintWords.Kd
end Kd

namespace Kd
open Go.Proofs.YtnfnhgikhkpidaaW.PrintWords.Kd
section
variable {α : Type} {d : Kd α} {e base g N : Nat} {ok : Nat → Prop} {W w1 : World} {u v : Value} {xs : List α}
end
end Kd
/-- 'max' and 'min' of two whole numbers. -/
theorem max2_int (k k' : IntKind) (x y : Int) : Builtin.max2 (.int k x) (.int k' y) = pure (.int k (if x < y then y else x)) := by simp only [Builtin.max2, gt_iff_lt]
theorem min2_int (k k' : IntKind) (x y : Int) : Builtin.min2 (.int k x) (.int k' y) = pure (.int k (if y < x then y else x)) := by simp only [Builtin.min2]
theorem max_two (ats : Array TypeId) (ty : TypeId) (a b : Value) : Builtin.max_ ats ty #[a, b] = (Builtin.max2 a b >>= fun s => pure s) := by simp only [Builtin.max_, List.foldlM_cons, List.foldlM_nil]
theorem min_two (ats : Array TypeId) (ty : TypeId) (a b : Value) : Builtin.min_ ats ty #[a, b] = (Builtin.min2 a b >>= fun s => pure s) := by simp only [Builtin.min_, List.foldlM_cons, List.foldlM_nil]
theorem max_three (ats : Array TypeId) (ty : TypeId) (a b c : Value) : Builtin.max_ ats ty #[a, b, c] = (Builtin.max2 a b >>= fun s => Builtin.max2 s c >>= fun s => pure s) := by simp only [Builtin.max_, List.foldlM_cons, List.foldlM_nil]
theorem min_three (ats : Array TypeId) (ty : TypeId) (a b c : Value) : Builtin.min_ ats ty #[a, b, c] = (Builtin.min2 a b >>= fun s => Builtin.min2 s c >>= fun s => pure s) := by simp only [Builtin.min_, List.foldlM_cons, List.foldlM_nil]
theorem max_four (ats : Array TypeId) (ty : TypeId) (a b c d : Value) : Builtin.max_ ats ty #[a, b, c, d] = (Builtin.max2 a b >>= fun s => Builtin.max2 s c >>= fun s => Builtin.max2 s d >>= fun s => pure s) := by simp only [Builtin.max_, List.foldlM_cons, List.foldlM_nil]
theorem min_four (ats : Array TypeId) (ty : TypeId) (a b c d : Value) : Builtin.min_ ats ty #[a, b, c, d] = (Builtin.min2 a b >>= fun s => Builtin.min2 s c >>= fun s => Builtin.min2 s d >>= fun s => pure s) := by simp only [Builtin.min_, List.foldlM_cons, List.foldlM_nil]
end Go.Proofs.YtnfnhgikhkpidaaW.PrintMore
namespace Go.Proofs.YtnfnhgikhkpidaaW.PrintWords
open Go.RowKit
section
variable {P : Program} {ops : Array Oper} {rest : List Oper} {o : Oper} {a : Act} {Q : Exit → Act → World → Prop} {W : World}
/-- The operation is a call of this function (a cheap look ahead of a dear step). -/
theorem gate_callee {f : FuncId} {as_ : Array Operand} {ts : Array TypeId} (_ho : o.op = .call { callee := .value (.func f), args := as_, argTypes := ts }) (h : wpList P ops Q (o :: rest) a W) : wpList P ops Q (o :: rest) a W := h
/-- The operation is a builtin over these places. -/
theorem gate_builtin {b : Builtin} {xs : Array Operand} {ts : Array TypeId} (_ho : o.op = .call { callee := .builtin b, args := xs, argTypes := ts }) (h : wpList P ops Q (o :: rest) a W) : wpList P ops Q (o :: rest) a W := h
end
/-- The greater of two whole numbers, as Go's max tells it. -/
def mx (a b : Int) : Int := if a < b then b else a
/-- The smaller of two whole numbers, as Go's min tells it. -/
def mn (a b : Int) : Int := if b < a then b else a
/-- A shift to the left, as Go tells it: a count beyond the width leaves nothing. -/
def shl (k : IntKind) (x y : Int) : Int := k.wrap (x * 2 ^ min y.toNat k.bits)
/-- A shift to the right: a count beyond the width leaves the sign. -/
def shr (k : IntKind) (x y : Int) : Int := x / 2 ^ min y.toNat k.bits
namespace Kd
section
variable {α : Type} {d : Kd α} {e base : Nat} {ok : Nat → Prop} {W w1 : World} {v : Value} {xs : List α}
end
section
variable {α : Type} {d : Kd α} {e base g n cap : Nat} {ok oki okp : Nat → Prop} {W : World} {xs : List α} {i : Int} {c : List Value}
end
section
variable {α : Type} {d : Kd α} {e base b b' g N : Nat} {ok ok1 : Nat → Prop} {W W2 w1 : World} {u v : Value} {xs ys : List α} {S : Nat → Prop}
theorem R_reok (hE : d.E = []) (h : d.R e W base ok1 v xs) (hok : ∀ k, v.ownBlock = some k → ok k) : d.R e W base ok v xs := R_mono (R_tight hE h) (fun k hk => hok k hk.symm)
end
end Kd
end Go.Proofs.YtnfnhgikhkpidaaW.PrintWords
namespace Go.Proofs.YtnfnhgikhkpidaaW.PrintWords
open Go.RowKit
namespace Kd
/-- A row that is only read, told by its value: its form, its length, what it leads to (in ok). e and base say nothing; they make it as the others are. -/
def V {α : Type} (d : Kd α) (_e : Nat) (W : World) (_base : Nat) (ok : Nat → Prop) (v : Value) (xs : List α) : Prop := ∃ A c, v = .slice A xs.length c ∧ xs.length ≤ c ∧ F d W ok A xs.length xs
section
variable {α β : Type} {d : Kd α} {e base base' n m c g N' lo hi : Nat} {ok ok' S : Nat → Prop} {w W w1 : World} {A : Option Addr} {ad : Addr} {u v v1 : Value} {xs : List α}
theorem V_nil (d : Kd α) (e : Nat) (W : World) (base : Nat) (ok : Nat → Prop) : V d e W base ok (.slice none 0 0) [] := ⟨none, 0, rfl, Nat.le_refl _, F_nil d W ok⟩
end
end Kd
end Go.Proofs.YtnfnhgikhkpidaaW.PrintWords
end

section
/- Printed by a program of this session (wip/pg.py, over the print of the kit): functions, their Lean twins, and the proofs that the calls come to them; each under the conditions that it names. -/
namespace Go.Proofs.Ytnfnhgikhkpidaa.PPw
open Go.RowKit Go.Proofs.YtnfnhgikhkpidaaW.PrintWords Go.Proofs.YtnfnhgikhkpidaaW.PrintLast Go.Proofs.YtnfnhgikhkpidaaW.PrintMore
attribute [local go_sem] max2_int min2_int max_two min_two max_three min_three max_four min_four   -- for this text's walks alone
set_option linter.unusedVariables false
set_option linter.unusedSimpArgs false



def errW : Option Int → Value
  | none => .nilIface
  | some c => .iface 0 (.int .i64 c)
theorem errW_none : errW none = .nilIface := rfl
theorem errW_some (c : Int) : errW (some c) = .iface 0 (.int .i64 c) := rfl

theorem info4 : (Try.prog.info? 4).map (fun i => (i.zero, i.size, i.bytes)) = some (some (.bool false), 1, 1) := by kernel_rfl
theorem info66 : (Try.prog.info? 66).map (fun i => (i.zero, i.size, i.bytes)) = some (some (.agg #[(.int .i64 0), (.int .i64 0)]), 2, 16) := by kernel_rfl
-- the values' own types
/-! #### struct type 27, nested in itself -/
structure S27 where
  f0 : Int
  f1 : Int
  f2 : Int
  f3 : Int
  f4 : (List S27)
def z27 : S27 := ⟨(0 : Int), (0 : Int), (0 : Int), (0 : Int), ([] : List S27)⟩
def F27 (d : Kd S27) : Kd S27 := Kd.iso (Kd.pair (Kd.int .i64) (Kd.pair (Kd.int .i64) (Kd.pair (Kd.int .i64) (Kd.pair (Kd.int .i64) (Kd.slice 27 d))))) (fun x : S27 => (x.f0, x.f1, x.f2, x.f3, x.f4))
theorem mono27 : Kd.Mono F27 := Kd.mono_iso _ (Kd.mono_pair (Kd.mono_const _) (Kd.mono_pair (Kd.mono_const _) (Kd.mono_pair (Kd.mono_const _) (Kd.mono_pair (Kd.mono_const _) (Kd.mono_slice 27 Kd.mono_id)))))
theorem sub27 : Kd.Sub F27 [27] := Kd.sub_iso _ (Kd.sub_pair (Kd.sub_const _ (by decide)) (Kd.sub_pair (Kd.sub_const _ (by decide)) (Kd.sub_pair (Kd.sub_const _ (by decide)) (Kd.sub_pair (Kd.sub_const _ (by decide)) (Kd.sub_slice 27 (by decide) Kd.sub_id)))))
theorem sz27 : ∀ n, (Kd.upto F27 5 [27] n).sz = 5 := Kd.upto_sz (fun _ => rfl)
def k27 : Kd S27 := Kd.fix F27 5 [27] sz27 (Kd.upto_E sub27)
theorem k27_heap : Kd.Heap k27 := Kd.heap_fix (fun _ h_ => Kd.heap_iso _ (Kd.heap_pair (Kd.heap_int .i64) (Kd.heap_pair (Kd.heap_int .i64) (Kd.heap_pair (Kd.heap_int .i64) (Kd.heap_pair (Kd.heap_int .i64) (Kd.heap_slice 27 h_))))))
theorem k27_open {w : World} {x : S27} {cs : List Value} (h : k27.K w x cs) : ∃ A4 c4, cs = [.int .i64 x.f0, .int .i64 x.f1, .int .i64 x.f2, .int .i64 x.f3, .slice A4 x.f4.length c4] ∧ x.f4.length ≤ c4 ∧ k27.C w A4 x.f4.length x.f4 := by
  obtain ⟨n, h⟩ := h
  cases n with
  | zero => exact h.elim
  | succ n =>
    obtain ⟨_, _, rfl, rfl, ⟨_, _, rfl, rfl, ⟨_, _, rfl, rfl, ⟨_, _, rfl, rfl, ⟨A4, c4, rfl, l4, g4⟩⟩⟩⟩⟩ := h
    exact ⟨A4, c4, rfl, l4, Kd.fix_C g4⟩
theorem k27_mkM (w : World) (base : Nat) (ok : Nat → Prop) (x : S27) {v4 : Value} (g4 : k27.R 27 w base ok v4 x.f4) : k27.M w base ok x [.int .i64 x.f0, .int .i64 x.f1, .int .i64 x.f2, .int .i64 x.f3, v4] := by
  obtain ⟨n4, q4⟩ := Kd.fix_R_back mono27 g4
  have r4 := Kd.upto_R_le mono27 sz27 (show n4 ≤ n4 by omega) q4
  exact ⟨n4 + 1, ⟨[.int .i64 x.f0], [.int .i64 x.f1, .int .i64 x.f2, .int .i64 x.f3, v4], rfl, rfl, ⟨[.int .i64 x.f1], [.int .i64 x.f2, .int .i64 x.f3, v4], rfl, rfl, ⟨[.int .i64 x.f2], [.int .i64 x.f3, v4], rfl, rfl, ⟨[.int .i64 x.f3], [v4], rfl, rfl, ⟨v4, rfl, r4⟩⟩⟩⟩⟩⟩
def rd_T27 (xs : List S27) (i : Int) : S27 := xs.getD i.toNat z27
theorem at_T27 {w : World} {A : Option Addr} {n : Nat} {xs : List S27} (h : Kd.C k27 w A n xs) (i : Int) (h0 : 0 ≤ i) (h1 : i < n) : ∃ ad A4 c4, A = some ad ∧ w.cell? (ad.add (i.toNat * 5)) = some (.int .i64 (rd_T27 xs i).f0) ∧ w.cell? ⟨(ad.add (i.toNat * 5)).block, (ad.add (i.toNat * 5)).off + 1, none⟩ = some (.int .i64 (rd_T27 xs i).f1) ∧ w.cell? ⟨(ad.add (i.toNat * 5)).block, (ad.add (i.toNat * 5)).off + 2, none⟩ = some (.int .i64 (rd_T27 xs i).f2) ∧ w.cell? ⟨(ad.add (i.toNat * 5)).block, (ad.add (i.toNat * 5)).off + 3, none⟩ = some (.int .i64 (rd_T27 xs i).f3) ∧ w.cell? ⟨(ad.add (i.toNat * 5)).block, (ad.add (i.toNat * 5)).off + 4, none⟩ = some (.slice A4 (rd_T27 xs i).f4.length c4) ∧ (rd_T27 xs i).f4.length ≤ c4 ∧ k27.C w A4 (rd_T27 xs i).f4.length (rd_T27 xs i).f4 := by
  obtain ⟨ad, c, e, _, hK, hc0⟩ := Kd.C_get h z27 i h0 h1
  have hc : ∀ j u, c[j]? = some u → w.cell? (ad.add (i.toNat * 5 + j)) = some u := hc0
  obtain ⟨A4, c4, rfl, l4, g4⟩ := k27_open hK
  exact ⟨ad, A4, c4, e, hc 0 _ rfl, by rw [← add_field _ _ 1 (by omega)]; exact hc 1 _ rfl, by rw [← add_field _ _ 2 (by omega)]; exact hc 2 _ rfl, by rw [← add_field _ _ 3 (by omega)]; exact hc 3 _ rfl, by rw [← add_field _ _ 4 (by omega)]; exact hc 4 _ rfl, l4, g4⟩

/-! #### struct type 40 -/
structure S40 where
  f0 : Int
  f1 : Int
  f2 : Int
  f3 : S27
def z40 : S40 := ⟨(0 : Int), (0 : Int), (0 : Int), z27⟩
def k40 : Kd S40 := Kd.iso (Kd.pair (Kd.int .i64) (Kd.pair (Kd.int .i64) (Kd.pair (Kd.int .i64) k27))) (fun x : S40 => (x.f0, x.f1, x.f2, x.f3))
theorem k40_heap : Kd.Heap k40 := Kd.heap_iso _ (Kd.heap_pair (Kd.heap_int .i64) (Kd.heap_pair (Kd.heap_int .i64) (Kd.heap_pair (Kd.heap_int .i64) k27_heap)))
theorem k40_open {w : World} {x : S40} {cs : List Value} (h : k40.K w x cs) : ∃ A7 c7, cs = [.int .i64 x.f0, .int .i64 x.f1, .int .i64 x.f2, .int .i64 x.f3.f0, .int .i64 x.f3.f1, .int .i64 x.f3.f2, .int .i64 x.f3.f3, .slice A7 x.f3.f4.length c7] ∧ x.f3.f4.length ≤ c7 ∧ k27.C w A7 x.f3.f4.length x.f3.f4 := by
  obtain ⟨_, _, rfl, rfl, ⟨_, _, rfl, rfl, ⟨_, _, rfl, rfl, s3⟩⟩⟩ := h
  obtain ⟨A7, c7, rfl, l7, g7⟩ := k27_open s3
  exact ⟨A7, c7, rfl, l7, g7⟩
theorem k40_mkM (w : World) (base : Nat) (ok : Nat → Prop) (x : S40) {v7 : Value} (g7 : k27.R 27 w base ok v7 x.f3.f4) : k40.M w base ok x [.int .i64 x.f0, .int .i64 x.f1, .int .i64 x.f2, .int .i64 x.f3.f0, .int .i64 x.f3.f1, .int .i64 x.f3.f2, .int .i64 x.f3.f3, v7] := ⟨[.int .i64 x.f0], [.int .i64 x.f1, .int .i64 x.f2, .int .i64 x.f3.f0, .int .i64 x.f3.f1, .int .i64 x.f3.f2, .int .i64 x.f3.f3, v7], rfl, rfl, ⟨[.int .i64 x.f1], [.int .i64 x.f2, .int .i64 x.f3.f0, .int .i64 x.f3.f1, .int .i64 x.f3.f2, .int .i64 x.f3.f3, v7], rfl, rfl, ⟨[.int .i64 x.f2], [.int .i64 x.f3.f0, .int .i64 x.f3.f1, .int .i64 x.f3.f2, .int .i64 x.f3.f3, v7], rfl, rfl, (k27_mkM w base ok x.f3 g7)⟩⟩⟩
def rd_T40 (xs : List S40) (i : Int) : S40 := xs.getD i.toNat z40
theorem at_T40 {w : World} {A : Option Addr} {n : Nat} {xs : List S40} (h : Kd.C k40 w A n xs) (i : Int) (h0 : 0 ≤ i) (h1 : i < n) : ∃ ad A7 c7, A = some ad ∧ w.cell? (ad.add (i.toNat * 8)) = some (.int .i64 (rd_T40 xs i).f0) ∧ w.cell? ⟨(ad.add (i.toNat * 8)).block, (ad.add (i.toNat * 8)).off + 1, none⟩ = some (.int .i64 (rd_T40 xs i).f1) ∧ w.cell? ⟨(ad.add (i.toNat * 8)).block, (ad.add (i.toNat * 8)).off + 2, none⟩ = some (.int .i64 (rd_T40 xs i).f2) ∧ w.cell? ⟨(ad.add (i.toNat * 8)).block, (ad.add (i.toNat * 8)).off + 3, none⟩ = some (.int .i64 (rd_T40 xs i).f3.f0) ∧ w.cell? ⟨(ad.add (i.toNat * 8)).block, (ad.add (i.toNat * 8)).off + 4, none⟩ = some (.int .i64 (rd_T40 xs i).f3.f1) ∧ w.cell? ⟨(ad.add (i.toNat * 8)).block, (ad.add (i.toNat * 8)).off + 5, none⟩ = some (.int .i64 (rd_T40 xs i).f3.f2) ∧ w.cell? ⟨(ad.add (i.toNat * 8)).block, (ad.add (i.toNat * 8)).off + 6, none⟩ = some (.int .i64 (rd_T40 xs i).f3.f3) ∧ w.cell? ⟨(ad.add (i.toNat * 8)).block, (ad.add (i.toNat * 8)).off + 7, none⟩ = some (.slice A7 (rd_T40 xs i).f3.f4.length c7) ∧ (rd_T40 xs i).f3.f4.length ≤ c7 ∧ k27.C w A7 (rd_T40 xs i).f3.f4.length (rd_T40 xs i).f3.f4 := by
  obtain ⟨ad, c, e, _, hK, hc0⟩ := Kd.C_get h z40 i h0 h1
  have hc : ∀ j u, c[j]? = some u → w.cell? (ad.add (i.toNat * 8 + j)) = some u := hc0
  obtain ⟨A7, c7, rfl, l7, g7⟩ := k40_open hK
  exact ⟨ad, A7, c7, e, hc 0 _ rfl, by rw [← add_field _ _ 1 (by omega)]; exact hc 1 _ rfl, by rw [← add_field _ _ 2 (by omega)]; exact hc 2 _ rfl, by rw [← add_field _ _ 3 (by omega)]; exact hc 3 _ rfl, by rw [← add_field _ _ 4 (by omega)]; exact hc 4 _ rfl, by rw [← add_field _ _ 5 (by omega)]; exact hc 5 _ rfl, by rw [← add_field _ _ 6 (by omega)]; exact hc 6 _ rfl, by rw [← add_field _ _ 7 (by omega)]; exact hc 7 _ rfl, l7, g7⟩

/-! #### struct type 66 -/
structure S66 where
  f0 : Int
  f1 : Int
def z66 : S66 := ⟨(0 : Int), (0 : Int)⟩
def k66 : Kd S66 := Kd.iso (Kd.pair (Kd.int .i64) (Kd.int .i64)) (fun x : S66 => (x.f0, x.f1))
theorem k66_open {w : World} {x : S66} {cs : List Value} (h : k66.K w x cs) : cs = [.int .i64 x.f0, .int .i64 x.f1] := by
  obtain ⟨_, _, rfl, rfl, rfl⟩ := h
  exact rfl
theorem k66_mkM (w : World) (base : Nat) (ok : Nat → Prop) (x : S66)  : k66.M w base ok x [.int .i64 x.f0, .int .i64 x.f1] := ⟨[.int .i64 x.f0], [.int .i64 x.f1], rfl, rfl, rfl⟩
def rd_T66 (xs : List S66) (i : Int) : S66 := xs.getD i.toNat z66
theorem at_T66 {w : World} {A : Option Addr} {n : Nat} {xs : List S66} (h : Kd.C k66 w A n xs) (i : Int) (h0 : 0 ≤ i) (h1 : i < n) : ∃ ad , A = some ad ∧ w.cell? (ad.add (i.toNat * 2)) = some (.int .i64 (rd_T66 xs i).f0) ∧ w.cell? ⟨(ad.add (i.toNat * 2)).block, (ad.add (i.toNat * 2)).off + 1, none⟩ = some (.int .i64 (rd_T66 xs i).f1) := by
  obtain ⟨ad, c, e, _, hK, hc0⟩ := Kd.C_get h z66 i h0 h1
  have hc : ∀ j u, c[j]? = some u → w.cell? (ad.add (i.toNat * 2 + j)) = some u := hc0
  obtain rfl := k66_open hK
  exact ⟨ad, e, hc 0 _ rfl, by rw [← add_field _ _ 1 (by omega)]; exact hc 1 _ rfl⟩

/-! #### struct type 72 -/
structure S72 where
  f0 : Int
  f1 : Int
def z72 : S72 := ⟨(0 : Int), (0 : Int)⟩
def k72 : Kd S72 := Kd.iso (Kd.pair (Kd.int .i64) (Kd.int .i64)) (fun x : S72 => (x.f0, x.f1))
def rd_T72 (xs : List S72) (i : Int) : S72 := xs.getD i.toNat z72
/-! #### struct type 60, nested in itself -/
structure S60 where
  f0 : Int
  f1 : Int
  f2 : S27
  f3 : (List S60)
def z60 : S60 := ⟨(0 : Int), (0 : Int), z27, ([] : List S60)⟩
def F60 (d : Kd S60) : Kd S60 := Kd.iso (Kd.pair (Kd.int .i64) (Kd.pair (Kd.int .i64) (Kd.pair k27 (Kd.slice 60 d)))) (fun x : S60 => (x.f0, x.f1, x.f2, x.f3))
theorem sub60 : Kd.Sub F60 [27, 60] := Kd.sub_iso _ (Kd.sub_pair (Kd.sub_const _ (by decide)) (Kd.sub_pair (Kd.sub_const _ (by decide)) (Kd.sub_pair (Kd.sub_const _ (by decide)) (Kd.sub_slice 60 (by decide) Kd.sub_id))))
theorem sz60 : ∀ n, (Kd.upto F60 8 [27, 60] n).sz = 8 := Kd.upto_sz (fun _ => rfl)
def k60 : Kd S60 := Kd.fix F60 8 [27, 60] sz60 (Kd.upto_E sub60)
theorem k60_open {w : World} {x : S60} {cs : List Value} (h : k60.K w x cs) : ∃ A6 c6 A7 c7, cs = [.int .i64 x.f0, .int .i64 x.f1, .int .i64 x.f2.f0, .int .i64 x.f2.f1, .int .i64 x.f2.f2, .int .i64 x.f2.f3, .slice A6 x.f2.f4.length c6, .slice A7 x.f3.length c7] ∧ x.f2.f4.length ≤ c6 ∧ k27.C w A6 x.f2.f4.length x.f2.f4 ∧ x.f3.length ≤ c7 ∧ k60.C w A7 x.f3.length x.f3 := by
  obtain ⟨n, h⟩ := h
  cases n with
  | zero => exact h.elim
  | succ n =>
    obtain ⟨_, _, rfl, rfl, ⟨_, _, rfl, rfl, ⟨_, _, rfl, s2, ⟨A7, c7, rfl, l7, g7⟩⟩⟩⟩ := h
    obtain ⟨A6, c6, rfl, l6, g6⟩ := k27_open s2
    exact ⟨A6, c6, A7, c7, rfl, l6, g6, l7, Kd.fix_C g7⟩
def rd_T60 (xs : List S60) (i : Int) : S60 := xs.getD i.toNat z60
theorem at_T60 {w : World} {A : Option Addr} {n : Nat} {xs : List S60} (h : Kd.C k60 w A n xs) (i : Int) (h0 : 0 ≤ i) (h1 : i < n) : ∃ ad A6 c6 A7 c7, A = some ad ∧ w.cell? (ad.add (i.toNat * 8)) = some (.int .i64 (rd_T60 xs i).f0) ∧ w.cell? ⟨(ad.add (i.toNat * 8)).block, (ad.add (i.toNat * 8)).off + 1, none⟩ = some (.int .i64 (rd_T60 xs i).f1) ∧ w.cell? ⟨(ad.add (i.toNat * 8)).block, (ad.add (i.toNat * 8)).off + 2, none⟩ = some (.int .i64 (rd_T60 xs i).f2.f0) ∧ w.cell? ⟨(ad.add (i.toNat * 8)).block, (ad.add (i.toNat * 8)).off + 3, none⟩ = some (.int .i64 (rd_T60 xs i).f2.f1) ∧ w.cell? ⟨(ad.add (i.toNat * 8)).block, (ad.add (i.toNat * 8)).off + 4, none⟩ = some (.int .i64 (rd_T60 xs i).f2.f2) ∧ w.cell? ⟨(ad.add (i.toNat * 8)).block, (ad.add (i.toNat * 8)).off + 5, none⟩ = some (.int .i64 (rd_T60 xs i).f2.f3) ∧ w.cell? ⟨(ad.add (i.toNat * 8)).block, (ad.add (i.toNat * 8)).off + 6, none⟩ = some (.slice A6 (rd_T60 xs i).f2.f4.length c6) ∧ w.cell? ⟨(ad.add (i.toNat * 8)).block, (ad.add (i.toNat * 8)).off + 7, none⟩ = some (.slice A7 (rd_T60 xs i).f3.length c7) ∧ (rd_T60 xs i).f2.f4.length ≤ c6 ∧ k27.C w A6 (rd_T60 xs i).f2.f4.length (rd_T60 xs i).f2.f4 ∧ (rd_T60 xs i).f3.length ≤ c7 ∧ k60.C w A7 (rd_T60 xs i).f3.length (rd_T60 xs i).f3 := by
  obtain ⟨ad, c, e, _, hK, hc0⟩ := Kd.C_get h z60 i h0 h1
  have hc : ∀ j u, c[j]? = some u → w.cell? (ad.add (i.toNat * 8 + j)) = some u := hc0
  obtain ⟨A6, c6, A7, c7, rfl, l6, g6, l7, g7⟩ := k60_open hK
  exact ⟨ad, A6, c6, A7, c7, e, hc 0 _ rfl, by rw [← add_field _ _ 1 (by omega)]; exact hc 1 _ rfl, by rw [← add_field _ _ 2 (by omega)]; exact hc 2 _ rfl, by rw [← add_field _ _ 3 (by omega)]; exact hc 3 _ rfl, by rw [← add_field _ _ 4 (by omega)]; exact hc 4 _ rfl, by rw [← add_field _ _ 5 (by omega)]; exact hc 5 _ rfl, by rw [← add_field _ _ 6 (by omega)]; exact hc 6 _ rfl, by rw [← add_field _ _ 7 (by omega)]; exact hc 7 _ rfl, l6, g6, l7, g7⟩

end Go.Proofs.Ytnfnhgikhkpidaa.PPw
end

section
/- Whether power flows, plainly: passes over the closed wires, and a search from point tgt point, tell the same: what is reached. -/
namespace Go.Proofs.Ytnfnhgikhkpidaa
set_option linter.unusedVariables false
namespace Pow
abbrev W2 := Int × Int
/-- The closed wires. -/
def edges : List W2 → List Bool → List W2
  | w :: ws, c :: cs => if c = true then w :: edges ws cs else edges ws cs
  | _, _ => []
/-- The points that power reaches. -/
inductive Reach (E : List W2) : Int → Prop
  | base : Reach E 0
  | fwd {a b : Int} : (a, b) ∈ E → Reach E a → Reach E b
  | bwd {a b : Int} : (a, b) ∈ E → Reach E b → Reach E a
/-- One pass over the wires. -/
def passF : List W2 → List Bool → List Int → Bool → List Int × Bool
  | w :: ws, c :: cs, S, m => if c = true ∧ ¬ (w.1 ∈ S ↔ w.2 ∈ S) then passF ws cs (w.1 :: w.2 :: S) true else passF ws cs S m
  | _, _, S, m => (S, m)
/-- How many wires have an end that is not met. -/
def mu : List W2 → List Int → Nat
  | [], _ => 0
  | w :: ws, S => (if w.1 ∈ S ∧ w.2 ∈ S then 0 else 1) + mu ws S
theorem pass_sub : ∀ (W : List W2) (C : List Bool) (S : List Int) (m : Bool), ∀ p ∈ S, p ∈ (passF W C S m).1
  | [], _, S, m, p, h => by simpa [passF] using h
  | w :: ws, [], S, m, p, h => by simpa [passF] using h
  | w :: ws, c :: cs, S, m, p, h => by
    unfold passF
    split
    · exact pass_sub ws cs _ _ p (List.mem_cons_of_mem _ (List.mem_cons_of_mem _ h))
    · exact pass_sub ws cs _ _ p h
theorem edges_sub {w : W2} {ws : List W2} {c : Bool} {cs : List Bool} : ∀ e ∈ edges ws cs, e ∈ edges (w :: ws) (c :: cs) := by
  intro e he
  unfold edges
  split
  · exact List.mem_cons_of_mem _ he
  · exact he
theorem pass_reach (E : List W2) : ∀ (W : List W2) (C : List Bool) (S : List Int) (m : Bool), (∀ e ∈ edges W C, e ∈ E) → (∀ p ∈ S, Reach E p) → ∀ p ∈ (passF W C S m).1, Reach E p
  | [], _, S, m, _, h => by simpa [passF] using h
  | w :: ws, [], S, m, _, h => by simpa [passF] using h
  | w :: ws, c :: cs, S, m, hE, h => by
    unfold passF
    split
    · rename_i hc
      have hw : w ∈ E := hE w (by unfold edges; rw [if_pos hc.1]; exact List.mem_cons_self)
      refine pass_reach E ws cs _ _ (fun e he => hE e (edges_sub e he)) (fun p hp => ?_)
      have h1 : Reach E w.1 ∧ Reach E w.2 := by
        by_cases h1 : w.1 ∈ S
        · exact ⟨h _ h1, .fwd (a := w.1) (b := w.2) hw (h _ h1)⟩
        · by_cases h2 : w.2 ∈ S
          · exact ⟨.bwd (a := w.1) (b := w.2) hw (h _ h2), h _ h2⟩
          · exact absurd (iff_of_false h1 h2) hc.2
      rcases List.mem_cons.1 hp with rfl | hp
      · exact h1.1
      · rcases List.mem_cons.1 hp with rfl | hp
        · exact h1.2
        · exact h p hp
    · exact pass_reach E ws cs _ _ (fun e he => hE e (edges_sub e he)) h
theorem pass_more : ∀ (W : List W2) (C : List Bool) (S : List Int), (passF W C S true).2 = true
  | [], _, S => by simp [passF]
  | w :: ws, [], S => by simp [passF]
  | w :: ws, c :: cs, S => by
    unfold passF
    split
    · exact pass_more ws cs _
    · exact pass_more ws cs _
/-- A pass that changes nothing: each closed wire has both ends met, or none. -/
theorem pass_done : ∀ (W : List W2) (C : List Bool) (S : List Int), (passF W C S false).2 = false → (passF W C S false).1 = S ∧ ∀ e ∈ edges W C, (e.1 ∈ S ↔ e.2 ∈ S)
  | [], _, S, _ => ⟨by simp [passF], fun e he => by simp [edges] at he⟩
  | w :: ws, [], S, _ => ⟨by simp [passF], fun e he => by simp [edges] at he⟩
  | w :: ws, c :: cs, S, h => by
    unfold passF at h ⊢
    split at h
    · rw [pass_more] at h; cases h
    · rename_i hc
      rw [if_neg hc]
      obtain ⟨h1, h2⟩ := pass_done ws cs S h
      refine ⟨h1, fun e he => ?_⟩
      unfold edges at he
      split at he
      · rename_i hc1
        rcases List.mem_cons.1 he with rfl | he
        · exact Classical.byContradiction fun hn => hc ⟨hc1, hn⟩
        · exact h2 e he
      · exact h2 e he
theorem mu_le {S T : List Int} (h : ∀ p ∈ S, p ∈ T) : ∀ W : List W2, mu W T ≤ mu W S
  | [] => Nat.le_refl _
  | w :: ws => by
    have ih := mu_le h ws
    unfold mu
    by_cases h1 : w.1 ∈ S ∧ w.2 ∈ S
    · rw [if_pos h1, if_pos ⟨h _ h1.1, h _ h1.2⟩]; omega
    · rw [if_neg h1]; split <;> omega
theorem mu_lt {S T : List Int} (h : ∀ p ∈ S, p ∈ T) {w : W2} (h1 : ¬ (w.1 ∈ S ∧ w.2 ∈ S)) (h2 : w.1 ∈ T ∧ w.2 ∈ T) : ∀ W : List W2, w ∈ W → mu W T < mu W S
  | [], hw => by cases hw
  | v :: ws, hw => by
    have hle := mu_le h ws
    unfold mu
    rcases List.mem_cons.1 hw with rfl | hw
    · rw [if_pos h2, if_neg h1]; omega
    · have ih := mu_lt h h1 h2 ws hw
      by_cases h3 : v.1 ∈ S ∧ v.2 ∈ S
      · rw [if_pos h3, if_pos ⟨h _ h3.1, h _ h3.2⟩]; omega
      · rw [if_neg h3]; split <;> omega
/-- A pass that changes something leaves fewer wires with an end that is not met. -/
theorem pass_mu (V : List W2) : ∀ (W : List W2) (C : List Bool) (S : List Int), (∀ w ∈ W, w ∈ V) → (passF W C S false).2 = true → mu V (passF W C S false).1 < mu V S
  | [], _, S, _, h => by simp [passF] at h
  | w :: ws, [], S, _, h => by simp [passF] at h
  | w :: ws, c :: cs, S, hV, h => by
    unfold passF at h ⊢
    split
    · rename_i hc
      refine Nat.lt_of_le_of_lt (mu_le (S := w.1 :: w.2 :: S) (pass_sub ws cs _ _) V) (mu_lt (S := S) (fun p hp => List.mem_cons_of_mem _ (List.mem_cons_of_mem _ hp)) ?_ ⟨by simp, by simp⟩ V (hV w List.mem_cons_self))
      exact fun h2 => hc.2 ⟨fun _ => h2.2, fun _ => h2.1⟩
    · rename_i hc
      rw [if_neg hc] at h
      exact pass_mu V ws cs S (fun w hw => hV w (List.mem_cons_of_mem _ hw)) h
theorem reach_in {E : List W2} {S : List Int} (h0 : (0 : Int) ∈ S) (hE : ∀ e ∈ E, (e.1 ∈ S ↔ e.2 ∈ S)) : ∀ p, Reach E p → p ∈ S := by
  intro p hp
  induction hp with
  | base => exact h0
  | fwd he _ ih => exact (hE _ he).1 ih
  | bwd he _ ih => exact (hE _ he).2 ih
/-- What the passes tell when nothing changes any more. -/
theorem flow_tells {W : List W2} {C : List Bool} {S : List Int} (h0 : (0 : Int) ∈ S) (hr : ∀ p ∈ S, Reach (edges W C) p) (hd : ∀ e ∈ edges W C, (e.1 ∈ S ↔ e.2 ∈ S)) (p : Int) : p ∈ S ↔ Reach (edges W C) p :=
  ⟨hr p, reach_in h0 hd p⟩
end Pow
namespace Pow
/-- Is the wire i closed, and told? -/
def isOn (W : List W2) (C : List Bool) (i : Nat) (e : W2) : Prop := W[i]? = some e ∧ C[i]? = some true
theorem edges_iff : ∀ (W : List W2) (C : List Bool) (e : W2), e ∈ edges W C ↔ ∃ i, isOn W C i e
  | [], C, e => by simp [edges, isOn]
  | w :: ws, [], e => by simp [edges, isOn]
  | w :: ws, c :: cs, e => by
    have ih := edges_iff ws cs e
    unfold edges
    have up : (∃ i, isOn (w :: ws) (c :: cs) i e) ↔ (c = true ∧ w = e) ∨ ∃ i, isOn ws cs i e := by
      constructor
      · rintro ⟨i, h1, h2⟩
        cases i with
        | zero =>
          simp only [List.getElem?_cons_zero, Option.some.injEq] at h1 h2
          exact .inl ⟨h2, h1⟩
        | succ i => exact .inr ⟨i, by simpa using h1, by simpa using h2⟩
      · rintro (⟨h1, h2⟩ | ⟨i, h1, h2⟩)
        · exact ⟨0, by simp [h2], by simp [h1]⟩
        · exact ⟨i + 1, by simpa using h1, by simpa using h2⟩
    rw [up]
    split
    · rename_i hc
      rw [List.mem_cons, ih]
      constructor
      · rintro (h | h)
        · exact .inl ⟨hc, h.symm⟩
        · exact .inr h
      · rintro (⟨_, h⟩ | h)
        · exact .inl h.symm
        · exact .inr h
    · rename_i hc
      rw [ih]
      constructor
      · exact .inr
      · rintro (⟨h, _⟩ | h)
        · exact absurd h hc
        · exact h
/-- The points that are reached from one. -/
inductive From (E : List W2) (s : Int) : Int → Prop
  | base : From E s s
  | fwd {a b : Int} : (a, b) ∈ E → From E s a → From E s b
  | bwd {a b : Int} : (a, b) ∈ E → From E s b → From E s a
theorem reach_from {E : List W2} {p : Int} : Reach E p ↔ From E 0 p := by
  constructor
  · intro h
    induction h with
    | base => exact .base
    | fwd he _ ih => exact .fwd he ih
    | bwd he _ ih => exact .bwd he ih
  · intro h
    induction h with
    | base => exact .base
    | fwd he _ ih => exact .fwd he ih
    | bwd he _ ih => exact .bwd he ih
theorem From.trans {E : List W2} {a b c : Int} (h1 : From E a b) (h2 : From E b c) : From E a c := by
  induction h2 with
  | base => exact h1
  | fwd he _ ih => exact .fwd he ih
  | bwd he _ ih => exact .bwd he ih
def touch (p : Int) (e : W2) : Prop := e.1 = p ∨ e.2 = p
def otherP (e : W2) (p : Int) : Int := if e.2 = p then e.1 else e.2
theorem from_other {E : List W2} {e : W2} {p : Int} (he : e ∈ E) (hp : touch p e) : From E p (otherP e p) := by
  obtain ⟨a, b⟩ := e
  unfold touch at hp
  unfold otherP
  simp only at hp ⊢
  by_cases h : b = p
  · rw [if_pos h]
    subst h
    exact .bwd he .base
  · rw [if_neg h]
    have ha : a = p := hp.resolve_right h
    subst ha
    exact .fwd he .base
/-- All closed wires at p are taken. -/
def Full (W : List W2) (C T : List Bool) (p : Int) : Prop := ∀ i e, isOn W C i e → touch p e → T[i]? = some true
def Sub (T T' : List Bool) : Prop := T'.length = T.length ∧ ∀ i : Nat, T[i]? = some true → T'[i]? = some true
theorem Sub.refl (T : List Bool) : Sub T T := ⟨rfl, fun _ h => h⟩
theorem Sub.trans {T U V : List Bool} (h : Sub T U) (k : Sub U V) : Sub T V := ⟨k.1.trans h.1, fun i hi => k.2 i (h.2 i hi)⟩
theorem Full.sub {W : List W2} {C T T' : List Bool} {p : Int} (h : Full W C T p) (hs : Sub T T') : Full W C T' p := fun i e h1 h2 => hs.2 i (h i e h1 h2)
/-- What a search that fails leaves: from at all is searched; of each wire that it took both ends are. -/
structure Fail (W : List W2) (C : List Bool) (tgt : Int) (T T' : List Bool) : Prop where
  sub : Sub T T'
  new : ∀ i e, isOn W C i e → T'[i]? = some true → T[i]? ≠ some true → ∀ p, touch p e → p ≠ tgt ∧ Full W C T' p
theorem Fail.refl (W : List W2) (C : List Bool) (tgt : Int) (T : List Bool) : Fail W C tgt T T := ⟨Sub.refl T, fun i e _ h1 h2 => absurd h1 h2⟩
theorem Fail.trans {W : List W2} {C : List Bool} {tgt : Int} {T U V : List Bool} (h : Fail W C tgt T U) (k : Fail W C tgt U V) : Fail W C tgt T V :=
  ⟨h.sub.trans k.sub, fun i e h1 h2 h3 p hp => by
    by_cases hu : U[i]? = some true
    · have := h.new i e h1 hu h3 p hp
      exact ⟨this.1, this.2.sub k.sub⟩
    · exact k.new i e h1 h2 hu p hp⟩
/-- How many wires are not taken. -/
def left (T : List Bool) : Nat := T.countP (· = false)
theorem left_set {T : List Bool} {i : Nat} (hi : T[i]? = some false) : left (T.set i true) + 1 = left T := by
  unfold left
  induction T generalizing i with
  | nil => simp at hi
  | cons t ts ih =>
    cases i with
    | zero =>
      simp only [List.getElem?_cons_zero, Option.some.injEq] at hi
      subst hi
      simp
    | succ i =>
      have := ih (i := i) (by simpa using hi)
      simp only [List.set_cons_succ, List.countP_cons] at this ⊢
      omega
theorem set_sub {T : List Bool} {i : Nat} : Sub T (T.set i true) := ⟨List.length_set, fun j hj => by
  by_cases h : i = j
  · subst h
    rw [List.getElem?_set_self (List.getElem?_eq_some_iff.1 hj).1]
  · rw [List.getElem?_set_ne h]; exact hj⟩
/-- A search that fails from 0 tells that 1 is not reached. -/
theorem fail_tells {W : List W2} {C T T' : List Bool} {s tgt : Int} (h0 : ∀ i : Nat, T[i]? ≠ some true) (hs : s ≠ tgt) (hf : Full W C T' s) (h : Fail W C tgt T T') : ∀ p, From (edges W C) s p → p ≠ tgt ∧ Full W C T' p := by
  intro p hp
  induction hp with
  | base => exact ⟨hs, hf⟩
  | @fwd a b he _ ih =>
    obtain ⟨i, hi⟩ := (edges_iff W C _).1 he
    exact h.new i _ hi (ih.2 i _ hi (.inl rfl)) (h0 i) b (.inr rfl)
  | @bwd a b he _ ih =>
    obtain ⟨i, hi⟩ := (edges_iff W C _).1 he
    exact h.new i _ hi (ih.2 i _ hi (.inr rfl)) (h0 i) a (.inl rfl)
end Pow
namespace Pow
mutual
/-- The document's search: is there a way; what is taken then. -/
def pathF (W : List W2) (C : List Bool) (tgt : Int) : Nat → Int → List Bool → Option (Bool × List Bool)
  | 0, _, _ => none
  | k + 1, s, T => if s = tgt then some (true, T) else loopF W C tgt k s T 0
def loopF (W : List W2) (C : List Bool) (tgt : Int) : Nat → Int → List Bool → Nat → Option (Bool × List Bool)
  | 0, _, _, _ => none
  | k + 1, s, T, i =>
    if i < W.length ∧ i < C.length then
      if C.getD i false = false ∨ T.getD i false = true ∨ ((W.getD i (0, 0)).1 ≠ s ∧ (W.getD i (0, 0)).2 ≠ s) then loopF W C tgt k s T (i + 1)
      else (pathF W C tgt k (otherP (W.getD i (0, 0)) s) (T.set i true)).bind fun r => if r.1 = true then some r else loopF W C tgt k s r.2 (i + 1)
    else some (false, T)
end
theorem touch_other {e : W2} {s p : Int} (hs : touch s e) (hp : touch p e) : p = s ∨ p = otherP e s := by
  obtain ⟨a, b⟩ := e
  unfold touch at hs hp
  unfold otherP
  simp only at hs hp ⊢
  by_cases h : b = s
  · rw [if_pos h]; omega
  · rw [if_neg h]; omega
/-- As Fail, but the search from s is not ended. -/
structure FailX (W : List W2) (C : List Bool) (tgt s : Int) (T T' : List Bool) : Prop where
  sub : Sub T T'
  new : ∀ i e, isOn W C i e → T'[i]? = some true → T[i]? ≠ some true → ∀ p, touch p e → p = s ∨ (p ≠ tgt ∧ Full W C T' p)
theorem FailX.refl (W : List W2) (C : List Bool) (tgt s : Int) (T : List Bool) : FailX W C tgt s T T := ⟨Sub.refl T, fun i e _ h1 h2 => absurd h1 h2⟩
theorem FailX.trans {W : List W2} {C : List Bool} {tgt s : Int} {T U V : List Bool} (h : FailX W C tgt s T U) (k : FailX W C tgt s U V) : FailX W C tgt s T V :=
  ⟨h.sub.trans k.sub, fun i e h1 h2 h3 p hp => by
    by_cases hu : U[i]? = some true
    · rcases h.new i e h1 hu h3 p hp with h4 | h4
      · exact .inl h4
      · exact .inr ⟨h4.1, h4.2.sub k.sub⟩
    · exact k.new i e h1 h2 hu p hp⟩
theorem FailX.close {W : List W2} {C : List Bool} {tgt s : Int} {T T' : List Bool} (h : FailX W C tgt s T T') (hs : s ≠ tgt) (hf : Full W C T' s) : Fail W C tgt T T' :=
  ⟨h.sub, fun i e h1 h2 h3 p hp => by
    rcases h.new i e h1 h2 h3 p hp with rfl | h4
    · exact ⟨hs, hf⟩
    · exact h4⟩
structure PTell (W : List W2) (C : List Bool) (tgt s : Int) (T : List Bool) (r : Bool × List Bool) : Prop where
  yes : r.1 = true → From (edges W C) s tgt
  no : r.1 = false → s ≠ tgt ∧ Full W C r.2 s ∧ Fail W C tgt T r.2
  sub : Sub T r.2
  left : left r.2 ≤ left T
theorem get_on {W : List W2} {C : List Bool} {i : Nat} (h1 : i < W.length) (h2 : i < C.length) (hc : C.getD i false = true) : isOn W C i (W.getD i (0, 0)) := by
  constructor
  · rw [List.getD_eq_getElem?_getD, List.getElem?_eq_getElem h1]; rfl
  · rw [List.getD_eq_getElem?_getD, List.getElem?_eq_getElem h2] at hc
    rw [List.getElem?_eq_getElem h2]
    exact congrArg some hc
theorem loop_tells (W : List W2) (C : List Bool) (tgt : Int) (u : Nat) (s : Int) (hs : s ≠ tgt)
    (IH : ∀ v, v < u → ∀ (T : List Bool) (s : Int), T.length = W.length → left T ≤ v → ∃ r, (∀ k, (v + 1) * (W.length + 2) ≤ k → pathF W C tgt k s T = some r) ∧ PTell W C tgt s T r) :
    ∀ (d i : Nat) (T : List Bool), i + d = W.length → T.length = W.length → left T ≤ u → (∀ j e, j < i → isOn W C j e → touch s e → T[j]? = some true) →
    ∃ r, (∀ k, u * (W.length + 2) + d + 1 ≤ k → loopF W C tgt k s T i = some r) ∧ (r.1 = true → From (edges W C) s tgt) ∧ (r.1 = false → Full W C r.2 s ∧ FailX W C tgt s T r.2) ∧ Sub T r.2 ∧ left r.2 ≤ left T := by
  intro d
  induction d with
  | zero =>
    intro i T h1 h2 h3 h4
    refine ⟨(false, T), fun k hk => ?_, fun h => (by cases h), fun _ => ⟨fun j e hj hp => ?_, FailX.refl W C tgt s T⟩, Sub.refl T, Nat.le_refl _⟩
    · obtain ⟨k, rfl⟩ : ∃ m, k = m + 1 := ⟨k - 1, by omega⟩
      rw [loopF, if_neg (by omega)]
    · have := (List.getElem?_eq_some_iff.1 hj.1).1
      exact h4 j e (by omega) hj hp
  | succ d ih =>
    intro i T h1 h2 h3 h4
    by_cases hin : i < W.length ∧ i < C.length
    · by_cases hc : C.getD i false = false ∨ T.getD i false = true ∨ ((W.getD i (0, 0)).1 ≠ s ∧ (W.getD i (0, 0)).2 ≠ s)
      · obtain ⟨r, r1, r2, r3, r4, r5⟩ := ih (i + 1) T (by omega) h2 h3 (fun j e hj he hp => by
          rcases Nat.lt_succ_iff_lt_or_eq.1 hj with h5 | rfl
          · exact h4 j e h5 he hp
          · rcases hc with h6 | h6 | h6
            · have := he.2
              rw [List.getD_eq_getElem?_getD, this] at h6
              cases h6
            · rw [List.getD_eq_getElem?_getD, List.getElem?_eq_getElem (by omega)] at h6
              rw [List.getElem?_eq_getElem (by omega)]
              exact congrArg some h6
            · rw [List.getD_eq_getElem?_getD, he.1] at h6
              rcases hp with h7 | h7
              · exact absurd h7 h6.1
              · exact absurd h7 h6.2)
        refine ⟨r, fun k hk => ?_, r2, r3, r4, r5⟩
        obtain ⟨k, rfl⟩ : ∃ m, k = m + 1 := ⟨k - 1, by omega⟩
        rw [loopF, if_pos hin, if_pos hc]
        exact r1 k (by omega)
      · have c1 : C.getD i false = true := by
          cases h5 : C.getD i false with
          | true => rfl
          | false => exact absurd (.inl h5) hc
        have c2 : T.getD i false = false := by
          cases h5 : T.getD i false with
          | false => rfl
          | true => exact absurd (.inr (.inl h5)) hc
        have hon := get_on hin.1 hin.2 c1
        have hto : touch s (W.getD i (0, 0)) := Classical.byContradiction fun h5 => hc (.inr (.inr ⟨fun h6 => h5 (.inl h6), fun h6 => h5 (.inr h6)⟩))
        have hTi : T[i]? = some false := by
          rw [List.getD_eq_getElem?_getD, List.getElem?_eq_getElem (by omega)] at c2
          rw [List.getElem?_eq_getElem (by omega)]
          exact congrArg some c2
        have hl := left_set hTi
        generalize hw : W.getD i (0, 0) = w at hon hto
        obtain ⟨q, q1, q2⟩ := IH (u - 1) (by omega) (T.set i true) (otherP w s) (by rw [List.length_set]; exact h2) (by omega)
        have hE : w ∈ edges W C := (edges_iff W C w).2 ⟨i, hon⟩
        cases hq : q.1 with
        | true =>
          refine ⟨q, fun k hk => ?_, fun _ => (from_other hE hto).trans (q2.yes hq), (fun h => by rw [hq] at h; cases h), set_sub.trans q2.sub, by have := q2.left; omega⟩
          obtain ⟨k, rfl⟩ : ∃ m, k = m + 1 := ⟨k - 1, by omega⟩
          rw [loopF, if_pos hin, if_neg hc, hw, q1 k (by rw [show u - 1 + 1 = u by omega]; omega), Option.bind_some, if_pos hq]
        | false =>
          obtain ⟨n1, n2, n3⟩ := q2.no hq
          have hql := q2.left
          obtain ⟨r, r1, r2, r3, r4, r5⟩ := ih (i + 1) q.2 (by omega) (by rw [q2.sub.1, List.length_set]; exact h2) (by omega) (fun j e hj he hp => by
            refine q2.sub.2 j ?_
            rcases Nat.lt_succ_iff_lt_or_eq.1 hj with h5 | rfl
            · exact set_sub.2 j (h4 j e h5 he hp)
            · rw [List.getElem?_set_self (by omega)])
          have hX : FailX W C tgt s T q.2 := ⟨set_sub.trans q2.sub, fun m e he h5 h6 p hp => by
            by_cases hm : m = i
            · subst hm
              have : e = w := by
                have h7 := he.1
                have h8 := hon.1
                rw [h7] at h8
                exact Option.some.inj h8
              subst this
              rcases touch_other hto hp with h9 | h9
              · exact .inl h9
              · rw [h9]; exact .inr ⟨n1, n2⟩
            · exact .inr (n3.new m e he h5 (by rw [List.getElem?_set_ne (fun h => hm h.symm)]; exact h6) p hp)⟩
          refine ⟨r, fun k hk => ?_, r2, fun h => ⟨(r3 h).1, hX.trans (r3 h).2⟩, (set_sub.trans q2.sub).trans r4, by omega⟩
          obtain ⟨k, rfl⟩ : ∃ m, k = m + 1 := ⟨k - 1, by omega⟩
          rw [loopF, if_pos hin, if_neg hc, hw, q1 k (by rw [show u - 1 + 1 = u by omega]; omega), Option.bind_some, if_neg (by rw [hq]; decide)]
          exact r1 k (by omega)
    · refine ⟨(false, T), fun k hk => ?_, fun h => (by cases h), fun _ => ⟨fun j e hj hp => ?_, FailX.refl W C tgt s T⟩, Sub.refl T, Nat.le_refl _⟩
      · obtain ⟨k, rfl⟩ : ∃ m, k = m + 1 := ⟨k - 1, by omega⟩
        rw [loopF, if_neg hin]
      · have h5 := (List.getElem?_eq_some_iff.1 hj.1).1
        have h6 := (List.getElem?_eq_some_iff.1 hj.2).1
        exact h4 j e (by omega) hj hp
theorem path_tells (W : List W2) (C : List Bool) (tgt : Int) : ∀ (u : Nat) (T : List Bool) (s : Int), T.length = W.length → left T ≤ u → ∃ r, (∀ k, (u + 1) * (W.length + 2) ≤ k → pathF W C tgt k s T = some r) ∧ PTell W C tgt s T r := by
  intro u
  induction u using Nat.strongRecOn with
  | ind u IH =>
    intro T s h1 h2
    by_cases hs : s = tgt
    · refine ⟨(true, T), fun k hk => ?_, ⟨fun _ => hs ▸ .base, fun h => (by cases h), Sub.refl T, Nat.le_refl _⟩⟩
      obtain ⟨k, rfl⟩ : ∃ m, k = m + 1 := ⟨k - 1, by have : 0 < (u + 1) * (W.length + 2) := Nat.mul_pos (by omega) (by omega); omega⟩
      rw [pathF, if_pos hs]
    · obtain ⟨r, r1, r2, r3, r4, r5⟩ := loop_tells W C tgt u s hs (fun v hv T s hT hl => IH v hv T s hT hl) W.length 0 T (by omega) h1 h2 (fun j e hj => by omega)
      refine ⟨r, fun k hk => ?_, ⟨r2, fun h => ⟨hs, (r3 h).1, (r3 h).2.close hs (r3 h).1⟩, r4, r5⟩⟩
      rw [Nat.add_mul, Nat.one_mul] at hk
      obtain ⟨k, rfl⟩ : ∃ m, k = m + 1 := ⟨k - 1, by omega⟩
      rw [pathF, if_neg hs]
      exact r1 k (by omega)
/-- The document's answer: whether 1 is reached from 0. -/
theorem path_flows (W : List W2) (C : List Bool) : ∃ r, (∀ k, (W.length + 1) * (W.length + 2) ≤ k → pathF W C 1 k 0 (List.replicate W.length false) = some r) ∧ (r.1 = true ↔ Reach (edges W C) 1) := by
  obtain ⟨r, r1, r2⟩ := path_tells W C 1 W.length (List.replicate W.length false) 0 List.length_replicate (Nat.le_trans List.countP_le_length (by rw [List.length_replicate]; exact Nat.le_refl _))
  refine ⟨r, r1, ?_⟩
  rw [reach_from]
  constructor
  · exact r2.yes
  · intro h
    cases hr : r.1 with
    | true => rfl
    | false =>
      obtain ⟨n1, n2, n3⟩ := r2.no hr
      have := fail_tells (fun i => by rw [List.getElem?_replicate]; split <;> simp) n1 n2 n3 1 h
      exact absurd rfl this.1
end Pow
end Go.Proofs.Ytnfnhgikhkpidaa
end

section
/- power.Flows walked: it tells whether 1 is reached from 0 by closed wires; at most 1000 wires. -/
namespace Go.Proofs.Ytnfnhgikhkpidaa.Given
open Go Go.RowKit Go.Maps Go.Proofs.Ytnfnhgikhkpidaa Go.Proofs.Ytnfnhgikhkpidaa.Pow Go.Proofs.Ytnfnhgikhkpidaa.PPw Go.Proofs.YtnfnhgikhkpidaaW.PrintWords Go.Proofs.YtnfnhgikhkpidaaW.PrintLast Go.Proofs.YtnfnhgikhkpidaaW.PrintMore
set_option linter.unusedVariables false
set_option linter.unusedSimpArgs false
def in64 (n : Int) : Prop := -9223372036854775808 ≤ n ∧ n ≤ 9223372036854775807
theorem wf_of {n : Int} (h : in64 n) : (Lit.int .i64 n).wf = true := by
  show (decide ((-9223372036854775808 : Int) ≤ n) && decide (n ≤ 9223372036854775807)) = true
  simp [h.1, h.2]
abbrev W40 := S40
abbrev k40' := k40
def ends (x : W40) : W2 := (x.f0, x.f1)
theorem law3 : Keyed Try.prog 3 := int_keyed Try.underlying3
theorem zero3 (w : World) : (zeroValue 3).run Try.prog w = .ok (.int .i64 0) w := by kernel_rfl
theorem key3 {n : Int} (h : in64 n) : keyOf Try.prog 3 (.int .i64 n) = some (.int .i64 n) := keyOf_int_mk Try.underlying3 (wf_of h)
abbrev DD := DataW Unit
abbrev Mp (w : World) (b n : Nat) (D : DD) : Prop := w.ownsMap Try.prog 3 (plainElem Try.prog 3) b n D
/-- The map reads as: 1 at the points of S, else 0. -/
def MOk (D : DD) (S : List Int) : Prop := ∀ p, D.atKey (.int .i64 p) (.lit (.int .i64 0)) = .lit (.int .i64 (if p ∈ S then 1 else 0))
theorem MOk.put {D : DD} {S : List Int} (hm : IsMap D) (h : MOk D S) (q : Int) : MOk (D.put (.int .i64 q) (.lit (.int .i64 1))) (q :: S) := by
  intro p
  by_cases e : p = q
  · subst e
    rw [atKey_put_same hm (by trivial), if_pos List.mem_cons_self]
  · rw [atKey_put_other (by simpa using e), h p]
    by_cases h2 : p ∈ S
    · rw [if_pos h2, if_pos (List.mem_cons_of_mem _ h2)]
    · rw [if_neg h2, if_neg (by simp [e, h2])]
theorem MOk.nil : MOk (.map [] : DD) [] := fun p => by rw [if_neg (by simp)]; rfl
theorem MOk.swap {D : DD} {S T : List Int} (h : MOk D S) (he : ∀ p, p ∈ S ↔ p ∈ T) : MOk D T := fun p => by rw [h p]; simp only [he p]
/-- A look-up tells whether the point is met. -/
theorem look {w : World} {b n : Nat} {D : DD} {S : List Int} (h : Mp w b n D) (hm : MOk D S) {p : Int} (hp : in64 p) : (Instr.lookup 62 (.map (some b)) (.int .i64 p) false).run Try.prog w = .ok (.int .i64 (if p ∈ S then 1 else 0)) w := by
  obtain ⟨c, h1, h2, _⟩ := h.lookup_int law3 Try.underlying62 Try.underlying3 (zero3 _) (key3 hp)
  rw [hm p] at h2
  injection h2 with h2
  injection h2 with _ h2
  rw [h1, ← h2]
theorem upd {w : World} {b n : Nat} {D : DD} {S : List Int} (h : Mp w b n D) (hn : n < 1000000) (hm : MOk D S) {p : Int} (hp : in64 p) : ∃ w', (Instr.mapUpdate 62 (.map (some b)) (.int .i64 p) (.int .i64 1)).run Try.prog w = .ok () w' ∧ Mp w' b (n + 1) (D.put (.int .i64 p) (.lit (.int .i64 1))) ∧ MOk (D.put (.int .i64 p) (.lit (.int .i64 1))) (p :: S) ∧ w.grownBy w' (some b) := by
  obtain ⟨w', h1, h2, h3⟩ := h.update law3 Try.underlying62 (by unfold maxLen; omega) (key3 hp) (plainElem_int Try.underlying3 (by decide : (Lit.int .i64 1).wf = true))
  exact ⟨w', h1, h2, hm.put h.isMap p, h3⟩
theorem Mp.keep {w w2 : World} {b n : Nat} {D : DD} (h : Mp w b n D) (hk : w2.heap[b]? = w.heap[b]?) : Mp w2 b n D := by
  obtain ⟨es, clock, hb, r⟩ := h
  exact ⟨es, clock, hk.trans hb, r⟩
theorem Mp.lt {w : World} {b n : Nat} {D : DD} (h : Mp w b n D) : b < w.heap.size := by
  obtain ⟨es, clock, hb, r⟩ := h
  exact (Array.getElem?_eq_some_iff.1 hb).1
/-- Where the passes are: the map at block b, the points met; how often it was written. -/
structure PIn (w wr : World) (b : Nat) (W : List W2) (E : List W2) (S : List Int) (n : Nat) (D : DD) : Prop where
  map : Mp wr b n D
  ok : MOk D S
  cnt : n + 2 * mu W S ≤ 1 + 2 * W.length
  below : Below w.heap.size w wr
theorem pass_skip {w : W2} {ws : List W2} {c : Bool} {cs : List Bool} {S : List Int} {m : Bool} (h : ¬ (c = true ∧ ¬ (w.1 ∈ S ↔ w.2 ∈ S))) : passF (w :: ws) (c :: cs) S m = passF ws cs S m := by
  rw [passF, if_neg h]
theorem pass_take {w : W2} {ws : List W2} {c : Bool} {cs : List Bool} {S : List Int} {m : Bool} (h : c = true ∧ ¬ (w.1 ∈ S ↔ w.2 ∈ S)) : passF (w :: ws) (c :: cs) S m = passF ws cs (w.1 :: w.2 :: S) true := by
  rw [passF, if_pos h]
theorem mu_len (S : List Int) : ∀ W : List W2, mu W S ≤ W.length
  | [] => Nat.le_refl _
  | w :: ws => by
    have := mu_len S ws
    unfold mu
    rw [List.length_cons]
    split <;> omega
set_option maxHeartbeats 4000000 in
set_option maxRecDepth 100000 in
theorem flows_calls (A0 : Option Addr) (c0 : Nat) (l : List W40) (A1 : Option Addr) (c1 : Nat) (cl : List Bool) (w : World) (h0 : Kd.C k40' w A0 l.length l) (hc0 : l.length ≤ c0) (h1 : Kd.C Kd.bool w A1 cl.length cl) (hc1 : cl.length ≤ c1) (hlen : l.length ≤ 1000) (hwf : ∀ x ∈ l, in64 x.f0 ∧ in64 x.f1) :
    Calls Try.prog 13 #[.slice A0 l.length c0, .slice A1 cl.length c1] w fun e w' => (∃ b, e = .returned (.bool b) ∧ (b = true ↔ Pow.Reach (edges (l.map ends) cl) 1)) ∧ Below w.heap.size w w' := by
  obtain ⟨W, hW⟩ : ∃ W, W = l.map ends := ⟨_, rfl⟩
  have hWl : W.length = l.length := by rw [hW, List.length_map]
  have HWs := Aside0.mk hW
  rw [← hW]
  have hmm := @run_makeMap Try.prog
  have H0 := Aside0.mk h0
  have H1 := Aside0.mk h1
  have HW := Aside0.mk hwf
  obtain ⟨w1, hr1, ho1, hm1, hg1⟩ := upd (w := w.alloc (.map #[] 0)) (World.ownsMap_made _ _ _ _) (by decide) MOk.nil (p := 0) ⟨by decide, by decide⟩
  have HM1 := Aside0.mk (And.intro ho1 (And.intro hm1 hg1))
  clear h0 h1 hwf hW ho1 hm1 hg1
  go_enter Try.func13, Try.ntmps13
  go_wp2_with fail
  have hin : PIn w w1 w.heap.size W (edges W cl) [0] 1 ((DataW.map []).put (.int .i64 0) (.lit (.int .i64 1))) := ⟨HM1.out.1, HM1.out.2.1, by have := mu_len [0] W; omega, ((Below.refl _ _).alloc (Nat.le_refl _) _).grown HM1.out.2.2 (by simp) (fun k hk => by injection hk with hk; omega)⟩
  have HIN := Aside0.mk hin
  clear hmm hr1 HM1 hin
  go_loopg [6] (mu W [0] + 1) (fun k m wr => ∃ (S : List Int) (n : Nat) (D : DD) (bm : Bool), m = .bool bm ∧ Aside0 (PIn w wr w.heap.size W (edges W cl) S n D) ∧ Aside0 ((0 : Int) ∈ S ∧ (∀ p ∈ S, Pow.Reach (edges W cl) p) ∧ ((bm = true ∧ k = mu W S + 1) ∨ (bm = false ∧ k = 0 ∧ ∀ e ∈ edges W cl, (e.1 ∈ S ↔ e.2 ∈ S)))))
  case atStart => exact ⟨[0], 1, _, true, rfl, HIN, ⟨List.mem_cons_self, fun p hp => by obtain rfl := List.mem_singleton.1 hp; exact .base, .inl ⟨rfl, rfl⟩⟩⟩
  case round =>
    clear HIN
    obtain ⟨S, n, D, bm, rfl, HIN, HF⟩ := hrel
    cases bm with
    | false =>
      have hl := look HIN.out.map HIN.out.ok (p := 1) ⟨by decide, by decide⟩
      have hF : (0 : Int) ∈ S ∧ (∀ p ∈ S, Pow.Reach (edges W cl) p) ∧ ∀ e ∈ edges W cl, (e.1 ∈ S ↔ e.2 ∈ S) := by
        obtain ⟨f1, f2, f3⟩ := HF.out
        rcases f3 with ⟨f, _⟩ | ⟨_, _, f⟩
        · cases f
        · exact ⟨f1, f2, f⟩
      have HT := Aside0.mk (flow_tells hF.1 hF.2.1 hF.2.2 1)
      clear HF hF
      by_cases h1 : (1 : Int) ∈ S
      · rw [if_pos h1] at hl
        go_wp2_with fail
        go_ret
        exact ⟨⟨true, rfl, ⟨fun _ => HT.out.1 h1, fun _ => rfl⟩⟩, HIN.out.below⟩
      · rw [if_neg h1] at hl
        go_wp2_with fail
        go_ret
        exact ⟨⟨false, rfl, ⟨(fun h => by cases h), fun h => absurd (HT.out.2 h) h1⟩⟩, HIN.out.below⟩
    | true =>
      have HG := Aside0.mk (show (0 : Int) ∈ S ∧ (∀ p ∈ S, Pow.Reach (edges W cl) p) ∧ gk = mu W S + 1 by
        obtain ⟨f1, f2, f3⟩ := HF.out
        rcases f3 with ⟨_, f⟩ | ⟨f, _⟩
        · exact ⟨f1, f2, f⟩
        · cases f)
      obtain ⟨Z, hZ⟩ : ∃ Z, passF W cl S false = Z := ⟨_, rfl⟩
      have HZ := Aside0.mk hZ
      have HP := Aside0.mk (show passF (W.drop 0) (cl.drop 0) S false = Z by rw [List.drop_zero, List.drop_zero]; exact hZ)
      clear HF hZ
      go_wp2_with fail
      go_loopw [6, 14] (fun m iv wr => ∃ (i : Nat) (T : List Int) (n : Nat) (D : DD) (bm : Bool), iv = .int .i64 (i : Int) ∧ i ≤ l.length ∧ m = .bool bm ∧ Aside0 (PIn w wr w.heap.size W (edges W cl) T n D) ∧ Aside0 (passF (W.drop i) (cl.drop i) T bm = Z)) (fun _ iv _ => l.length - (intOf iv).toNat)
      case atStart => exact ⟨0, S, n, D, false, rfl, Nat.zero_le _, rfl, HIN, HP⟩
      case round =>
        clear HIN HP
        obtain ⟨i, T, n, D, bm, rfl, hi, rfl, HIN, HP⟩ := hrel
        by_cases hlt : i < l.length
        rotate_left
        · have hp := HP.out
          rw [List.drop_eq_nil_of_le (by omega)] at hp
          have hz : (T, bm) = Z := by rw [← hp]; simp [passF]
          have HQ := Aside0.mk hz
          clear hp hz
          have hpz : passF W cl S false = (T, bm) := HZ.out.trans HQ.out.symm
          have hr := pass_reach (edges W cl) W cl S false (fun e he => he) HG.out.2.1
          have hs := pass_sub W cl S false 0 HG.out.1
          have hm := pass_mu W W cl S (fun w hw => hw)
          have hd := pass_done W cl S
          rw [hpz] at hr hs hm hd
          have HH := Aside0.mk (And.intro hr (And.intro hs (And.intro hm hd)))
          clear hr hs hm hd hpz
          cases bm with
          | true =>
            go_wp2_with fail
            go_roundg (mu W T + 1)
            case measure => have h1 := HH.out.2.2.1 (by first | rfl | trivial); have h2 := HG.out.2.2; omega
            case rel => exact ⟨T, n, D, true, rfl, HIN, ⟨HH.out.2.1, HH.out.1, .inl ⟨rfl, rfl⟩⟩⟩
          | false =>
            go_wp2_with fail
            go_roundg 0
            case measure => have := HG.out.2.2; omega
            case rel =>
              obtain ⟨e1, e2⟩ := HH.out.2.2.2 (by first | rfl | trivial)
              subst e1
              exact ⟨T, n, D, false, rfl, HIN, ⟨HH.out.2.1, HH.out.1, .inr ⟨rfl, rfl, e2⟩⟩⟩
        · have hx : rd_T40 l (i : Int) = l[i] := by
            unfold rd_T40
            rw [Int.toNat_natCast, List.getD_eq_getElem?_getD, List.getElem?_eq_getElem hlt]; rfl
          obtain ⟨ad, A7, c7, e0, q0, q1, q2, q3, q4, q5, q6, q7, _⟩ := at_T40 (Kd.C_below H0.out HIN.out.below) (i : Int) (by omega) (by omega)
          rw [hx] at q0 q1 q2 q3 q4 q5 q6 q7
          simp only [Int.toNat_natCast] at q0 q1 q2 q3 q4 q5 q6 q7
          have hwx := HW.out l[i] (List.getElem_mem hlt)
          have hdrop : W.drop i = ends l[i] :: W.drop (i + 1) := by
            rw [HWs.out, ← List.map_drop, List.drop_eq_getElem_cons hlt, List.map_cons, List.map_drop]
          have hp := HP.out
          rw [hdrop] at hp
          have HP2 := Aside0.mk hp
          have HXW := Aside0.mk (show ends l[i] ∈ W by rw [HWs.out]; exact List.mem_map_of_mem (List.getElem_mem hlt))
          clear HP hp hdrop
          generalize l[i] = x at q0 q1 q2 q3 q4 q5 q6 q7 hwx HP2 HXW
          subst e0
          have hz := heap_alloc_new wr (.cells #[.int .i64 0, .int .i64 0, .int .i64 0, .int .i64 0, .int .i64 0, .int .i64 0, .int .i64 0, .slice none 0 0] 40)
          have hg7 := setRow_heap _ _ _ #[.int .i64 x.f0, .int .i64 x.f1, .int .i64 x.f2, .int .i64 x.f3.f0, .int .i64 x.f3.f1, .int .i64 x.f3.f2, .int .i64 x.f3.f3, .slice A7 x.f3.f4.length c7] _ _ hz
          have hB7 := below_setRow ((Below.refl wr.heap.size wr).alloc (Nat.le_refl _) (.cells #[.int .i64 0, .int .i64 0, .int .i64 0, .int .i64 0, .int .i64 0, .int .i64 0, .int .i64 0, .slice none 0 0] 40)) (Nat.le_refl wr.heap.size) #[.int .i64 x.f0, .int .i64 x.f1, .int .i64 x.f2, .int .i64 x.f3.f0, .int .i64 x.f3.f1, .int .i64 x.f3.f2, .int .i64 x.f3.f3, .slice A7 x.f3.f4.length c7]
          have HZ7 := Aside0.mk hz
          have HB7 := Aside0.mk (HIN.out.below.trans (hB7.mono HIN.out.below.size))
          have HM7 := Aside0.mk (HIN.out.map.keep (hB7.block _ HIN.out.map.lt))
          have hi := (show (Try.prog.info? 40).map (·.size) = some 8 by kernel_rfl)
          have hi8 : (Try.prog.info? 40).map (·.size) = some 8 := by kernel_rfl
          have r0 := (blk_cell hg7 0).trans rfl
          have r1 := (blk_cell hg7 1).trans rfl
          have HR := Aside0.mk hg7
          have l0 := look HM7.out HIN.out.ok hwx.1
          have l1 := look HM7.out HIN.out.ok hwx.2
          have HWX := Aside0.mk hwx
          clear hz hg7 hB7 hi hwx
          by_cases hcl : i < cl.length
          rotate_left
          · have g1 : (cl.length : Int) ≤ (i : Int) := by omega
            have hp := HP2.out
            rw [List.drop_eq_nil_of_le (show cl.length ≤ i by omega)] at hp
            have HP3 := Aside0.mk (show passF (W.drop (i + 1)) (cl.drop (i + 1)) T bm = Z by rw [List.drop_eq_nil_of_le (show cl.length ≤ i + 1 by omega)]; rw [← hp]; cases W.drop (i + 1) <;> rfl)
            clear hp l0 l1 r0 r1
            go_wp2_with ((with_reducible refine gate_store (t := 40) (p := 8) (v := .tmp 18) rfl ?_); refine wpList_store_row rfl 40 (.tmp 8) (.tmp 18) rfl wr.heap.size #[.int .i64 x.f0, .int .i64 x.f1, .int .i64 x.f2, .int .i64 x.f3.f0, .int .i64 x.f3.f1, .int .i64 x.f3.f2, .int .i64 x.f3.f3, .slice A7 x.f3.f4.length c7] rfl rfl 40 _ HZ7.out (by rw [hi8]; rfl) rfl (by kernel_rfl) ?_)
            go_roundw
            case rel => exact ⟨i + 1, T, n, D, bm, by push_cast; rfl, by omega, rfl, ⟨⟨HM7.out, HIN.out.ok, HIN.out.cnt, HB7.out⟩⟩, HP3⟩
            case measure => simp [intOf]; omega
          · have g1 : ¬ (cl.length : Int) ≤ (i : Int) := by omega
            obtain ⟨ad1, e1, s1⟩ := Kd.at_bool (Kd.C_below H1.out HB7.out) (i : Int) (by omega) (by omega)
            have hcx : rdOf false cl (i : Int) = cl[i] := by
              unfold rdOf
              rw [Int.toNat_natCast, List.getD_eq_getElem?_getD, List.getElem?_eq_getElem hcl]; rfl
            rw [hcx] at s1
            simp only [Int.toNat_natCast] at s1
            subst e1
            have hp := HP2.out
            rw [List.drop_eq_getElem_cons hcl] at hp
            generalize cl[i] = b1 at s1 hp
            cases b1 with
            | false =>
              have HP3 := Aside0.mk (show passF (W.drop (i + 1)) (cl.drop (i + 1)) T bm = Z by rw [← hp, pass_skip (by simp)])
              clear hp l0 l1 r0 r1
              go_wp2_with ((with_reducible refine gate_store (t := 40) (p := 8) (v := .tmp 18) rfl ?_); refine wpList_store_row rfl 40 (.tmp 8) (.tmp 18) rfl wr.heap.size #[.int .i64 x.f0, .int .i64 x.f1, .int .i64 x.f2, .int .i64 x.f3.f0, .int .i64 x.f3.f1, .int .i64 x.f3.f2, .int .i64 x.f3.f3, .slice A7 x.f3.f4.length c7] rfl rfl 40 _ HZ7.out (by rw [hi8]; rfl) rfl (by kernel_rfl) ?_)
              go_roundw
              case rel => exact ⟨i + 1, T, n, D, bm, by push_cast; rfl, by omega, rfl, ⟨⟨HM7.out, HIN.out.ok, HIN.out.cnt, HB7.out⟩⟩, HP3⟩
              case measure => simp [intOf]; omega
            | true =>
              by_cases hT : x.f0 ∈ T ↔ x.f1 ∈ T
              · have HP3 := Aside0.mk (show passF (W.drop (i + 1)) (cl.drop (i + 1)) T bm = Z by rw [← hp, pass_skip (fun h => h.2 hT)])
                rw [show (if x.f0 ∈ T then (1 : Int) else 0) = if x.f1 ∈ T then 1 else 0 by simp only [hT]] at l0
                generalize (if x.f1 ∈ T then (1 : Int) else 0) = v at l0 l1
                clear hp
                go_wp2_with ((with_reducible refine gate_store (t := 40) (p := 8) (v := .tmp 18) rfl ?_); refine wpList_store_row rfl 40 (.tmp 8) (.tmp 18) rfl wr.heap.size #[.int .i64 x.f0, .int .i64 x.f1, .int .i64 x.f2, .int .i64 x.f3.f0, .int .i64 x.f3.f1, .int .i64 x.f3.f2, .int .i64 x.f3.f3, .slice A7 x.f3.f4.length c7] rfl rfl 40 _ HZ7.out (by rw [hi8]; rfl) rfl (by kernel_rfl) ?_)
                go_roundw
                case rel => exact ⟨i + 1, T, n, D, bm, by push_cast; rfl, by omega, rfl, ⟨⟨HM7.out, HIN.out.ok, HIN.out.cnt, HB7.out⟩⟩, HP3⟩
                case measure => simp [intOf]; omega
              · have HP3 := Aside0.mk (show passF (W.drop (i + 1)) (cl.drop (i + 1)) (x.f0 :: x.f1 :: T) true = Z by rw [← hp, pass_take ⟨rfl, hT⟩]; rfl)
                have hv : ∃ v0 v1 : Int, (if x.f0 ∈ T then (1 : Int) else 0) = v0 ∧ (if x.f1 ∈ T then (1 : Int) else 0) = v1 ∧ (v0 == v1) = false := by
                  refine ⟨_, _, rfl, rfl, ?_⟩
                  by_cases h1 : x.f0 ∈ T
                  · have h2 : x.f1 ∉ T := fun h2 => hT ⟨fun _ => h2, fun _ => h1⟩
                    rw [if_pos h1, if_neg h2]; rfl
                  · have h2 : x.f1 ∈ T := Classical.byContradiction fun h2 => hT ⟨fun h => absurd h h1, fun h => absurd h h2⟩
                    rw [if_neg h1, if_pos h2]; rfl
                obtain ⟨v0, v1, e0, e1, hv⟩ := hv
                rw [e0] at l0
                rw [e1] at l1
                have HT := Aside0.mk hT
                clear hp e0 e1 hT
                go_wp2_with ((with_reducible refine gate_store (t := 40) (p := 8) (v := .tmp 18) rfl ?_); refine wpList_store_row rfl 40 (.tmp 8) (.tmp 18) rfl wr.heap.size #[.int .i64 x.f0, .int .i64 x.f1, .int .i64 x.f2, .int .i64 x.f3.f0, .int .i64 x.f3.f1, .int .i64 x.f3.f2, .int .i64 x.f3.f3, .slice A7 x.f3.f4.length c7] rfl rfl 40 _ HZ7.out (by rw [hi8]; rfl) rfl (by kernel_rfl) ?_)
                clear l0 l1 hv s1 q0 q1 q2 q3 q4 q5 q6 q7
                generalize hW7 : (wr.alloc (.cells #[.int .i64 0, .int .i64 0, .int .i64 0, .int .i64 0, .int .i64 0, .int .i64 0, .int .i64 0, .slice none 0 0] 40)).setRow wr.heap.size #[.int .i64 x.f0, .int .i64 x.f1, .int .i64 x.f2, .int .i64 x.f3.f0, .int .i64 x.f3.f1, .int .i64 x.f3.f2, .int .i64 x.f3.f3, .slice A7 x.f3.f4.length c7] = w7 at HM7 HB7 HR r0 r1 ⊢
                have hcnt := HIN.out.cnt
                obtain ⟨wa, ua, ma, oka, ga⟩ := upd (w := w7.drew) (HM7.out.keep rfl) (by omega) HIN.out.ok HWX.out.1
                obtain ⟨wb, ub, mb, okb, gb⟩ := upd (w := wa) ma (by omega) oka HWX.out.2
                have hne : w.heap.size ≠ wr.heap.size := Nat.ne_of_lt HIN.out.map.lt
                have ha : wa.heap[wr.heap.size]? = w7.heap[wr.heap.size]? := ga.block _ (blk_lt HR.out) (fun h => hne (Option.some.inj h).symm)
                have r0d : w7.drew.cell? ⟨wr.heap.size, 0, none⟩ = some (.int .i64 x.f0) := r0
                have r1d : w7.drew.cell? ⟨wr.heap.size, 1, none⟩ = some (.int .i64 x.f1) := r1
                have r1a : wa.cell? ⟨wr.heap.size, 1, none⟩ = some (.int .i64 x.f1) := (blk_cell (ha.trans HR.out) 1).trans rfl
                have hmu : mu W (x.f0 :: x.f1 :: T) < mu W T := mu_lt (fun p hp => List.mem_cons_of_mem _ (List.mem_cons_of_mem _ hp)) (fun h => HT.out ⟨fun _ => h.2, fun _ => h.1⟩) ⟨by simp [ends], by simp [ends]⟩ W HXW.out
                have HEND := Aside0.mk (show PIn w wb w.heap.size W (edges W cl) (x.f0 :: x.f1 :: T) (n + 1 + 1) _ from ⟨mb, okb.swap (fun p => by simp [or_left_comm]), by omega, (HB7.out.drew.grown ga (by have := HB7.out.size; exact this) (fun k hk => by injection hk with hk; omega)).grown gb (Nat.le_trans HB7.out.size ga.size) (fun k hk => by injection hk with hk; omega)⟩)
                clear ma oka mb okb ga gb ha r0 r1
                clear hmu hcnt hne
                go_region
                clear ua ub r0d r1d r1a
                go_wp2_with fail
                go_roundw
                case rel => exact ⟨i + 1, x.f0 :: x.f1 :: T, n + 1 + 1, _, true, by push_cast; rfl, by omega, rfl, HEND, HP3⟩
                case measure => simp [intOf]; omega
end Go.Proofs.Ytnfnhgikhkpidaa.Given
end

section
/- power.Flows in the printed form: does power flow; at most 1000 wires. -/
namespace Go.Proofs.Ytnfnhgikhkpidaa.Given
open Go Go.RowKit Go.Maps Go.Proofs.Ytnfnhgikhkpidaa Go.Proofs.Ytnfnhgikhkpidaa.Pow Go.Proofs.Ytnfnhgikhkpidaa.PPw Go.Proofs.YtnfnhgikhkpidaaW.PrintWords Go.Proofs.YtnfnhgikhkpidaaW.PrintLast Go.Proofs.YtnfnhgikhkpidaaW.PrintMore
def wiresOk (l : List W40) : Prop := l.length ≤ 1000 ∧ ∀ x ∈ l, in64 x.f0 ∧ in64 x.f1
instance in64_dec (n : Int) : Decidable (in64 n) := by unfold in64; infer_instance
instance wiresOk_dec (l : List W40) : Decidable (wiresOk l) := by unfold wiresOk; infer_instance
def power_Flows.f (l : List W40) (cl : List Bool) : Option Bool := if wiresOk l then (pathF (l.map ends) cl 1 ((l.length + 1) * (l.length + 2)) 0 (List.replicate l.length false)).map (fun r => r.1) else none
theorem power_Flows.of {l : List W40} {cl : List Bool} (h : wiresOk l) : ∃ b, power_Flows.f l cl = some b ∧ (b = true ↔ Pow.Reach (edges (l.map ends) cl) 1) := by
  obtain ⟨r, hr, ht⟩ := path_flows (l.map ends) cl
  rw [List.length_map] at hr
  refine ⟨r.1, ?_, ht⟩
  unfold power_Flows.f
  rw [if_pos h, hr _ (Nat.le_refl _)]; rfl
theorem power_Flows.ok {l : List W40} {cl : List Bool} {b : Bool} (h : power_Flows.f l cl = some b) : wiresOk l ∧ (b = true ↔ Pow.Reach (edges (l.map ends) cl) 1) := by
  by_cases hok : wiresOk l
  · obtain ⟨b2, h2, ht⟩ := power_Flows.of (cl := cl) hok
    rw [h2] at h
    obtain rfl := Option.some.inj h
    exact ⟨hok, ht⟩
  · unfold power_Flows.f at h
    rw [if_neg hok] at h
    cases h
theorem power_Flows.calls (A0 : Option Addr) (c0 : Nat) (l : List W40) (A1 : Option Addr) (c1 : Nat) (cl : List Bool) (r : Bool) (w : World) (h0 : Kd.C k40' w A0 l.length l) (hc0 : l.length ≤ c0) (h1 : Kd.C Kd.bool w A1 cl.length cl) (hc1 : cl.length ≤ c1) (h : power_Flows.f l cl = some r) :
    Calls Try.prog 13 #[.slice A0 l.length c0, .slice A1 cl.length c1] w fun e w' => e = .returned (.bool r) ∧ Below w.heap.size w w' := by
  obtain ⟨hok, hr⟩ := power_Flows.ok h
  refine (flows_calls A0 c0 l A1 c1 cl w h0 hc0 h1 hc1 hok.1 hok.2).mono ?_
  rintro e w' ⟨⟨b, rfl, hb⟩, hB⟩
  refine ⟨?_, hB⟩
  have : b = r := by
    rw [Bool.eq_iff_iff, hb, hr]
  rw [this]
end Go.Proofs.Ytnfnhgikhkpidaa.Given
end

section
/- The reducing of wires, plainly: the order of steps does not matter; the program's and the document's reducing both tell whether wires are good. -/
namespace Go.Proofs.Ytnfnhgikhkpidaa
set_option linter.unusedVariables false
namespace Red
abbrev Ed := Int × Int
def nrm (a b : Int) : Ed := if a ≤ b then (a, b) else (b, a)
def Inc (p : Int) (e : Ed) : Prop := e.1 = p ∨ e.2 = p
def Norm (e : Ed) : Prop := e.1 ≤ e.2
theorem nrm_comm (a b : Int) : nrm a b = nrm b a := by
  unfold nrm; split <;> split <;> simp only [Prod.mk.injEq] <;> omega
theorem inc_nrm {p a b : Int} : Inc p (nrm a b) ↔ a = p ∨ b = p := by
  unfold nrm Inc; split
  · simp
  · simp only []; constructor <;> (intro h; omega)
theorem nrm_ne {a b : Int} (h : a ≠ b) : (nrm a b).1 ≠ (nrm a b).2 := by
  unfold nrm; split <;> simp only [] <;> omega
open List
inductive Step (G A : List Ed) : Prop
  | par (e : Ed) (H : List Ed) (hG : G ~ e :: e :: H) (hA : A ~ e :: H) (hn : e.1 ≠ e.2)
  | ser (p a b : Int) (H : List Ed) (hG : G ~ nrm p a :: nrm p b :: H) (hA : A ~ nrm a b :: H) (h0 : p ≠ 0) (h1 : p ≠ 1) (ha : a ≠ p) (hb : b ≠ p) (hab : a ≠ b) (hH : ∀ e ∈ H, ¬ Inc p e)
theorem Step.perm {G A G' A' : List Ed} (h : Step G A) (hg : G' ~ G) (ha : A' ~ A) : Step G' A' := by
  cases h with
  | par e H hG hA hn => exact .par e H (hg.trans hG) (ha.trans hA) hn
  | ser p a b H hG hA h0 h1 h2 h3 h4 h5 => exact .ser p a b H (hg.trans hG) (ha.trans hA) h0 h1 h2 h3 h4 h5
theorem Step.length {G A : List Ed} (h : Step G A) : G.length = A.length + 1 := by
  cases h with
  | par e H hG hA hn => rw [hG.length_eq, hA.length_eq]; simp
  | ser p a b H hG hA h0 h1 h2 h3 h4 h5 => rw [hG.length_eq, hA.length_eq]; simp
inductive Good : List Ed → Prop
  | base {G} (h : G ~ [(0, 1)]) : Good G
  | step {G A} (h : Step G A) (k : Good A) : Good G
theorem Good.perm {G G' : List Ed} (h : Good G) (hg : G' ~ G) : Good G' := by
  cases h with
  | base h => exact .base (hg.trans h)
  | step h k => exact .step (h.perm hg (Perm.refl _)) k
/-- A renaming of points that keeps 0 and 1. -/
structure Ren (s : Int → Int) : Prop where
  inj : ∀ x y, s x = s y → x = y
  zero : s 0 = 0
  one : s 1 = 1
def ren (s : Int → Int) (e : Ed) : Ed := nrm (s e.1) (s e.2)
theorem ren_nrm (s : Int → Int) (a b : Int) : ren s (nrm a b) = nrm (s a) (s b) := by
  unfold ren
  by_cases h : a ≤ b
  · have : nrm a b = (a, b) := if_pos h
    rw [this]
  · have : nrm a b = (b, a) := if_neg h
    rw [this]; exact nrm_comm _ _
theorem ren_inc {s : Int → Int} (hs : Ren s) {p : Int} {e : Ed} : Inc (s p) (ren s e) ↔ Inc p e := by
  unfold ren
  rw [inc_nrm]
  constructor
  · rintro (h | h)
    · exact .inl (hs.inj _ _ h)
    · exact .inr (hs.inj _ _ h)
  · rintro (h | h)
    · exact .inl (by rw [h])
    · exact .inr (by rw [h])
theorem Step.ren {s : Int → Int} (hs : Ren s) {G A : List Ed} (h : Step G A) : Step (G.map (Red.ren s)) (A.map (Red.ren s)) := by
  cases h with
  | par e H hG hA hn => exact .par (Red.ren s e) (H.map (Red.ren s)) (hG.map _) (hA.map _) (nrm_ne fun h => hn (hs.inj _ _ h))
  | ser p a b H hG hA h0 h1 h2 h3 h4 h5 =>
    refine .ser (s p) (s a) (s b) (H.map (Red.ren s)) ?_ ?_ ?_ ?_ ?_ ?_ ?_ ?_
    · have := hG.map (Red.ren s); simpa only [List.map_cons, ren_nrm] using this
    · have := hA.map (Red.ren s); simpa only [List.map_cons, ren_nrm] using this
    · intro h; exact h0 (hs.inj _ _ (h.trans hs.zero.symm))
    · intro h; exact h1 (hs.inj _ _ (h.trans hs.one.symm))
    · intro h; exact h2 (hs.inj _ _ h)
    · intro h; exact h3 (hs.inj _ _ h)
    · intro h; exact h4 (hs.inj _ _ h)
    · intro e he
      obtain ⟨x, hx, rfl⟩ := List.mem_map.1 he
      rw [ren_inc hs]; exact h5 x hx
theorem Good.ren {s : Int → Int} (hs : Ren s) {G : List Ed} (h : Good G) : Good (G.map (Red.ren s)) := by
  induction h with
  | base h =>
    refine .base ?_
    have := h.map (Red.ren s)
    simpa [Red.ren, hs.zero, hs.one, nrm] using this
  | step h _ ih => exact .step (h.ren hs) ih
def Iso (A B : List Ed) : Prop := ∃ s, Ren s ∧ A.map (ren s) ~ B
theorem Good.iso {A B : List Ed} (h : Good A) (i : Iso A B) : Good B := by
  obtain ⟨s, hs, hp⟩ := i
  exact (h.ren hs).perm hp.symm
def Joins (A B : List Ed) : Prop := A ~ B ∨ ∃ A' B', Step A A' ∧ Step B B' ∧ Iso A' B'
end Red
namespace Red
open List
/-- Wires, each pair once (loops stay); seen: those that came before. -/
def unlikeF : List Ed → List Ed → List Ed
  | _, [] => []
  | seen, w :: ws => if w ∉ seen ∨ w.1 = w.2 then w :: unlikeF (w :: seen) ws else unlikeF (w :: seen) ws
theorem unlike_len : ∀ (ws seen : List Ed), (unlikeF seen ws).length ≤ ws.length
  | [], seen => by simp [unlikeF]
  | w :: ws, seen => by
    have := unlike_len ws (w :: seen)
    unfold unlikeF
    split <;> simp only [length_cons] <;> omega
/-- No pair twice, but for loops. -/
def NoDup (l : List Ed) : Prop := ∀ e : Ed, e.1 ≠ e.2 → l.count e ≤ 1
/-! ### Two wires that are all that meet at a point -/
/-- The places of the wires at a point, from k on. -/
def incAt : Nat → List Ed → Int → List Nat
  | _, [], _ => []
  | k, w :: ws, p => if w.1 = p ∨ w.2 = p then k :: incAt (k + 1) ws p else incAt (k + 1) ws p
/-- Wires but two, where a new one comes at the place i. -/
def outF (i j0 j1 : Nat) (e : Ed) : Nat → List Ed → List Ed
  | _, [] => []
  | k, z :: zs => if k = i then e :: outF i j0 j1 e (k + 1) zs else if k ≠ j0 ∧ k ≠ j1 then z :: outF i j0 j1 e (k + 1) zs else outF i j0 j1 e (k + 1) zs
def restF (j0 j1 : Nat) : Nat → List Ed → List Ed
  | _, [] => []
  | k, z :: zs => if k ≠ j0 ∧ k ≠ j1 then z :: restF j0 j1 (k + 1) zs else restF j0 j1 (k + 1) zs
theorem incAt_mem : ∀ (l : List Ed) (k : Nat) (p : Int) (j : Nat), j ∈ incAt k l p ↔ k ≤ j ∧ ∃ e, l[j - k]? = some e ∧ Inc p e
  | [], k, p, j => by simp [incAt]
  | w :: ws, k, p, j => by
    have ih := incAt_mem ws (k + 1) p j
    unfold incAt
    have hs : k ≤ j ∧ (∃ e, (w :: ws)[j - k]? = some e ∧ Inc p e) ↔ (j = k ∧ Inc p w) ∨ (k + 1 ≤ j ∧ ∃ e, ws[j - (k + 1)]? = some e ∧ Inc p e) := by
      constructor
      · rintro ⟨h1, e, h2, h3⟩
        by_cases hj : j = k
        · subst hj
          rw [Nat.sub_self] at h2
          simp only [getElem?_cons_zero, Option.some.injEq] at h2
          subst h2
          exact .inl ⟨rfl, h3⟩
        · refine .inr ⟨by omega, e, ?_, h3⟩
          rw [show j - k = (j - (k + 1)) + 1 by omega, getElem?_cons_succ] at h2
          exact h2
      · rintro (⟨rfl, h⟩ | ⟨h1, e, h2, h3⟩)
        · exact ⟨Nat.le_refl _, w, by simp, h⟩
        · refine ⟨by omega, e, ?_, h3⟩
          rw [show j - k = (j - (k + 1)) + 1 by omega, getElem?_cons_succ]
          exact h2
    rw [hs]
    split
    · rename_i h
      rw [mem_cons, ih]
      constructor
      · rintro (rfl | h2)
        · exact .inl ⟨rfl, h⟩
        · exact .inr h2
      · rintro (⟨rfl, _⟩ | h2)
        · exact .inl rfl
        · exact .inr h2
    · rename_i h
      rw [ih]
      constructor
      · exact .inr
      · rintro (⟨_, h2⟩ | h2)
        · exact absurd h2 h
        · exact h2
end Red
namespace Red
open List
/-- The wires where the two that are all that meet at p are one, at the place i. -/
def cand (l : List Ed) (i : Nat) (p : Int) : Option (List Ed) :=
  match incAt 0 l p with
  | [j0, j1] =>
    if p = 0 ∨ p = 1 then none else
    if (l.getD j0 (0, 0)).1 = (l.getD j0 (0, 0)).2 ∨ (l.getD j1 (0, 0)).1 = (l.getD j1 (0, 0)).2 ∨ (l.getD j0 (0, 0)).1 + (l.getD j0 (0, 0)).2 - p = (l.getD j1 (0, 0)).1 + (l.getD j1 (0, 0)).2 - p then none else
    some (outF i j0 j1 (nrm ((l.getD j0 (0, 0)).1 + (l.getD j0 (0, 0)).2 - p) ((l.getD j1 (0, 0)).1 + (l.getD j1 (0, 0)).2 - p)) 0 l)
  | _ => none
def straightF (l : List Ed) : Nat → List Ed → Option (List Ed)
  | _, [] => none
  | k, w :: ws =>
    match cand l k w.1 with
    | some o => some o
    | none =>
      match cand l k w.2 with
      | some o => some o
      | none => straightF l (k + 1) ws
end Red
namespace Red
open List
/-! ### The document's reducing: pairs in any order of their ends -/
def nrmE (e : Ed) : Ed := nrm e.1 e.2
def NL (l : List Ed) : List Ed := l.map nrmE
def sameE (a b : Ed) : Prop := a = b ∨ (a.1 = b.2 ∧ a.2 = b.1)
instance (a b : Ed) : Decidable (sameE a b) := by unfold sameE; infer_instance
def otherE (w : Ed) (p : Int) : Int := if w.1 = p then w.2 else w.1
/-- Is there a wire ahead of k that is the wire i again? -/
def dupAt (l : List Ed) (i : Nat) : Nat → Bool
  | 0 => false
  | k + 1 => if (l.getD i (0, 0)).1 ≠ (l.getD i (0, 0)).2 ∧ sameE (l.getD i (0, 0)) (l.getD k (0, 0)) then true else dupAt l i k
def stepPar (l : List Ed) : Nat → Option (List Ed)
  | 0 => none
  | i + 1 => if dupAt l i i = true then some (restF i i 0 l) else stepPar l i
/-- The last place of a wire at p but i, among those from k on; d where there is none. -/
def lastAt (i : Nat) : Nat → List Ed → Int → Int → Int
  | _, [], _, d => d
  | k, w :: ws, p, d => lastAt i (k + 1) ws p (if (w.1 = p ∨ w.2 = p) ∧ k ≠ i then (k : Int) else d)
def serAt (l : List Ed) (i : Nat) (p : Int) : Option (List Ed) :=
  if p = 0 ∨ p = 1 ∨ (incAt 0 l p).length ≠ 2 ∨ (l.getD i (0, 0)).1 = (l.getD i (0, 0)).2 ∨ (l.getD (lastAt i 0 l p (-1)).toNat (0, 0)).1 = (l.getD (lastAt i 0 l p (-1)).toNat (0, 0)).2 ∨ otherE (l.getD i (0, 0)) p = otherE (l.getD (lastAt i 0 l p (-1)).toNat (0, 0)) p then none
  else some (restF i (lastAt i 0 l p (-1)).toNat 0 l ++ [(otherE (l.getD i (0, 0)) p, otherE (l.getD (lastAt i 0 l p (-1)).toNat (0, 0)) p)])
def stepSer (l : List Ed) : Nat → Option (List Ed)
  | 0 => none
  | i + 1 =>
    match serAt l i (l.getD i (0, 0)).1 with
    | some o => some o
    | none =>
      match serAt l i (l.getD i (0, 0)).2 with
      | some o => some o
      | none => stepSer l i
def stepD (l : List Ed) : Option (List Ed) :=
  match stepPar l l.length with
  | some o => some o
  | none => stepSer l l.length
end Red
end Go.Proofs.Ytnfnhgikhkpidaa
end

section
/- A map keyed by pairs of numbers: its look-up, and the store by 'm[k]++'. -/
namespace Go
open Go.ChangeShapes Go.WideShapes Go.MapKept Go.ChangeMaps Go.WideElems
open Go.WideMaps (KeyLaw)
open Go.Maps (Keyed)
section
variable {H : Type} {P : Program} {k : TypeId} {R : Value → Option (DataW H × List MemPlace)} {w : World} {b n : Nat} {D : DataW H}
theorem ownsMap_heap {w1 w2 : World} (h : w1.ownsMap P k R b n D) (hb : w2.heap[b]? = w1.heap[b]?) : w2.ownsMap P k R b n D := by
  obtain ⟨es, clock, h1, h2⟩ := h
  exact ⟨es, clock, hb.trans h1, h2⟩
theorem grownBy_setBlock {w : World} {b : Nat} {o o' : Obj} (_h : w.heap[b]? = some o) : w.grownBy (setBlock w b o') (some b) := by
  refine ⟨rfl, rfl, rfl, by simp [setBlock], fun i hi hne => ?_⟩
  simp only [setBlock]
  rw [Array.getElem?_setIfInBounds_ne]
  intro e
  exact hne (by rw [e])
/-- 'm[k] op= v' by its parts: the entry (a new one holds the zero value), then the store into it. -/
theorem entry_own {t e : TypeId} (h : w.ownsMap P k R b n D) (K : KeyLaw P k) (ht : P.underlying t = some (.map k e)) {z : Value} (hz : ∀ u : World, (zeroValue e).run P u = .ok z u) {zd : DataW H} {zp : List MemPlace} (hzd : R z = some (zd, zp)) (hn : n + 1 < maxLen) {key : Value} {kl : Lit} (hkey : keyOf P k key = some kl) :
    ∃ (v0 : Value) (st : Nat) (w1 : World) (D1 : DataW H), (Instr.mapEntry t (.map (some b)) key).run P w = .ok (.tuple #[v0, goInt st]) w1 ∧ w1.ownsMap P k R b (n + 1) D1 ∧ w.grownBy w1 (some b) ∧ (∀ q, D1.atKey q zd = D.atKey q zd) ∧
      ∀ (val : Value) (d : DataW H) (ps : List MemPlace), R val = some (d, ps) → ∃ w3, (Instr.entryStore t (.map (some b)) (goInt st) val).run P w1 = .ok () w3 ∧ w3.ownsMap P k R b (n + 1) (D.put kl d) ∧ w1.grownBy w3 (some b) := by
  have hmap := h.isMap
  have hput : ∀ (val : Value) (d : DataW H) (ps : List MemPlace), R val = some (d, ps) → ∃ w', (Instr.mapUpdate t (.map (some b)) key val).run P w = .ok () w' ∧ w'.ownsMap P k R b (n + 1) (D.put kl d) := fun val d ps hv => by
    obtain ⟨w', h1, h2, _⟩ := h.update (Keyed.of_law K) ht (by omega) hkey hv
    exact ⟨w', h1, h2⟩
  have hat : ∀ v, (Instr.lookup t (.map (some b)) key false).run P w = .ok v w → ∃ ps, R v = some (D.atKey kl zd, ps) := fun v hv => by
    obtain ⟨v', ps, h1, h2⟩ := h.lookup (Keyed.of_law K) ht (hz w) hzd hkey
    rw [hv] at h1
    injection h1 with h1
    exact ⟨ps, by rw [h1]; exact h2⟩
  obtain ⟨es, clock, hb, F, hs, hD⟩ := id h
  obtain ⟨s1, s2, _⟩ := F.stamped
  rcases K.find w hkey es.toList F.keys with ⟨h1, h2⟩ | ⟨j, e0, h1, h2, h3⟩
  · have hE : (Instr.mapEntry t (.map (some b)) key).run P w = .ok (.tuple #[z, goInt clock]) (setBlock w b (.map (es.push ⟨key, z, clock⟩) (clock + 1))) := by
      simp [Instr.mapEntry, run_underlying ht, MapKept.run_getObj_map hb, K.check w false hkey, h1, hz, MapKept.run_setObj_map _ hb, Result.andThen, setBlock]
    have hU : ∀ val, (Instr.mapUpdate t (.map (some b)) key val).run P w = .ok () (setBlock w b (.map (es.push ⟨key, val, clock⟩) (clock + 1))) := fun val => by
      simp [Instr.mapUpdate, run_underlying ht, MapKept.run_getObj_map hb, K.check w false hkey, h1, MapKept.run_setObj_map _ hb, Result.andThen, setBlock]
    have hlk : (Instr.lookup t (.map (some b)) key false).run P w = .ok z w := by
      simp [Instr.lookup, run_underlying ht, MapKept.run_getObj_map hb, K.check w es.isEmpty hkey, h1, hz, Result.andThen]
    obtain ⟨ps, hzat⟩ := hat z hlk
    rw [hzd] at hzat
    injection hzat with hzat
    injection hzat with hzat _
    obtain ⟨w', hw', ho'⟩ := hput z zd zp hzd
    rw [hU z] at hw'
    injection hw' with _ hw'
    subst hw'
    refine ⟨z, clock, _, D.put kl zd, hE, ho', grownBy_setBlock hb, fun q => ?_, fun val d ps hv => ?_⟩
    · by_cases hq : q = kl
      · rw [hq, Maps.atKey_put_same hmap (by obtain ⟨s, hs'⟩ := K.str hkey; rw [hs']; trivial)]; exact hzat
      · exact Maps.atKey_put_other hq _ _
    · have hidx : (es.push ⟨key, z, clock⟩).findIdx? (fun e => ((e.born : Nat) : Int) == ((clock : Nat) : Int)) = some es.size := by
        rw [findIdx_arr]
        have := findIdx_born (l := (es.push ⟨key, z, clock⟩).toList) (j := es.size) (e0 := ⟨key, z, clock⟩) (by
          simp only [Array.toList_push, List.map_append, List.map_cons, List.map_nil]
          refine List.nodup_append.2 ⟨s2, by simp, fun a ha c hc e1 => ?_⟩
          simp only [List.mem_singleton] at hc
          obtain ⟨x, hx, rfl⟩ := List.mem_map.1 ha
          have := s1 x hx
          omega) (by simp)
        exact this
      have hmod : (es.push ⟨key, z, clock⟩).modify es.size (fun e => { e with val := val }) = es.push ⟨key, val, clock⟩ := by
        apply Array.ext'
        rw [Array.toList_modify, Array.toList_push, Array.toList_push, ← Array.length_toList, modify_last]
      have hw2 : (setBlock w b (.map (es.push ⟨key, z, clock⟩) (clock + 1))).heap[b]? = some (.map (es.push ⟨key, z, clock⟩) (clock + 1)) := heap_setBlock_same hb _
      have hS : ∀ w2 : World, w2.heap[b]? = some (.map (es.push ⟨key, z, clock⟩) (clock + 1)) → (Instr.entryStore t (.map (some b)) (goInt clock) val).run P w2 = .ok () (setBlock w2 b (.map (es.push ⟨key, val, clock⟩) (clock + 1))) := fun w2 hw2 => by
        simp [Instr.entryStore, MapKept.run_getObj_map hw2, asInt, asIntOf, goInt, hidx, hmod, MapKept.run_setObj_map _ hw2, Result.andThen, setBlock]
      refine ⟨setBlock (setBlock w b (.map (es.push ⟨key, z, clock⟩) (clock + 1))) b (.map (es.push ⟨key, val, clock⟩) (clock + 1)), hS _ hw2, ?_, grownBy_setBlock hw2⟩
      · obtain ⟨w', hw', ho'⟩ := hput val d ps hv
        rw [hU val] at hw'
        injection hw' with _ hw'
        subst hw'
        exact ownsMap_heap ho' (by rw [heap_setBlock_same hw2, heap_setBlock_same hb])
  · have hj : es[j]? = some e0 := by simpa using h2
    have hsame : es.modify j (fun e => { e with key := key }) = es := by
      apply Array.ext'
      rw [Array.toList_modify, modify_eq_set _ _ _ _ h2]
      have : ({ e0 with key := key } : MapEntry) = e0 := by rw [← h3]
      rw [this]
      exact set_self _ _ _ h2
    have hE : (Instr.mapEntry t (.map (some b)) key).run P w = .ok (.tuple #[e0.val, goInt e0.born]) (setBlock w b (.map es clock)) := by
      simp [Instr.mapEntry, run_underlying ht, MapKept.run_getObj_map hb, K.check w false hkey, h1, hj, h3, K.stays w hkey, hsame, MapKept.run_setObj_map _ hb, Result.andThen, setBlock]
    have hU : ∀ val, (Instr.mapUpdate t (.map (some b)) key val).run P w = .ok () (setBlock w b (.map (es.modify j (fun e' => { e' with key := key, val := val })) clock)) := fun val => by
      simp [Instr.mapUpdate, run_underlying ht, MapKept.run_getObj_map hb, K.check w false hkey, h1, hj, h3, K.stays w hkey, MapKept.run_setObj_map _ hb, Result.andThen, setBlock]
    have hw1 : (setBlock w b (.map es clock)).heap[b]? = w.heap[b]? := by rw [heap_setBlock_same hb, hb]
    refine ⟨e0.val, e0.born, _, D, hE, (ownsMap_heap h hw1).mono (Nat.le_succ _), grownBy_setBlock hb, fun _ => rfl, fun val d ps hv => ?_⟩
    have hw2 := hw1.trans hb
    have hidx : es.findIdx? (fun e => ((e.born : Nat) : Int) == ((e0.born : Nat) : Int)) = some j := by
      rw [findIdx_arr]
      exact findIdx_born s2 h2
    have hmod : es.modify j (fun e => { e with val := val }) = es.modify j (fun e' => { e' with key := key, val := val }) := by
      apply Array.ext'
      rw [Array.toList_modify, Array.toList_modify, modify_eq_set _ _ _ _ h2, modify_eq_set _ _ _ _ h2, ← h3]
    have hS : ∀ w2 : World, w2.heap[b]? = some (.map es clock) → (Instr.entryStore t (.map (some b)) (goInt e0.born) val).run P w2 = .ok () (setBlock w2 b (.map (es.modify j (fun e' => { e' with key := key, val := val })) clock)) := fun w2 hw2 => by
      simp [Instr.entryStore, MapKept.run_getObj_map hw2, asInt, asIntOf, goInt, hidx, hmod, MapKept.run_setObj_map _ hw2, Result.andThen, setBlock]
    refine ⟨setBlock (setBlock w b (.map es clock)) b (.map (es.modify j (fun e' => { e' with key := key, val := val })) clock), hS _ hw2, ?_, grownBy_setBlock hw2⟩
    · obtain ⟨w', hw', ho'⟩ := hput val d ps hv
      rw [hU val] at hw'
      injection hw' with _ hw'
      subst hw'
      exact ownsMap_heap ho' (by rw [heap_setBlock_same hw2, heap_setBlock_same hb])
end
end Go
namespace Go.Proofs.Ytnfnhgikhkpidaa.Given
open Go Go.RowKit Go.Maps Go.Proofs.Ytnfnhgikhkpidaa Go.Proofs.Ytnfnhgikhkpidaa.PPw Go.Proofs.YtnfnhgikhkpidaaW.PrintWords Go.Proofs.YtnfnhgikhkpidaaW.PrintLast Go.Proofs.YtnfnhgikhkpidaaW.PrintMore
open Go.Proofs.Ytnfnhgikhkpidaa.Red (Ed)
set_option linter.unusedVariables false
def in64p (p : Ed) : Prop := in64 p.1 ∧ in64 p.2
theorem laid_out : laidOutB Try.prog = true := by kernel_rfl
theorem row66 : (66 : TypeId) < Try.prog.types.size := of_decide_eq_true (by kernel_rfl)
theorem wide66 : (match Try.prog.underlying 66 with | some (.array _ _) | some (.struct _) => true | _ => false) = true := by rw [Try.underlying66]
theorem law66 : WideMaps.KeyLaw Try.prog 66 := deep_law_laid laid_out (m := 2) (by omega) row66 (by kernel_rfl) wide66
def valE (p : Ed) : Value := .agg #[.int .i64 p.1, .int .i64 p.2]
def klE (p : Ed) : Lit := .string (keyBytes [.int .i64 p.1, .int .i64 p.2])
theorem keyE {p : Ed} (h : in64p p) : keyOf Try.prog 66 (valE p) = some (klE p) := by
  have h1 := wf_of h.1
  have h2 := wf_of h.2
  have hk : Try.prog.keyType 66 = true := by kernel_rfl
  have hc : Try.prog.cellsOf 66 = 2 := by kernel_rfl
  have hc3 : Try.prog.cellsOf 3 = 1 := by kernel_rfl
  have hf : (valE p).formed Try.prog 66 = true := by simp [valE, Value.formed, Try.underlying66, hc]
  have hs : ∃ m, Try.prog.types.size = m + 1 := ⟨Try.prog.types.size - 1, by have := row66; have : 0 < Try.prog.types.size := Nat.lt_of_le_of_lt (Nat.zero_le _) row66; omega⟩
  obtain ⟨m, hm⟩ := hs
  unfold keyOf
  rw [Try.underlying66]
  simp only [hk, hf, Bool.and_self, if_true, hm]
  have hcs : (valE p).cells.toList = [.int .i64 p.1, .int .i64 p.2] := by simp [valE, Value.cells]
  rw [hcs]
  unfold Program.keyLits
  rw [Try.underlying66]
  have hl : ∀ n, (Lit.int .i64 n).wf = true → Try.prog.keyLits (m + 1) 3 [.int .i64 n] = some [.int .i64 n] := fun n hn => by
    unfold Program.keyLits
    rw [Try.underlying3]
    simp [hn]
  simp [hc, hc3, hl _ h1, hl _ h2, klE]
theorem klE_ne {p q : Ed} (hp : in64p p) (hq : in64p q) (h : p ≠ q) : klE p ≠ klE q := fun e => by
  have h1 := keyE hp
  rw [e] at h1
  have := law66.inj h1 (keyE hq)
  unfold valE at this
  simp only [Value.agg.injEq, Array.mk.injEq, List.cons.injEq, Value.int.injEq, true_and, and_true] at this
  exact h (Prod.ext this.1 this.2)
theorem zeroI (w : World) : (zeroValue 3).run Try.prog w = .ok (.int .i64 0) w := by kernel_rfl
abbrev Me (w : World) (b n : Nat) (D : DD) : Prop := w.ownsMap Try.prog 66 (plainElem Try.prog 3) b n D
/-- The map reads as: how often each pair was met. -/
def EOk (D : DD) (S : List Ed) : Prop := ∀ p, in64p p → D.atKey (klE p) (.lit (.int .i64 0)) = .lit (.int .i64 (S.count p))
theorem EOk.nil : EOk (.map [] : DD) [] := fun p _ => rfl
theorem EOk.put {D : DD} {S : List Ed} (hm : IsMap D) (h : EOk D S) {q : Ed} (hq : in64p q) : EOk (D.put (klE q) (.lit (.int .i64 ((S.count q : Int) + 1)))) (q :: S) := by
  intro p hp
  by_cases e : p = q
  · subst e
    rw [atKey_put_same hm (by trivial), List.count_cons_self]; push_cast; rfl
  · rw [atKey_put_other (klE_ne hp hq e), h p hp, List.count_cons_of_ne (fun e2 => e e2.symm)]
theorem EOk.of {D D1 : DD} {S : List Ed} (h : EOk D S) (he : ∀ q, D1.atKey q (.lit (.int .i64 0)) = D.atKey q (.lit (.int .i64 0))) : EOk D1 S := fun p hp => (he _).trans (h p hp)
theorem lookE {w : World} {b n : Nat} {D : DD} {S : List Ed} (h : Me w b n D) (hm : EOk D S) {p : Ed} (hp : in64p p) : (Instr.lookup 91 (.map (some b)) (.agg #[.int .i64 p.1, .int .i64 p.2]) false).run Try.prog w = .ok (.int .i64 (S.count p)) w := by
  obtain ⟨c, h1, h2, _⟩ := h.lookup_int (Keyed.of_law law66) Try.underlying91 Try.underlying3 (zeroI _) (keyE hp)
  rw [hm p hp] at h2
  injection h2 with h2
  injection h2 with _ h2
  rw [h2]; exact h1
theorem entryE {w : World} {b n : Nat} {D : DD} {S : List Ed} (h : Me w b n D) (hn : n < 1000000) (hc : S.length < 1000000) (hm : EOk D S) {p : Ed} (hp : in64p p) :
    ∃ (v0 : Value) (st : Int) (w1 : World), (Instr.mapEntry 91 (.map (some b)) (.agg #[.int .i64 p.1, .int .i64 p.2])).run Try.prog w = .ok (.tuple #[v0, .int .i64 st]) w1 ∧ w.grownBy w1 (some b) ∧ (∃ es clock, w1.heap[b]? = some (.map es clock)) ∧
      (Instr.lookup 91 (.map (some b)) (.agg #[.int .i64 p.1, .int .i64 p.2]) false).run Try.prog w1 = .ok (.int .i64 (S.count p)) w1 ∧
      ∃ w3 D3, (Instr.entryStore 91 (.map (some b)) (.int .i64 st) (.int .i64 ((S.count p : Int) + 1))).run Try.prog w1 = .ok () w3 ∧ Me w3 b (n + 1) D3 ∧ EOk D3 (p :: S) ∧ w1.grownBy w3 (some b) := by
  have hcp : S.count p ≤ S.length := List.count_le_length
  have hw0 : (Lit.int .i64 0).wf = true := by decide
  have hw1 : (Lit.int .i64 ((S.count p : Int) + 1)).wf = true := wf_of ⟨by omega, by omega⟩
  obtain ⟨v0, st, w1, D1, r1, o1, g1, a1, s1⟩ := entry_own h law66 Try.underlying91 zeroI (plainElem_int Try.underlying3 hw0) (by unfold maxLen; omega) (keyE hp)
  obtain ⟨w3, r3, o3, g3⟩ := s1 _ _ _ (plainElem_int Try.underlying3 hw1)
  exact ⟨v0, st, w1, r1, g1, (by obtain ⟨es, clock, hb, _⟩ := o1; exact ⟨es, clock, hb⟩), lookE o1 (hm.of a1) hp, w3, _, r3, o3, hm.put h.isMap hp, g3⟩
end Go.Proofs.Ytnfnhgikhkpidaa.Given
end
