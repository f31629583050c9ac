/- A block of cells, read and written: what a store into a block leaves; no conditions beyond the block's lying there. -/
import Derived.Test.YtohdabkhafcdkaaWMore
import Derived.Lib.BufferMore
namespace Go.Proofs.Ytohdabkhafcdkaa.Blk
open Go Go.RowKit Go.Proofs.YtohdabkhafcdkaaW.PrintWords
/-- A block of these cells, none of them shut. -/
def Is (w : World) (b : Nat) (t : TypeId) (xs : List Value) : Prop := w.heap[b]? = some (.cells xs.toArray t (0, 0))
variable {w : World} {b t i : Nat} {xs : List Value} {v : Value}
theorem Is.lt (h : Is w b t xs) : b < w.heap.size := by
  unfold Is at h
  exact (Array.getElem?_eq_some_iff.1 h).1
theorem Is.cell (h : Is w b t xs) (hv : xs[i]? = some v) : w.cell? ⟨b, i, none⟩ = some v := by
  unfold Is at h
  simp [World.cell?, h, hv]
theorem Is.free (h : Is w b t xs) (i : Nat) : w.frozen? ⟨b, i, none⟩ = false := by
  unfold Is at h
  simp [World.frozen?, h]
theorem Is.set (h : Is w b t xs) (i : Nat) (v : Value) : Is (w.setCell ⟨b, i, none⟩ v) b t (xs.set i v) := by
  unfold Is at h ⊢
  have := Lib.heap_setCell_same h (i := i) v
  simpa using this
theorem Is.other {b2 : Nat} (h : Is w b t xs) (i : Nat) (v : Value) (hne : b ≠ b2) : Is (w.setCell ⟨b2, i, none⟩ v) b t xs := by
  unfold Is at h ⊢
  rw [Below.heap_setCell w ⟨b2, i, none⟩ v b hne]
  exact h
theorem Is.below {w2 : World} (h : Is w b t xs) (hb : Below w.heap.size w w2) : Is w2 b t xs := by
  have hl := h.lt
  unfold Is at h ⊢
  rw [hb.block b hl]
  exact h
theorem Is.alloc (h : Is w b t xs) (o : Obj) : Is (w.alloc o) b t xs := h.below ((Below.refl _ _).alloc (Nat.le_refl _) o)
theorem Is.drewN (h : Is w b t xs) (m : Nat) : Is (w.drewN m) b t xs := h
theorem Is.new (w : World) (t : TypeId) (xs : List Value) : Is (w.alloc (.cells xs.toArray t)) w.heap.size t xs := heap_alloc_new w _
theorem C_cells {k : IntKind} {w : World} {A : Option Addr} {n : Nat} {xs : List Int} (h : Kd.C (Kd.int k) w A n xs) (hn : 0 < n) : ∃ ad, A = some ad ∧ ∀ j (hj : j < xs.length), w.cell? (ad.add j) = some (.int k xs[j]) := by
  have hl := h.1
  obtain ⟨ad, e, hc⟩ := h.2.2 hn
  refine ⟨ad, e, fun j hj => ?_⟩
  obtain ⟨c, _, hK, hcell⟩ := hc j _ (List.getElem?_eq_getElem hj)
  have hK' : c = [Value.int k xs[j]] := hK
  subst hK'
  have := hcell 0 _ rfl
  simpa [Kd.int, Kd.scalar] using this
end Go.Proofs.Ytohdabkhafcdkaa.Blk
