/- A region that draws its order: each operation by itself, whatever order comes up; no conditions. -/
import Derived.Test.YthbcliofjfhmbaaDoorWMore
import Derived.Test.YthbcliofjfhmbaaDoorWInv
namespace Go.Proofs.YthbcliofjfhmbaaDoor.Reg
open Go Go.RowKit Go.Proofs.YthbcliofjfhmbaaDoorW.PrintWords Go.Proofs.YthbcliofjfhmbaaDoorW.PrintLast
/-- What stands while a region's operations come up in whatever order. D: the slots that they fill; S: what each one's value is. -/
structure RegI (D : List (Option Tmp)) (S : Nat → World → Value → Prop) (a0 : Act) (w0 : World) (b : Nat → Bool) (a : Act) (w : World) : Prop where
  below : Below w0.heap.size w0 w
  defers : a.defers = a0.defers
  size : a.tmps.size = a0.tmps.size
  elder : ∀ t, some t ∉ D → a.tmps[t]? = a0.tmps[t]?
  vals : ∀ (i : Nat) (t : Tmp), D[i]? = some (some t) → b i = true → ∃ v, a.tmps[t]? = some v ∧ S i w v
/-- Operation i, all that it waits for having come up. -/
def RStep (P : Program) (ops : Array Oper) (Q : Exit → Act → World → Prop) (B : List Nat) (D : List (Option Tmp)) (S : Nat → World → Value → Prop) (a0 : Act) (w0 : World) (i : Nat) : Prop :=
  ∀ a w, Below w0.heap.size w0 w → a.tmps.size = a0.tmps.size → (∀ t, some t ∉ D → a.tmps[t]? = a0.tmps[t]?) →
    (∀ (j : Nat) (t : Tmp), (B.getD i 0).testBit j = true → D[j]? = some (some t) → ∃ v, a.tmps[t]? = some v ∧ S j w v) →
    ∃ oi, ops[i]? = some oi ∧ ∀ K : Act → World → Prop, Shut (∀ v w', Below w.heap.size w w' → S i w' v → K (a.put oi.dst v) w') →
      if Region.wanted oi (yielded ops a.tmps) = true then Oper.wp P oi a w K Q else K (a.put oi.dst undef) w
theorem distinct {D : List (Option Tmp)} (h : (D.filterMap id).Nodup) : ∀ {i j : Nat} {t : Tmp}, D[i]? = some (some t) → D[j]? = some (some t) → i = j := by
  induction D with
  | nil => intro i j t hi; simp at hi
  | cons d D ih =>
    intro i j t hi hj
    have mem : ∀ {k : Nat}, D[k]? = some (some t) → t ∈ D.filterMap id := fun {k} hk => List.mem_filterMap.2 ⟨some t, List.mem_of_getElem? hk, rfl⟩
    cases d with
    | none =>
      have h' : (D.filterMap id).Nodup := by simpa using h
      cases i with
      | zero => simp at hi
      | succ i =>
        cases j with
        | zero => simp at hj
        | succ j => exact congrArg (· + 1) (ih h' (by simpa using hi) (by simpa using hj))
    | some u =>
      have h' : u ∉ D.filterMap id ∧ (D.filterMap id).Nodup := by simpa using h
      cases i with
      | zero =>
        cases j with
        | zero => rfl
        | succ j =>
          have hu : u = t := by simpa using hi
          subst hu
          exact absurd (mem (by simpa using hj)) h'.1
      | succ i =>
        cases j with
        | zero =>
          have hu : u = t := by simpa using hj
          subst hu
          exact absurd (mem (by simpa using hi)) h'.1
        | succ j => exact congrArg (· + 1) (ih h'.2 (by simpa using hi) (by simpa using hj))
theorem region_any {P : Program} {ops : Array Oper} {Q : Exit → Act → World → Prop} {id : Nat} {a0 : Act} {w0 : World} (D : List (Option Tmp)) (B : List Nat) (T : Bool × List (List Nat × List Nat)) (S : Nat → World → Value → Prop)
    (hm : P.follows .mixedOrders = true) (hT : rtab .any ops = T) (hB : waitsOk T.2 B = true) (hk : baseOk T.2 (List.range ops.size) = true) (hD : ops.toList.map (·.dst) = D) (hd : (D.filterMap _root_.id).Nodup)
    (hsz : (D.filterMap _root_.id).all (fun t => Nat.blt t a0.tmps.size) = true)
    (hmono : ∀ i w1 w2 v, Below w1.heap.size w1 w2 → S i w1 v → S i w2 v) (O : List Nat) (hO : List.range ops.size = O) (hstep : ∀ i ∈ O, RStep P ops Q B D S a0 w0 i)
    (hend : ∀ a w, RegI D S a0 w0 (fun _ => true) a w → Q .normal a w) : (Code.region id ops true).wp P Q a0 w0 := by
  subst hO
  refine wp_region_last (S := fun _ => True) (ds := []) hm ?_
  have hl : T.2.length = ops.size := by rw [← hT]; exact rtab_length
  refine inv_ (T := T) (B := B) (List.range ops.size) (RegI D S a0 w0) hT hB hk ?_ ?_ ?_ ?_
  · rw [hl]
    simp only [Bool.and_eq_true, beq_iff_eq, List.length_range, and_true]
    apply List.ext_getElem?
    intro j
    by_cases hj : j < ops.size
    · simp [lof, hj]
    · simp [lof, hj]
  · exact ⟨⟨rfl, rfl, rfl, Nat.le_refl _, fun _ _ => rfl⟩, rfl, rfl, fun _ _ => rfl, fun _ _ _ h => by cases h⟩
  · intro i hi b a w hI hb hon hoff
    have hi' : i < ops.size := List.mem_range.1 hi
    obtain ⟨oi, hoi, hK⟩ := hstep i hi a w hI.below hI.size hI.elder (fun j t hj ht => by
      refine hI.vals j t ht (hon j ?_)
      rw [hj, Bool.and_true, List.contains_iff_mem, List.mem_range]
      have := (List.getElem?_eq_some_iff.1 ht).1
      rw [← hD] at this
      simpa using this)
    refine ⟨oi, hoi, fun K hS => hK K (fun v w' hbw hs => hS.out _ _ ?_)⟩
    have hDi : D[i]? = some oi.dst := by rw [← hD, List.getElem?_map, Array.getElem?_toList, hoi]; rfl
    have hbel : Below w0.heap.size w0 w' := hI.below.trans (hbw.mono hI.below.size)
    refine ⟨hbel, by cases oi.dst <;> simp [Act.put, hI.defers], by cases oi.dst <;> simp [Act.put, hI.size], fun t ht => ?_, fun j t hj hbj => ?_⟩
    · cases hdst : oi.dst with
      | none => simpa [Act.put] using hI.elder t ht
      | some u =>
        have hne : u ≠ t := by
          rintro rfl
          exact ht (List.mem_of_getElem? (by rw [hDi, hdst]))
        simp [Act.put, Array.getElem?_setIfInBounds_ne hne]
        exact hI.elder t ht
    · by_cases hji : j = i
      · subst hji
        rw [hDi] at hj
        injection hj with hj
        refine ⟨v, ?_, hs⟩
        rw [hj]
        have : t < a.tmps.size := by
          rw [hI.size]
          have h1 := List.all_eq_true.1 hsz t (List.mem_filterMap.2 ⟨some t, List.mem_of_getElem? (by rw [hDi, hj]), rfl⟩)
          simpa using h1
        simp [Act.put, this]
      · rw [up_ne hji] at hbj
        obtain ⟨x, hx, hsx⟩ := hI.vals j t hj hbj
        refine ⟨x, ?_, hmono _ _ _ _ hbw hsx⟩
        cases hdst : oi.dst with
        | none => simpa [Act.put] using hx
        | some u =>
          have hne : u ≠ t := by
            rintro rfl
            exact hji (distinct hd hj (by rw [hDi, hdst]))
          simp [Act.put, Array.getElem?_setIfInBounds_ne hne]
          exact hx
  · intro b a w hb hI
    exact hend a w ⟨hI.below, hI.defers, hI.size, hI.elder, fun i t hi _ => hI.vals i t hi (hb i (by
      rw [List.contains_iff_mem, List.mem_range]
      have := (List.getElem?_eq_some_iff.1 hi).1
      rw [← hD] at this
      simpa using this))⟩
theorem rs_nil {P : Program} {ops : Array Oper} {Q : Exit → Act → World → Prop} {B : List Nat} {D : List (Option Tmp)} {S : Nat → World → Value → Prop} {a0 : Act} {w0 : World} : ∀ i ∈ ([] : List Nat), RStep P ops Q B D S a0 w0 i := fun _ h => by cases h
theorem rs_cons {P : Program} {ops : Array Oper} {Q : Exit → Act → World → Prop} {B : List Nat} {D : List (Option Tmp)} {S : Nat → World → Value → Prop} {a0 : Act} {w0 : World} {i : Nat} {rs : List Nat} (h : RStep P ops Q B D S a0 w0 i) (hs : ∀ j ∈ rs, RStep P ops Q B D S a0 w0 j) : ∀ j ∈ i :: rs, RStep P ops Q B D S a0 w0 j := fun j hj => by
  rcases List.mem_cons.1 hj with rfl | hj
  · exact h
  · exact hs j hj
/-- Is each of a list of specifications kept as the world grows? -/
def MonoS (s : World → Value → Prop) : Prop := ∀ w1 w2 v, Below w1.heap.size w1 w2 → s w1 v → s w2 v
theorem monoS_eq (x : Value) : MonoS (fun _ v => v = x) := fun _ _ _ _ h => h
theorem monoS_nil : ∀ s ∈ ([] : List (World → Value → Prop)), MonoS s := fun _ h => by cases h
theorem monoS_cons {s : World → Value → Prop} {l : List (World → Value → Prop)} (h : MonoS s) (hs : ∀ t ∈ l, MonoS t) : ∀ t ∈ s :: l, MonoS t := fun t ht => by
  rcases List.mem_cons.1 ht with rfl | ht
  · exact h
  · exact hs t ht
theorem mono_getD {l : List (World → Value → Prop)} (h : ∀ s ∈ l, MonoS s) : ∀ i w1 w2 v, Below w1.heap.size w1 w2 → l.getD i (fun _ _ => False) w1 v → l.getD i (fun _ _ => False) w2 v := by
  intro i w1 w2 v hb hs
  rw [List.getD_eq_getElem?_getD] at hs ⊢
  cases hi : l[i]? with
  | none => rw [hi] at hs; exact hs.elim
  | some s => rw [hi] at hs; exact h s (List.mem_of_getElem? hi) w1 w2 v hb hs
/-- A value is a slice that holds these. -/
def Rs {α : Type} (d : Kd α) (w : World) (v : Value) (xs : List α) : Prop := ∃ A c, v = .slice A xs.length c ∧ xs.length ≤ c ∧ d.C w A xs.length xs
theorem monoS_rs {α : Type} (d : Kd α) (xs : List α) : MonoS (fun w v => Rs d w v xs) := fun _ _ _ hb ⟨A, c, e, hl, hC⟩ => ⟨A, c, e, hl, Kd.C_below hC hb⟩
/-- The function's end, the frame not written out: one result, out of slot t. -/
theorem ret_slot {P : Program} {fn : Func} {R : Ending → World → Prop} {a : Act} {w : World} {t : Tmp} {v : Value} (hr : fn.results = #[.tmp t]) (hd : a.defers = []) (ht : a.tmps[t]? = some v) (h : R (.returned v) w) : bodyPost P fn R .ret a w := by
  refine bodyPost_ret (v := v) ?_ hd h
  have := results_tmp hr a.tmps P w
  rw [this]
  simp [ht]
end Go.Proofs.YthbcliofjfhmbaaDoor.Reg
