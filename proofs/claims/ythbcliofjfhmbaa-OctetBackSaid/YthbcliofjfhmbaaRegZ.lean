/- A region that draws its order, some of whose calls turn blocks in memory one after the other; no conditions. -/
import Derived.Test.YthbcliofjfhmbaaReg
namespace Go.Proofs.Ythbcliofjfhmbaa.Reg
open Go Go.RowKit Go.Proofs.YthbcliofjfhmbaaW.PrintWords Go.Proofs.YthbcliofjfhmbaaW.PrintLast
/-- All blocks stay but these. -/
def KeepL (gs : List Nat) (w w' : World) : Prop := w.heap.size ≤ w'.heap.size ∧ ∀ i, i < w.heap.size → i ∉ gs → w'.heap[i]? = w.heap[i]?
theorem KeepL.of_below (gs : List Nat) {w w' : World} (h : Below w.heap.size w w') : KeepL gs w w' := ⟨h.size, fun i hi _ => h.block i hi⟩
theorem KeepL.of_keep {gs : List Nat} {g : Nat} {w w' : World} (h : KeepBut w w' g none) (hg : g ∈ gs) : KeepL gs w w' := ⟨h.1, fun i hi hn => h.2 i hi (fun e => hn (e ▸ hg)) (by simp)⟩
/-- What stands of the world, by the last of the calls that has come up (the latest call first). -/
def Zc : List (Nat × (World → Prop)) → (World → Prop) → (Nat → Bool) → World → Prop
  | [], z0, _, w => z0 w
  | (c, z) :: l, z0, b, w => if b c = true then z w else Zc l z0 b w
def MonoZ (z : World → Prop) : Prop := ∀ w1 w2, Below w1.heap.size w1 w2 → z w1 → z w2
theorem monoZ_nil : ∀ c ∈ ([] : List (Nat × (World → Prop))), MonoZ c.2 := fun _ h => by cases h
theorem monoZ_cons {c : Nat × (World → Prop)} {l : List (Nat × (World → Prop))} (h : MonoZ c.2) (hs : ∀ t ∈ l, MonoZ t.2) : ∀ t ∈ c :: l, MonoZ t.2 := fun t ht => by
  rcases List.mem_cons.1 ht with rfl | ht
  · exact h
  · exact hs t ht
theorem Zc.step {l : List (Nat × (World → Prop))} {z0 : World → Prop} (hz0 : MonoZ z0) {b : Nat → Bool} {i : Nat} {w w' : World} (hb : Below w.heap.size w w') : ∀ (_ : ∀ c ∈ l, MonoZ c.2) (_ : ∀ c ∈ l, c.1 ≠ i), Zc l z0 b w → Zc l z0 (up b i) w' := by
  induction l with
  | nil => intro _ _ h; exact hz0 w w' hb h
  | cons c l ih =>
    intro hm hne h
    obtain ⟨c, z⟩ := c
    unfold Zc at h ⊢
    rw [up_ne (hne (c, z) (by simp))]
    split
    · rename_i hc
      rw [if_pos hc] at h
      exact hm (c, z) (by simp) w w' hb h
    · rename_i hc
      rw [if_neg hc] at h
      exact ih (fun t ht => hm t (by simp [ht])) (fun t ht => hne t (by simp [ht])) h
theorem ne_chain {l : List (Nat × (World → Prop))} {i : Nat} (h : (l.map (·.1)).contains i = false) : ∀ c ∈ l, c.1 ≠ i := fun c hc e => by
  have : (l.map (·.1)).contains i = true := by
    rw [List.contains_iff_mem]
    exact List.mem_map.2 ⟨c, hc, e⟩
  rw [this] at h
  cases h
theorem Zc.drew {l : List (Nat × (World → Prop))} {z0 : World → Prop} {w : World} (h : ∀ m, z0 (w.drewN m)) (m : Nat) : Zc l z0 (fun _ => false) (w.drewN m) := by
  induction l with
  | nil => exact h m
  | cons c l ih => unfold Zc; rw [if_neg (by simp)]; exact ih
structure RegZ (D : List (Option Tmp)) (S : Nat → World → Value → Prop) (Z : (Nat → Bool) → World → Prop) (a0 : Act) (wb : World) (b : Nat → Bool) (a : Act) (w : World) : Prop where
  below : Below wb.heap.size wb w
  z : Z b w
  defers : a.defers = a0.defers
  size : a.tmps.size = a0.tmps.size
  elder : ∀ t, some t ∉ D → a.tmps[t]? = a0.tmps[t]?
  vals : ∀ (i : Nat) (t : Tmp), D[i]? = some (some t) → b i = true → ∃ v, a.tmps[t]? = some v ∧ S i w v
def ZStep (P : Program) (ops : Array Oper) (Q : Exit → Act → World → Prop) (B : List Nat) (D : List (Option Tmp)) (S : Nat → World → Value → Prop) (Z : (Nat → Bool) → World → Prop) (gs : List Nat) (a0 : Act) (wb : World) (i : Nat) : Prop :=
  ∀ b a w, Below wb.heap.size wb w → Z b w → a.tmps.size = a0.tmps.size → (∀ t, some t ∉ D → a.tmps[t]? = a0.tmps[t]?) → b i = false →
    (∀ j, ((List.range ops.size).contains j && (B.getD i 0).testBit j) = true → b j = true) → (∀ d, ((List.range ops.size).contains d && (B.getD d 0).testBit i) = true → b d = false) →
    (∀ (j : Nat) (t : Tmp), (B.getD i 0).testBit j = true → D[j]? = some (some t) → ∃ v, a.tmps[t]? = some v ∧ S j w v) →
    ∃ oi, ops[i]? = some oi ∧ ∀ K : Act → World → Prop, Shut (∀ v w', Below wb.heap.size wb w' → KeepL gs w w' → Z (up b i) w' → S i w' v → K (a.put oi.dst v) w') →
      if Region.wanted oi (yielded ops a.tmps) = true then Oper.wp P oi a w K Q else K (a.put oi.dst undef) w
theorem ZStep.of_r {P : Program} {ops : Array Oper} {Q : Exit → Act → World → Prop} {B : List Nat} {D : List (Option Tmp)} {S : Nat → World → Value → Prop} {l : List (Nat × (World → Prop))} {z0 : World → Prop} {gs : List Nat} {a0 : Act} {wb : World} {i : Nat}
    (hz0 : MonoZ z0) (hm : ∀ c ∈ l, MonoZ c.2) (hne : ∀ c ∈ l, c.1 ≠ i) (h : RStep P ops Q B D S a0 wb i) : ZStep P ops Q B D S (Zc l z0) gs a0 wb i := by
  intro b a w hb hz hs hel hi hup hoff hon
  obtain ⟨oi, hoi, hK⟩ := h a w hb hs hel hon
  exact ⟨oi, hoi, fun K hS => hK K (fun v w' hbw hsi => hS.out v w' (hb.trans (hbw.mono hb.size)) (KeepL.of_below gs hbw) (Zc.step hz0 hbw hm hne hz) hsi)⟩
theorem region_z {P : Program} {ops : Array Oper} {Q : Exit → Act → World → Prop} {id : Nat} {a0 : Act} {w0 : World} (D : List (Option Tmp)) (B : List Nat) (T : Bool × List (List Nat × List Nat)) (S : Nat → World → Value → Prop) (Z : (Nat → Bool) → World → Prop) (gs : List Nat) (wb : World)
    (hm : P.follows .mixedOrders = true) (hT : rtab .any ops = T) (hB : waitsOk T.2 B = true) (hk : baseOk T.2 (List.range ops.size) = true) (hD : ops.toList.map (·.dst) = D) (hd : (D.filterMap _root_.id).Nodup)
    (hsz : (D.filterMap _root_.id).all (fun t => Nat.blt t a0.tmps.size) = true) (hb0 : Below wb.heap.size wb w0) (hz0 : ∀ m, Z (fun _ => false) (w0.drewN m))
    (hmono : ∀ i w1 w2 v, KeepL gs w1 w2 → S i w1 v → S i w2 v) (O : List Nat) (hO : List.range ops.size = O) (hstep : ∀ i ∈ O, ZStep P ops Q B D S Z gs a0 wb i)
    (hend : ∀ a w, RegZ D S Z a0 wb (fun _ => true) a w → Q .normal a w) (hZt : ∀ b w, (∀ j, (List.range ops.size).contains j = true → b j = true) → Z b w → Z (fun _ => true) w) : (Code.region id ops true).wp P Q a0 w0 := by
  subst hO
  refine wp_region_last (S := fun _ => True) (ds := []) hm ?_
  have hl : T.2.length = ops.size := by rw [← hT]; exact rtab_length
  refine inv_ (T := T) (B := B) (List.range ops.size) (RegZ D S Z a0 wb) hT hB hk ?_ ?_ ?_ ?_
  · rw [hl]
    simp only [Bool.and_eq_true, beq_iff_eq, List.length_range, and_true]
    apply List.ext_getElem?
    intro j
    by_cases hj : j < ops.size
    · simp [lof, hj]
    · simp [lof, hj]
  · exact ⟨pw_below_drewN hb0 1, hz0 1, rfl, rfl, fun _ _ => rfl, fun _ _ _ h => by cases h⟩
  · intro i hi b a w hI hb hon hoff
    have hi' : i < ops.size := List.mem_range.1 hi
    obtain ⟨oi, hoi, hK⟩ := hstep i hi b a w hI.below hI.z hI.size hI.elder hb hon hoff (fun j t hj ht => by
      refine hI.vals j t ht (hon j ?_)
      rw [hj, Bool.and_true, List.contains_iff_mem, List.mem_range]
      have := (List.getElem?_eq_some_iff.1 ht).1
      rw [← hD] at this
      simpa using this)
    refine ⟨oi, hoi, fun K hS => hK K (fun v w' hbel hbw hz' hs => hS.out _ _ ?_)⟩
    have hDi : D[i]? = some oi.dst := by rw [← hD, List.getElem?_map, Array.getElem?_toList, hoi]; rfl
    refine ⟨hbel, hz', by cases oi.dst <;> simp [Act.put, hI.defers], by cases oi.dst <;> simp [Act.put, hI.size], fun t ht => ?_, fun j t hj hbj => ?_⟩
    · cases hdst : oi.dst with
      | none => simpa [Act.put] using hI.elder t ht
      | some u =>
        have hne : u ≠ t := by
          rintro rfl
          exact ht (List.mem_of_getElem? (by rw [hDi, hdst]))
        simp [Act.put, Array.getElem?_setIfInBounds_ne hne]
        exact hI.elder t ht
    · by_cases hji : j = i
      · subst hji
        rw [hDi] at hj
        injection hj with hj
        refine ⟨v, ?_, hs⟩
        rw [hj]
        have : t < a.tmps.size := by
          rw [hI.size]
          have h1 := List.all_eq_true.1 hsz t (List.mem_filterMap.2 ⟨some t, List.mem_of_getElem? (by rw [hDi, hj]), rfl⟩)
          simpa using h1
        simp [Act.put, this]
      · rw [up_ne hji] at hbj
        obtain ⟨x, hx, hsx⟩ := hI.vals j t hj hbj
        refine ⟨x, ?_, hmono _ _ _ _ hbw hsx⟩
        cases hdst : oi.dst with
        | none => simpa [Act.put] using hx
        | some u =>
          have hne : u ≠ t := by
            rintro rfl
            exact hji (distinct hd hj (by rw [hDi, hdst]))
          simp [Act.put, Array.getElem?_setIfInBounds_ne hne]
          exact hx
  · intro b a w hb hI
    exact hend a w ⟨hI.below, hZt b w hb hI.z, hI.defers, hI.size, hI.elder, fun i t hi _ => hI.vals i t hi (hb i (by
      rw [List.contains_iff_mem, List.mem_range]
      have := (List.getElem?_eq_some_iff.1 hi).1
      rw [← hD] at this
      simpa using this))⟩
theorem zs_nil {P : Program} {ops : Array Oper} {Q : Exit → Act → World → Prop} {B : List Nat} {D : List (Option Tmp)} {S : Nat → World → Value → Prop} {Z : (Nat → Bool) → World → Prop} {gs : List Nat} {a0 : Act} {wb : World} : ∀ i ∈ ([] : List Nat), ZStep P ops Q B D S Z gs a0 wb i := fun _ h => by cases h
theorem zs_cons {P : Program} {ops : Array Oper} {Q : Exit → Act → World → Prop} {B : List Nat} {D : List (Option Tmp)} {S : Nat → World → Value → Prop} {Z : (Nat → Bool) → World → Prop} {gs : List Nat} {a0 : Act} {wb : World} {i : Nat} {rs : List Nat} (h : ZStep P ops Q B D S Z gs a0 wb i) (hs : ∀ j ∈ rs, ZStep P ops Q B D S Z gs a0 wb j) : ∀ j ∈ i :: rs, ZStep P ops Q B D S Z gs a0 wb j := fun j hj => by
  rcases List.mem_cons.1 hj with rfl | hj
  · exact h
  · exact hs j hj
/-- Is a specification kept while all blocks stay but these? -/
def MonoL (gs : List Nat) (s : World → Value → Prop) : Prop := ∀ w1 w2 v, KeepL gs w1 w2 → s w1 v → s w2 v
theorem monoL_eq {gs : List Nat} (x : Value) : MonoL gs (fun _ v => v = x) := fun _ _ _ _ h => h
theorem monoL_nil {gs : List Nat} : ∀ s ∈ ([] : List (World → Value → Prop)), MonoL gs s := fun _ h => by cases h
theorem monoL_cons {gs : List Nat} {s : World → Value → Prop} {l : List (World → Value → Prop)} (h : MonoL gs s) (hs : ∀ t ∈ l, MonoL gs t) : ∀ t ∈ s :: l, MonoL gs t := fun t ht => by
  rcases List.mem_cons.1 ht with rfl | ht
  · exact h
  · exact hs t ht
theorem monoL_getD {gs : List Nat} {l : List (World → Value → Prop)} (h : ∀ s ∈ l, MonoL gs s) : ∀ i w1 w2 v, KeepL gs w1 w2 → l.getD i (fun _ _ => False) w1 v → l.getD i (fun _ _ => False) w2 v := by
  intro i w1 w2 v hb hs
  rw [List.getD_eq_getElem?_getD] at hs ⊢
  cases hi : l[i]? with
  | none => rw [hi] at hs; exact hs.elim
  | some s => rw [hi] at hs; exact h s (List.mem_of_getElem? hi) w1 w2 v hb hs
theorem monoL_R {gs : List Nat} {α : Type} (d : Kd α) (e base : Nat) (ok : Nat → Prop) (xs : List α) (hok : ∀ k, ok k → k ∉ gs) : MonoL gs (fun w v => d.R e w base ok v xs) := fun _ _ _ hk h => Kd.R_step h (fun k ho hlt => hk.2 k hlt (hok k ho))
end Go.Proofs.Ythbcliofjfhmbaa.Reg
