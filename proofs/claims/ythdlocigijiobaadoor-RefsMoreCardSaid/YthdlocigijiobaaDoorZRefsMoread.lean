/- refs.there in the printed form; the tables lie as the program lays them. -/
import Derived.Test.YthdlocigijiobaaDoorZRefsMoreab
import Derived.Test.YthdlocigijiobaaDoorZRefsMoreac
section
/- A region that draws its order: each operation by itself, whatever order comes up; no conditions. -/
namespace Go.Proofs.YthdlocigijiobaaDoor.Reg
open Go Go.RowKit Go.Proofs.YthdlocigijiobaaDoorW.PrintWords Go.Proofs.YthdlocigijiobaaDoorW.PrintLast
/-- What stands while a region's operations come up in whatever order. D: the slots that they fill; S: what each one's value is. -/
structure RegI (D : List (Option Tmp)) (S : Nat → World → Value → Prop) (a0 : Act) (w0 : World) (b : Nat → Bool) (a : Act) (w : World) : Prop where
  below : Below w0.heap.size w0 w
  defers : a.defers = a0.defers
  size : a.tmps.size = a0.tmps.size
  elder : ∀ t, some t ∉ D → a.tmps[t]? = a0.tmps[t]?
  vals : ∀ (i : Nat) (t : Tmp), D[i]? = some (some t) → b i = true → ∃ v, a.tmps[t]? = some v ∧ S i w v
/-- Operation i, all that it waits for having come up. -/
def RStep (P : Program) (ops : Array Oper) (Q : Exit → Act → World → Prop) (B : List Nat) (D : List (Option Tmp)) (S : Nat → World → Value → Prop) (a0 : Act) (w0 : World) (i : Nat) : Prop :=
  ∀ a w, Below w0.heap.size w0 w → a.tmps.size = a0.tmps.size → (∀ t, some t ∉ D → a.tmps[t]? = a0.tmps[t]?) →
    (∀ (j : Nat) (t : Tmp), (B.getD i 0).testBit j = true → D[j]? = some (some t) → ∃ v, a.tmps[t]? = some v ∧ S j w v) →
    ∃ oi, ops[i]? = some oi ∧ ∀ K : Act → World → Prop, Shut (∀ v w', Below w.heap.size w w' → S i w' v → K (a.put oi.dst v) w') →
      if Region.wanted oi (yielded ops a.tmps) = true then Oper.wp P oi a w K Q else K (a.put oi.dst undef) w
theorem distinct {D : List (Option Tmp)} (h : (D.filterMap id).Nodup) : ∀ {i j : Nat} {t : Tmp}, D[i]? = some (some t) → D[j]? = some (some t) → i = j := by
  induction D with
  | nil => intro i j t hi; simp at hi
  | cons d D ih =>
    intro i j t hi hj
    have mem : ∀ {k : Nat}, D[k]? = some (some t) → t ∈ D.filterMap id := fun {k} hk => List.mem_filterMap.2 ⟨some t, List.mem_of_getElem? hk, rfl⟩
    cases d with
    | none =>
      have h' : (D.filterMap id).Nodup := by simpa using h
      cases i with
      | zero => simp at hi
      | succ i =>
        cases j with
        | zero => simp at hj
        | succ j => exact congrArg (· + 1) (ih h' (by simpa using hi) (by simpa using hj))
    | some u =>
      have h' : u ∉ D.filterMap id ∧ (D.filterMap id).Nodup := by simpa using h
      cases i with
      | zero =>
        cases j with
        | zero => rfl
        | succ j =>
          have hu : u = t := by simpa using hi
          subst hu
          exact absurd (mem (by simpa using hj)) h'.1
      | succ i =>
        cases j with
        | zero =>
          have hu : u = t := by simpa using hj
          subst hu
          exact absurd (mem (by simpa using hi)) h'.1
        | succ j => exact congrArg (· + 1) (ih h'.2 (by simpa using hi) (by simpa using hj))
theorem region_any {P : Program} {ops : Array Oper} {Q : Exit → Act → World → Prop} {id : Nat} {a0 : Act} {w0 : World} (D : List (Option Tmp)) (B : List Nat) (T : Bool × List (List Nat × List Nat)) (S : Nat → World → Value → Prop)
    (hm : P.follows .mixedOrders = true) (hT : rtab .any ops = T) (hB : waitsOk T.2 B = true) (hk : baseOk T.2 (List.range ops.size) = true) (hD : ops.toList.map (·.dst) = D) (hd : (D.filterMap _root_.id).Nodup)
    (hsz : (D.filterMap _root_.id).all (fun t => Nat.blt t a0.tmps.size) = true)
    (hmono : ∀ i w1 w2 v, Below w1.heap.size w1 w2 → S i w1 v → S i w2 v) (O : List Nat) (hO : List.range ops.size = O) (hstep : ∀ i ∈ O, RStep P ops Q B D S a0 w0 i)
    (hend : ∀ a w, RegI D S a0 w0 (fun _ => true) a w → Q .normal a w) : (Code.region id ops true).wp P Q a0 w0 := by
  subst hO
  refine wp_region_last (S := fun _ => True) (ds := []) hm ?_
  have hl : T.2.length = ops.size := by rw [← hT]; exact rtab_length
  refine inv_ (T := T) (B := B) (List.range ops.size) (RegI D S a0 w0) hT hB hk ?_ ?_ ?_ ?_
  · rw [hl]
    simp only [Bool.and_eq_true, beq_iff_eq, List.length_range, and_true]
    apply List.ext_getElem?
    intro j
    by_cases hj : j < ops.size
    · simp [lof, hj]
    · simp [lof, hj]
  · exact ⟨⟨rfl, rfl, rfl, Nat.le_refl _, fun _ _ => rfl⟩, rfl, rfl, fun _ _ => rfl, fun _ _ _ h => by cases h⟩
  · intro i hi b a w hI hb hon hoff
    have hi' : i < ops.size := List.mem_range.1 hi
    obtain ⟨oi, hoi, hK⟩ := hstep i hi a w hI.below hI.size hI.elder (fun j t hj ht => by
      refine hI.vals j t ht (hon j ?_)
      rw [hj, Bool.and_true, List.contains_iff_mem, List.mem_range]
      have := (List.getElem?_eq_some_iff.1 ht).1
      rw [← hD] at this
      simpa using this)
    refine ⟨oi, hoi, fun K hS => hK K (fun v w' hbw hs => hS.out _ _ ?_)⟩
    have hDi : D[i]? = some oi.dst := by rw [← hD, List.getElem?_map, Array.getElem?_toList, hoi]; rfl
    have hbel : Below w0.heap.size w0 w' := hI.below.trans (hbw.mono hI.below.size)
    refine ⟨hbel, by cases oi.dst <;> simp [Act.put, hI.defers], by cases oi.dst <;> simp [Act.put, hI.size], fun t ht => ?_, fun j t hj hbj => ?_⟩
    · cases hdst : oi.dst with
      | none => simpa [Act.put] using hI.elder t ht
      | some u =>
        have hne : u ≠ t := by
          rintro rfl
          exact ht (List.mem_of_getElem? (by rw [hDi, hdst]))
        simp [Act.put, Array.getElem?_setIfInBounds_ne hne]
        exact hI.elder t ht
    · by_cases hji : j = i
      · subst hji
        rw [hDi] at hj
        injection hj with hj
        refine ⟨v, ?_, hs⟩
        rw [hj]
        have : t < a.tmps.size := by
          rw [hI.size]
          have h1 := List.all_eq_true.1 hsz t (List.mem_filterMap.2 ⟨some t, List.mem_of_getElem? (by rw [hDi, hj]), rfl⟩)
          simpa using h1
        simp [Act.put, this]
      · rw [up_ne hji] at hbj
        obtain ⟨x, hx, hsx⟩ := hI.vals j t hj hbj
        refine ⟨x, ?_, hmono _ _ _ _ hbw hsx⟩
        cases hdst : oi.dst with
        | none => simpa [Act.put] using hx
        | some u =>
          have hne : u ≠ t := by
            rintro rfl
            exact hji (distinct hd hj (by rw [hDi, hdst]))
          simp [Act.put, Array.getElem?_setIfInBounds_ne hne]
          exact hx
  · intro b a w hb hI
    exact hend a w ⟨hI.below, hI.defers, hI.size, hI.elder, fun i t hi _ => hI.vals i t hi (hb i (by
      rw [List.contains_iff_mem, List.mem_range]
      have := (List.getElem?_eq_some_iff.1 hi).1
      rw [← hD] at this
      simpa using this))⟩
theorem rs_nil {P : Program} {ops : Array Oper} {Q : Exit → Act → World → Prop} {B : List Nat} {D : List (Option Tmp)} {S : Nat → World → Value → Prop} {a0 : Act} {w0 : World} : ∀ i ∈ ([] : List Nat), RStep P ops Q B D S a0 w0 i := fun _ h => by cases h
theorem rs_cons {P : Program} {ops : Array Oper} {Q : Exit → Act → World → Prop} {B : List Nat} {D : List (Option Tmp)} {S : Nat → World → Value → Prop} {a0 : Act} {w0 : World} {i : Nat} {rs : List Nat} (h : RStep P ops Q B D S a0 w0 i) (hs : ∀ j ∈ rs, RStep P ops Q B D S a0 w0 j) : ∀ j ∈ i :: rs, RStep P ops Q B D S a0 w0 j := fun j hj => by
  rcases List.mem_cons.1 hj with rfl | hj
  · exact h
  · exact hs j hj
/-- Is each of a list of specifications kept as the world grows? -/
def MonoS (s : World → Value → Prop) : Prop := ∀ w1 w2 v, Below w1.heap.size w1 w2 → s w1 v → s w2 v
theorem monoS_eq (x : Value) : MonoS (fun _ v => v = x) := fun _ _ _ _ h => h
theorem monoS_nil : ∀ s ∈ ([] : List (World → Value → Prop)), MonoS s := fun _ h => by cases h
theorem monoS_cons {s : World → Value → Prop} {l : List (World → Value → Prop)} (h : MonoS s) (hs : ∀ t ∈ l, MonoS t) : ∀ t ∈ s :: l, MonoS t := fun t ht => by
  rcases List.mem_cons.1 ht with rfl | ht
  · exact h
  · exact hs t ht
theorem mono_getD {l : List (World → Value → Prop)} (h : ∀ s ∈ l, MonoS s) : ∀ i w1 w2 v, Below w1.heap.size w1 w2 → l.getD i (fun _ _ => False) w1 v → l.getD i (fun _ _ => False) w2 v := by
  intro i w1 w2 v hb hs
  rw [List.getD_eq_getElem?_getD] at hs ⊢
  cases hi : l[i]? with
  | none => rw [hi] at hs; exact hs.elim
  | some s => rw [hi] at hs; exact h s (List.mem_of_getElem? hi) w1 w2 v hb hs
/-- A value is a slice that holds these. -/
def Rs {α : Type} (d : Kd α) (w : World) (v : Value) (xs : List α) : Prop := ∃ A c, v = .slice A xs.length c ∧ xs.length ≤ c ∧ d.C w A xs.length xs
theorem monoS_rs {α : Type} (d : Kd α) (xs : List α) : MonoS (fun w v => Rs d w v xs) := fun _ _ _ hb ⟨A, c, e, hl, hC⟩ => ⟨A, c, e, hl, Kd.C_below hC hb⟩
/-- The function's end, the frame not written out: one result, out of slot t. -/
theorem ret_slot {P : Program} {fn : Func} {R : Ending → World → Prop} {a : Act} {w : World} {t : Tmp} {v : Value} (hr : fn.results = #[.tmp t]) (hd : a.defers = []) (ht : a.tmps[t]? = some v) (h : R (.returned v) w) : bodyPost P fn R .ret a w := by
  refine bodyPost_ret (v := v) ?_ hd h
  have := results_tmp hr a.tmps P w
  rw [this]
  simp [ht]
end Go.Proofs.YthdlocigijiobaaDoor.Reg
end

section
/- Behind a region that draws: its frame written out, slot by slot. No conditions. -/
namespace Go.Proofs.YthdlocigijiobaaDoor.Reg
open Go Go.RowKit Go.Proofs.YthdlocigijiobaaDoorW.PrintWords Go.Proofs.YthdlocigijiobaaDoorW.PrintLast
/-- The slots of D filled out of g. -/
def puts (g : Tmp → Value) : List (Option Tmp) → Act → Act
  | [], a => a
  | none :: D, a => puts g D a
  | some t :: D, a => puts g D (a.put (some t) (g t))
theorem puts_defers (g : Tmp → Value) : ∀ D a, (puts g D a).defers = a.defers
  | [], _ => rfl
  | none :: D, a => puts_defers g D a
  | some t :: D, a => (puts_defers g D _).trans (by simp [Act.put])
theorem puts_size (g : Tmp → Value) : ∀ D a, (puts g D a).tmps.size = a.tmps.size
  | [], _ => rfl
  | none :: D, a => puts_size g D a
  | some t :: D, a => (puts_size g D _).trans (by simp [Act.put])
theorem puts_out (g : Tmp → Value) : ∀ D a t, some t ∉ D → (puts g D a).tmps[t]? = a.tmps[t]?
  | [], _, _, _ => rfl
  | none :: D, a, t, h => puts_out g D a t (fun h' => h (List.mem_cons_of_mem _ h'))
  | some u :: D, a, t, h => by
    have hne : u ≠ t := fun e => h (by rw [e]; exact List.mem_cons_self)
    refine (puts_out g D _ t (fun h' => h (List.mem_cons_of_mem _ h'))).trans ?_
    simp [Act.put, Array.getElem?_setIfInBounds_ne hne]
theorem puts_in (g : Tmp → Value) : ∀ D a t, some t ∈ D → t < a.tmps.size → (puts g D a).tmps[t]? = some (g t)
  | [], _, _, h, _ => by cases h
  | none :: D, a, t, h, hs => puts_in g D a t (by simpa using h) hs
  | some u :: D, a, t, h, hs => by
    show (puts g D (a.put (some u) (g u))).tmps[t]? = some (g t)
    by_cases hD : some t ∈ D
    · exact puts_in g D _ t hD (by simpa [Act.put] using hs)
    · have hu : u = t := by
        rcases List.mem_cons.1 h with h | h
        · exact (Option.some.inj h).symm
        · exact absurd h hD
      subst hu
      rw [puts_out g D _ u hD]
      simp [Act.put, hs]
/-- The frame that the region leaves. -/
theorem RegI.frame {D : List (Option Tmp)} {S : Nat → World → Value → Prop} {a0 : Act} {w0 : World} {b : Nat → Bool} {a : Act} {w : World} (h : RegI D S a0 w0 b a w) : a = puts (fun t => a.tmps.getD t undef) D a0 := by
  have h1 : a.tmps = (puts (fun t => a.tmps.getD t undef) D a0).tmps := by
    apply Array.ext_getElem?
    intro t
    by_cases hD : some t ∈ D
    · by_cases hs : t < a0.tmps.size
      · rw [puts_in _ D a0 t hD hs]
        have hs' : t < a.tmps.size := by rw [h.size]; exact hs
        simp [Array.getD_eq_getD_getElem?, hs']
      · rw [Array.getElem?_eq_none (by rw [h.size]; omega), Array.getElem?_eq_none (by rw [puts_size]; omega)]
    · rw [puts_out _ D a0 t hD, h.elder t hD]
  have h2 : a.defers = (puts (fun t => a.tmps.getD t undef) D a0).defers := by rw [puts_defers, h.defers]
  generalize puts (fun t => a.tmps.getD t undef) D a0 = c at h1 h2
  cases a; cases c
  simp only at h1 h2
  rw [h1, h2]
/-- A guard that never came up wants nothing. -/
theorem wanted_undef {o og : Oper} {ops : Array Oper} {g : Nat} {u : Bool} {t : Tmp} {a : Act} (hg : o.guard = some (g, u)) (ho : ops[g]? = some og) (hd : og.dst = some t) (hv : a.tmps[t]? = some undef) : Region.wanted o (yielded ops a.tmps) = false := by
  cases u <;> simp_all [Region.wanted, yielded, undef]
theorem getD_of {a : Act} {t : Tmp} {v : Value} (h : a.tmps[t]? = some v) : a.tmps.getD t undef = v := by simp [Array.getD_eq_getD_getElem?, h]
end Go.Proofs.YthdlocigijiobaaDoor.Reg
end

section
/- refs.there and refs.One, walked by hand; units of few parts; the tables lie as the program lays them. -/
namespace Go.Proofs.YthdlocigijiobaaDoor.RPure
open Go Go.RowKit Go.Proofs.YthdlocigijiobaaDoor.PSk Go.Proofs.YthdlocigijiobaaDoor.Given Go.Proofs.YthdlocigijiobaaDoorW.PrintWords Go.Proofs.YthdlocigijiobaaDoorW.PrintLast Go.Proofs.YthdlocigijiobaaDoorW.PrintMore
set_option linter.unusedVariables false
set_option linter.unusedSimpArgs false
/-- Is the operand there, of an instruction of this unit? -/
def thereX (C : LC) (V : LV) (B : LB) (U : LU) (X : S43) (x y z : Int) : Bool :=
  if shapeA x = 1 then decide (y < (C.length : Int)) else
  if shapeA x = 2 then (if x = 6 ∨ x = 7 then decide (y < (V.length : Int)) && decide ((rd_T37 V y).f2 > 1) else decide (y < (V.length : Int)) && decide ((rd_T37 V y).f2 < 2)) else
  if shapeA x = 3 then decide (y < ((slotsF X.f1 X.f2 X.f3).length : Int)) else
  if shapeA x = 7 then decide (y > 0) && decide (y < (U.length : Int)) else
  if shapeA x = 8 then decide (y < (B.length : Int)) && (x == 36 || (x == 35 && decide (z < inputsOf (rd_T39 B y).f1)) || (x == 37 && decide (z < fieldsOf (rd_T39 B y).f1))) else true
/-- Three boxes, in any later world. -/
structure Box3 (w W : World) (r0 r1 r2 : Array Value) : Prop where
  below : Below w.heap.size w W
  p : W.heap[w.heap.size]? = some (.cells r0 27 (0, 0))
  u : W.heap[w.heap.size + 1]? = some (.cells r1 43 (0, 0))
  i : W.heap[w.heap.size + 2]? = some (.cells r2 29 (0, 0))
theorem Box3.step {w W W2 : World} {r0 r1 r2 : Array Value} (h : Box3 w W r0 r1 r2) (hb : Below W.heap.size W W2) : Box3 w W2 r0 r1 r2 :=
  ⟨h.below.trans (hb.mono h.below.size), (hb.block _ (blk_lt h.p)).trans h.p, (hb.block _ (blk_lt h.u)).trans h.u, (hb.block _ (blk_lt h.i)).trans h.i⟩
theorem Box3.new (w : World) (r0 r1 r2 : Array Value) : Box3 w (((w.alloc (.cells r0 27)).alloc (.cells r1 43)).alloc (.cells r2 29)) r0 r1 r2 := by
  refine ⟨(((Below.refl w.heap.size w).alloc (Nat.le_refl _) _).alloc (by simp) _).alloc (by simp; omega) _, ?_, ?_, ?_⟩
  · rw [heap_alloc_old _ _ (by simp; omega)]; exact heap_alloc2_old w _ _
  · rw [heap_alloc_old _ _ (by simp)]; exact heap_alloc2_new w _ _
  · have := heap_alloc_new ((w.alloc (.cells r0 27)).alloc (.cells r1 43)) (.cells r2 29)
    simpa using this
set_option maxHeartbeats 8000000 in
set_option maxRecDepth 100000 in
theorem there_w (A0 : Option Addr) (c0 : Nat) (C : LC) (A1 : Option Addr) (c1 : Nat) (V : LV) (A2 : Option Addr) (c2 : Nat) (B : LB) (A3 : Option Addr) (c3 : Nat) (U : LU) (X : S43) (B1 : Option Addr) (d1 : Nat) (B3 : Option Addr) (d3 : Nat) (B4 : Option Addr) (d4 : Nat) (x y z : Int) (w : World)
    (g1 : Kd.C k37 w A1 V.length V) (l1 : V.length ≤ c1) (g2 : Kd.C k39 w A2 B.length B) (h1 : Kd.C (Kd.int .i64) w B1 X.f1.length X.f1) (e1 : X.f1.length ≤ d1) (h3 : Kd.C (Kd.int .i64) w B3 X.f3.length X.f3) (e3 : X.f3.length ≤ d3) (h4 : Kd.C k29 w B4 X.f4.length X.f4) (e4 : X.f4.length ≤ d4)
    (hx : isOp x = true) (hy : 0 ≤ y) (o1 : X.f1.length ≤ 20) (o3 : X.f3.length ≤ 1100) (m0 : C.length ≤ 9223372036854775807) (m3 : U.length ≤ 9223372036854775807) (hL : LaidAll w) :
    Calls Tryd.prog 21 #[.agg #[.slice A0 C.length c0, .slice A1 V.length c1, .slice A2 B.length c2, .slice A3 U.length c3], .agg #[.string X.f0, .slice B1 X.f1.length d1, .int .i64 X.f2, .slice B3 X.f3.length d3, .slice B4 X.f4.length d4], .agg #[.int .i64 x, .int .i64 y, .int .i64 z]] w fun e w' => e = .returned (.bool (thereX C V B U X x y z)) ∧ Below w.heap.size w w' := by
  obtain ⟨R, hR⟩ : ∃ R, thereX C V B U X x y z = R := ⟨_, rfl⟩
  rw [hR]
  unfold thereX at hR
  have m1 := g1.2.1
  have m2 := g2.2.1
  have HX := Aside0.mk (Box3.new w #[.slice A0 C.length c0, .slice A1 V.length c1, .slice A2 B.length c2, .slice A3 U.length c3] #[.string X.f0, .slice B1 X.f1.length d1, .int .i64 X.f2, .slice B3 X.f3.length d3, .slice B4 X.f4.length d4] #[.int .i64 x, .int .i64 y, .int .i64 z])
  have G1 := Aside0.mk g1
  have G2 := Aside0.mk g2
  have H1 := Aside0.mk h1
  have H3 := Aside0.mk h3
  have H4 := Aside0.mk h4
  have HL := Aside0.mk hL
  clear g1 g2 h1 h3 h4 hL
  unfold isOp at hx
  simp only [Bool.and_eq_true, decide_eq_true_eq] at hx
  obtain ⟨n, rfl⟩ : ∃ n : Nat, x = n := ⟨x.toNat, by omega⟩
  have hn : n < 38 := by omega
  have hs := shapeA_at n hn
  have PS := Aside0.mk (fun W (h : LaidAll W) => shape_calls (n : Int) W h.ops)
  rw [hs] at hR PS
  obtain ⟨sb, hsb⟩ : ∃ sb, shapeB (n : Int) = sb := ⟨_, rfl⟩
  rw [hsb] at PS
  clear hs hx hsb
  have hg : n = 1 ∨ (n = 2 ∨ n = 3) ∨ (n = 6 ∨ n = 7) ∨ (n = 4 ∨ n = 5) ∨ n = 33 ∨ (n = 35 ∨ n = 36 ∨ n = 37) ∨ (n = 0 ∨ (8 ≤ n ∧ n ≤ 32) ∨ n = 34) := by omega
  rcases hg with rfl | hg | hg | hg | rfl | hg | hg
  · have hv : decide (y < (C.length : Int)) = R := hR
    clear hR
    go_enter Tryd.func21, Tryd.ntmps21
    go_wp2_with fail
    refine (PS.out _ (HL.out.below HX.out.below)).mono ?_
    rintro e w1 ⟨rfl, hd⟩
    have HX1 := Aside0.mk (HX.out.step (drewN_of hd))
    clear hd PS HX
    have q0 := (blk_cell HX1.out.p 0).trans rfl
    have q1 := (blk_cell HX1.out.p 1).trans rfl
    have q2 := (blk_cell HX1.out.p 2).trans rfl
    have q3 := (blk_cell HX1.out.p 3).trans rfl
    have i0 := (blk_cell HX1.out.i 0).trans rfl
    have i1 := (blk_cell HX1.out.i 1).trans rfl
    have i2 := (blk_cell HX1.out.i 2).trans rfl
    go_wp2_with fail
    go_ret
    exact ⟨rfl, HX1.out.below⟩
  · have hv : (decide (y < (V.length : Int)) && decide ((rd_T37 V y).f2 < 2)) = R := by rcases hg with rfl | rfl <;> simpa [opA] using hR
    clear hR
    have PP : refs_plain.f V y = some R := by
      unfold refs_plain.f
      rw [← hv]
      by_cases h : y < (V.length : Int)
      · rw [if_pos h, if_pos hy]; simp [h]
      · rw [if_neg h]; simp [h]
    have PQ := Aside0.mk PP
    clear PP hv
    rcases hg with rfl | rfl
    · skip
      go_enter Tryd.func21, Tryd.ntmps21
      go_wp2_with fail
      refine (PS.out _ (HL.out.below HX.out.below)).mono ?_
      rintro e w1 ⟨rfl, hd⟩
      have HX1 := Aside0.mk (HX.out.step (drewN_of hd))
      clear hd PS HX
      have q0 := (blk_cell HX1.out.p 0).trans rfl
      have q1 := (blk_cell HX1.out.p 1).trans rfl
      have q2 := (blk_cell HX1.out.p 2).trans rfl
      have q3 := (blk_cell HX1.out.p 3).trans rfl
      have i0 := (blk_cell HX1.out.i 0).trans rfl
      have i1 := (blk_cell HX1.out.i 1).trans rfl
      have i2 := (blk_cell HX1.out.i 2).trans rfl
      go_wp2_with fail
      refine (refs_plain.calls A1 c1 V y R _ (Kd.C_below G1.out HX1.out.below) l1 PQ.out).mono ?_
      rintro e w2 ⟨rfl, hd⟩
      have HX2 := Aside0.mk (HX1.out.step (drewN_of hd))
      go_wp2_with fail
      go_ret
      exact ⟨rfl, HX2.out.below⟩
    · skip
      go_enter Tryd.func21, Tryd.ntmps21
      go_wp2_with fail
      refine (PS.out _ (HL.out.below HX.out.below)).mono ?_
      rintro e w1 ⟨rfl, hd⟩
      have HX1 := Aside0.mk (HX.out.step (drewN_of hd))
      clear hd PS HX
      have q0 := (blk_cell HX1.out.p 0).trans rfl
      have q1 := (blk_cell HX1.out.p 1).trans rfl
      have q2 := (blk_cell HX1.out.p 2).trans rfl
      have q3 := (blk_cell HX1.out.p 3).trans rfl
      have i0 := (blk_cell HX1.out.i 0).trans rfl
      have i1 := (blk_cell HX1.out.i 1).trans rfl
      have i2 := (blk_cell HX1.out.i 2).trans rfl
      go_wp2_with fail
      refine (refs_plain.calls A1 c1 V y R _ (Kd.C_below G1.out HX1.out.below) l1 PQ.out).mono ?_
      rintro e w2 ⟨rfl, hd⟩
      have HX2 := Aside0.mk (HX1.out.step (drewN_of hd))
      go_wp2_with fail
      go_ret
      exact ⟨rfl, HX2.out.below⟩
  · have hv : (decide (y < (V.length : Int)) && decide ((rd_T37 V y).f2 > 1)) = R := by rcases hg with rfl | rfl <;> simpa [opA] using hR
    clear hR
    have PP : refs_array.f V y = some R := by
      unfold refs_array.f
      rw [← hv]
      by_cases h : y < (V.length : Int)
      · rw [if_pos h, if_pos hy]; simp [h]
      · rw [if_neg h]; simp [h]
    have PQ := Aside0.mk PP
    clear PP hv
    rcases hg with rfl | rfl
    · skip
      go_enter Tryd.func21, Tryd.ntmps21
      go_wp2_with fail
      refine (PS.out _ (HL.out.below HX.out.below)).mono ?_
      rintro e w1 ⟨rfl, hd⟩
      have HX1 := Aside0.mk (HX.out.step (drewN_of hd))
      clear hd PS HX
      have q0 := (blk_cell HX1.out.p 0).trans rfl
      have q1 := (blk_cell HX1.out.p 1).trans rfl
      have q2 := (blk_cell HX1.out.p 2).trans rfl
      have q3 := (blk_cell HX1.out.p 3).trans rfl
      have i0 := (blk_cell HX1.out.i 0).trans rfl
      have i1 := (blk_cell HX1.out.i 1).trans rfl
      have i2 := (blk_cell HX1.out.i 2).trans rfl
      go_wp2_with fail
      refine (refs_array.calls A1 c1 V y R _ (Kd.C_below G1.out HX1.out.below) l1 PQ.out).mono ?_
      rintro e w2 ⟨rfl, hd⟩
      have HX2 := Aside0.mk (HX1.out.step (drewN_of hd))
      go_wp2_with fail
      go_ret
      exact ⟨rfl, HX2.out.below⟩
    · skip
      go_enter Tryd.func21, Tryd.ntmps21
      go_wp2_with fail
      refine (PS.out _ (HL.out.below HX.out.below)).mono ?_
      rintro e w1 ⟨rfl, hd⟩
      have HX1 := Aside0.mk (HX.out.step (drewN_of hd))
      clear hd PS HX
      have q0 := (blk_cell HX1.out.p 0).trans rfl
      have q1 := (blk_cell HX1.out.p 1).trans rfl
      have q2 := (blk_cell HX1.out.p 2).trans rfl
      have q3 := (blk_cell HX1.out.p 3).trans rfl
      have i0 := (blk_cell HX1.out.i 0).trans rfl
      have i1 := (blk_cell HX1.out.i 1).trans rfl
      have i2 := (blk_cell HX1.out.i 2).trans rfl
      go_wp2_with fail
      refine (refs_array.calls A1 c1 V y R _ (Kd.C_below G1.out HX1.out.below) l1 PQ.out).mono ?_
      rintro e w2 ⟨rfl, hd⟩
      have HX2 := Aside0.mk (HX1.out.step (drewN_of hd))
      go_wp2_with fail
      go_ret
      exact ⟨rfl, HX2.out.below⟩
  · have hv : decide (y < ((slotsF X.f1 X.f2 X.f3).length : Int)) = R := by rcases hg with rfl | rfl <;> simpa [opA] using hR
    clear hR
    obtain ⟨SL, hSL⟩ : ∃ SL, SL = slotsF X.f1 X.f2 X.f3 := ⟨_, rfl⟩
    have PT := Aside0.mk (hSL ▸ slots_is X.f0 X.f1 X.f2 X.f3 X.f4 (by omega) (by omega) : unit_Slots.f X.f0 X.f1 X.f2 X.f3 X.f4 = some SL)
    rw [← hSL] at hv
    clear hSL
    have e1_ := e1
    have e3_ := e3
    have e4_ := e4
    clear e1 e3 e4
    have HS := Aside0.mk (show (Tryd.prog.info? 43).map (·.size) = some 5 by kernel_rfl)
    have HT := Aside0.mk hv
    clear hv
    rcases hg with rfl | rfl
    · skip
      go_enter Tryd.func21, Tryd.ntmps21
      go_wp2_with fail
      refine (PS.out _ (HL.out.below HX.out.below)).mono ?_
      rintro e w1 ⟨rfl, hd⟩
      have HX1 := Aside0.mk (HX.out.step (drewN_of hd))
      clear hd PS HX
      have q0 := (blk_cell HX1.out.p 0).trans rfl
      have q1 := (blk_cell HX1.out.p 1).trans rfl
      have q2 := (blk_cell HX1.out.p 2).trans rfl
      have q3 := (blk_cell HX1.out.p 3).trans rfl
      have i0 := (blk_cell HX1.out.i 0).trans rfl
      have i1 := (blk_cell HX1.out.i 1).trans rfl
      have i2 := (blk_cell HX1.out.i 2).trans rfl
      go_wp2_with fail
      clear q0 q1 q2 q3 i0 i1 i2
      have HXB := Aside0.mk HX1.out.below
      replace H1 := Aside0.mk (Kd.C_below H1.out HXB.out)
      replace H3 := Aside0.mk (Kd.C_below H3.out HXB.out)
      replace H4 := Aside0.mk (Kd.C_below H4.out HXB.out)
      have HU := Aside0.mk HX1.out.u
      have HI := Aside0.mk HX1.out.i
      clear HX1 G1 G2 HL
      obtain ⟨b2, hb2⟩ : ∃ b, b = w.heap.size + 2 := ⟨_, rfl⟩
      rw [← hb2] at HI ⊢
      obtain ⟨b1, hb1⟩ : ∃ b, b = w.heap.size + 1 := ⟨_, rfl⟩
      rw [← hb1] at HU ⊢
      clear hb1 hb2
      refine Reg.region_any [some 47, some 48, some 49, some 50, some 51, some 52, some 6] [0, 1, 0, 4, 12, 31, 63] (true, [([], []), ([0], [0]), ([], []), ([2], [2]), ([3], [3]), ([1, 4], [1, 4]), ([5, 3, 0, 1, 2, 3, 4, 5], [5])]) (fun i => ([(fun _ v_ => v_ = (.pointer (some ⟨b2, 1, none⟩))), (fun _ v_ => v_ = (.int .i64 y)), (fun _ v_ => v_ = (.agg #[.string X.f0, .slice B1 X.f1.length d1, .int .i64 X.f2, .slice B3 X.f3.length d3, .slice B4 X.f4.length d4])), (fun w_ v_ => Reg.Rs (Kd.int .i64) w_ v_ SL), (fun _ v_ => v_ = (.int .i64 (SL.length : Int))), (fun _ v_ => v_ = (.bool R)), (fun _ v_ => v_ = (.bool R))] : List (World → Value → Prop)).getD i (fun _ _ => False))
          (by kernel_rfl) (by kernel_rfl) (by kernel_rfl) (by kernel_rfl) (by kernel_rfl) (by decide) (by rfl) (Reg.mono_getD ?_) [0, 1, 2, 3, 4, 5, 6] (by kernel_rfl) ?_ ?_
      · exact Reg.monoS_cons (Reg.monoS_eq _) (Reg.monoS_cons (Reg.monoS_eq _) (Reg.monoS_cons (Reg.monoS_eq _) (Reg.monoS_cons (Reg.monoS_rs _ _) (Reg.monoS_cons (Reg.monoS_eq _) (Reg.monoS_cons (Reg.monoS_eq _) (Reg.monoS_cons (Reg.monoS_eq _) Reg.monoS_nil))))))
      · skip
        refine Reg.rs_cons ?_ ?_
        · intro a w hb hs hel hon
          have e5 : a.tmps[5]? = some (.pointer (some ⟨b2, 0, none⟩)) := (hel 5 (by decide)).trans rfl
          obtain ⟨_, g5⟩ := Array.getElem?_eq_some_iff.1 e5
          refine ⟨_, rfl, fun K hK => ?_⟩
          refine value_ (w1 := w) (v := .pointer (some ⟨b2, 1, none⟩)) (by rfl) rfl ?_ (hK.out _ _ (Below.refl _ _) (rfl))
          · go_simp
            (try simp only [i64_w, g5])
            (try go_simp)
            try rfl
        refine Reg.rs_cons ?_ ?_
        · intro a w hb hs hel hon
          obtain ⟨_, e47, rfl⟩ := hon 0 47 (by kernel_rfl) rfl
          obtain ⟨_, g47⟩ := Array.getElem?_eq_some_iff.1 e47
          refine ⟨_, rfl, fun K hK => ?_⟩
          have q_HI1 : w.cell? ⟨b2, 1, none⟩ = some (.int .i64 y) := (blk_cell ((hb.block _ (blk_lt HI.out)).trans HI.out) 1).trans rfl
          refine value_ (w1 := w) (v := .int .i64 y) (by rfl) rfl ?_ (hK.out _ _ (Below.refl _ _) (rfl))
          · go_simp
            (try simp only [i64_w, g47])
            (try go_simp)
            try rfl
        refine Reg.rs_cons ?_ ?_
        · intro a w hb hs hel hon
          have e4 : a.tmps[4]? = some (.pointer (some ⟨b1, 0, none⟩)) := (hel 4 (by decide)).trans rfl
          refine ⟨_, rfl, fun K hK => ?_⟩
          rw [if_pos (by rfl)]
          exact wp_load_row 43 (.tmp 4) rfl b1 (Act_eval_tmp e4) 43 _ (0, 0) _ ((hb.block _ (blk_lt HU.out)).trans HU.out) Tryd.underlying43 rfl (by rw [HS.out]; rfl) (hK.out _ _ (Below.refl _ _) rfl)
        refine Reg.rs_cons ?_ ?_
        · intro a w hb hs hel hon
          obtain ⟨_, e49, rfl⟩ := hon 2 49 (by kernel_rfl) rfl
          refine ⟨_, rfl, fun K hK => ?_⟩
          refine goes_ Tryd.func36 (by kernel_rfl) rfl #[.agg #[.string X.f0, .slice B1 X.f1.length d1, .int .i64 X.f2, .slice B3 X.f3.length d3, .slice B4 X.f4.length d4]] (by rfl) rfl rfl (by first | (simp only [List.map_toArray, List.map_cons, List.map_nil, Act.eval, Array.getD_eq_getD_getElem?, Option.getD_some, e49]; done) | (simp only [List.map_toArray, List.map_cons, List.map_nil, Act.eval, Array.getD_eq_getD_getElem?, Option.getD_some, e49]; rfl) | rfl) ?_
          refine (unit_Slots.calls X.f0 B1 d1 X.f1 X.f2 B3 d3 X.f3 B4 d4 X.f4 SL w (Kd.C_below H1.out hb) e1_ (Kd.C_below H3.out hb) e3_ (Kd.C_below H4.out hb) e4_ PT.out).mono ?_
          rintro e w2 ⟨v, rfl, ho, hb2⟩
          exact ⟨_, rfl, hK.out _ _ hb2 (Kd.R_reads ho)⟩
        refine Reg.rs_cons ?_ ?_
        · intro a w hb hs hel hon
          obtain ⟨x50, e50, ⟨A_3, c_3, rfl, hl_3, hC_3⟩⟩ := hon 3 50 (by kernel_rfl) rfl
          obtain ⟨_, g50⟩ := Array.getElem?_eq_some_iff.1 e50
          refine ⟨_, rfl, fun K hK => ?_⟩
          refine value_ (w1 := w) (v := .int .i64 (SL.length : Int)) (by rfl) rfl ?_ (hK.out _ _ (Below.refl _ _) (rfl))
          · go_simp
            (try simp only [i64_w, g50])
            (try go_simp)
            try rfl
        refine Reg.rs_cons ?_ ?_
        · intro a w hb hs hel hon
          obtain ⟨_, e48, rfl⟩ := hon 1 48 (by kernel_rfl) rfl
          obtain ⟨_, e51, rfl⟩ := hon 4 51 (by kernel_rfl) rfl
          obtain ⟨_, g48⟩ := Array.getElem?_eq_some_iff.1 e48
          obtain ⟨_, g51⟩ := Array.getElem?_eq_some_iff.1 e51
          refine ⟨_, rfl, fun K hK => ?_⟩
          have ht_ := HT.out
          refine value_ (w1 := w) (v := .bool R) (by rfl) rfl ?_ (hK.out _ _ (Below.refl _ _) (rfl))
          · go_simp
            (try simp only [i64_w, g48, g51])
            (try go_simp)
            try rfl
        refine Reg.rs_cons ?_ ?_
        · intro a w hb hs hel hon
          obtain ⟨_, e52, rfl⟩ := hon 5 52 (by kernel_rfl) rfl
          obtain ⟨_, g52⟩ := Array.getElem?_eq_some_iff.1 e52
          refine ⟨_, rfl, fun K hK => ?_⟩
          refine value_ (w1 := w) (v := .bool R) (by rfl) rfl ?_ (hK.out _ _ (Below.refl _ _) (rfl))
          · go_simp
            (try simp only [i64_w, g52])
            (try go_simp)
            try rfl
        exact Reg.rs_nil
      · intro a w hI
        rename_i K_ hK_
        refine hK_ a w ?_
        obtain ⟨_, ev, rfl⟩ := hI.vals 6 6 rfl rfl
        have HE_ := Aside0.mk (HXB.out.trans (hI.below.mono HXB.out.size))
        go_wp2
        exact Reg.ret_slot (R := fun e w' => e = .returned (.bool R) ∧ Below _ _ w') (by kernel_rfl) hI.defers ev ⟨rfl, HE_.out⟩
    · skip
      go_enter Tryd.func21, Tryd.ntmps21
      go_wp2_with fail
      refine (PS.out _ (HL.out.below HX.out.below)).mono ?_
      rintro e w1 ⟨rfl, hd⟩
      have HX1 := Aside0.mk (HX.out.step (drewN_of hd))
      clear hd PS HX
      have q0 := (blk_cell HX1.out.p 0).trans rfl
      have q1 := (blk_cell HX1.out.p 1).trans rfl
      have q2 := (blk_cell HX1.out.p 2).trans rfl
      have q3 := (blk_cell HX1.out.p 3).trans rfl
      have i0 := (blk_cell HX1.out.i 0).trans rfl
      have i1 := (blk_cell HX1.out.i 1).trans rfl
      have i2 := (blk_cell HX1.out.i 2).trans rfl
      go_wp2_with fail
      clear q0 q1 q2 q3 i0 i1 i2
      have HXB := Aside0.mk HX1.out.below
      replace H1 := Aside0.mk (Kd.C_below H1.out HXB.out)
      replace H3 := Aside0.mk (Kd.C_below H3.out HXB.out)
      replace H4 := Aside0.mk (Kd.C_below H4.out HXB.out)
      have HU := Aside0.mk HX1.out.u
      have HI := Aside0.mk HX1.out.i
      clear HX1 G1 G2 HL
      obtain ⟨b2, hb2⟩ : ∃ b, b = w.heap.size + 2 := ⟨_, rfl⟩
      rw [← hb2] at HI ⊢
      obtain ⟨b1, hb1⟩ : ∃ b, b = w.heap.size + 1 := ⟨_, rfl⟩
      rw [← hb1] at HU ⊢
      clear hb1 hb2
      refine Reg.region_any [some 47, some 48, some 49, some 50, some 51, some 52, some 6] [0, 1, 0, 4, 12, 31, 63] (true, [([], []), ([0], [0]), ([], []), ([2], [2]), ([3], [3]), ([1, 4], [1, 4]), ([5, 3, 0, 1, 2, 3, 4, 5], [5])]) (fun i => ([(fun _ v_ => v_ = (.pointer (some ⟨b2, 1, none⟩))), (fun _ v_ => v_ = (.int .i64 y)), (fun _ v_ => v_ = (.agg #[.string X.f0, .slice B1 X.f1.length d1, .int .i64 X.f2, .slice B3 X.f3.length d3, .slice B4 X.f4.length d4])), (fun w_ v_ => Reg.Rs (Kd.int .i64) w_ v_ SL), (fun _ v_ => v_ = (.int .i64 (SL.length : Int))), (fun _ v_ => v_ = (.bool R)), (fun _ v_ => v_ = (.bool R))] : List (World → Value → Prop)).getD i (fun _ _ => False))
          (by kernel_rfl) (by kernel_rfl) (by kernel_rfl) (by kernel_rfl) (by kernel_rfl) (by decide) (by rfl) (Reg.mono_getD ?_) [0, 1, 2, 3, 4, 5, 6] (by kernel_rfl) ?_ ?_
      · exact Reg.monoS_cons (Reg.monoS_eq _) (Reg.monoS_cons (Reg.monoS_eq _) (Reg.monoS_cons (Reg.monoS_eq _) (Reg.monoS_cons (Reg.monoS_rs _ _) (Reg.monoS_cons (Reg.monoS_eq _) (Reg.monoS_cons (Reg.monoS_eq _) (Reg.monoS_cons (Reg.monoS_eq _) Reg.monoS_nil))))))
      · skip
        refine Reg.rs_cons ?_ ?_
        · intro a w hb hs hel hon
          have e5 : a.tmps[5]? = some (.pointer (some ⟨b2, 0, none⟩)) := (hel 5 (by decide)).trans rfl
          obtain ⟨_, g5⟩ := Array.getElem?_eq_some_iff.1 e5
          refine ⟨_, rfl, fun K hK => ?_⟩
          refine value_ (w1 := w) (v := .pointer (some ⟨b2, 1, none⟩)) (by rfl) rfl ?_ (hK.out _ _ (Below.refl _ _) (rfl))
          · go_simp
            (try simp only [i64_w, g5])
            (try go_simp)
            try rfl
        refine Reg.rs_cons ?_ ?_
        · intro a w hb hs hel hon
          obtain ⟨_, e47, rfl⟩ := hon 0 47 (by kernel_rfl) rfl
          obtain ⟨_, g47⟩ := Array.getElem?_eq_some_iff.1 e47
          refine ⟨_, rfl, fun K hK => ?_⟩
          have q_HI1 : w.cell? ⟨b2, 1, none⟩ = some (.int .i64 y) := (blk_cell ((hb.block _ (blk_lt HI.out)).trans HI.out) 1).trans rfl
          refine value_ (w1 := w) (v := .int .i64 y) (by rfl) rfl ?_ (hK.out _ _ (Below.refl _ _) (rfl))
          · go_simp
            (try simp only [i64_w, g47])
            (try go_simp)
            try rfl
        refine Reg.rs_cons ?_ ?_
        · intro a w hb hs hel hon
          have e4 : a.tmps[4]? = some (.pointer (some ⟨b1, 0, none⟩)) := (hel 4 (by decide)).trans rfl
          refine ⟨_, rfl, fun K hK => ?_⟩
          rw [if_pos (by rfl)]
          exact wp_load_row 43 (.tmp 4) rfl b1 (Act_eval_tmp e4) 43 _ (0, 0) _ ((hb.block _ (blk_lt HU.out)).trans HU.out) Tryd.underlying43 rfl (by rw [HS.out]; rfl) (hK.out _ _ (Below.refl _ _) rfl)
        refine Reg.rs_cons ?_ ?_
        · intro a w hb hs hel hon
          obtain ⟨_, e49, rfl⟩ := hon 2 49 (by kernel_rfl) rfl
          refine ⟨_, rfl, fun K hK => ?_⟩
          refine goes_ Tryd.func36 (by kernel_rfl) rfl #[.agg #[.string X.f0, .slice B1 X.f1.length d1, .int .i64 X.f2, .slice B3 X.f3.length d3, .slice B4 X.f4.length d4]] (by rfl) rfl rfl (by first | (simp only [List.map_toArray, List.map_cons, List.map_nil, Act.eval, Array.getD_eq_getD_getElem?, Option.getD_some, e49]; done) | (simp only [List.map_toArray, List.map_cons, List.map_nil, Act.eval, Array.getD_eq_getD_getElem?, Option.getD_some, e49]; rfl) | rfl) ?_
          refine (unit_Slots.calls X.f0 B1 d1 X.f1 X.f2 B3 d3 X.f3 B4 d4 X.f4 SL w (Kd.C_below H1.out hb) e1_ (Kd.C_below H3.out hb) e3_ (Kd.C_below H4.out hb) e4_ PT.out).mono ?_
          rintro e w2 ⟨v, rfl, ho, hb2⟩
          exact ⟨_, rfl, hK.out _ _ hb2 (Kd.R_reads ho)⟩
        refine Reg.rs_cons ?_ ?_
        · intro a w hb hs hel hon
          obtain ⟨x50, e50, ⟨A_3, c_3, rfl, hl_3, hC_3⟩⟩ := hon 3 50 (by kernel_rfl) rfl
          obtain ⟨_, g50⟩ := Array.getElem?_eq_some_iff.1 e50
          refine ⟨_, rfl, fun K hK => ?_⟩
          refine value_ (w1 := w) (v := .int .i64 (SL.length : Int)) (by rfl) rfl ?_ (hK.out _ _ (Below.refl _ _) (rfl))
          · go_simp
            (try simp only [i64_w, g50])
            (try go_simp)
            try rfl
        refine Reg.rs_cons ?_ ?_
        · intro a w hb hs hel hon
          obtain ⟨_, e48, rfl⟩ := hon 1 48 (by kernel_rfl) rfl
          obtain ⟨_, e51, rfl⟩ := hon 4 51 (by kernel_rfl) rfl
          obtain ⟨_, g48⟩ := Array.getElem?_eq_some_iff.1 e48
          obtain ⟨_, g51⟩ := Array.getElem?_eq_some_iff.1 e51
          refine ⟨_, rfl, fun K hK => ?_⟩
          have ht_ := HT.out
          refine value_ (w1 := w) (v := .bool R) (by rfl) rfl ?_ (hK.out _ _ (Below.refl _ _) (rfl))
          · go_simp
            (try simp only [i64_w, g48, g51])
            (try go_simp)
            try rfl
        refine Reg.rs_cons ?_ ?_
        · intro a w hb hs hel hon
          obtain ⟨_, e52, rfl⟩ := hon 5 52 (by kernel_rfl) rfl
          obtain ⟨_, g52⟩ := Array.getElem?_eq_some_iff.1 e52
          refine ⟨_, rfl, fun K hK => ?_⟩
          refine value_ (w1 := w) (v := .bool R) (by rfl) rfl ?_ (hK.out _ _ (Below.refl _ _) (rfl))
          · go_simp
            (try simp only [i64_w, g52])
            (try go_simp)
            try rfl
        exact Reg.rs_nil
      · intro a w hI
        rename_i K_ hK_
        refine hK_ a w ?_
        obtain ⟨_, ev, rfl⟩ := hI.vals 6 6 rfl rfl
        have HE_ := Aside0.mk (HXB.out.trans (hI.below.mono HXB.out.size))
        go_wp2
        exact Reg.ret_slot (R := fun e w' => e = .returned (.bool R) ∧ Below _ _ w') (by kernel_rfl) hI.defers ev ⟨rfl, HE_.out⟩
  · have hv : (decide (y > 0) && decide (y < (U.length : Int))) = R := hR
    clear hR
    by_cases v : 0 < y
    · have v1 : decide (0 < y) = true := decide_eq_true v
      have hv2 : decide (y < (U.length : Int)) = R := by rw [← hv]; show _ = (decide (0 < y) && _); rw [v1, Bool.true_and]
      clear hv
      go_enter Tryd.func21, Tryd.ntmps21
      go_wp2_with fail
      refine (PS.out _ (HL.out.below HX.out.below)).mono ?_
      rintro e w1 ⟨rfl, hd⟩
      have HX1 := Aside0.mk (HX.out.step (drewN_of hd))
      clear hd PS HX
      have q0 := (blk_cell HX1.out.p 0).trans rfl
      have q1 := (blk_cell HX1.out.p 1).trans rfl
      have q2 := (blk_cell HX1.out.p 2).trans rfl
      have q3 := (blk_cell HX1.out.p 3).trans rfl
      have i0 := (blk_cell HX1.out.i 0).trans rfl
      have i1 := (blk_cell HX1.out.i 1).trans rfl
      have i2 := (blk_cell HX1.out.i 2).trans rfl
      go_wp2_with fail
      go_ret
      exact ⟨rfl, HX1.out.below⟩
    · have v1 : decide (0 < y) = false := decide_eq_false v
      obtain rfl : false = R := by rw [← hv]; show _ = (decide (0 < y) && _); rw [v1, Bool.false_and]
      clear hv
      go_enter Tryd.func21, Tryd.ntmps21
      go_wp2_with fail
      refine (PS.out _ (HL.out.below HX.out.below)).mono ?_
      rintro e w1 ⟨rfl, hd⟩
      have HX1 := Aside0.mk (HX.out.step (drewN_of hd))
      clear hd PS HX
      have q0 := (blk_cell HX1.out.p 0).trans rfl
      have q1 := (blk_cell HX1.out.p 1).trans rfl
      have q2 := (blk_cell HX1.out.p 2).trans rfl
      have q3 := (blk_cell HX1.out.p 3).trans rfl
      have i0 := (blk_cell HX1.out.i 0).trans rfl
      have i1 := (blk_cell HX1.out.i 1).trans rfl
      have i2 := (blk_cell HX1.out.i 2).trans rfl
      go_wp2_with fail
      go_ret
      exact ⟨rfl, HX1.out.below⟩
  · have hv : (decide (y < (B.length : Int)) && ((n : Int) == 36 || ((n : Int) == 35 && decide (z < inputsOf (rd_T39 B y).f1)) || ((n : Int) == 37 && decide (z < fieldsOf (rd_T39 B y).f1)))) = R := by rcases hg with rfl | rfl | rfl <;> simpa [opA] using hR
    clear hR
    by_cases v : y < (B.length : Int)
    rotate_left
    · have v1 : decide ((B.length : Int) ≤ y) = true := decide_eq_true (by omega)
      rw [decide_eq_false v, Bool.false_and] at hv
      subst hv
      rcases hg with rfl | rfl | rfl
      · skip
        go_enter Tryd.func21, Tryd.ntmps21
        go_wp2_with fail
        refine (PS.out _ (HL.out.below HX.out.below)).mono ?_
        rintro e w1 ⟨rfl, hd⟩
        have HX1 := Aside0.mk (HX.out.step (drewN_of hd))
        clear hd PS HX
        have q0 := (blk_cell HX1.out.p 0).trans rfl
        have q1 := (blk_cell HX1.out.p 1).trans rfl
        have q2 := (blk_cell HX1.out.p 2).trans rfl
        have q3 := (blk_cell HX1.out.p 3).trans rfl
        have i0 := (blk_cell HX1.out.i 0).trans rfl
        have i1 := (blk_cell HX1.out.i 1).trans rfl
        have i2 := (blk_cell HX1.out.i 2).trans rfl
        go_wp2_with fail
        go_ret
        exact ⟨rfl, HX1.out.below⟩
      · skip
        go_enter Tryd.func21, Tryd.ntmps21
        go_wp2_with fail
        refine (PS.out _ (HL.out.below HX.out.below)).mono ?_
        rintro e w1 ⟨rfl, hd⟩
        have HX1 := Aside0.mk (HX.out.step (drewN_of hd))
        clear hd PS HX
        have q0 := (blk_cell HX1.out.p 0).trans rfl
        have q1 := (blk_cell HX1.out.p 1).trans rfl
        have q2 := (blk_cell HX1.out.p 2).trans rfl
        have q3 := (blk_cell HX1.out.p 3).trans rfl
        have i0 := (blk_cell HX1.out.i 0).trans rfl
        have i1 := (blk_cell HX1.out.i 1).trans rfl
        have i2 := (blk_cell HX1.out.i 2).trans rfl
        go_wp2_with fail
        go_ret
        exact ⟨rfl, HX1.out.below⟩
      · skip
        go_enter Tryd.func21, Tryd.ntmps21
        go_wp2_with fail
        refine (PS.out _ (HL.out.below HX.out.below)).mono ?_
        rintro e w1 ⟨rfl, hd⟩
        have HX1 := Aside0.mk (HX.out.step (drewN_of hd))
        clear hd PS HX
        have q0 := (blk_cell HX1.out.p 0).trans rfl
        have q1 := (blk_cell HX1.out.p 1).trans rfl
        have q2 := (blk_cell HX1.out.p 2).trans rfl
        have q3 := (blk_cell HX1.out.p 3).trans rfl
        have i0 := (blk_cell HX1.out.i 0).trans rfl
        have i1 := (blk_cell HX1.out.i 1).trans rfl
        have i2 := (blk_cell HX1.out.i 2).trans rfl
        go_wp2_with fail
        go_ret
        exact ⟨rfl, HX1.out.below⟩
    have v1 : decide ((B.length : Int) ≤ y) = false := decide_eq_false (by omega)
    rw [decide_eq_true v, Bool.true_and] at hv
    obtain ⟨m, rfl⟩ : ∃ m : Nat, y = m := ⟨y.toNat, by omega⟩
    have hm : m < B.length := by omega
    generalize hK_ : (rd_T39 B (m : Int)).f1 = kd at hv
    have PI := Aside0.mk (fun W (h : LaidAll W) => inputs_calls kd W h.blk)
    have PF := Aside0.mk (fun W (h : LaidAll W) => fields_calls kd W h.blk)
    rcases hg with rfl | rfl | rfl
    · obtain ⟨ni, hni⟩ : ∃ ni, inputsOf kd = ni := ⟨_, rfl⟩
      rw [hni] at PI
      have hv2 : decide (z < ni) = R := by rw [← hv, hni]; simp
      clear hv hni
      have HT := Aside0.mk hv2
      clear hv2
      cases R with
      | true =>
        go_enter Tryd.func21, Tryd.ntmps21
        go_wp2_with fail
        refine (PS.out _ (HL.out.below HX.out.below)).mono ?_
        rintro e w1 ⟨rfl, hd⟩
        have HX1 := Aside0.mk (HX.out.step (drewN_of hd))
        clear hd PS HX
        have q0 := (blk_cell HX1.out.p 0).trans rfl
        have q1 := (blk_cell HX1.out.p 1).trans rfl
        have q2 := (blk_cell HX1.out.p 2).trans rfl
        have q3 := (blk_cell HX1.out.p 3).trans rfl
        have i0 := (blk_cell HX1.out.i 0).trans rfl
        have i1 := (blk_cell HX1.out.i 1).trans rfl
        have i2 := (blk_cell HX1.out.i 2).trans rfl
        obtain ⟨ad, rfl, k0, k1⟩ := at_T39 (Kd.C_below G2.out HX1.out.below) (m : Int) (by omega) (by omega)
        rw [Int.toNat_natCast] at k0 k1
        rw [hK_] at k1
        go_wp2_with fail
        clear q0 q1 q2 q3 i0 i1 i2 k0 k1
        have HXB := Aside0.mk HX1.out.below
        have HI := Aside0.mk HX1.out.i
        clear HX1 G1 G2 H1 H3 H4
        obtain ⟨b2, hb2⟩ : ∃ b, b = w.heap.size + 2 := ⟨_, rfl⟩
        rw [← hb2] at HI ⊢
        clear hb2
        refine Reg.region_any [some 81, some 82, some 83, some 84, some 85, some 86, some 87, some 88, some 89, some 90, some 91, some 92, some 93, some 94, some 95, some 96, some 97, some 98, some 99, some 100, some 101, some 102, some 103, some 104, some 105, some 106, some 107, some 6] [0, 1, 3, 7, 15, 31, 63, 127, 255, 511, 255, 1279, 4095, 8191, 16383, 32767, 65535, 131071, 262143, 524287, 1048575, 2097151, 1048575, 5242879, 16777215, 33554431, 67108863, 134217727] (true, [([], []), ([0], [0]), ([1], [1]), ([2], [2]), ([3], [3]), ([4, 3], [3, 4]), ([5, 3], [3, 5]), ([6, 3, 3], [3, 6]), ([7], [7]), ([8, 7], [7, 8]), ([7], [7]), ([10, 7, 7], [7, 10]), ([9, 11, 7], [7, 9, 11]), ([7, 12, 3], [3, 7, 12]), ([3, 13], [3, 13]), ([14, 11], [14]), ([15], [15]), ([16, 15], [15, 16]), ([17, 15], [15, 17]), ([18, 15, 15], [15, 18]), ([19], [19]), ([20, 19], [19, 20]), ([19], [19]), ([22, 19, 19], [19, 22]), ([21, 23, 19], [19, 21, 23]), ([19, 24, 15], [15, 19, 24]), ([15, 25], [15, 25]), ([26, 23, 0, 1, 2, 3, 4, 5, 6, 7, 8, 9, 10, 11, 12, 13, 14, 15, 16, 17, 18, 19, 20, 21, 22, 23, 24, 25, 26], [26])]) (fun i => ([(fun _ v_ => v_ = (.pointer (some ⟨b2, 0, none⟩))), (fun _ v_ => v_ = (.int .i64 35)), (fun _ v_ => v_ = (.bool false)), (fun _ v_ => v_ = (.bool false)), (fun _ v_ => v_ = (.pointer (some ⟨b2, 0, none⟩))), (fun _ v_ => v_ = (.int .i64 35)), (fun _ v_ => v_ = (.bool true)), (fun _ v_ => v_ = (.bool true)), (fun _ v_ => v_ = (.pointer (some ⟨b2, 2, none⟩))), (fun _ v_ => v_ = (.int .i64 z)), (fun _ v_ => v_ = (.int .i64 kd)), (fun _ v_ => v_ = (.int .i64 ni)), (fun _ v_ => v_ = (.bool true)), (fun _ v_ => v_ = (.bool true)), (fun _ v_ => v_ = (.bool true)), (fun _ v_ => v_ = (.bool true)), (fun _ v_ => v_ = undef), (fun _ v_ => v_ = undef), (fun _ v_ => v_ = undef), (fun _ v_ => v_ = undef), (fun _ v_ => v_ = undef), (fun _ v_ => v_ = undef), (fun _ v_ => v_ = undef), (fun _ v_ => v_ = undef), (fun _ v_ => v_ = undef), (fun _ v_ => v_ = undef), (fun _ v_ => v_ = (.bool true)), (fun _ v_ => v_ = (.bool true))] : List (World → Value → Prop)).getD i (fun _ _ => False))
            (by kernel_rfl) (by kernel_rfl) (by kernel_rfl) (by kernel_rfl) (by kernel_rfl) (by decide) (by rfl) (Reg.mono_getD ?_) [0, 1, 2, 3, 4, 5, 6, 7, 8, 9, 10, 11, 12, 13, 14, 15, 16, 17, 18, 19, 20, 21, 22, 23, 24, 25, 26, 27] (by kernel_rfl) ?_ ?_
        · exact Reg.monoS_cons (Reg.monoS_eq _) (Reg.monoS_cons (Reg.monoS_eq _) (Reg.monoS_cons (Reg.monoS_eq _) (Reg.monoS_cons (Reg.monoS_eq _) (Reg.monoS_cons (Reg.monoS_eq _) (Reg.monoS_cons (Reg.monoS_eq _) (Reg.monoS_cons (Reg.monoS_eq _) (Reg.monoS_cons (Reg.monoS_eq _) (Reg.monoS_cons (Reg.monoS_eq _) (Reg.monoS_cons (Reg.monoS_eq _) (Reg.monoS_cons (Reg.monoS_eq _) (Reg.monoS_cons (Reg.monoS_eq _) (Reg.monoS_cons (Reg.monoS_eq _) (Reg.monoS_cons (Reg.monoS_eq _) (Reg.monoS_cons (Reg.monoS_eq _) (Reg.monoS_cons (Reg.monoS_eq _) (Reg.monoS_cons (Reg.monoS_eq _) (Reg.monoS_cons (Reg.monoS_eq _) (Reg.monoS_cons (Reg.monoS_eq _) (Reg.monoS_cons (Reg.monoS_eq _) (Reg.monoS_cons (Reg.monoS_eq _) (Reg.monoS_cons (Reg.monoS_eq _) (Reg.monoS_cons (Reg.monoS_eq _) (Reg.monoS_cons (Reg.monoS_eq _) (Reg.monoS_cons (Reg.monoS_eq _) (Reg.monoS_cons (Reg.monoS_eq _) (Reg.monoS_cons (Reg.monoS_eq _) (Reg.monoS_cons (Reg.monoS_eq _) Reg.monoS_nil)))))))))))))))))))))))))))
        · skip
          refine Reg.rs_cons ?_ ?_
          · intro a w hb hs hel hon
            have e5 : a.tmps[5]? = some (.pointer (some ⟨b2, 0, none⟩)) := (hel 5 (by decide)).trans rfl
            obtain ⟨_, g5⟩ := Array.getElem?_eq_some_iff.1 e5
            refine ⟨_, rfl, fun K hK => ?_⟩
            refine value_ (w1 := w) (v := .pointer (some ⟨b2, 0, none⟩)) (by rfl) rfl ?_ (hK.out _ _ (Below.refl _ _) (rfl))
            · go_simp
              (try simp only [i64_w, g5])
              (try go_simp)
              try rfl
          refine Reg.rs_cons ?_ ?_
          · intro a w hb hs hel hon
            obtain ⟨_, e81, rfl⟩ := hon 0 81 (by kernel_rfl) rfl
            obtain ⟨_, g81⟩ := Array.getElem?_eq_some_iff.1 e81
            refine ⟨_, rfl, fun K hK => ?_⟩
            have q_HI0 : w.cell? ⟨b2, 0, none⟩ = some (.int .i64 35) := (blk_cell ((hb.block _ (blk_lt HI.out)).trans HI.out) 0).trans rfl
            refine value_ (w1 := w) (v := .int .i64 35) (by rfl) rfl ?_ (hK.out _ _ (Below.refl _ _) (rfl))
            · go_simp
              (try simp only [i64_w, g81])
              (try go_simp)
              try rfl
          refine Reg.rs_cons ?_ ?_
          · intro a w hb hs hel hon
            obtain ⟨_, e82, rfl⟩ := hon 1 82 (by kernel_rfl) rfl
            obtain ⟨_, g82⟩ := Array.getElem?_eq_some_iff.1 e82
            refine ⟨_, rfl, fun K hK => ?_⟩
            refine value_ (w1 := w) (v := .bool false) (by rfl) rfl ?_ (hK.out _ _ (Below.refl _ _) (rfl))
            · go_simp
              (try simp only [i64_w, g82])
              (try go_simp)
              try rfl
          refine Reg.rs_cons ?_ ?_
          · intro a w hb hs hel hon
            obtain ⟨_, e83, rfl⟩ := hon 2 83 (by kernel_rfl) rfl
            obtain ⟨_, g83⟩ := Array.getElem?_eq_some_iff.1 e83
            refine ⟨_, rfl, fun K hK => ?_⟩
            refine value_ (w1 := w) (v := .bool false) (by rfl) rfl ?_ (hK.out _ _ (Below.refl _ _) (rfl))
            · go_simp
              (try simp only [i64_w, g83])
              (try go_simp)
              try rfl
          refine Reg.rs_cons ?_ ?_
          · intro a w hb hs hel hon
            have e5 : a.tmps[5]? = some (.pointer (some ⟨b2, 0, none⟩)) := (hel 5 (by decide)).trans rfl
            obtain ⟨_, e84, rfl⟩ := hon 3 84 (by kernel_rfl) rfl
            obtain ⟨_, g5⟩ := Array.getElem?_eq_some_iff.1 e5
            obtain ⟨_, g84⟩ := Array.getElem?_eq_some_iff.1 e84
            refine ⟨_, rfl, fun K hK => ?_⟩
            refine value_ (w1 := w) (v := .pointer (some ⟨b2, 0, none⟩)) (wanted_on rfl rfl rfl e84) rfl ?_ (hK.out _ _ (Below.refl _ _) (rfl))
            · go_simp
              (try simp only [i64_w, g5, g84])
              (try go_simp)
              try rfl
          refine Reg.rs_cons ?_ ?_
          · intro a w hb hs hel hon
            obtain ⟨_, e85, rfl⟩ := hon 4 85 (by kernel_rfl) rfl
            obtain ⟨_, e84, rfl⟩ := hon 3 84 (by kernel_rfl) rfl
            obtain ⟨_, g85⟩ := Array.getElem?_eq_some_iff.1 e85
            obtain ⟨_, g84⟩ := Array.getElem?_eq_some_iff.1 e84
            refine ⟨_, rfl, fun K hK => ?_⟩
            have q_HI0 : w.cell? ⟨b2, 0, none⟩ = some (.int .i64 35) := (blk_cell ((hb.block _ (blk_lt HI.out)).trans HI.out) 0).trans rfl
            refine value_ (w1 := w) (v := .int .i64 35) (wanted_on rfl rfl rfl e84) rfl ?_ (hK.out _ _ (Below.refl _ _) (rfl))
            · go_simp
              (try simp only [i64_w, g85, g84])
              (try go_simp)
              try rfl
          refine Reg.rs_cons ?_ ?_
          · intro a w hb hs hel hon
            obtain ⟨_, e86, rfl⟩ := hon 5 86 (by kernel_rfl) rfl
            obtain ⟨_, e84, rfl⟩ := hon 3 84 (by kernel_rfl) rfl
            obtain ⟨_, g86⟩ := Array.getElem?_eq_some_iff.1 e86
            obtain ⟨_, g84⟩ := Array.getElem?_eq_some_iff.1 e84
            refine ⟨_, rfl, fun K hK => ?_⟩
            refine value_ (w1 := w) (v := .bool true) (wanted_on rfl rfl rfl e84) rfl ?_ (hK.out _ _ (Below.refl _ _) (rfl))
            · go_simp
              (try simp only [i64_w, g86, g84])
              (try go_simp)
              try rfl
          refine Reg.rs_cons ?_ ?_
          · intro a w hb hs hel hon
            obtain ⟨_, e87, rfl⟩ := hon 6 87 (by kernel_rfl) rfl
            obtain ⟨_, e84, rfl⟩ := hon 3 84 (by kernel_rfl) rfl
            obtain ⟨_, g87⟩ := Array.getElem?_eq_some_iff.1 e87
            obtain ⟨_, g84⟩ := Array.getElem?_eq_some_iff.1 e84
            refine ⟨_, rfl, fun K hK => ?_⟩
            refine value_ (w1 := w) (v := .bool true) (wanted_on rfl rfl rfl e84) rfl ?_ (hK.out _ _ (Below.refl _ _) (rfl))
            · go_simp
              (try simp only [i64_w, g87, g84])
              (try go_simp)
              try rfl
          refine Reg.rs_cons ?_ ?_
          · intro a w hb hs hel hon
            have e5 : a.tmps[5]? = some (.pointer (some ⟨b2, 0, none⟩)) := (hel 5 (by decide)).trans rfl
            obtain ⟨_, e88, rfl⟩ := hon 7 88 (by kernel_rfl) rfl
            obtain ⟨_, g5⟩ := Array.getElem?_eq_some_iff.1 e5
            obtain ⟨_, g88⟩ := Array.getElem?_eq_some_iff.1 e88
            refine ⟨_, rfl, fun K hK => ?_⟩
            refine value_ (w1 := w) (v := .pointer (some ⟨b2, 2, none⟩)) (wanted_on rfl rfl rfl e88) rfl ?_ (hK.out _ _ (Below.refl _ _) (rfl))
            · go_simp
              (try simp only [i64_w, g5, g88])
              (try go_simp)
              try rfl
          refine Reg.rs_cons ?_ ?_
          · intro a w hb hs hel hon
            obtain ⟨_, e89, rfl⟩ := hon 8 89 (by kernel_rfl) rfl
            obtain ⟨_, e88, rfl⟩ := hon 7 88 (by kernel_rfl) rfl
            obtain ⟨_, g89⟩ := Array.getElem?_eq_some_iff.1 e89
            obtain ⟨_, g88⟩ := Array.getElem?_eq_some_iff.1 e88
            refine ⟨_, rfl, fun K hK => ?_⟩
            have q_HI2 : w.cell? ⟨b2, 2, none⟩ = some (.int .i64 z) := (blk_cell ((hb.block _ (blk_lt HI.out)).trans HI.out) 2).trans rfl
            refine value_ (w1 := w) (v := .int .i64 z) (wanted_on rfl rfl rfl e88) rfl ?_ (hK.out _ _ (Below.refl _ _) (rfl))
            · go_simp
              (try simp only [i64_w, g89, g88])
              (try go_simp)
              try rfl
          refine Reg.rs_cons ?_ ?_
          · intro a w hb hs hel hon
            have e9 : a.tmps[9]? = some (.int .i64 kd) := (hel 9 (by decide)).trans rfl
            obtain ⟨_, e88, rfl⟩ := hon 7 88 (by kernel_rfl) rfl
            obtain ⟨_, g9⟩ := Array.getElem?_eq_some_iff.1 e9
            obtain ⟨_, g88⟩ := Array.getElem?_eq_some_iff.1 e88
            refine ⟨_, rfl, fun K hK => ?_⟩
            refine value_ (w1 := w) (v := .int .i64 kd) (wanted_on rfl rfl rfl e88) rfl ?_ (hK.out _ _ (Below.refl _ _) (rfl))
            · go_simp
              (try simp only [i64_w, g9, g88])
              (try go_simp)
              try rfl
          refine Reg.rs_cons ?_ ?_
          · intro a w hb hs hel hon
            obtain ⟨_, e91, rfl⟩ := hon 10 91 (by kernel_rfl) rfl
            obtain ⟨_, e88, rfl⟩ := hon 7 88 (by kernel_rfl) rfl
            refine ⟨_, rfl, fun K hK => ?_⟩
            refine goes_ Tryd.func37 (by kernel_rfl) rfl #[.int .i64 kd] (wanted_on rfl rfl rfl e88) rfl rfl (by first | (simp only [List.map_toArray, List.map_cons, List.map_nil, Act.eval, Array.getD_eq_getD_getElem?, Option.getD_some, e91, e88]; done) | (simp only [List.map_toArray, List.map_cons, List.map_nil, Act.eval, Array.getD_eq_getD_getElem?, Option.getD_some, e91, e88]; rfl) | rfl) ?_
            refine (PI.out w (HL.out.below (HXB.out.trans (hb.mono HXB.out.size)))).mono ?_
            rintro e w2 ⟨rfl, hb2⟩
            exact ⟨_, rfl, hK.out _ _ hb2 rfl⟩
          refine Reg.rs_cons ?_ ?_
          · intro a w hb hs hel hon
            obtain ⟨_, e90, rfl⟩ := hon 9 90 (by kernel_rfl) rfl
            obtain ⟨_, e92, rfl⟩ := hon 11 92 (by kernel_rfl) rfl
            obtain ⟨_, e88, rfl⟩ := hon 7 88 (by kernel_rfl) rfl
            obtain ⟨_, g90⟩ := Array.getElem?_eq_some_iff.1 e90
            obtain ⟨_, g92⟩ := Array.getElem?_eq_some_iff.1 e92
            obtain ⟨_, g88⟩ := Array.getElem?_eq_some_iff.1 e88
            refine ⟨_, rfl, fun K hK => ?_⟩
            have ht_ := HT.out
            refine value_ (w1 := w) (v := .bool true) (wanted_on rfl rfl rfl e88) rfl ?_ (hK.out _ _ (Below.refl _ _) (rfl))
            · go_simp
              (try simp only [i64_w, g90, g92, g88])
              (try go_simp)
              try rfl
          refine Reg.rs_cons ?_ ?_
          · intro a w hb hs hel hon
            obtain ⟨_, e88, rfl⟩ := hon 7 88 (by kernel_rfl) rfl
            obtain ⟨_, e93, rfl⟩ := hon 12 93 (by kernel_rfl) rfl
            obtain ⟨_, e84, rfl⟩ := hon 3 84 (by kernel_rfl) rfl
            obtain ⟨_, g88⟩ := Array.getElem?_eq_some_iff.1 e88
            obtain ⟨_, g93⟩ := Array.getElem?_eq_some_iff.1 e93
            obtain ⟨_, g84⟩ := Array.getElem?_eq_some_iff.1 e84
            refine ⟨_, rfl, fun K hK => ?_⟩
            refine value_ (w1 := w) (v := .bool true) (wanted_on rfl rfl rfl e84) rfl ?_ (hK.out _ _ (Below.refl _ _) (rfl))
            · go_simp
              (try simp only [i64_w, g88, g93, g84])
              (try go_simp)
              try rfl
          refine Reg.rs_cons ?_ ?_
          · intro a w hb hs hel hon
            obtain ⟨_, e84, rfl⟩ := hon 3 84 (by kernel_rfl) rfl
            obtain ⟨_, e94, rfl⟩ := hon 13 94 (by kernel_rfl) rfl
            obtain ⟨_, g84⟩ := Array.getElem?_eq_some_iff.1 e84
            obtain ⟨_, g94⟩ := Array.getElem?_eq_some_iff.1 e94
            refine ⟨_, rfl, fun K hK => ?_⟩
            refine value_ (w1 := w) (v := .bool true) (by rfl) rfl ?_ (hK.out _ _ (Below.refl _ _) (rfl))
            · go_simp
              (try simp only [i64_w, g84, g94])
              (try go_simp)
              try rfl
          refine Reg.rs_cons ?_ ?_
          · intro a w hb hs hel hon
            obtain ⟨_, e95, rfl⟩ := hon 14 95 (by kernel_rfl) rfl
            obtain ⟨_, g95⟩ := Array.getElem?_eq_some_iff.1 e95
            refine ⟨_, rfl, fun K hK => ?_⟩
            refine value_ (w1 := w) (v := .bool true) (by rfl) rfl ?_ (hK.out _ _ (Below.refl _ _) (rfl))
            · go_simp
              (try simp only [i64_w, g95])
              (try go_simp)
              try rfl
          refine Reg.rs_cons ?_ ?_
          · intro a w hb hs hel hon
            obtain ⟨_, e96, rfl⟩ := hon 15 96 (by kernel_rfl) rfl
            refine ⟨_, rfl, fun K hK => ?_⟩
            exact off_ (wanted_off rfl rfl rfl e96) (hK.out _ _ (Below.refl _ _) rfl)
          refine Reg.rs_cons ?_ ?_
          · intro a w hb hs hel hon
            obtain ⟨_, e96, rfl⟩ := hon 15 96 (by kernel_rfl) rfl
            refine ⟨_, rfl, fun K hK => ?_⟩
            exact off_ (wanted_off rfl rfl rfl e96) (hK.out _ _ (Below.refl _ _) rfl)
          refine Reg.rs_cons ?_ ?_
          · intro a w hb hs hel hon
            obtain ⟨_, e96, rfl⟩ := hon 15 96 (by kernel_rfl) rfl
            refine ⟨_, rfl, fun K hK => ?_⟩
            exact off_ (wanted_off rfl rfl rfl e96) (hK.out _ _ (Below.refl _ _) rfl)
          refine Reg.rs_cons ?_ ?_
          · intro a w hb hs hel hon
            obtain ⟨_, e96, rfl⟩ := hon 15 96 (by kernel_rfl) rfl
            refine ⟨_, rfl, fun K hK => ?_⟩
            exact off_ (wanted_off rfl rfl rfl e96) (hK.out _ _ (Below.refl _ _) rfl)
          refine Reg.rs_cons ?_ ?_
          · intro a w hb hs hel hon
            obtain ⟨_, e100, rfl⟩ := hon 19 100 (by kernel_rfl) rfl
            refine ⟨_, rfl, fun K hK => ?_⟩
            exact off_ (Reg.wanted_undef rfl rfl rfl e100) (hK.out _ _ (Below.refl _ _) rfl)
          refine Reg.rs_cons ?_ ?_
          · intro a w hb hs hel hon
            obtain ⟨_, e100, rfl⟩ := hon 19 100 (by kernel_rfl) rfl
            refine ⟨_, rfl, fun K hK => ?_⟩
            exact off_ (Reg.wanted_undef rfl rfl rfl e100) (hK.out _ _ (Below.refl _ _) rfl)
          refine Reg.rs_cons ?_ ?_
          · intro a w hb hs hel hon
            obtain ⟨_, e100, rfl⟩ := hon 19 100 (by kernel_rfl) rfl
            refine ⟨_, rfl, fun K hK => ?_⟩
            exact off_ (Reg.wanted_undef rfl rfl rfl e100) (hK.out _ _ (Below.refl _ _) rfl)
          refine Reg.rs_cons ?_ ?_
          · intro a w hb hs hel hon
            obtain ⟨_, e100, rfl⟩ := hon 19 100 (by kernel_rfl) rfl
            refine ⟨_, rfl, fun K hK => ?_⟩
            exact off_ (Reg.wanted_undef rfl rfl rfl e100) (hK.out _ _ (Below.refl _ _) rfl)
          refine Reg.rs_cons ?_ ?_
          · intro a w hb hs hel hon
            obtain ⟨_, e100, rfl⟩ := hon 19 100 (by kernel_rfl) rfl
            refine ⟨_, rfl, fun K hK => ?_⟩
            exact off_ (Reg.wanted_undef rfl rfl rfl e100) (hK.out _ _ (Below.refl _ _) rfl)
          refine Reg.rs_cons ?_ ?_
          · intro a w hb hs hel hon
            obtain ⟨_, e96, rfl⟩ := hon 15 96 (by kernel_rfl) rfl
            refine ⟨_, rfl, fun K hK => ?_⟩
            exact off_ (wanted_off rfl rfl rfl e96) (hK.out _ _ (Below.refl _ _) rfl)
          refine Reg.rs_cons ?_ ?_
          · intro a w hb hs hel hon
            obtain ⟨_, e96, rfl⟩ := hon 15 96 (by kernel_rfl) rfl
            obtain ⟨_, e106, rfl⟩ := hon 25 106 (by kernel_rfl) rfl
            obtain ⟨_, g96⟩ := Array.getElem?_eq_some_iff.1 e96
            obtain ⟨_, g106⟩ := Array.getElem?_eq_some_iff.1 e106
            refine ⟨_, rfl, fun K hK => ?_⟩
            refine value_ (w1 := w) (v := .bool true) (by rfl) rfl ?_ (hK.out _ _ (Below.refl _ _) (rfl))
            · go_simp
              (try simp only [i64_w, g96, g106])
              (try go_simp)
              try rfl
          refine Reg.rs_cons ?_ ?_
          · intro a w hb hs hel hon
            obtain ⟨_, e107, rfl⟩ := hon 26 107 (by kernel_rfl) rfl
            obtain ⟨_, g107⟩ := Array.getElem?_eq_some_iff.1 e107
            refine ⟨_, rfl, fun K hK => ?_⟩
            refine value_ (w1 := w) (v := .bool true) (by rfl) rfl ?_ (hK.out _ _ (Below.refl _ _) (rfl))
            · go_simp
              (try simp only [i64_w, g107])
              (try go_simp)
              try rfl
          exact Reg.rs_nil
        · intro a w hI
          rename_i K_ hK_
          refine hK_ a w ?_
          obtain ⟨_, ev, rfl⟩ := hI.vals 27 6 rfl rfl
          have HE_ := Aside0.mk (HXB.out.trans (hI.below.mono HXB.out.size))
          go_wp2
          exact Reg.ret_slot (R := fun e w' => e = .returned (.bool true) ∧ Below _ _ w') (by kernel_rfl) hI.defers ev ⟨rfl, HE_.out⟩
      | false =>
        go_enter Tryd.func21, Tryd.ntmps21
        go_wp2_with fail
        refine (PS.out _ (HL.out.below HX.out.below)).mono ?_
        rintro e w1 ⟨rfl, hd⟩
        have HX1 := Aside0.mk (HX.out.step (drewN_of hd))
        clear hd PS HX
        have q0 := (blk_cell HX1.out.p 0).trans rfl
        have q1 := (blk_cell HX1.out.p 1).trans rfl
        have q2 := (blk_cell HX1.out.p 2).trans rfl
        have q3 := (blk_cell HX1.out.p 3).trans rfl
        have i0 := (blk_cell HX1.out.i 0).trans rfl
        have i1 := (blk_cell HX1.out.i 1).trans rfl
        have i2 := (blk_cell HX1.out.i 2).trans rfl
        obtain ⟨ad, rfl, k0, k1⟩ := at_T39 (Kd.C_below G2.out HX1.out.below) (m : Int) (by omega) (by omega)
        rw [Int.toNat_natCast] at k0 k1
        rw [hK_] at k1
        go_wp2_with fail
        clear q0 q1 q2 q3 i0 i1 i2 k0 k1
        have HXB := Aside0.mk HX1.out.below
        have HI := Aside0.mk HX1.out.i
        clear HX1 G1 G2 H1 H3 H4
        obtain ⟨b2, hb2⟩ : ∃ b, b = w.heap.size + 2 := ⟨_, rfl⟩
        rw [← hb2] at HI ⊢
        clear hb2
        refine Reg.region_any [some 81, some 82, some 83, some 84, some 85, some 86, some 87, some 88, some 89, some 90, some 91, some 92, some 93, some 94, some 95, some 96, some 97, some 98, some 99, some 100, some 101, some 102, some 103, some 104, some 105, some 106, some 107, some 6] [0, 1, 3, 7, 15, 31, 63, 127, 255, 511, 255, 1279, 4095, 8191, 16383, 32767, 65535, 131071, 262143, 524287, 1048575, 2097151, 1048575, 5242879, 16777215, 33554431, 67108863, 134217727] (true, [([], []), ([0], [0]), ([1], [1]), ([2], [2]), ([3], [3]), ([4, 3], [3, 4]), ([5, 3], [3, 5]), ([6, 3, 3], [3, 6]), ([7], [7]), ([8, 7], [7, 8]), ([7], [7]), ([10, 7, 7], [7, 10]), ([9, 11, 7], [7, 9, 11]), ([7, 12, 3], [3, 7, 12]), ([3, 13], [3, 13]), ([14, 11], [14]), ([15], [15]), ([16, 15], [15, 16]), ([17, 15], [15, 17]), ([18, 15, 15], [15, 18]), ([19], [19]), ([20, 19], [19, 20]), ([19], [19]), ([22, 19, 19], [19, 22]), ([21, 23, 19], [19, 21, 23]), ([19, 24, 15], [15, 19, 24]), ([15, 25], [15, 25]), ([26, 23, 0, 1, 2, 3, 4, 5, 6, 7, 8, 9, 10, 11, 12, 13, 14, 15, 16, 17, 18, 19, 20, 21, 22, 23, 24, 25, 26], [26])]) (fun i => ([(fun _ v_ => v_ = (.pointer (some ⟨b2, 0, none⟩))), (fun _ v_ => v_ = (.int .i64 35)), (fun _ v_ => v_ = (.bool false)), (fun _ v_ => v_ = (.bool false)), (fun _ v_ => v_ = (.pointer (some ⟨b2, 0, none⟩))), (fun _ v_ => v_ = (.int .i64 35)), (fun _ v_ => v_ = (.bool true)), (fun _ v_ => v_ = (.bool true)), (fun _ v_ => v_ = (.pointer (some ⟨b2, 2, none⟩))), (fun _ v_ => v_ = (.int .i64 z)), (fun _ v_ => v_ = (.int .i64 kd)), (fun _ v_ => v_ = (.int .i64 ni)), (fun _ v_ => v_ = (.bool false)), (fun _ v_ => v_ = (.bool false)), (fun _ v_ => v_ = (.bool false)), (fun _ v_ => v_ = (.bool false)), (fun _ v_ => v_ = (.pointer (some ⟨b2, 0, none⟩))), (fun _ v_ => v_ = (.int .i64 35)), (fun _ v_ => v_ = (.bool false)), (fun _ v_ => v_ = (.bool false)), (fun _ v_ => v_ = undef), (fun _ v_ => v_ = undef), (fun _ v_ => v_ = undef), (fun _ v_ => v_ = undef), (fun _ v_ => v_ = undef), (fun _ v_ => v_ = (.bool false)), (fun _ v_ => v_ = (.bool false)), (fun _ v_ => v_ = (.bool false))] : List (World → Value → Prop)).getD i (fun _ _ => False))
            (by kernel_rfl) (by kernel_rfl) (by kernel_rfl) (by kernel_rfl) (by kernel_rfl) (by decide) (by rfl) (Reg.mono_getD ?_) [0, 1, 2, 3, 4, 5, 6, 7, 8, 9, 10, 11, 12, 13, 14, 15, 16, 17, 18, 19, 20, 21, 22, 23, 24, 25, 26, 27] (by kernel_rfl) ?_ ?_
        · exact Reg.monoS_cons (Reg.monoS_eq _) (Reg.monoS_cons (Reg.monoS_eq _) (Reg.monoS_cons (Reg.monoS_eq _) (Reg.monoS_cons (Reg.monoS_eq _) (Reg.monoS_cons (Reg.monoS_eq _) (Reg.monoS_cons (Reg.monoS_eq _) (Reg.monoS_cons (Reg.monoS_eq _) (Reg.monoS_cons (Reg.monoS_eq _) (Reg.monoS_cons (Reg.monoS_eq _) (Reg.monoS_cons (Reg.monoS_eq _) (Reg.monoS_cons (Reg.monoS_eq _) (Reg.monoS_cons (Reg.monoS_eq _) (Reg.monoS_cons (Reg.monoS_eq _) (Reg.monoS_cons (Reg.monoS_eq _) (Reg.monoS_cons (Reg.monoS_eq _) (Reg.monoS_cons (Reg.monoS_eq _) (Reg.monoS_cons (Reg.monoS_eq _) (Reg.monoS_cons (Reg.monoS_eq _) (Reg.monoS_cons (Reg.monoS_eq _) (Reg.monoS_cons (Reg.monoS_eq _) (Reg.monoS_cons (Reg.monoS_eq _) (Reg.monoS_cons (Reg.monoS_eq _) (Reg.monoS_cons (Reg.monoS_eq _) (Reg.monoS_cons (Reg.monoS_eq _) (Reg.monoS_cons (Reg.monoS_eq _) (Reg.monoS_cons (Reg.monoS_eq _) (Reg.monoS_cons (Reg.monoS_eq _) (Reg.monoS_cons (Reg.monoS_eq _) Reg.monoS_nil)))))))))))))))))))))))))))
        · skip
          refine Reg.rs_cons ?_ ?_
          · intro a w hb hs hel hon
            have e5 : a.tmps[5]? = some (.pointer (some ⟨b2, 0, none⟩)) := (hel 5 (by decide)).trans rfl
            obtain ⟨_, g5⟩ := Array.getElem?_eq_some_iff.1 e5
            refine ⟨_, rfl, fun K hK => ?_⟩
            refine value_ (w1 := w) (v := .pointer (some ⟨b2, 0, none⟩)) (by rfl) rfl ?_ (hK.out _ _ (Below.refl _ _) (rfl))
            · go_simp
              (try simp only [i64_w, g5])
              (try go_simp)
              try rfl
          refine Reg.rs_cons ?_ ?_
          · intro a w hb hs hel hon
            obtain ⟨_, e81, rfl⟩ := hon 0 81 (by kernel_rfl) rfl
            obtain ⟨_, g81⟩ := Array.getElem?_eq_some_iff.1 e81
            refine ⟨_, rfl, fun K hK => ?_⟩
            have q_HI0 : w.cell? ⟨b2, 0, none⟩ = some (.int .i64 35) := (blk_cell ((hb.block _ (blk_lt HI.out)).trans HI.out) 0).trans rfl
            refine value_ (w1 := w) (v := .int .i64 35) (by rfl) rfl ?_ (hK.out _ _ (Below.refl _ _) (rfl))
            · go_simp
              (try simp only [i64_w, g81])
              (try go_simp)
              try rfl
          refine Reg.rs_cons ?_ ?_
          · intro a w hb hs hel hon
            obtain ⟨_, e82, rfl⟩ := hon 1 82 (by kernel_rfl) rfl
            obtain ⟨_, g82⟩ := Array.getElem?_eq_some_iff.1 e82
            refine ⟨_, rfl, fun K hK => ?_⟩
            refine value_ (w1 := w) (v := .bool false) (by rfl) rfl ?_ (hK.out _ _ (Below.refl _ _) (rfl))
            · go_simp
              (try simp only [i64_w, g82])
              (try go_simp)
              try rfl
          refine Reg.rs_cons ?_ ?_
          · intro a w hb hs hel hon
            obtain ⟨_, e83, rfl⟩ := hon 2 83 (by kernel_rfl) rfl
            obtain ⟨_, g83⟩ := Array.getElem?_eq_some_iff.1 e83
            refine ⟨_, rfl, fun K hK => ?_⟩
            refine value_ (w1 := w) (v := .bool false) (by rfl) rfl ?_ (hK.out _ _ (Below.refl _ _) (rfl))
            · go_simp
              (try simp only [i64_w, g83])
              (try go_simp)
              try rfl
          refine Reg.rs_cons ?_ ?_
          · intro a w hb hs hel hon
            have e5 : a.tmps[5]? = some (.pointer (some ⟨b2, 0, none⟩)) := (hel 5 (by decide)).trans rfl
            obtain ⟨_, e84, rfl⟩ := hon 3 84 (by kernel_rfl) rfl
            obtain ⟨_, g5⟩ := Array.getElem?_eq_some_iff.1 e5
            obtain ⟨_, g84⟩ := Array.getElem?_eq_some_iff.1 e84
            refine ⟨_, rfl, fun K hK => ?_⟩
            refine value_ (w1 := w) (v := .pointer (some ⟨b2, 0, none⟩)) (wanted_on rfl rfl rfl e84) rfl ?_ (hK.out _ _ (Below.refl _ _) (rfl))
            · go_simp
              (try simp only [i64_w, g5, g84])
              (try go_simp)
              try rfl
          refine Reg.rs_cons ?_ ?_
          · intro a w hb hs hel hon
            obtain ⟨_, e85, rfl⟩ := hon 4 85 (by kernel_rfl) rfl
            obtain ⟨_, e84, rfl⟩ := hon 3 84 (by kernel_rfl) rfl
            obtain ⟨_, g85⟩ := Array.getElem?_eq_some_iff.1 e85
            obtain ⟨_, g84⟩ := Array.getElem?_eq_some_iff.1 e84
            refine ⟨_, rfl, fun K hK => ?_⟩
            have q_HI0 : w.cell? ⟨b2, 0, none⟩ = some (.int .i64 35) := (blk_cell ((hb.block _ (blk_lt HI.out)).trans HI.out) 0).trans rfl
            refine value_ (w1 := w) (v := .int .i64 35) (wanted_on rfl rfl rfl e84) rfl ?_ (hK.out _ _ (Below.refl _ _) (rfl))
            · go_simp
              (try simp only [i64_w, g85, g84])
              (try go_simp)
              try rfl
          refine Reg.rs_cons ?_ ?_
          · intro a w hb hs hel hon
            obtain ⟨_, e86, rfl⟩ := hon 5 86 (by kernel_rfl) rfl
            obtain ⟨_, e84, rfl⟩ := hon 3 84 (by kernel_rfl) rfl
            obtain ⟨_, g86⟩ := Array.getElem?_eq_some_iff.1 e86
            obtain ⟨_, g84⟩ := Array.getElem?_eq_some_iff.1 e84
            refine ⟨_, rfl, fun K hK => ?_⟩
            refine value_ (w1 := w) (v := .bool true) (wanted_on rfl rfl rfl e84) rfl ?_ (hK.out _ _ (Below.refl _ _) (rfl))
            · go_simp
              (try simp only [i64_w, g86, g84])
              (try go_simp)
              try rfl
          refine Reg.rs_cons ?_ ?_
          · intro a w hb hs hel hon
            obtain ⟨_, e87, rfl⟩ := hon 6 87 (by kernel_rfl) rfl
            obtain ⟨_, e84, rfl⟩ := hon 3 84 (by kernel_rfl) rfl
            obtain ⟨_, g87⟩ := Array.getElem?_eq_some_iff.1 e87
            obtain ⟨_, g84⟩ := Array.getElem?_eq_some_iff.1 e84
            refine ⟨_, rfl, fun K hK => ?_⟩
            refine value_ (w1 := w) (v := .bool true) (wanted_on rfl rfl rfl e84) rfl ?_ (hK.out _ _ (Below.refl _ _) (rfl))
            · go_simp
              (try simp only [i64_w, g87, g84])
              (try go_simp)
              try rfl
          refine Reg.rs_cons ?_ ?_
          · intro a w hb hs hel hon
            have e5 : a.tmps[5]? = some (.pointer (some ⟨b2, 0, none⟩)) := (hel 5 (by decide)).trans rfl
            obtain ⟨_, e88, rfl⟩ := hon 7 88 (by kernel_rfl) rfl
            obtain ⟨_, g5⟩ := Array.getElem?_eq_some_iff.1 e5
            obtain ⟨_, g88⟩ := Array.getElem?_eq_some_iff.1 e88
            refine ⟨_, rfl, fun K hK => ?_⟩
            refine value_ (w1 := w) (v := .pointer (some ⟨b2, 2, none⟩)) (wanted_on rfl rfl rfl e88) rfl ?_ (hK.out _ _ (Below.refl _ _) (rfl))
            · go_simp
              (try simp only [i64_w, g5, g88])
              (try go_simp)
              try rfl
          refine Reg.rs_cons ?_ ?_
          · intro a w hb hs hel hon
            obtain ⟨_, e89, rfl⟩ := hon 8 89 (by kernel_rfl) rfl
            obtain ⟨_, e88, rfl⟩ := hon 7 88 (by kernel_rfl) rfl
            obtain ⟨_, g89⟩ := Array.getElem?_eq_some_iff.1 e89
            obtain ⟨_, g88⟩ := Array.getElem?_eq_some_iff.1 e88
            refine ⟨_, rfl, fun K hK => ?_⟩
            have q_HI2 : w.cell? ⟨b2, 2, none⟩ = some (.int .i64 z) := (blk_cell ((hb.block _ (blk_lt HI.out)).trans HI.out) 2).trans rfl
            refine value_ (w1 := w) (v := .int .i64 z) (wanted_on rfl rfl rfl e88) rfl ?_ (hK.out _ _ (Below.refl _ _) (rfl))
            · go_simp
              (try simp only [i64_w, g89, g88])
              (try go_simp)
              try rfl
          refine Reg.rs_cons ?_ ?_
          · intro a w hb hs hel hon
            have e9 : a.tmps[9]? = some (.int .i64 kd) := (hel 9 (by decide)).trans rfl
            obtain ⟨_, e88, rfl⟩ := hon 7 88 (by kernel_rfl) rfl
            obtain ⟨_, g9⟩ := Array.getElem?_eq_some_iff.1 e9
            obtain ⟨_, g88⟩ := Array.getElem?_eq_some_iff.1 e88
            refine ⟨_, rfl, fun K hK => ?_⟩
            refine value_ (w1 := w) (v := .int .i64 kd) (wanted_on rfl rfl rfl e88) rfl ?_ (hK.out _ _ (Below.refl _ _) (rfl))
            · go_simp
              (try simp only [i64_w, g9, g88])
              (try go_simp)
              try rfl
          refine Reg.rs_cons ?_ ?_
          · intro a w hb hs hel hon
            obtain ⟨_, e91, rfl⟩ := hon 10 91 (by kernel_rfl) rfl
            obtain ⟨_, e88, rfl⟩ := hon 7 88 (by kernel_rfl) rfl
            refine ⟨_, rfl, fun K hK => ?_⟩
            refine goes_ Tryd.func37 (by kernel_rfl) rfl #[.int .i64 kd] (wanted_on rfl rfl rfl e88) rfl rfl (by first | (simp only [List.map_toArray, List.map_cons, List.map_nil, Act.eval, Array.getD_eq_getD_getElem?, Option.getD_some, e91, e88]; done) | (simp only [List.map_toArray, List.map_cons, List.map_nil, Act.eval, Array.getD_eq_getD_getElem?, Option.getD_some, e91, e88]; rfl) | rfl) ?_
            refine (PI.out w (HL.out.below (HXB.out.trans (hb.mono HXB.out.size)))).mono ?_
            rintro e w2 ⟨rfl, hb2⟩
            exact ⟨_, rfl, hK.out _ _ hb2 rfl⟩
          refine Reg.rs_cons ?_ ?_
          · intro a w hb hs hel hon
            obtain ⟨_, e90, rfl⟩ := hon 9 90 (by kernel_rfl) rfl
            obtain ⟨_, e92, rfl⟩ := hon 11 92 (by kernel_rfl) rfl
            obtain ⟨_, e88, rfl⟩ := hon 7 88 (by kernel_rfl) rfl
            obtain ⟨_, g90⟩ := Array.getElem?_eq_some_iff.1 e90
            obtain ⟨_, g92⟩ := Array.getElem?_eq_some_iff.1 e92
            obtain ⟨_, g88⟩ := Array.getElem?_eq_some_iff.1 e88
            refine ⟨_, rfl, fun K hK => ?_⟩
            have ht_ := HT.out
            refine value_ (w1 := w) (v := .bool false) (wanted_on rfl rfl rfl e88) rfl ?_ (hK.out _ _ (Below.refl _ _) (rfl))
            · go_simp
              (try simp only [i64_w, g90, g92, g88])
              (try go_simp)
              try rfl
          refine Reg.rs_cons ?_ ?_
          · intro a w hb hs hel hon
            obtain ⟨_, e88, rfl⟩ := hon 7 88 (by kernel_rfl) rfl
            obtain ⟨_, e93, rfl⟩ := hon 12 93 (by kernel_rfl) rfl
            obtain ⟨_, e84, rfl⟩ := hon 3 84 (by kernel_rfl) rfl
            obtain ⟨_, g88⟩ := Array.getElem?_eq_some_iff.1 e88
            obtain ⟨_, g93⟩ := Array.getElem?_eq_some_iff.1 e93
            obtain ⟨_, g84⟩ := Array.getElem?_eq_some_iff.1 e84
            refine ⟨_, rfl, fun K hK => ?_⟩
            refine value_ (w1 := w) (v := .bool false) (wanted_on rfl rfl rfl e84) rfl ?_ (hK.out _ _ (Below.refl _ _) (rfl))
            · go_simp
              (try simp only [i64_w, g88, g93, g84])
              (try go_simp)
              try rfl
          refine Reg.rs_cons ?_ ?_
          · intro a w hb hs hel hon
            obtain ⟨_, e84, rfl⟩ := hon 3 84 (by kernel_rfl) rfl
            obtain ⟨_, e94, rfl⟩ := hon 13 94 (by kernel_rfl) rfl
            obtain ⟨_, g84⟩ := Array.getElem?_eq_some_iff.1 e84
            obtain ⟨_, g94⟩ := Array.getElem?_eq_some_iff.1 e94
            refine ⟨_, rfl, fun K hK => ?_⟩
            refine value_ (w1 := w) (v := .bool false) (by rfl) rfl ?_ (hK.out _ _ (Below.refl _ _) (rfl))
            · go_simp
              (try simp only [i64_w, g84, g94])
              (try go_simp)
              try rfl
          refine Reg.rs_cons ?_ ?_
          · intro a w hb hs hel hon
            obtain ⟨_, e95, rfl⟩ := hon 14 95 (by kernel_rfl) rfl
            obtain ⟨_, g95⟩ := Array.getElem?_eq_some_iff.1 e95
            refine ⟨_, rfl, fun K hK => ?_⟩
            refine value_ (w1 := w) (v := .bool false) (by rfl) rfl ?_ (hK.out _ _ (Below.refl _ _) (rfl))
            · go_simp
              (try simp only [i64_w, g95])
              (try go_simp)
              try rfl
          refine Reg.rs_cons ?_ ?_
          · intro a w hb hs hel hon
            have e5 : a.tmps[5]? = some (.pointer (some ⟨b2, 0, none⟩)) := (hel 5 (by decide)).trans rfl
            obtain ⟨_, e96, rfl⟩ := hon 15 96 (by kernel_rfl) rfl
            obtain ⟨_, g5⟩ := Array.getElem?_eq_some_iff.1 e5
            obtain ⟨_, g96⟩ := Array.getElem?_eq_some_iff.1 e96
            refine ⟨_, rfl, fun K hK => ?_⟩
            refine value_ (w1 := w) (v := .pointer (some ⟨b2, 0, none⟩)) (wanted_on rfl rfl rfl e96) rfl ?_ (hK.out _ _ (Below.refl _ _) (rfl))
            · go_simp
              (try simp only [i64_w, g5, g96])
              (try go_simp)
              try rfl
          refine Reg.rs_cons ?_ ?_
          · intro a w hb hs hel hon
            obtain ⟨_, e97, rfl⟩ := hon 16 97 (by kernel_rfl) rfl
            obtain ⟨_, e96, rfl⟩ := hon 15 96 (by kernel_rfl) rfl
            obtain ⟨_, g97⟩ := Array.getElem?_eq_some_iff.1 e97
            obtain ⟨_, g96⟩ := Array.getElem?_eq_some_iff.1 e96
            refine ⟨_, rfl, fun K hK => ?_⟩
            have q_HI0 : w.cell? ⟨b2, 0, none⟩ = some (.int .i64 35) := (blk_cell ((hb.block _ (blk_lt HI.out)).trans HI.out) 0).trans rfl
            refine value_ (w1 := w) (v := .int .i64 35) (wanted_on rfl rfl rfl e96) rfl ?_ (hK.out _ _ (Below.refl _ _) (rfl))
            · go_simp
              (try simp only [i64_w, g97, g96])
              (try go_simp)
              try rfl
          refine Reg.rs_cons ?_ ?_
          · intro a w hb hs hel hon
            obtain ⟨_, e98, rfl⟩ := hon 17 98 (by kernel_rfl) rfl
            obtain ⟨_, e96, rfl⟩ := hon 15 96 (by kernel_rfl) rfl
            obtain ⟨_, g98⟩ := Array.getElem?_eq_some_iff.1 e98
            obtain ⟨_, g96⟩ := Array.getElem?_eq_some_iff.1 e96
            refine ⟨_, rfl, fun K hK => ?_⟩
            refine value_ (w1 := w) (v := .bool false) (wanted_on rfl rfl rfl e96) rfl ?_ (hK.out _ _ (Below.refl _ _) (rfl))
            · go_simp
              (try simp only [i64_w, g98, g96])
              (try go_simp)
              try rfl
          refine Reg.rs_cons ?_ ?_
          · intro a w hb hs hel hon
            obtain ⟨_, e99, rfl⟩ := hon 18 99 (by kernel_rfl) rfl
            obtain ⟨_, e96, rfl⟩ := hon 15 96 (by kernel_rfl) rfl
            obtain ⟨_, g99⟩ := Array.getElem?_eq_some_iff.1 e99
            obtain ⟨_, g96⟩ := Array.getElem?_eq_some_iff.1 e96
            refine ⟨_, rfl, fun K hK => ?_⟩
            refine value_ (w1 := w) (v := .bool false) (wanted_on rfl rfl rfl e96) rfl ?_ (hK.out _ _ (Below.refl _ _) (rfl))
            · go_simp
              (try simp only [i64_w, g99, g96])
              (try go_simp)
              try rfl
          refine Reg.rs_cons ?_ ?_
          · intro a w hb hs hel hon
            obtain ⟨_, e100, rfl⟩ := hon 19 100 (by kernel_rfl) rfl
            refine ⟨_, rfl, fun K hK => ?_⟩
            exact off_ (wanted_off rfl rfl rfl e100) (hK.out _ _ (Below.refl _ _) rfl)
          refine Reg.rs_cons ?_ ?_
          · intro a w hb hs hel hon
            obtain ⟨_, e100, rfl⟩ := hon 19 100 (by kernel_rfl) rfl
            refine ⟨_, rfl, fun K hK => ?_⟩
            exact off_ (wanted_off rfl rfl rfl e100) (hK.out _ _ (Below.refl _ _) rfl)
          refine Reg.rs_cons ?_ ?_
          · intro a w hb hs hel hon
            obtain ⟨_, e100, rfl⟩ := hon 19 100 (by kernel_rfl) rfl
            refine ⟨_, rfl, fun K hK => ?_⟩
            exact off_ (wanted_off rfl rfl rfl e100) (hK.out _ _ (Below.refl _ _) rfl)
          refine Reg.rs_cons ?_ ?_
          · intro a w hb hs hel hon
            obtain ⟨_, e100, rfl⟩ := hon 19 100 (by kernel_rfl) rfl
            refine ⟨_, rfl, fun K hK => ?_⟩
            exact off_ (wanted_off rfl rfl rfl e100) (hK.out _ _ (Below.refl _ _) rfl)
          refine Reg.rs_cons ?_ ?_
          · intro a w hb hs hel hon
            obtain ⟨_, e100, rfl⟩ := hon 19 100 (by kernel_rfl) rfl
            refine ⟨_, rfl, fun K hK => ?_⟩
            exact off_ (wanted_off rfl rfl rfl e100) (hK.out _ _ (Below.refl _ _) rfl)
          refine Reg.rs_cons ?_ ?_
          · intro a w hb hs hel hon
            obtain ⟨_, e100, rfl⟩ := hon 19 100 (by kernel_rfl) rfl
            obtain ⟨_, e105, rfl⟩ := hon 24 105 (by kernel_rfl) rfl
            obtain ⟨_, e96, rfl⟩ := hon 15 96 (by kernel_rfl) rfl
            obtain ⟨_, g100⟩ := Array.getElem?_eq_some_iff.1 e100
            obtain ⟨_, g105⟩ := Array.getElem?_eq_some_iff.1 e105
            obtain ⟨_, g96⟩ := Array.getElem?_eq_some_iff.1 e96
            refine ⟨_, rfl, fun K hK => ?_⟩
            refine value_ (w1 := w) (v := .bool false) (wanted_on rfl rfl rfl e96) rfl ?_ (hK.out _ _ (Below.refl _ _) (rfl))
            · go_simp
              (try simp only [i64_w, g100, g105, g96])
              (try go_simp)
              try rfl
          refine Reg.rs_cons ?_ ?_
          · intro a w hb hs hel hon
            obtain ⟨_, e96, rfl⟩ := hon 15 96 (by kernel_rfl) rfl
            obtain ⟨_, e106, rfl⟩ := hon 25 106 (by kernel_rfl) rfl
            obtain ⟨_, g96⟩ := Array.getElem?_eq_some_iff.1 e96
            obtain ⟨_, g106⟩ := Array.getElem?_eq_some_iff.1 e106
            refine ⟨_, rfl, fun K hK => ?_⟩
            refine value_ (w1 := w) (v := .bool false) (by rfl) rfl ?_ (hK.out _ _ (Below.refl _ _) (rfl))
            · go_simp
              (try simp only [i64_w, g96, g106])
              (try go_simp)
              try rfl
          refine Reg.rs_cons ?_ ?_
          · intro a w hb hs hel hon
            obtain ⟨_, e107, rfl⟩ := hon 26 107 (by kernel_rfl) rfl
            obtain ⟨_, g107⟩ := Array.getElem?_eq_some_iff.1 e107
            refine ⟨_, rfl, fun K hK => ?_⟩
            refine value_ (w1 := w) (v := .bool false) (by rfl) rfl ?_ (hK.out _ _ (Below.refl _ _) (rfl))
            · go_simp
              (try simp only [i64_w, g107])
              (try go_simp)
              try rfl
          exact Reg.rs_nil
        · intro a w hI
          rename_i K_ hK_
          refine hK_ a w ?_
          obtain ⟨_, ev, rfl⟩ := hI.vals 27 6 rfl rfl
          have HE_ := Aside0.mk (HXB.out.trans (hI.below.mono HXB.out.size))
          go_wp2
          exact Reg.ret_slot (R := fun e w' => e = .returned (.bool false) ∧ Below _ _ w') (by kernel_rfl) hI.defers ev ⟨rfl, HE_.out⟩
    · obtain rfl : true = R := by rw [← hv]; simp
      clear hv
      go_enter Tryd.func21, Tryd.ntmps21
      go_wp2_with fail
      refine (PS.out _ (HL.out.below HX.out.below)).mono ?_
      rintro e w1 ⟨rfl, hd⟩
      have HX1 := Aside0.mk (HX.out.step (drewN_of hd))
      clear hd PS HX
      have q0 := (blk_cell HX1.out.p 0).trans rfl
      have q1 := (blk_cell HX1.out.p 1).trans rfl
      have q2 := (blk_cell HX1.out.p 2).trans rfl
      have q3 := (blk_cell HX1.out.p 3).trans rfl
      have i0 := (blk_cell HX1.out.i 0).trans rfl
      have i1 := (blk_cell HX1.out.i 1).trans rfl
      have i2 := (blk_cell HX1.out.i 2).trans rfl
      obtain ⟨ad, rfl, k0, k1⟩ := at_T39 (Kd.C_below G2.out HX1.out.below) (m : Int) (by omega) (by omega)
      rw [Int.toNat_natCast] at k0 k1
      rw [hK_] at k1
      go_wp2_with fail
      clear q0 q1 q2 q3 i0 i1 i2 k0 k1
      have HXB := Aside0.mk HX1.out.below
      have HI := Aside0.mk HX1.out.i
      clear HX1 G1 G2 H1 H3 H4
      obtain ⟨b2, hb2⟩ : ∃ b, b = w.heap.size + 2 := ⟨_, rfl⟩
      rw [← hb2] at HI ⊢
      clear hb2
      refine Reg.region_any [some 81, some 82, some 83, some 84, some 85, some 86, some 87, some 88, some 89, some 90, some 91, some 92, some 93, some 94, some 95, some 96, some 97, some 98, some 99, some 100, some 101, some 102, some 103, some 104, some 105, some 106, some 107, some 6] [0, 1, 3, 7, 15, 31, 63, 127, 255, 511, 255, 1279, 4095, 8191, 16383, 32767, 65535, 131071, 262143, 524287, 1048575, 2097151, 1048575, 5242879, 16777215, 33554431, 67108863, 134217727] (true, [([], []), ([0], [0]), ([1], [1]), ([2], [2]), ([3], [3]), ([4, 3], [3, 4]), ([5, 3], [3, 5]), ([6, 3, 3], [3, 6]), ([7], [7]), ([8, 7], [7, 8]), ([7], [7]), ([10, 7, 7], [7, 10]), ([9, 11, 7], [7, 9, 11]), ([7, 12, 3], [3, 7, 12]), ([3, 13], [3, 13]), ([14, 11], [14]), ([15], [15]), ([16, 15], [15, 16]), ([17, 15], [15, 17]), ([18, 15, 15], [15, 18]), ([19], [19]), ([20, 19], [19, 20]), ([19], [19]), ([22, 19, 19], [19, 22]), ([21, 23, 19], [19, 21, 23]), ([19, 24, 15], [15, 19, 24]), ([15, 25], [15, 25]), ([26, 23, 0, 1, 2, 3, 4, 5, 6, 7, 8, 9, 10, 11, 12, 13, 14, 15, 16, 17, 18, 19, 20, 21, 22, 23, 24, 25, 26], [26])]) (fun i => ([(fun _ v_ => v_ = (.pointer (some ⟨b2, 0, none⟩))), (fun _ v_ => v_ = (.int .i64 36)), (fun _ v_ => v_ = (.bool true)), (fun _ v_ => v_ = (.bool true)), (fun _ v_ => v_ = undef), (fun _ v_ => v_ = undef), (fun _ v_ => v_ = undef), (fun _ v_ => v_ = undef), (fun _ v_ => v_ = undef), (fun _ v_ => v_ = undef), (fun _ v_ => v_ = undef), (fun _ v_ => v_ = undef), (fun _ v_ => v_ = undef), (fun _ v_ => v_ = undef), (fun _ v_ => v_ = (.bool true)), (fun _ v_ => v_ = (.bool true)), (fun _ v_ => v_ = undef), (fun _ v_ => v_ = undef), (fun _ v_ => v_ = undef), (fun _ v_ => v_ = undef), (fun _ v_ => v_ = undef), (fun _ v_ => v_ = undef), (fun _ v_ => v_ = undef), (fun _ v_ => v_ = undef), (fun _ v_ => v_ = undef), (fun _ v_ => v_ = undef), (fun _ v_ => v_ = (.bool true)), (fun _ v_ => v_ = (.bool true))] : List (World → Value → Prop)).getD i (fun _ _ => False))
          (by kernel_rfl) (by kernel_rfl) (by kernel_rfl) (by kernel_rfl) (by kernel_rfl) (by decide) (by rfl) (Reg.mono_getD ?_) [0, 1, 2, 3, 4, 5, 6, 7, 8, 9, 10, 11, 12, 13, 14, 15, 16, 17, 18, 19, 20, 21, 22, 23, 24, 25, 26, 27] (by kernel_rfl) ?_ ?_
      · exact Reg.monoS_cons (Reg.monoS_eq _) (Reg.monoS_cons (Reg.monoS_eq _) (Reg.monoS_cons (Reg.monoS_eq _) (Reg.monoS_cons (Reg.monoS_eq _) (Reg.monoS_cons (Reg.monoS_eq _) (Reg.monoS_cons (Reg.monoS_eq _) (Reg.monoS_cons (Reg.monoS_eq _) (Reg.monoS_cons (Reg.monoS_eq _) (Reg.monoS_cons (Reg.monoS_eq _) (Reg.monoS_cons (Reg.monoS_eq _) (Reg.monoS_cons (Reg.monoS_eq _) (Reg.monoS_cons (Reg.monoS_eq _) (Reg.monoS_cons (Reg.monoS_eq _) (Reg.monoS_cons (Reg.monoS_eq _) (Reg.monoS_cons (Reg.monoS_eq _) (Reg.monoS_cons (Reg.monoS_eq _) (Reg.monoS_cons (Reg.monoS_eq _) (Reg.monoS_cons (Reg.monoS_eq _) (Reg.monoS_cons (Reg.monoS_eq _) (Reg.monoS_cons (Reg.monoS_eq _) (Reg.monoS_cons (Reg.monoS_eq _) (Reg.monoS_cons (Reg.monoS_eq _) (Reg.monoS_cons (Reg.monoS_eq _) (Reg.monoS_cons (Reg.monoS_eq _) (Reg.monoS_cons (Reg.monoS_eq _) (Reg.monoS_cons (Reg.monoS_eq _) (Reg.monoS_cons (Reg.monoS_eq _) (Reg.monoS_cons (Reg.monoS_eq _) Reg.monoS_nil)))))))))))))))))))))))))))
      · skip
        refine Reg.rs_cons ?_ ?_
        · intro a w hb hs hel hon
          have e5 : a.tmps[5]? = some (.pointer (some ⟨b2, 0, none⟩)) := (hel 5 (by decide)).trans rfl
          obtain ⟨_, g5⟩ := Array.getElem?_eq_some_iff.1 e5
          refine ⟨_, rfl, fun K hK => ?_⟩
          refine value_ (w1 := w) (v := .pointer (some ⟨b2, 0, none⟩)) (by rfl) rfl ?_ (hK.out _ _ (Below.refl _ _) (rfl))
          · go_simp
            (try simp only [i64_w, g5])
            (try go_simp)
            try rfl
        refine Reg.rs_cons ?_ ?_
        · intro a w hb hs hel hon
          obtain ⟨_, e81, rfl⟩ := hon 0 81 (by kernel_rfl) rfl
          obtain ⟨_, g81⟩ := Array.getElem?_eq_some_iff.1 e81
          refine ⟨_, rfl, fun K hK => ?_⟩
          have q_HI0 : w.cell? ⟨b2, 0, none⟩ = some (.int .i64 36) := (blk_cell ((hb.block _ (blk_lt HI.out)).trans HI.out) 0).trans rfl
          refine value_ (w1 := w) (v := .int .i64 36) (by rfl) rfl ?_ (hK.out _ _ (Below.refl _ _) (rfl))
          · go_simp
            (try simp only [i64_w, g81])
            (try go_simp)
            try rfl
        refine Reg.rs_cons ?_ ?_
        · intro a w hb hs hel hon
          obtain ⟨_, e82, rfl⟩ := hon 1 82 (by kernel_rfl) rfl
          obtain ⟨_, g82⟩ := Array.getElem?_eq_some_iff.1 e82
          refine ⟨_, rfl, fun K hK => ?_⟩
          refine value_ (w1 := w) (v := .bool true) (by rfl) rfl ?_ (hK.out _ _ (Below.refl _ _) (rfl))
          · go_simp
            (try simp only [i64_w, g82])
            (try go_simp)
            try rfl
        refine Reg.rs_cons ?_ ?_
        · intro a w hb hs hel hon
          obtain ⟨_, e83, rfl⟩ := hon 2 83 (by kernel_rfl) rfl
          obtain ⟨_, g83⟩ := Array.getElem?_eq_some_iff.1 e83
          refine ⟨_, rfl, fun K hK => ?_⟩
          refine value_ (w1 := w) (v := .bool true) (by rfl) rfl ?_ (hK.out _ _ (Below.refl _ _) (rfl))
          · go_simp
            (try simp only [i64_w, g83])
            (try go_simp)
            try rfl
        refine Reg.rs_cons ?_ ?_
        · intro a w hb hs hel hon
          obtain ⟨_, e84, rfl⟩ := hon 3 84 (by kernel_rfl) rfl
          refine ⟨_, rfl, fun K hK => ?_⟩
          exact off_ (wanted_off rfl rfl rfl e84) (hK.out _ _ (Below.refl _ _) rfl)
        refine Reg.rs_cons ?_ ?_
        · intro a w hb hs hel hon
          obtain ⟨_, e84, rfl⟩ := hon 3 84 (by kernel_rfl) rfl
          refine ⟨_, rfl, fun K hK => ?_⟩
          exact off_ (wanted_off rfl rfl rfl e84) (hK.out _ _ (Below.refl _ _) rfl)
        refine Reg.rs_cons ?_ ?_
        · intro a w hb hs hel hon
          obtain ⟨_, e84, rfl⟩ := hon 3 84 (by kernel_rfl) rfl
          refine ⟨_, rfl, fun K hK => ?_⟩
          exact off_ (wanted_off rfl rfl rfl e84) (hK.out _ _ (Below.refl _ _) rfl)
        refine Reg.rs_cons ?_ ?_
        · intro a w hb hs hel hon
          obtain ⟨_, e84, rfl⟩ := hon 3 84 (by kernel_rfl) rfl
          refine ⟨_, rfl, fun K hK => ?_⟩
          exact off_ (wanted_off rfl rfl rfl e84) (hK.out _ _ (Below.refl _ _) rfl)
        refine Reg.rs_cons ?_ ?_
        · intro a w hb hs hel hon
          obtain ⟨_, e88, rfl⟩ := hon 7 88 (by kernel_rfl) rfl
          refine ⟨_, rfl, fun K hK => ?_⟩
          exact off_ (Reg.wanted_undef rfl rfl rfl e88) (hK.out _ _ (Below.refl _ _) rfl)
        refine Reg.rs_cons ?_ ?_
        · intro a w hb hs hel hon
          obtain ⟨_, e88, rfl⟩ := hon 7 88 (by kernel_rfl) rfl
          refine ⟨_, rfl, fun K hK => ?_⟩
          exact off_ (Reg.wanted_undef rfl rfl rfl e88) (hK.out _ _ (Below.refl _ _) rfl)
        refine Reg.rs_cons ?_ ?_
        · intro a w hb hs hel hon
          obtain ⟨_, e88, rfl⟩ := hon 7 88 (by kernel_rfl) rfl
          refine ⟨_, rfl, fun K hK => ?_⟩
          exact off_ (Reg.wanted_undef rfl rfl rfl e88) (hK.out _ _ (Below.refl _ _) rfl)
        refine Reg.rs_cons ?_ ?_
        · intro a w hb hs hel hon
          obtain ⟨_, e88, rfl⟩ := hon 7 88 (by kernel_rfl) rfl
          refine ⟨_, rfl, fun K hK => ?_⟩
          exact off_ (Reg.wanted_undef rfl rfl rfl e88) (hK.out _ _ (Below.refl _ _) rfl)
        refine Reg.rs_cons ?_ ?_
        · intro a w hb hs hel hon
          obtain ⟨_, e88, rfl⟩ := hon 7 88 (by kernel_rfl) rfl
          refine ⟨_, rfl, fun K hK => ?_⟩
          exact off_ (Reg.wanted_undef rfl rfl rfl e88) (hK.out _ _ (Below.refl _ _) rfl)
        refine Reg.rs_cons ?_ ?_
        · intro a w hb hs hel hon
          obtain ⟨_, e84, rfl⟩ := hon 3 84 (by kernel_rfl) rfl
          refine ⟨_, rfl, fun K hK => ?_⟩
          exact off_ (wanted_off rfl rfl rfl e84) (hK.out _ _ (Below.refl _ _) rfl)
        refine Reg.rs_cons ?_ ?_
        · intro a w hb hs hel hon
          obtain ⟨_, e84, rfl⟩ := hon 3 84 (by kernel_rfl) rfl
          obtain ⟨_, e94, rfl⟩ := hon 13 94 (by kernel_rfl) rfl
          obtain ⟨_, g84⟩ := Array.getElem?_eq_some_iff.1 e84
          obtain ⟨_, g94⟩ := Array.getElem?_eq_some_iff.1 e94
          refine ⟨_, rfl, fun K hK => ?_⟩
          refine value_ (w1 := w) (v := .bool true) (by rfl) rfl ?_ (hK.out _ _ (Below.refl _ _) (rfl))
          · go_simp
            (try simp only [i64_w, g84, g94])
            (try go_simp)
            try rfl
        refine Reg.rs_cons ?_ ?_
        · intro a w hb hs hel hon
          obtain ⟨_, e95, rfl⟩ := hon 14 95 (by kernel_rfl) rfl
          obtain ⟨_, g95⟩ := Array.getElem?_eq_some_iff.1 e95
          refine ⟨_, rfl, fun K hK => ?_⟩
          refine value_ (w1 := w) (v := .bool true) (by rfl) rfl ?_ (hK.out _ _ (Below.refl _ _) (rfl))
          · go_simp
            (try simp only [i64_w, g95])
            (try go_simp)
            try rfl
        refine Reg.rs_cons ?_ ?_
        · intro a w hb hs hel hon
          obtain ⟨_, e96, rfl⟩ := hon 15 96 (by kernel_rfl) rfl
          refine ⟨_, rfl, fun K hK => ?_⟩
          exact off_ (wanted_off rfl rfl rfl e96) (hK.out _ _ (Below.refl _ _) rfl)
        refine Reg.rs_cons ?_ ?_
        · intro a w hb hs hel hon
          obtain ⟨_, e96, rfl⟩ := hon 15 96 (by kernel_rfl) rfl
          refine ⟨_, rfl, fun K hK => ?_⟩
          exact off_ (wanted_off rfl rfl rfl e96) (hK.out _ _ (Below.refl _ _) rfl)
        refine Reg.rs_cons ?_ ?_
        · intro a w hb hs hel hon
          obtain ⟨_, e96, rfl⟩ := hon 15 96 (by kernel_rfl) rfl
          refine ⟨_, rfl, fun K hK => ?_⟩
          exact off_ (wanted_off rfl rfl rfl e96) (hK.out _ _ (Below.refl _ _) rfl)
        refine Reg.rs_cons ?_ ?_
        · intro a w hb hs hel hon
          obtain ⟨_, e96, rfl⟩ := hon 15 96 (by kernel_rfl) rfl
          refine ⟨_, rfl, fun K hK => ?_⟩
          exact off_ (wanted_off rfl rfl rfl e96) (hK.out _ _ (Below.refl _ _) rfl)
        refine Reg.rs_cons ?_ ?_
        · intro a w hb hs hel hon
          obtain ⟨_, e100, rfl⟩ := hon 19 100 (by kernel_rfl) rfl
          refine ⟨_, rfl, fun K hK => ?_⟩
          exact off_ (Reg.wanted_undef rfl rfl rfl e100) (hK.out _ _ (Below.refl _ _) rfl)
        refine Reg.rs_cons ?_ ?_
        · intro a w hb hs hel hon
          obtain ⟨_, e100, rfl⟩ := hon 19 100 (by kernel_rfl) rfl
          refine ⟨_, rfl, fun K hK => ?_⟩
          exact off_ (Reg.wanted_undef rfl rfl rfl e100) (hK.out _ _ (Below.refl _ _) rfl)
        refine Reg.rs_cons ?_ ?_
        · intro a w hb hs hel hon
          obtain ⟨_, e100, rfl⟩ := hon 19 100 (by kernel_rfl) rfl
          refine ⟨_, rfl, fun K hK => ?_⟩
          exact off_ (Reg.wanted_undef rfl rfl rfl e100) (hK.out _ _ (Below.refl _ _) rfl)
        refine Reg.rs_cons ?_ ?_
        · intro a w hb hs hel hon
          obtain ⟨_, e100, rfl⟩ := hon 19 100 (by kernel_rfl) rfl
          refine ⟨_, rfl, fun K hK => ?_⟩
          exact off_ (Reg.wanted_undef rfl rfl rfl e100) (hK.out _ _ (Below.refl _ _) rfl)
        refine Reg.rs_cons ?_ ?_
        · intro a w hb hs hel hon
          obtain ⟨_, e100, rfl⟩ := hon 19 100 (by kernel_rfl) rfl
          refine ⟨_, rfl, fun K hK => ?_⟩
          exact off_ (Reg.wanted_undef rfl rfl rfl e100) (hK.out _ _ (Below.refl _ _) rfl)
        refine Reg.rs_cons ?_ ?_
        · intro a w hb hs hel hon
          obtain ⟨_, e96, rfl⟩ := hon 15 96 (by kernel_rfl) rfl
          refine ⟨_, rfl, fun K hK => ?_⟩
          exact off_ (wanted_off rfl rfl rfl e96) (hK.out _ _ (Below.refl _ _) rfl)
        refine Reg.rs_cons ?_ ?_
        · intro a w hb hs hel hon
          obtain ⟨_, e96, rfl⟩ := hon 15 96 (by kernel_rfl) rfl
          obtain ⟨_, e106, rfl⟩ := hon 25 106 (by kernel_rfl) rfl
          obtain ⟨_, g96⟩ := Array.getElem?_eq_some_iff.1 e96
          obtain ⟨_, g106⟩ := Array.getElem?_eq_some_iff.1 e106
          refine ⟨_, rfl, fun K hK => ?_⟩
          refine value_ (w1 := w) (v := .bool true) (by rfl) rfl ?_ (hK.out _ _ (Below.refl _ _) (rfl))
          · go_simp
            (try simp only [i64_w, g96, g106])
            (try go_simp)
            try rfl
        refine Reg.rs_cons ?_ ?_
        · intro a w hb hs hel hon
          obtain ⟨_, e107, rfl⟩ := hon 26 107 (by kernel_rfl) rfl
          obtain ⟨_, g107⟩ := Array.getElem?_eq_some_iff.1 e107
          refine ⟨_, rfl, fun K hK => ?_⟩
          refine value_ (w1 := w) (v := .bool true) (by rfl) rfl ?_ (hK.out _ _ (Below.refl _ _) (rfl))
          · go_simp
            (try simp only [i64_w, g107])
            (try go_simp)
            try rfl
        exact Reg.rs_nil
      · intro a w hI
        rename_i K_ hK_
        refine hK_ a w ?_
        obtain ⟨_, ev, rfl⟩ := hI.vals 27 6 rfl rfl
        have HE_ := Aside0.mk (HXB.out.trans (hI.below.mono HXB.out.size))
        go_wp2
        exact Reg.ret_slot (R := fun e w' => e = .returned (.bool true) ∧ Below _ _ w') (by kernel_rfl) hI.defers ev ⟨rfl, HE_.out⟩
    · obtain ⟨nf, hnf⟩ : ∃ nf, fieldsOf kd = nf := ⟨_, rfl⟩
      rw [hnf] at PF
      have hv2 : decide (z < nf) = R := by rw [← hv, hnf]; simp
      clear hv hnf
      have HT := Aside0.mk hv2
      clear hv2
      go_enter Tryd.func21, Tryd.ntmps21
      go_wp2_with fail
      refine (PS.out _ (HL.out.below HX.out.below)).mono ?_
      rintro e w1 ⟨rfl, hd⟩
      have HX1 := Aside0.mk (HX.out.step (drewN_of hd))
      clear hd PS HX
      have q0 := (blk_cell HX1.out.p 0).trans rfl
      have q1 := (blk_cell HX1.out.p 1).trans rfl
      have q2 := (blk_cell HX1.out.p 2).trans rfl
      have q3 := (blk_cell HX1.out.p 3).trans rfl
      have i0 := (blk_cell HX1.out.i 0).trans rfl
      have i1 := (blk_cell HX1.out.i 1).trans rfl
      have i2 := (blk_cell HX1.out.i 2).trans rfl
      obtain ⟨ad, rfl, k0, k1⟩ := at_T39 (Kd.C_below G2.out HX1.out.below) (m : Int) (by omega) (by omega)
      rw [Int.toNat_natCast] at k0 k1
      rw [hK_] at k1
      go_wp2_with fail
      clear q0 q1 q2 q3 i0 i1 i2 k0 k1
      have HXB := Aside0.mk HX1.out.below
      have HI := Aside0.mk HX1.out.i
      clear HX1 G1 G2 H1 H3 H4
      obtain ⟨b2, hb2⟩ : ∃ b, b = w.heap.size + 2 := ⟨_, rfl⟩
      rw [← hb2] at HI ⊢
      clear hb2
      refine Reg.region_any [some 81, some 82, some 83, some 84, some 85, some 86, some 87, some 88, some 89, some 90, some 91, some 92, some 93, some 94, some 95, some 96, some 97, some 98, some 99, some 100, some 101, some 102, some 103, some 104, some 105, some 106, some 107, some 6] [0, 1, 3, 7, 15, 31, 63, 127, 255, 511, 255, 1279, 4095, 8191, 16383, 32767, 65535, 131071, 262143, 524287, 1048575, 2097151, 1048575, 5242879, 16777215, 33554431, 67108863, 134217727] (true, [([], []), ([0], [0]), ([1], [1]), ([2], [2]), ([3], [3]), ([4, 3], [3, 4]), ([5, 3], [3, 5]), ([6, 3, 3], [3, 6]), ([7], [7]), ([8, 7], [7, 8]), ([7], [7]), ([10, 7, 7], [7, 10]), ([9, 11, 7], [7, 9, 11]), ([7, 12, 3], [3, 7, 12]), ([3, 13], [3, 13]), ([14, 11], [14]), ([15], [15]), ([16, 15], [15, 16]), ([17, 15], [15, 17]), ([18, 15, 15], [15, 18]), ([19], [19]), ([20, 19], [19, 20]), ([19], [19]), ([22, 19, 19], [19, 22]), ([21, 23, 19], [19, 21, 23]), ([19, 24, 15], [15, 19, 24]), ([15, 25], [15, 25]), ([26, 23, 0, 1, 2, 3, 4, 5, 6, 7, 8, 9, 10, 11, 12, 13, 14, 15, 16, 17, 18, 19, 20, 21, 22, 23, 24, 25, 26], [26])]) (fun i => ([(fun _ v_ => v_ = (.pointer (some ⟨b2, 0, none⟩))), (fun _ v_ => v_ = (.int .i64 37)), (fun _ v_ => v_ = (.bool false)), (fun _ v_ => v_ = (.bool false)), (fun _ v_ => v_ = (.pointer (some ⟨b2, 0, none⟩))), (fun _ v_ => v_ = (.int .i64 37)), (fun _ v_ => v_ = (.bool false)), (fun _ v_ => v_ = (.bool false)), (fun _ v_ => v_ = undef), (fun _ v_ => v_ = undef), (fun _ v_ => v_ = undef), (fun _ v_ => v_ = undef), (fun _ v_ => v_ = undef), (fun _ v_ => v_ = (.bool false)), (fun _ v_ => v_ = (.bool false)), (fun _ v_ => v_ = (.bool false)), (fun _ v_ => v_ = (.pointer (some ⟨b2, 0, none⟩))), (fun _ v_ => v_ = (.int .i64 37)), (fun _ v_ => v_ = (.bool true)), (fun _ v_ => v_ = (.bool true)), (fun _ v_ => v_ = (.pointer (some ⟨b2, 2, none⟩))), (fun _ v_ => v_ = (.int .i64 z)), (fun _ v_ => v_ = (.int .i64 kd)), (fun _ v_ => v_ = (.int .i64 nf)), (fun _ v_ => v_ = (.bool R)), (fun _ v_ => v_ = (.bool R)), (fun _ v_ => v_ = (.bool R)), (fun _ v_ => v_ = (.bool R))] : List (World → Value → Prop)).getD i (fun _ _ => False))
          (by kernel_rfl) (by kernel_rfl) (by kernel_rfl) (by kernel_rfl) (by kernel_rfl) (by decide) (by rfl) (Reg.mono_getD ?_) [0, 1, 2, 3, 4, 5, 6, 7, 8, 9, 10, 11, 12, 13, 14, 15, 16, 17, 18, 19, 20, 21, 22, 23, 24, 25, 26, 27] (by kernel_rfl) ?_ ?_
      · exact Reg.monoS_cons (Reg.monoS_eq _) (Reg.monoS_cons (Reg.monoS_eq _) (Reg.monoS_cons (Reg.monoS_eq _) (Reg.monoS_cons (Reg.monoS_eq _) (Reg.monoS_cons (Reg.monoS_eq _) (Reg.monoS_cons (Reg.monoS_eq _) (Reg.monoS_cons (Reg.monoS_eq _) (Reg.monoS_cons (Reg.monoS_eq _) (Reg.monoS_cons (Reg.monoS_eq _) (Reg.monoS_cons (Reg.monoS_eq _) (Reg.monoS_cons (Reg.monoS_eq _) (Reg.monoS_cons (Reg.monoS_eq _) (Reg.monoS_cons (Reg.monoS_eq _) (Reg.monoS_cons (Reg.monoS_eq _) (Reg.monoS_cons (Reg.monoS_eq _) (Reg.monoS_cons (Reg.monoS_eq _) (Reg.monoS_cons (Reg.monoS_eq _) (Reg.monoS_cons (Reg.monoS_eq _) (Reg.monoS_cons (Reg.monoS_eq _) (Reg.monoS_cons (Reg.monoS_eq _) (Reg.monoS_cons (Reg.monoS_eq _) (Reg.monoS_cons (Reg.monoS_eq _) (Reg.monoS_cons (Reg.monoS_eq _) (Reg.monoS_cons (Reg.monoS_eq _) (Reg.monoS_cons (Reg.monoS_eq _) (Reg.monoS_cons (Reg.monoS_eq _) (Reg.monoS_cons (Reg.monoS_eq _) (Reg.monoS_cons (Reg.monoS_eq _) Reg.monoS_nil)))))))))))))))))))))))))))
      · skip
        refine Reg.rs_cons ?_ ?_
        · intro a w hb hs hel hon
          have e5 : a.tmps[5]? = some (.pointer (some ⟨b2, 0, none⟩)) := (hel 5 (by decide)).trans rfl
          obtain ⟨_, g5⟩ := Array.getElem?_eq_some_iff.1 e5
          refine ⟨_, rfl, fun K hK => ?_⟩
          refine value_ (w1 := w) (v := .pointer (some ⟨b2, 0, none⟩)) (by rfl) rfl ?_ (hK.out _ _ (Below.refl _ _) (rfl))
          · go_simp
            (try simp only [i64_w, g5])
            (try go_simp)
            try rfl
        refine Reg.rs_cons ?_ ?_
        · intro a w hb hs hel hon
          obtain ⟨_, e81, rfl⟩ := hon 0 81 (by kernel_rfl) rfl
          obtain ⟨_, g81⟩ := Array.getElem?_eq_some_iff.1 e81
          refine ⟨_, rfl, fun K hK => ?_⟩
          have q_HI0 : w.cell? ⟨b2, 0, none⟩ = some (.int .i64 37) := (blk_cell ((hb.block _ (blk_lt HI.out)).trans HI.out) 0).trans rfl
          refine value_ (w1 := w) (v := .int .i64 37) (by rfl) rfl ?_ (hK.out _ _ (Below.refl _ _) (rfl))
          · go_simp
            (try simp only [i64_w, g81])
            (try go_simp)
            try rfl
        refine Reg.rs_cons ?_ ?_
        · intro a w hb hs hel hon
          obtain ⟨_, e82, rfl⟩ := hon 1 82 (by kernel_rfl) rfl
          obtain ⟨_, g82⟩ := Array.getElem?_eq_some_iff.1 e82
          refine ⟨_, rfl, fun K hK => ?_⟩
          refine value_ (w1 := w) (v := .bool false) (by rfl) rfl ?_ (hK.out _ _ (Below.refl _ _) (rfl))
          · go_simp
            (try simp only [i64_w, g82])
            (try go_simp)
            try rfl
        refine Reg.rs_cons ?_ ?_
        · intro a w hb hs hel hon
          obtain ⟨_, e83, rfl⟩ := hon 2 83 (by kernel_rfl) rfl
          obtain ⟨_, g83⟩ := Array.getElem?_eq_some_iff.1 e83
          refine ⟨_, rfl, fun K hK => ?_⟩
          refine value_ (w1 := w) (v := .bool false) (by rfl) rfl ?_ (hK.out _ _ (Below.refl _ _) (rfl))
          · go_simp
            (try simp only [i64_w, g83])
            (try go_simp)
            try rfl
        refine Reg.rs_cons ?_ ?_
        · intro a w hb hs hel hon
          have e5 : a.tmps[5]? = some (.pointer (some ⟨b2, 0, none⟩)) := (hel 5 (by decide)).trans rfl
          obtain ⟨_, e84, rfl⟩ := hon 3 84 (by kernel_rfl) rfl
          obtain ⟨_, g5⟩ := Array.getElem?_eq_some_iff.1 e5
          obtain ⟨_, g84⟩ := Array.getElem?_eq_some_iff.1 e84
          refine ⟨_, rfl, fun K hK => ?_⟩
          refine value_ (w1 := w) (v := .pointer (some ⟨b2, 0, none⟩)) (wanted_on rfl rfl rfl e84) rfl ?_ (hK.out _ _ (Below.refl _ _) (rfl))
          · go_simp
            (try simp only [i64_w, g5, g84])
            (try go_simp)
            try rfl
        refine Reg.rs_cons ?_ ?_
        · intro a w hb hs hel hon
          obtain ⟨_, e85, rfl⟩ := hon 4 85 (by kernel_rfl) rfl
          obtain ⟨_, e84, rfl⟩ := hon 3 84 (by kernel_rfl) rfl
          obtain ⟨_, g85⟩ := Array.getElem?_eq_some_iff.1 e85
          obtain ⟨_, g84⟩ := Array.getElem?_eq_some_iff.1 e84
          refine ⟨_, rfl, fun K hK => ?_⟩
          have q_HI0 : w.cell? ⟨b2, 0, none⟩ = some (.int .i64 37) := (blk_cell ((hb.block _ (blk_lt HI.out)).trans HI.out) 0).trans rfl
          refine value_ (w1 := w) (v := .int .i64 37) (wanted_on rfl rfl rfl e84) rfl ?_ (hK.out _ _ (Below.refl _ _) (rfl))
          · go_simp
            (try simp only [i64_w, g85, g84])
            (try go_simp)
            try rfl
        refine Reg.rs_cons ?_ ?_
        · intro a w hb hs hel hon
          obtain ⟨_, e86, rfl⟩ := hon 5 86 (by kernel_rfl) rfl
          obtain ⟨_, e84, rfl⟩ := hon 3 84 (by kernel_rfl) rfl
          obtain ⟨_, g86⟩ := Array.getElem?_eq_some_iff.1 e86
          obtain ⟨_, g84⟩ := Array.getElem?_eq_some_iff.1 e84
          refine ⟨_, rfl, fun K hK => ?_⟩
          refine value_ (w1 := w) (v := .bool false) (wanted_on rfl rfl rfl e84) rfl ?_ (hK.out _ _ (Below.refl _ _) (rfl))
          · go_simp
            (try simp only [i64_w, g86, g84])
            (try go_simp)
            try rfl
        refine Reg.rs_cons ?_ ?_
        · intro a w hb hs hel hon
          obtain ⟨_, e87, rfl⟩ := hon 6 87 (by kernel_rfl) rfl
          obtain ⟨_, e84, rfl⟩ := hon 3 84 (by kernel_rfl) rfl
          obtain ⟨_, g87⟩ := Array.getElem?_eq_some_iff.1 e87
          obtain ⟨_, g84⟩ := Array.getElem?_eq_some_iff.1 e84
          refine ⟨_, rfl, fun K hK => ?_⟩
          refine value_ (w1 := w) (v := .bool false) (wanted_on rfl rfl rfl e84) rfl ?_ (hK.out _ _ (Below.refl _ _) (rfl))
          · go_simp
            (try simp only [i64_w, g87, g84])
            (try go_simp)
            try rfl
        refine Reg.rs_cons ?_ ?_
        · intro a w hb hs hel hon
          obtain ⟨_, e88, rfl⟩ := hon 7 88 (by kernel_rfl) rfl
          refine ⟨_, rfl, fun K hK => ?_⟩
          exact off_ (wanted_off rfl rfl rfl e88) (hK.out _ _ (Below.refl _ _) rfl)
        refine Reg.rs_cons ?_ ?_
        · intro a w hb hs hel hon
          obtain ⟨_, e88, rfl⟩ := hon 7 88 (by kernel_rfl) rfl
          refine ⟨_, rfl, fun K hK => ?_⟩
          exact off_ (wanted_off rfl rfl rfl e88) (hK.out _ _ (Below.refl _ _) rfl)
        refine Reg.rs_cons ?_ ?_
        · intro a w hb hs hel hon
          obtain ⟨_, e88, rfl⟩ := hon 7 88 (by kernel_rfl) rfl
          refine ⟨_, rfl, fun K hK => ?_⟩
          exact off_ (wanted_off rfl rfl rfl e88) (hK.out _ _ (Below.refl _ _) rfl)
        refine Reg.rs_cons ?_ ?_
        · intro a w hb hs hel hon
          obtain ⟨_, e88, rfl⟩ := hon 7 88 (by kernel_rfl) rfl
          refine ⟨_, rfl, fun K hK => ?_⟩
          exact off_ (wanted_off rfl rfl rfl e88) (hK.out _ _ (Below.refl _ _) rfl)
        refine Reg.rs_cons ?_ ?_
        · intro a w hb hs hel hon
          obtain ⟨_, e88, rfl⟩ := hon 7 88 (by kernel_rfl) rfl
          refine ⟨_, rfl, fun K hK => ?_⟩
          exact off_ (wanted_off rfl rfl rfl e88) (hK.out _ _ (Below.refl _ _) rfl)
        refine Reg.rs_cons ?_ ?_
        · intro a w hb hs hel hon
          obtain ⟨_, e88, rfl⟩ := hon 7 88 (by kernel_rfl) rfl
          obtain ⟨_, e93, rfl⟩ := hon 12 93 (by kernel_rfl) rfl
          obtain ⟨_, e84, rfl⟩ := hon 3 84 (by kernel_rfl) rfl
          obtain ⟨_, g88⟩ := Array.getElem?_eq_some_iff.1 e88
          obtain ⟨_, g93⟩ := Array.getElem?_eq_some_iff.1 e93
          obtain ⟨_, g84⟩ := Array.getElem?_eq_some_iff.1 e84
          refine ⟨_, rfl, fun K hK => ?_⟩
          refine value_ (w1 := w) (v := .bool false) (wanted_on rfl rfl rfl e84) rfl ?_ (hK.out _ _ (Below.refl _ _) (rfl))
          · go_simp
            (try simp only [i64_w, g88, g93, g84])
            (try go_simp)
            try rfl
        refine Reg.rs_cons ?_ ?_
        · intro a w hb hs hel hon
          obtain ⟨_, e84, rfl⟩ := hon 3 84 (by kernel_rfl) rfl
          obtain ⟨_, e94, rfl⟩ := hon 13 94 (by kernel_rfl) rfl
          obtain ⟨_, g84⟩ := Array.getElem?_eq_some_iff.1 e84
          obtain ⟨_, g94⟩ := Array.getElem?_eq_some_iff.1 e94
          refine ⟨_, rfl, fun K hK => ?_⟩
          refine value_ (w1 := w) (v := .bool false) (by rfl) rfl ?_ (hK.out _ _ (Below.refl _ _) (rfl))
          · go_simp
            (try simp only [i64_w, g84, g94])
            (try go_simp)
            try rfl
        refine Reg.rs_cons ?_ ?_
        · intro a w hb hs hel hon
          obtain ⟨_, e95, rfl⟩ := hon 14 95 (by kernel_rfl) rfl
          obtain ⟨_, g95⟩ := Array.getElem?_eq_some_iff.1 e95
          refine ⟨_, rfl, fun K hK => ?_⟩
          refine value_ (w1 := w) (v := .bool false) (by rfl) rfl ?_ (hK.out _ _ (Below.refl _ _) (rfl))
          · go_simp
            (try simp only [i64_w, g95])
            (try go_simp)
            try rfl
        refine Reg.rs_cons ?_ ?_
        · intro a w hb hs hel hon
          have e5 : a.tmps[5]? = some (.pointer (some ⟨b2, 0, none⟩)) := (hel 5 (by decide)).trans rfl
          obtain ⟨_, e96, rfl⟩ := hon 15 96 (by kernel_rfl) rfl
          obtain ⟨_, g5⟩ := Array.getElem?_eq_some_iff.1 e5
          obtain ⟨_, g96⟩ := Array.getElem?_eq_some_iff.1 e96
          refine ⟨_, rfl, fun K hK => ?_⟩
          refine value_ (w1 := w) (v := .pointer (some ⟨b2, 0, none⟩)) (wanted_on rfl rfl rfl e96) rfl ?_ (hK.out _ _ (Below.refl _ _) (rfl))
          · go_simp
            (try simp only [i64_w, g5, g96])
            (try go_simp)
            try rfl
        refine Reg.rs_cons ?_ ?_
        · intro a w hb hs hel hon
          obtain ⟨_, e97, rfl⟩ := hon 16 97 (by kernel_rfl) rfl
          obtain ⟨_, e96, rfl⟩ := hon 15 96 (by kernel_rfl) rfl
          obtain ⟨_, g97⟩ := Array.getElem?_eq_some_iff.1 e97
          obtain ⟨_, g96⟩ := Array.getElem?_eq_some_iff.1 e96
          refine ⟨_, rfl, fun K hK => ?_⟩
          have q_HI0 : w.cell? ⟨b2, 0, none⟩ = some (.int .i64 37) := (blk_cell ((hb.block _ (blk_lt HI.out)).trans HI.out) 0).trans rfl
          refine value_ (w1 := w) (v := .int .i64 37) (wanted_on rfl rfl rfl e96) rfl ?_ (hK.out _ _ (Below.refl _ _) (rfl))
          · go_simp
            (try simp only [i64_w, g97, g96])
            (try go_simp)
            try rfl
        refine Reg.rs_cons ?_ ?_
        · intro a w hb hs hel hon
          obtain ⟨_, e98, rfl⟩ := hon 17 98 (by kernel_rfl) rfl
          obtain ⟨_, e96, rfl⟩ := hon 15 96 (by kernel_rfl) rfl
          obtain ⟨_, g98⟩ := Array.getElem?_eq_some_iff.1 e98
          obtain ⟨_, g96⟩ := Array.getElem?_eq_some_iff.1 e96
          refine ⟨_, rfl, fun K hK => ?_⟩
          refine value_ (w1 := w) (v := .bool true) (wanted_on rfl rfl rfl e96) rfl ?_ (hK.out _ _ (Below.refl _ _) (rfl))
          · go_simp
            (try simp only [i64_w, g98, g96])
            (try go_simp)
            try rfl
        refine Reg.rs_cons ?_ ?_
        · intro a w hb hs hel hon
          obtain ⟨_, e99, rfl⟩ := hon 18 99 (by kernel_rfl) rfl
          obtain ⟨_, e96, rfl⟩ := hon 15 96 (by kernel_rfl) rfl
          obtain ⟨_, g99⟩ := Array.getElem?_eq_some_iff.1 e99
          obtain ⟨_, g96⟩ := Array.getElem?_eq_some_iff.1 e96
          refine ⟨_, rfl, fun K hK => ?_⟩
          refine value_ (w1 := w) (v := .bool true) (wanted_on rfl rfl rfl e96) rfl ?_ (hK.out _ _ (Below.refl _ _) (rfl))
          · go_simp
            (try simp only [i64_w, g99, g96])
            (try go_simp)
            try rfl
        refine Reg.rs_cons ?_ ?_
        · intro a w hb hs hel hon
          have e5 : a.tmps[5]? = some (.pointer (some ⟨b2, 0, none⟩)) := (hel 5 (by decide)).trans rfl
          obtain ⟨_, e100, rfl⟩ := hon 19 100 (by kernel_rfl) rfl
          obtain ⟨_, g5⟩ := Array.getElem?_eq_some_iff.1 e5
          obtain ⟨_, g100⟩ := Array.getElem?_eq_some_iff.1 e100
          refine ⟨_, rfl, fun K hK => ?_⟩
          refine value_ (w1 := w) (v := .pointer (some ⟨b2, 2, none⟩)) (wanted_on rfl rfl rfl e100) rfl ?_ (hK.out _ _ (Below.refl _ _) (rfl))
          · go_simp
            (try simp only [i64_w, g5, g100])
            (try go_simp)
            try rfl
        refine Reg.rs_cons ?_ ?_
        · intro a w hb hs hel hon
          obtain ⟨_, e101, rfl⟩ := hon 20 101 (by kernel_rfl) rfl
          obtain ⟨_, e100, rfl⟩ := hon 19 100 (by kernel_rfl) rfl
          obtain ⟨_, g101⟩ := Array.getElem?_eq_some_iff.1 e101
          obtain ⟨_, g100⟩ := Array.getElem?_eq_some_iff.1 e100
          refine ⟨_, rfl, fun K hK => ?_⟩
          have q_HI2 : w.cell? ⟨b2, 2, none⟩ = some (.int .i64 z) := (blk_cell ((hb.block _ (blk_lt HI.out)).trans HI.out) 2).trans rfl
          refine value_ (w1 := w) (v := .int .i64 z) (wanted_on rfl rfl rfl e100) rfl ?_ (hK.out _ _ (Below.refl _ _) (rfl))
          · go_simp
            (try simp only [i64_w, g101, g100])
            (try go_simp)
            try rfl
        refine Reg.rs_cons ?_ ?_
        · intro a w hb hs hel hon
          have e9 : a.tmps[9]? = some (.int .i64 kd) := (hel 9 (by decide)).trans rfl
          obtain ⟨_, e100, rfl⟩ := hon 19 100 (by kernel_rfl) rfl
          obtain ⟨_, g9⟩ := Array.getElem?_eq_some_iff.1 e9
          obtain ⟨_, g100⟩ := Array.getElem?_eq_some_iff.1 e100
          refine ⟨_, rfl, fun K hK => ?_⟩
          refine value_ (w1 := w) (v := .int .i64 kd) (wanted_on rfl rfl rfl e100) rfl ?_ (hK.out _ _ (Below.refl _ _) (rfl))
          · go_simp
            (try simp only [i64_w, g9, g100])
            (try go_simp)
            try rfl
        refine Reg.rs_cons ?_ ?_
        · intro a w hb hs hel hon
          obtain ⟨_, e103, rfl⟩ := hon 22 103 (by kernel_rfl) rfl
          obtain ⟨_, e100, rfl⟩ := hon 19 100 (by kernel_rfl) rfl
          refine ⟨_, rfl, fun K hK => ?_⟩
          refine goes_ Tryd.func38 (by kernel_rfl) rfl #[.int .i64 kd] (wanted_on rfl rfl rfl e100) rfl rfl (by first | (simp only [List.map_toArray, List.map_cons, List.map_nil, Act.eval, Array.getD_eq_getD_getElem?, Option.getD_some, e103, e100]; done) | (simp only [List.map_toArray, List.map_cons, List.map_nil, Act.eval, Array.getD_eq_getD_getElem?, Option.getD_some, e103, e100]; rfl) | rfl) ?_
          refine (PF.out w (HL.out.below (HXB.out.trans (hb.mono HXB.out.size)))).mono ?_
          rintro e w2 ⟨rfl, hb2⟩
          exact ⟨_, rfl, hK.out _ _ hb2 rfl⟩
        refine Reg.rs_cons ?_ ?_
        · intro a w hb hs hel hon
          obtain ⟨_, e102, rfl⟩ := hon 21 102 (by kernel_rfl) rfl
          obtain ⟨_, e104, rfl⟩ := hon 23 104 (by kernel_rfl) rfl
          obtain ⟨_, e100, rfl⟩ := hon 19 100 (by kernel_rfl) rfl
          obtain ⟨_, g102⟩ := Array.getElem?_eq_some_iff.1 e102
          obtain ⟨_, g104⟩ := Array.getElem?_eq_some_iff.1 e104
          obtain ⟨_, g100⟩ := Array.getElem?_eq_some_iff.1 e100
          refine ⟨_, rfl, fun K hK => ?_⟩
          have ht_ := HT.out
          refine value_ (w1 := w) (v := .bool R) (wanted_on rfl rfl rfl e100) rfl ?_ (hK.out _ _ (Below.refl _ _) (rfl))
          · go_simp
            (try simp only [i64_w, g102, g104, g100])
            (try go_simp)
            try rfl
        refine Reg.rs_cons ?_ ?_
        · intro a w hb hs hel hon
          obtain ⟨_, e100, rfl⟩ := hon 19 100 (by kernel_rfl) rfl
          obtain ⟨_, e105, rfl⟩ := hon 24 105 (by kernel_rfl) rfl
          obtain ⟨_, e96, rfl⟩ := hon 15 96 (by kernel_rfl) rfl
          obtain ⟨_, g100⟩ := Array.getElem?_eq_some_iff.1 e100
          obtain ⟨_, g105⟩ := Array.getElem?_eq_some_iff.1 e105
          obtain ⟨_, g96⟩ := Array.getElem?_eq_some_iff.1 e96
          refine ⟨_, rfl, fun K hK => ?_⟩
          refine value_ (w1 := w) (v := .bool R) (wanted_on rfl rfl rfl e96) rfl ?_ (hK.out _ _ (Below.refl _ _) (rfl))
          · go_simp
            (try simp only [i64_w, g100, g105, g96])
            (try go_simp)
            try rfl
        refine Reg.rs_cons ?_ ?_
        · intro a w hb hs hel hon
          obtain ⟨_, e96, rfl⟩ := hon 15 96 (by kernel_rfl) rfl
          obtain ⟨_, e106, rfl⟩ := hon 25 106 (by kernel_rfl) rfl
          obtain ⟨_, g96⟩ := Array.getElem?_eq_some_iff.1 e96
          obtain ⟨_, g106⟩ := Array.getElem?_eq_some_iff.1 e106
          refine ⟨_, rfl, fun K hK => ?_⟩
          refine value_ (w1 := w) (v := .bool R) (by rfl) rfl ?_ (hK.out _ _ (Below.refl _ _) (rfl))
          · go_simp
            (try simp only [i64_w, g96, g106])
            (try go_simp)
            try rfl
        refine Reg.rs_cons ?_ ?_
        · intro a w hb hs hel hon
          obtain ⟨_, e107, rfl⟩ := hon 26 107 (by kernel_rfl) rfl
          obtain ⟨_, g107⟩ := Array.getElem?_eq_some_iff.1 e107
          refine ⟨_, rfl, fun K hK => ?_⟩
          refine value_ (w1 := w) (v := .bool R) (by rfl) rfl ?_ (hK.out _ _ (Below.refl _ _) (rfl))
          · go_simp
            (try simp only [i64_w, g107])
            (try go_simp)
            try rfl
        exact Reg.rs_nil
      · intro a w hI
        rename_i K_ hK_
        refine hK_ a w ?_
        obtain ⟨_, ev, rfl⟩ := hI.vals 27 6 rfl rfl
        have HE_ := Aside0.mk (HXB.out.trans (hI.below.mono HXB.out.size))
        go_wp2
        exact Reg.ret_slot (R := fun e w' => e = .returned (.bool R) ∧ Below _ _ w') (by kernel_rfl) hI.defers ev ⟨rfl, HE_.out⟩
  · have hd : opA.getD n 0 ≠ 1 ∧ opA.getD n 0 ≠ 2 ∧ opA.getD n 0 ≠ 3 ∧ opA.getD n 0 ≠ 7 ∧ opA.getD n 0 ≠ 8 := by
      have : ∀ m : Fin 38, (m.val = 0 ∨ (8 ≤ m.val ∧ m.val ≤ 32) ∨ m.val = 34) → opA.getD m.val 0 ≠ 1 ∧ opA.getD m.val 0 ≠ 2 ∧ opA.getD m.val 0 ≠ 3 ∧ opA.getD m.val 0 ≠ 7 ∧ opA.getD m.val 0 ≠ 8 := by decide
      exact this ⟨n, hn⟩ hg
    rw [if_neg hd.1, if_neg hd.2.1, if_neg hd.2.2.1, if_neg hd.2.2.2.1, if_neg hd.2.2.2.2] at hR
    subst hR
    generalize opA.getD n 0 = sa at hd PS
    have d1 : decide (sa = 1) = false := decide_eq_false hd.1
    have d2 : decide (sa = 2) = false := decide_eq_false hd.2.1
    have d3 : decide (sa = 3) = false := decide_eq_false hd.2.2.1
    have d7 : decide (sa = 7) = false := decide_eq_false hd.2.2.2.1
    have d8 : decide (sa = 8) = false := decide_eq_false hd.2.2.2.2
    go_enter Tryd.func21, Tryd.ntmps21
    go_wp2_with fail
    refine (PS.out _ (HL.out.below HX.out.below)).mono ?_
    rintro e w1 ⟨rfl, hd⟩
    have HX1 := Aside0.mk (HX.out.step (drewN_of hd))
    clear hd PS HX
    have q0 := (blk_cell HX1.out.p 0).trans rfl
    have q1 := (blk_cell HX1.out.p 1).trans rfl
    have q2 := (blk_cell HX1.out.p 2).trans rfl
    have q3 := (blk_cell HX1.out.p 3).trans rfl
    have i0 := (blk_cell HX1.out.i 0).trans rfl
    have i1 := (blk_cell HX1.out.i 1).trans rfl
    have i2 := (blk_cell HX1.out.i 2).trans rfl
    go_wp2_with fail
    go_ret
    exact ⟨rfl, HX1.out.below⟩
end Go.Proofs.YthdlocigijiobaaDoor.RPure
end

section
/- refs.there in the printed form; the tables lie as the program lays them. -/
namespace Go.Proofs.YthdlocigijiobaaDoor.Given
open Go Go.RowKit Go.Proofs.YthdlocigijiobaaDoor.PSk Go.Proofs.YthdlocigijiobaaDoor.RPure Go.Proofs.YthdlocigijiobaaDoorW.PrintWords Go.Proofs.YthdlocigijiobaaDoorW.PrintLast Go.Proofs.YthdlocigijiobaaDoorW.PrintMore
set_option linter.unusedVariables false
set_option linter.unusedSimpArgs false
def refs_there.f (l0_0 : List (S35)) (l0_1 : List (S37)) (l0_2 : List (S39)) (l0_3 : List (S43)) (a1_0 : ByteArray) (l1_1 : List Int) (a1_2 : Int) (l1_3 : List Int) (l1_4 : List (S29)) (a2_0 : Int) (a2_1 : Int) (a2_2 : Int) : Option (Bool) :=
  if isOp a2_0 = true ∧ 0 ≤ a2_1 ∧ l1_1.length ≤ 20 ∧ l1_3.length ≤ 1100 then some (thereX l0_0 l0_1 l0_2 l0_3 ⟨a1_0, l1_1, a1_2, l1_3, l1_4⟩ a2_0 a2_1 a2_2) else none
theorem refs_there.calls (A0_0 : Option Addr) (c0_0 : Nat) (l0_0 : List (S35)) (A0_1 : Option Addr) (c0_1 : Nat) (l0_1 : List (S37)) (A0_2 : Option Addr) (c0_2 : Nat) (l0_2 : List (S39)) (A0_3 : Option Addr) (c0_3 : Nat) (l0_3 : List (S43)) (a1_0 : ByteArray) (A1_1 : Option Addr) (c1_1 : Nat) (l1_1 : List Int) (a1_2 : Int) (A1_3 : Option Addr) (c1_3 : Nat) (l1_3 : List Int) (A1_4 : Option Addr) (c1_4 : Nat) (l1_4 : List (S29)) (a2_0 : Int) (a2_1 : Int) (a2_2 : Int) (r : Bool) (w : World) (hr0_0 : Kd.C k35 w A0_0 l0_0.length l0_0) (hc0_0 : l0_0.length ≤ c0_0) (hr0_1 : Kd.C k37 w A0_1 l0_1.length l0_1) (hc0_1 : l0_1.length ≤ c0_1) (hr0_2 : Kd.C k39 w A0_2 l0_2.length l0_2) (hc0_2 : l0_2.length ≤ c0_2) (hr0_3 : Kd.C k43 w A0_3 l0_3.length l0_3) (hc0_3 : l0_3.length ≤ c0_3) (hr1_1 : Kd.C (Kd.int .i64) w A1_1 l1_1.length l1_1) (hc1_1 : l1_1.length ≤ c1_1) (hr1_3 : Kd.C (Kd.int .i64) w A1_3 l1_3.length l1_3) (hc1_3 : l1_3.length ≤ c1_3) (hr1_4 : Kd.C k29 w A1_4 l1_4.length l1_4) (hc1_4 : l1_4.length ≤ c1_4) (h : refs_there.f l0_0 l0_1 l0_2 l0_3 a1_0 l1_1 a1_2 l1_3 l1_4 a2_0 a2_1 a2_2 = some r) (hL_ : LaidAll w) :
    Calls Tryd.prog 21 #[.agg #[.slice A0_0 l0_0.length c0_0, .slice A0_1 l0_1.length c0_1, .slice A0_2 l0_2.length c0_2, .slice A0_3 l0_3.length c0_3], .agg #[.string a1_0, .slice A1_1 l1_1.length c1_1, .int .i64 a1_2, .slice A1_3 l1_3.length c1_3, .slice A1_4 l1_4.length c1_4], .agg #[.int .i64 a2_0, .int .i64 a2_1, .int .i64 a2_2]] w fun e w' => e = .returned (.bool r) ∧ Below w.heap.size w w' := by
  unfold refs_there.f at h
  split at h
  · rename_i hh
    obtain ⟨h1, h2, h3, h4⟩ := hh
    obtain rfl := Option.some.inj h
    exact there_w A0_0 c0_0 l0_0 A0_1 c0_1 l0_1 A0_2 c0_2 l0_2 A0_3 c0_3 l0_3 ⟨a1_0, l1_1, a1_2, l1_3, l1_4⟩ A1_1 c1_1 A1_3 c1_3 A1_4 c1_4 a2_0 a2_1 a2_2 w hr0_1 hc0_1 hr0_2 hr1_1 hc1_1 hr1_3 hc1_3 hr1_4 hc1_4 h1 h2 h3 h4 hr0_0.2.1 hr0_3.2.1 hL_
  · cases h
end Go.Proofs.YthdlocigijiobaaDoor.Given
end
