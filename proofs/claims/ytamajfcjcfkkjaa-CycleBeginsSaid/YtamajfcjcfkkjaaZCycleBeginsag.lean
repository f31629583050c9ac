/- cycle.Begin's contract, in the print's form. -/
import Derived.Laws.CopyOwn
import Derived.Test.YtamajfcjcfkkjaaZCycleBeginsab
import Derived.Test.YtamajfcjcfkkjaaZCycleBeginsac
import Derived.Test.YtamajfcjcfkkjaaZCycleBeginsae
import Derived.Test.YtamajfcjcfkkjaaZCycleBeginsaf
section
/- Printed by a program of this session (wip/pg.py, over the print of the kit): functions, their Lean twins, and the proofs that the calls come to them; each under the conditions that it names. -/
namespace Go.Proofs.Ytamajfcjcfkkjaa.PSt
open Go.RowKit Go.Proofs.YtamajfcjcfkkjaaW.PrintWords Go.Proofs.YtamajfcjcfkkjaaW.PrintLast Go.Proofs.YtamajfcjcfkkjaaW.PrintMore
attribute [local go_sem] max2_int min2_int max_two min_two max_three min_three max_four min_four   -- for this text's walks alone
set_option linter.unusedVariables false
set_option linter.unusedSimpArgs false

/-! ### state_Fits: function 25 -/
mutual
def state_Fits.j0 : Nat → List (S60) → Bool → List (List Int) → List (S69) → Int → Int → Option (Bool)
  | 0, _, _, _, _, _, _ => none
  | k + 1, x0, x44, x274000, x274001, x274002, x274003 => if x44 = true then (some false) else (state_Fits.l0 k x0 (x0.length : Int) 0 x274000 x274001 x274002 x274003)
def state_Fits.l0 : Nat → List (S60) → Int → Int → List (List Int) → List (S69) → Int → Int → Option (Bool)
  | 0, _, _, _, _, _, _, _ => none
  | k + 1, x45, x46, x47, x274000, x274001, x274002, x274003 => if x47 < x46 then (if 0 ≤ x47 then (if x47 < (x45.length : Int) then (if x47 < (x274000.length : Int) then (if ((rd_L1 x274000 x47).length : Int) = ((rd_T60 x45 x47).f2) then (state_Fits.l1 k x45 x46 x47 (rd_L1 x274000 x47) ((rd_L1 x274000 x47).length : Int) 0 x274000 x274001 x274002 x274003 ((rd_T60 x45 x47).f0) ((rd_T60 x45 x47).f1) ((rd_T60 x45 x47).f2) ((rd_T60 x45 x47).f3) ((rd_T60 x45 x47).f4)) else (some false)) else (none)) else (none)) else (none)) else (some true)
def state_Fits.l1 : Nat → List (S60) → Int → Int → List Int → Int → Int → List (List Int) → List (S69) → Int → Int → ByteArray → Int → Int → Int → Int → Option (Bool)
  | 0, _, _, _, _, _, _, _, _, _, _, _, _, _, _, _ => none
  | k + 1, x45, x46, x47, x65, x66, x67, x274000, x274001, x274002, x274003, x276000, x276001, x276002, x276003, x276004 => if x67 < x66 then (if 0 ≤ x67 then (if x67 < (x65.length : Int) then ((kind_In.f x276001 (rd x65 x67)).bind fun t279 => (if t279 = true then (state_Fits.l1 k x45 x46 x47 x65 x66 (wrap64 (x67 + 1)) x274000 x274001 x274002 x274003 x276000 x276001 x276002 x276003 x276004) else (some false))) else (none)) else (none)) else (state_Fits.l0 k x45 x46 (wrap64 (x47 + 1)) x274000 x274001 x274002 x274003)
end
def state_Fits.f (k : Nat) (l0 : List (S60)) (l1 : List (S62)) (l2_0 : List (List Int)) (l2_1 : List (S69)) (a2_2 : Int) (a2_3 : Int) : Option (Bool) := if (l2_0.length : Int) = (l0.length : Int) then (if (l2_1.length : Int) = (l1.length : Int) then (if a2_2 < 0 then (state_Fits.j0 k l0 true l2_0 l2_1 a2_2 a2_3) else (if a2_2 > 1099511627776 then (state_Fits.j0 k l0 true l2_0 l2_1 a2_2 a2_3) else (if a2_3 < 0 then (state_Fits.j0 k l0 true l2_0 l2_1 a2_2 a2_3) else (state_Fits.j0 k l0 (decide (a2_3 > 3)) l2_0 l2_1 a2_2 a2_3)))) else (state_Fits.j0 k l0 true l2_0 l2_1 a2_2 a2_3)) else (state_Fits.j0 k l0 true l2_0 l2_1 a2_2 a2_3)
/-! ### ladderbackref01_Right: function 39 -/
def ladderbackref01_Right.f (a0 : Int) : Option (Bool) := if a0 > 0 then (some (decide (a0 < 7))) else (some false)
set_option maxHeartbeats 8000000 in
set_option maxRecDepth 100000 in
theorem ladderbackref01_Right.calls (a0 : Int) (r : Bool) (w : World) (h : ladderbackref01_Right.f a0 = some r) :
    Calls Try.prog 39 #[.int .i64 a0] w fun e w' => e = .returned (.bool r) ∧ Drawn0 w w' := by
  have H : (if a0 > 0 then (some (decide (a0 < 7))) else (some false)) = some r := h
  clear h
  by_cases c2 : a0 > 0
  · rw [if_pos c2] at H
    have c2b0 : decide (0 < a0) = true := decide_eq_true c2
    clear c2
    obtain rfl := Option.some.inj H
    go_enter Try.func39, Try.ntmps39
    go_wp2
    go_ret
    exact ⟨by first | rfl | (simp; done) | (simp [*]; done), by repeat (first | exact Drawn0.refl _ | apply Drawn0.step)⟩
  · rw [if_neg c2] at H
    have c2b0 : decide (0 < a0) = false := decide_eq_false c2
    clear c2
    obtain rfl := Option.some.inj H
    go_enter Try.func39, Try.ntmps39
    go_wp2
    go_ret
    exact ⟨by first | rfl | (simp; done) | (simp [*]; done), by repeat (first | exact Drawn0.refl _ | apply Drawn0.step)⟩

/-! ### ladderbackref01_High: function 44 -/
def ladderbackref01_High.f (a0 : Int) : Option (Int) := if a0 = 1 then (some 1) else (if a0 = 2 then (some 32767) else (if a0 = 3 then (some 2147483647) else (if a0 = 4 then (some 65535) else (some 4294967295))))
set_option maxHeartbeats 8000000 in
set_option maxRecDepth 100000 in
theorem ladderbackref01_High.calls (a0 : Int) (r : Int) (w : World) (h : ladderbackref01_High.f a0 = some r) :
    Calls Try.prog 44 #[.int .i64 a0] w fun e w' => e = .returned (.int .i64 r) ∧ Drawn0 w w' := by
  have H : (if a0 = 1 then (some 1) else (if a0 = 2 then (some 32767) else (if a0 = 3 then (some 2147483647) else (if a0 = 4 then (some 65535) else (some 4294967295))))) = some r := h
  clear h
  by_cases c2 : a0 = 1
  · rw [if_pos c2] at H
    have c2b0 : (a0 == 1) = true := beq_iff_eq.mpr c2
    have c2b1 : (a0 != 1) = false := bne_eq_false_iff_eq.mpr c2
    clear c2
    obtain rfl := Option.some.inj H
    go_enter Try.func44, Try.ntmps44
    go_wp2
    go_ret
    exact ⟨by first | rfl | (simp; done) | (simp [*]; done), by repeat (first | exact Drawn0.refl _ | apply Drawn0.step)⟩
  · rw [if_neg c2] at H
    have c2b0 : (a0 == 1) = false := beq_eq_false_iff_ne.mpr c2
    have c2b1 : (a0 != 1) = true := bne_iff_ne.mpr c2
    by_cases c3 : a0 = 2
    · rw [if_pos c3] at H
      have c3b0 : (a0 == 2) = true := beq_iff_eq.mpr c3
      have c3b1 : (a0 != 2) = false := bne_eq_false_iff_eq.mpr c3
      clear c3
      obtain rfl := Option.some.inj H
      go_enter Try.func44, Try.ntmps44
      go_wp2
      go_ret
      exact ⟨by first | rfl | (simp; done) | (simp [*]; done), by repeat (first | exact Drawn0.refl _ | apply Drawn0.step)⟩
    · rw [if_neg c3] at H
      have c3b0 : (a0 == 2) = false := beq_eq_false_iff_ne.mpr c3
      have c3b1 : (a0 != 2) = true := bne_iff_ne.mpr c3
      by_cases c4 : a0 = 3
      · rw [if_pos c4] at H
        have c4b0 : (a0 == 3) = true := beq_iff_eq.mpr c4
        have c4b1 : (a0 != 3) = false := bne_eq_false_iff_eq.mpr c4
        clear c4
        obtain rfl := Option.some.inj H
        go_enter Try.func44, Try.ntmps44
        go_wp2
        go_ret
        exact ⟨by first | rfl | (simp; done) | (simp [*]; done), by repeat (first | exact Drawn0.refl _ | apply Drawn0.step)⟩
      · rw [if_neg c4] at H
        have c4b0 : (a0 == 3) = false := beq_eq_false_iff_ne.mpr c4
        have c4b1 : (a0 != 3) = true := bne_iff_ne.mpr c4
        by_cases c5 : a0 = 4
        · rw [if_pos c5] at H
          have c5b0 : (a0 == 4) = true := beq_iff_eq.mpr c5
          have c5b1 : (a0 != 4) = false := bne_eq_false_iff_eq.mpr c5
          clear c5
          obtain rfl := Option.some.inj H
          go_enter Try.func44, Try.ntmps44
          go_wp2
          go_ret
          exact ⟨by first | rfl | (simp; done) | (simp [*]; done), by repeat (first | exact Drawn0.refl _ | apply Drawn0.step)⟩
        · rw [if_neg c5] at H
          have c5b0 : (a0 == 4) = false := beq_eq_false_iff_ne.mpr c5
          have c5b1 : (a0 != 4) = true := bne_iff_ne.mpr c5
          obtain rfl := Option.some.inj H
          go_enter Try.func44, Try.ntmps44
          go_wp2
          go_ret
          exact ⟨by first | rfl | (simp; done) | (simp [*]; done), by repeat (first | exact Drawn0.refl _ | apply Drawn0.step)⟩

/-! ### ladderbackref01_Low: function 45 -/
def ladderbackref01_Low.f (a0 : Int) : Option (Int) := if a0 = 2 then (some (-32768)) else (if a0 = 3 then (some (-2147483648)) else (some 0))
set_option maxHeartbeats 8000000 in
set_option maxRecDepth 100000 in
theorem ladderbackref01_Low.calls (a0 : Int) (r : Int) (w : World) (h : ladderbackref01_Low.f a0 = some r) :
    Calls Try.prog 45 #[.int .i64 a0] w fun e w' => e = .returned (.int .i64 r) ∧ Drawn0 w w' := by
  have H : (if a0 = 2 then (some (-32768)) else (if a0 = 3 then (some (-2147483648)) else (some 0))) = some r := h
  clear h
  by_cases c2 : a0 = 2
  · rw [if_pos c2] at H
    have c2b0 : (a0 == 2) = true := beq_iff_eq.mpr c2
    have c2b1 : (a0 != 2) = false := bne_eq_false_iff_eq.mpr c2
    clear c2
    obtain rfl := Option.some.inj H
    go_enter Try.func45, Try.ntmps45
    go_wp2
    go_ret
    exact ⟨by first | rfl | (simp; done) | (simp [*]; done), by repeat (first | exact Drawn0.refl _ | apply Drawn0.step)⟩
  · rw [if_neg c2] at H
    have c2b0 : (a0 == 2) = false := beq_eq_false_iff_ne.mpr c2
    have c2b1 : (a0 != 2) = true := bne_iff_ne.mpr c2
    by_cases c3 : a0 = 3
    · rw [if_pos c3] at H
      have c3b0 : (a0 == 3) = true := beq_iff_eq.mpr c3
      have c3b1 : (a0 != 3) = false := bne_eq_false_iff_eq.mpr c3
      clear c3
      obtain rfl := Option.some.inj H
      go_enter Try.func45, Try.ntmps45
      go_wp2
      go_ret
      exact ⟨by first | rfl | (simp; done) | (simp [*]; done), by repeat (first | exact Drawn0.refl _ | apply Drawn0.step)⟩
    · rw [if_neg c3] at H
      have c3b0 : (a0 == 3) = false := beq_eq_false_iff_ne.mpr c3
      have c3b1 : (a0 != 3) = true := bne_iff_ne.mpr c3
      obtain rfl := Option.some.inj H
      go_enter Try.func45, Try.ntmps45
      go_wp2
      go_ret
      exact ⟨by first | rfl | (simp; done) | (simp [*]; done), by repeat (first | exact Drawn0.refl _ | apply Drawn0.step)⟩

/-! ### ladderbackref01_In: function 40 -/
def ladderbackref01_In.f (a0 : Int) (a1 : Int) : Option (Bool) := if a0 = 6 then (some true) else ((ladderbackref01_Right.f a0).bind fun t280 => (if t280 = true then ((ladderbackref01_Low.f a0).bind fun t281 => (if a1 ≥ t281 then ((ladderbackref01_High.f a0).bind fun t282 => (some (decide (a1 ≤ t282)))) else (some false))) else (some false)))
end Go.Proofs.Ytamajfcjcfkkjaa.PSt
end

section
/- Whether a number is a value of a type, as the program and the document tell it. -/
namespace Go.Proofs.Ytamajfcjcfkkjaa.RPure
open Go.RowKit Go.Proofs.Ytamajfcjcfkkjaa.PSt Go.Proofs.YtamajfcjcfkkjaaW.PrintWords Go.Proofs.YtamajfcjcfkkjaaW.PrintLast Go.Proofs.YtamajfcjcfkkjaaW.PrintMore
set_option linter.unusedVariables false
set_option linter.unusedSimpArgs false
/-- Is n a value of type t? -/
def inF (t n : Int) : Bool :=
  if t = 1 then decide (0 ≤ n ∧ n ≤ 1) else if t = 2 then decide (-32768 ≤ n ∧ n ≤ 32767) else if t = 3 then decide (-2147483648 ≤ n ∧ n ≤ 2147483647) else
  if t = 4 then decide (0 ≤ n ∧ n ≤ 65535) else if t = 5 then decide (0 ≤ n ∧ n ≤ 4294967295) else decide (t = 6)
end Go.Proofs.Ytamajfcjcfkkjaa.RPure
end

section
/- A region that draws its order: each operation by itself, whatever order comes up; no conditions. -/
namespace Go.Proofs.Ytamajfcjcfkkjaa.Reg
open Go Go.RowKit Go.Proofs.YtamajfcjcfkkjaaW.PrintWords Go.Proofs.YtamajfcjcfkkjaaW.PrintLast
/-- What stands while a region's operations come up in whatever order. D: the slots that they fill; S: what each one's value is. -/
structure RegI (D : List (Option Tmp)) (S : Nat → World → Value → Prop) (a0 : Act) (w0 : World) (b : Nat → Bool) (a : Act) (w : World) : Prop where
  below : Below w0.heap.size w0 w
  defers : a.defers = a0.defers
  size : a.tmps.size = a0.tmps.size
  elder : ∀ t, some t ∉ D → a.tmps[t]? = a0.tmps[t]?
  vals : ∀ (i : Nat) (t : Tmp), D[i]? = some (some t) → b i = true → ∃ v, a.tmps[t]? = some v ∧ S i w v
/-- Operation i, all that it waits for having come up. -/
def RStep (P : Program) (ops : Array Oper) (Q : Exit → Act → World → Prop) (B : List Nat) (D : List (Option Tmp)) (S : Nat → World → Value → Prop) (a0 : Act) (w0 : World) (i : Nat) : Prop :=
  ∀ a w, Below w0.heap.size w0 w → a.tmps.size = a0.tmps.size → (∀ t, some t ∉ D → a.tmps[t]? = a0.tmps[t]?) →
    (∀ (j : Nat) (t : Tmp), (B.getD i 0).testBit j = true → D[j]? = some (some t) → ∃ v, a.tmps[t]? = some v ∧ S j w v) →
    ∃ oi, ops[i]? = some oi ∧ ∀ K : Act → World → Prop, Shut (∀ v w', Below w.heap.size w w' → S i w' v → K (a.put oi.dst v) w') →
      if Region.wanted oi (yielded ops a.tmps) = true then Oper.wp P oi a w K Q else K (a.put oi.dst undef) w
theorem distinct {D : List (Option Tmp)} (h : (D.filterMap id).Nodup) : ∀ {i j : Nat} {t : Tmp}, D[i]? = some (some t) → D[j]? = some (some t) → i = j := by
  induction D with
  | nil => intro i j t hi; simp at hi
  | cons d D ih =>
    intro i j t hi hj
    have mem : ∀ {k : Nat}, D[k]? = some (some t) → t ∈ D.filterMap id := fun {k} hk => List.mem_filterMap.2 ⟨some t, List.mem_of_getElem? hk, rfl⟩
    cases d with
    | none =>
      have h' : (D.filterMap id).Nodup := by simpa using h
      cases i with
      | zero => simp at hi
      | succ i =>
        cases j with
        | zero => simp at hj
        | succ j => exact congrArg (· + 1) (ih h' (by simpa using hi) (by simpa using hj))
    | some u =>
      have h' : u ∉ D.filterMap id ∧ (D.filterMap id).Nodup := by simpa using h
      cases i with
      | zero =>
        cases j with
        | zero => rfl
        | succ j =>
          have hu : u = t := by simpa using hi
          subst hu
          exact absurd (mem (by simpa using hj)) h'.1
      | succ i =>
        cases j with
        | zero =>
          have hu : u = t := by simpa using hj
          subst hu
          exact absurd (mem (by simpa using hi)) h'.1
        | succ j => exact congrArg (· + 1) (ih h'.2 (by simpa using hi) (by simpa using hj))
/-- Is each of a list of specifications kept as the world grows? -/
def MonoS (s : World → Value → Prop) : Prop := ∀ w1 w2 v, Below w1.heap.size w1 w2 → s w1 v → s w2 v
/-- A value is a slice that holds these. -/
def Rs {α : Type} (d : Kd α) (w : World) (v : Value) (xs : List α) : Prop := ∃ A c, v = .slice A xs.length c ∧ xs.length ≤ c ∧ d.C w A xs.length xs
end Go.Proofs.Ytamajfcjcfkkjaa.Reg
end

section
/- A region that draws its order, some of whose calls turn blocks in memory one after the other; no conditions. -/
namespace Go.Proofs.Ytamajfcjcfkkjaa.Reg
open Go Go.RowKit Go.Proofs.YtamajfcjcfkkjaaW.PrintWords Go.Proofs.YtamajfcjcfkkjaaW.PrintLast
/-- All blocks stay but these. -/
def KeepL (gs : List Nat) (w w' : World) : Prop := w.heap.size ≤ w'.heap.size ∧ ∀ i, i < w.heap.size → i ∉ gs → w'.heap[i]? = w.heap[i]?
theorem KeepL.of_below (gs : List Nat) {w w' : World} (h : Below w.heap.size w w') : KeepL gs w w' := ⟨h.size, fun i hi _ => h.block i hi⟩
/-- What stands of the world, by the last of the calls that has come up (the latest call first). -/
def Zc : List (Nat × (World → Prop)) → (World → Prop) → (Nat → Bool) → World → Prop
  | [], z0, _, w => z0 w
  | (c, z) :: l, z0, b, w => if b c = true then z w else Zc l z0 b w
def MonoZ (z : World → Prop) : Prop := ∀ w1 w2, Below w1.heap.size w1 w2 → z w1 → z w2
theorem monoZ_nil : ∀ c ∈ ([] : List (Nat × (World → Prop))), MonoZ c.2 := fun _ h => by cases h
theorem monoZ_cons {c : Nat × (World → Prop)} {l : List (Nat × (World → Prop))} (h : MonoZ c.2) (hs : ∀ t ∈ l, MonoZ t.2) : ∀ t ∈ c :: l, MonoZ t.2 := fun t ht => by
  rcases List.mem_cons.1 ht with rfl | ht
  · exact h
  · exact hs t ht
theorem Zc.step {l : List (Nat × (World → Prop))} {z0 : World → Prop} (hz0 : MonoZ z0) {b : Nat → Bool} {i : Nat} {w w' : World} (hb : Below w.heap.size w w') : ∀ (_ : ∀ c ∈ l, MonoZ c.2) (_ : ∀ c ∈ l, c.1 ≠ i), Zc l z0 b w → Zc l z0 (up b i) w' := by
  induction l with
  | nil => intro _ _ h; exact hz0 w w' hb h
  | cons c l ih =>
    intro hm hne h
    obtain ⟨c, z⟩ := c
    unfold Zc at h ⊢
    rw [up_ne (hne (c, z) (by simp))]
    split
    · rename_i hc
      rw [if_pos hc] at h
      exact hm (c, z) (by simp) w w' hb h
    · rename_i hc
      rw [if_neg hc] at h
      exact ih (fun t ht => hm t (by simp [ht])) (fun t ht => hne t (by simp [ht])) h
theorem ne_chain {l : List (Nat × (World → Prop))} {i : Nat} (h : (l.map (·.1)).contains i = false) : ∀ c ∈ l, c.1 ≠ i := fun c hc e => by
  have : (l.map (·.1)).contains i = true := by
    rw [List.contains_iff_mem]
    exact List.mem_map.2 ⟨c, hc, e⟩
  rw [this] at h
  cases h
theorem Zc.drew {l : List (Nat × (World → Prop))} {z0 : World → Prop} {w : World} (h : ∀ m, z0 (w.drewN m)) (m : Nat) : Zc l z0 (fun _ => false) (w.drewN m) := by
  induction l with
  | nil => exact h m
  | cons c l ih => unfold Zc; rw [if_neg (by simp)]; exact ih
structure RegZ (D : List (Option Tmp)) (S : Nat → World → Value → Prop) (Z : (Nat → Bool) → World → Prop) (a0 : Act) (wb : World) (b : Nat → Bool) (a : Act) (w : World) : Prop where
  below : Below wb.heap.size wb w
  z : Z b w
  defers : a.defers = a0.defers
  size : a.tmps.size = a0.tmps.size
  elder : ∀ t, some t ∉ D → a.tmps[t]? = a0.tmps[t]?
  vals : ∀ (i : Nat) (t : Tmp), D[i]? = some (some t) → b i = true → ∃ v, a.tmps[t]? = some v ∧ S i w v
def ZStep (P : Program) (ops : Array Oper) (Q : Exit → Act → World → Prop) (B : List Nat) (D : List (Option Tmp)) (S : Nat → World → Value → Prop) (Z : (Nat → Bool) → World → Prop) (gs : List Nat) (a0 : Act) (wb : World) (i : Nat) : Prop :=
  ∀ b a w, Below wb.heap.size wb w → Z b w → a.tmps.size = a0.tmps.size → (∀ t, some t ∉ D → a.tmps[t]? = a0.tmps[t]?) → b i = false →
    (∀ j, ((List.range ops.size).contains j && (B.getD i 0).testBit j) = true → b j = true) → (∀ d, ((List.range ops.size).contains d && (B.getD d 0).testBit i) = true → b d = false) →
    (∀ (j : Nat) (t : Tmp), (B.getD i 0).testBit j = true → D[j]? = some (some t) → ∃ v, a.tmps[t]? = some v ∧ S j w v) →
    ∃ oi, ops[i]? = some oi ∧ ∀ K : Act → World → Prop, Shut (∀ v w', Below wb.heap.size wb w' → KeepL gs w w' → Z (up b i) w' → S i w' v → K (a.put oi.dst v) w') →
      if Region.wanted oi (yielded ops a.tmps) = true then Oper.wp P oi a w K Q else K (a.put oi.dst undef) w
theorem ZStep.of_r {P : Program} {ops : Array Oper} {Q : Exit → Act → World → Prop} {B : List Nat} {D : List (Option Tmp)} {S : Nat → World → Value → Prop} {l : List (Nat × (World → Prop))} {z0 : World → Prop} {gs : List Nat} {a0 : Act} {wb : World} {i : Nat}
    (hz0 : MonoZ z0) (hm : ∀ c ∈ l, MonoZ c.2) (hne : ∀ c ∈ l, c.1 ≠ i) (h : RStep P ops Q B D S a0 wb i) : ZStep P ops Q B D S (Zc l z0) gs a0 wb i := by
  intro b a w hb hz hs hel hi hup hoff hon
  obtain ⟨oi, hoi, hK⟩ := h a w hb hs hel hon
  exact ⟨oi, hoi, fun K hS => hK K (fun v w' hbw hsi => hS.out v w' (hb.trans (hbw.mono hb.size)) (KeepL.of_below gs hbw) (Zc.step hz0 hbw hm hne hz) hsi)⟩
theorem region_z {P : Program} {ops : Array Oper} {Q : Exit → Act → World → Prop} {id : Nat} {a0 : Act} {w0 : World} (D : List (Option Tmp)) (B : List Nat) (T : Bool × List (List Nat × List Nat)) (S : Nat → World → Value → Prop) (Z : (Nat → Bool) → World → Prop) (gs : List Nat) (wb : World)
    (hm : P.follows .mixedOrders = true) (hT : rtab .any ops = T) (hB : waitsOk T.2 B = true) (hk : baseOk T.2 (List.range ops.size) = true) (hD : ops.toList.map (·.dst) = D) (hd : (D.filterMap _root_.id).Nodup)
    (hsz : (D.filterMap _root_.id).all (fun t => Nat.blt t a0.tmps.size) = true) (hb0 : Below wb.heap.size wb w0) (hz0 : ∀ m, Z (fun _ => false) (w0.drewN m))
    (hmono : ∀ i w1 w2 v, KeepL gs w1 w2 → S i w1 v → S i w2 v) (O : List Nat) (hO : List.range ops.size = O) (hstep : ∀ i ∈ O, ZStep P ops Q B D S Z gs a0 wb i)
    (hend : ∀ a w, RegZ D S Z a0 wb (fun _ => true) a w → Q .normal a w) (hZt : ∀ b w, (∀ j, (List.range ops.size).contains j = true → b j = true) → Z b w → Z (fun _ => true) w) : (Code.region id ops true).wp P Q a0 w0 := by
  subst hO
  refine wp_region_last (S := fun _ => True) (ds := []) hm ?_
  have hl : T.2.length = ops.size := by rw [← hT]; exact rtab_length
  refine inv_ (T := T) (B := B) (List.range ops.size) (RegZ D S Z a0 wb) hT hB hk ?_ ?_ ?_ ?_
  · rw [hl]
    simp only [Bool.and_eq_true, beq_iff_eq, List.length_range, and_true]
    apply List.ext_getElem?
    intro j
    by_cases hj : j < ops.size
    · simp [lof, hj]
    · simp [lof, hj]
  · exact ⟨pw_below_drewN hb0 1, hz0 1, rfl, rfl, fun _ _ => rfl, fun _ _ _ h => by cases h⟩
  · intro i hi b a w hI hb hon hoff
    have hi' : i < ops.size := List.mem_range.1 hi
    obtain ⟨oi, hoi, hK⟩ := hstep i hi b a w hI.below hI.z hI.size hI.elder hb hon hoff (fun j t hj ht => by
      refine hI.vals j t ht (hon j ?_)
      rw [hj, Bool.and_true, List.contains_iff_mem, List.mem_range]
      have := (List.getElem?_eq_some_iff.1 ht).1
      rw [← hD] at this
      simpa using this)
    refine ⟨oi, hoi, fun K hS => hK K (fun v w' hbel hbw hz' hs => hS.out _ _ ?_)⟩
    have hDi : D[i]? = some oi.dst := by rw [← hD, List.getElem?_map, Array.getElem?_toList, hoi]; rfl
    refine ⟨hbel, hz', by cases oi.dst <;> simp [Act.put, hI.defers], by cases oi.dst <;> simp [Act.put, hI.size], fun t ht => ?_, fun j t hj hbj => ?_⟩
    · cases hdst : oi.dst with
      | none => simpa [Act.put] using hI.elder t ht
      | some u =>
        have hne : u ≠ t := by
          rintro rfl
          exact ht (List.mem_of_getElem? (by rw [hDi, hdst]))
        simp [Act.put, Array.getElem?_setIfInBounds_ne hne]
        exact hI.elder t ht
    · by_cases hji : j = i
      · subst hji
        rw [hDi] at hj
        injection hj with hj
        refine ⟨v, ?_, hs⟩
        rw [hj]
        have : t < a.tmps.size := by
          rw [hI.size]
          have h1 := List.all_eq_true.1 hsz t (List.mem_filterMap.2 ⟨some t, List.mem_of_getElem? (by rw [hDi, hj]), rfl⟩)
          simpa using h1
        simp [Act.put, this]
      · rw [up_ne hji] at hbj
        obtain ⟨x, hx, hsx⟩ := hI.vals j t hj hbj
        refine ⟨x, ?_, hmono _ _ _ _ hbw hsx⟩
        cases hdst : oi.dst with
        | none => simpa [Act.put] using hx
        | some u =>
          have hne : u ≠ t := by
            rintro rfl
            exact hji (distinct hd hj (by rw [hDi, hdst]))
          simp [Act.put, Array.getElem?_setIfInBounds_ne hne]
          exact hx
  · intro b a w hb hI
    exact hend a w ⟨hI.below, hZt b w hb hI.z, hI.defers, hI.size, hI.elder, fun i t hi _ => hI.vals i t hi (hb i (by
      rw [List.contains_iff_mem, List.mem_range]
      have := (List.getElem?_eq_some_iff.1 hi).1
      rw [← hD] at this
      simpa using this))⟩
theorem zs_nil {P : Program} {ops : Array Oper} {Q : Exit → Act → World → Prop} {B : List Nat} {D : List (Option Tmp)} {S : Nat → World → Value → Prop} {Z : (Nat → Bool) → World → Prop} {gs : List Nat} {a0 : Act} {wb : World} : ∀ i ∈ ([] : List Nat), ZStep P ops Q B D S Z gs a0 wb i := fun _ h => by cases h
theorem zs_cons {P : Program} {ops : Array Oper} {Q : Exit → Act → World → Prop} {B : List Nat} {D : List (Option Tmp)} {S : Nat → World → Value → Prop} {Z : (Nat → Bool) → World → Prop} {gs : List Nat} {a0 : Act} {wb : World} {i : Nat} {rs : List Nat} (h : ZStep P ops Q B D S Z gs a0 wb i) (hs : ∀ j ∈ rs, ZStep P ops Q B D S Z gs a0 wb j) : ∀ j ∈ i :: rs, ZStep P ops Q B D S Z gs a0 wb j := fun j hj => by
  rcases List.mem_cons.1 hj with rfl | hj
  · exact h
  · exact hs j hj
/-- Is a specification kept while all blocks stay but these? -/
def MonoL (gs : List Nat) (s : World → Value → Prop) : Prop := ∀ w1 w2 v, KeepL gs w1 w2 → s w1 v → s w2 v
theorem monoL_eq {gs : List Nat} (x : Value) : MonoL gs (fun _ v => v = x) := fun _ _ _ _ h => h
theorem monoL_nil {gs : List Nat} : ∀ s ∈ ([] : List (World → Value → Prop)), MonoL gs s := fun _ h => by cases h
theorem monoL_cons {gs : List Nat} {s : World → Value → Prop} {l : List (World → Value → Prop)} (h : MonoL gs s) (hs : ∀ t ∈ l, MonoL gs t) : ∀ t ∈ s :: l, MonoL gs t := fun t ht => by
  rcases List.mem_cons.1 ht with rfl | ht
  · exact h
  · exact hs t ht
theorem monoL_getD {gs : List Nat} {l : List (World → Value → Prop)} (h : ∀ s ∈ l, MonoL gs s) : ∀ i w1 w2 v, KeepL gs w1 w2 → l.getD i (fun _ _ => False) w1 v → l.getD i (fun _ _ => False) w2 v := by
  intro i w1 w2 v hb hs
  rw [List.getD_eq_getElem?_getD] at hs ⊢
  cases hi : l[i]? with
  | none => rw [hi] at hs; exact hs.elim
  | some s => rw [hi] at hs; exact h s (List.mem_of_getElem? hi) w1 w2 v hb hs
end Go.Proofs.Ytamajfcjcfkkjaa.Reg
end

section
/- cycle.Begin's next input, walked by hand. -/
namespace Go.Proofs.Ytamajfcjcfkkjaa.Given
open Go Go.RowKit Go.Proofs.Ytamajfcjcfkkjaa.PSt Go.Proofs.Ytamajfcjcfkkjaa.RPure Go.Proofs.YtamajfcjcfkkjaaW.PrintWords Go.Proofs.YtamajfcjcfkkjaaW.PrintLast Go.Proofs.YtamajfcjcfkkjaaW.PrintMore
set_option linter.unusedVariables false
set_option linter.unusedSimpArgs false
/-- The next input, and how many have gone. -/
def nextF (L : List Int) (n : Nat) : Int × Nat := if h : n < L.length then (L[n], n + 1) else (0, n)
theorem next_le {L : List Int} {n : Nat} (h : n ≤ L.length) : (nextF L n).2 ≤ L.length := by unfold nextF; split <;> simp <;> omega
def wrapF (t x : Int) : Int := (kind_Wrap.f t x).getD 0
theorem wrap_is (t x : Int) : kind_Wrap.f t x = some (wrapF t x) := by
  have : ∃ r, kind_Wrap.f t x = some r := by
    unfold kind_Wrap.f
    (repeat' split) <;> exact ⟨_, rfl⟩
  obtain ⟨r, hr⟩ := this
  unfold wrapF; rw [hr]; rfl
set_option maxHeartbeats 1000000 in
theorem next_c (L : List Int) (Ai : Option Addr) (ci : Nat) (n : Nat) (w : World) (p q : Nat) (h11 : w.heap[p]? = some (.cells #[.int .i64 n] 3 (0, 0))) (h6 : w.heap[q]? = some (.cells #[.slice Ai L.length ci] 32 (0, 0)))
    (hL : Kd.C (Kd.int .i64) w Ai L.length L) (hn : n ≤ L.length) (hpq : q ≠ p) (hLn : n < L.length → ∀ ad, Ai = some ad → ad.block ≠ p) :
    Calls Try.prog 33 #[.pointer (some ⟨p, 0, none⟩), .pointer (some ⟨q, 0, none⟩)] w fun e w' => e = .returned (.int .i64 (nextF L n).1) ∧ (w' = w ∧ (nextF L n).2 = n ∨ w' = w.setCell ⟨p, 0, none⟩ (.int .i64 ((nextF L n).2 : Nat))) := by
  have m0 := hL.2.1
  have k0 : w.cell? ⟨p, 0, none⟩ = some (.int .i64 n) := (blk_cell h11 0).trans rfl
  have k1 : w.cell? ⟨q, 0, none⟩ = some (.slice Ai L.length ci) := (blk_cell h6 0).trans rfl
  have fz := blk_frozen h11 0
  by_cases hlt : n < L.length
  · obtain ⟨ad, rfl, k2⟩ := Kd.at_int hL (n : Int) (by omega) (by omega)
    rw [Int.toNat_natCast, rdn L n hlt] at k2
    have hN : nextF L n = (L[n], n + 1) := by unfold nextF; rw [dif_pos hlt]
    rw [hN]
    simp only
    have hne := hLn hlt ad rfl
    have j0 : (w.setCell ⟨p, 0, none⟩ (.int .i64 ((n : Int) + 1))).cell? ⟨p, 0, none⟩ = some (.int .i64 ((n : Int) + 1)) := by
      have := blk_put (cs := #[.int .i64 n]) h11 0 (.int .i64 ((n : Int) + 1)) rfl
      exact (blk_cell this 0).trans rfl
    have j1 : (w.setCell ⟨p, 0, none⟩ (.int .i64 ((n : Int) + 1))).cell? ⟨q, 0, none⟩ = some (.slice (some ad) L.length ci) := (cell_far (p := ⟨p, 0, none⟩) hpq _).trans k1
    have j2 : (w.setCell ⟨p, 0, none⟩ (.int .i64 ((n : Int) + 1))).cell? (ad.add n) = some (.int .i64 L[n]) := (cell_far (p := ⟨p, 0, none⟩) (by rw [add_block]; exact hne) _).trans k2
    have hge : ¬ (n : Int) ≥ L.length := by omega
    clear k2 hN h11 h6 hL hLn hne
    go_enter Try.func33, Try.ntmps33
    go_wp2_with fail
    go_ret
    refine ⟨rfl, ?_⟩
    first | exact rfl | exact .inr rfl
  · have hN : nextF L n = (0, n) := by unfold nextF; rw [dif_neg hlt]
    rw [hN]
    simp only
    have hge : (n : Int) ≥ L.length := by omega
    go_enter Try.func33, Try.ntmps33
    go_wp2_with fail
    go_ret
    refine ⟨rfl, ?_⟩
    first | exact .inl ⟨rfl, trivial⟩ | exact .inl ⟨rfl, rfl⟩ | exact .inl rfl
end Go.Proofs.Ytamajfcjcfkkjaa.Given
end

section
/- Behind a region that draws: its frame written out, slot by slot. No conditions. -/
namespace Go.Proofs.Ytamajfcjcfkkjaa.Reg
open Go Go.RowKit Go.Proofs.YtamajfcjcfkkjaaW.PrintWords Go.Proofs.YtamajfcjcfkkjaaW.PrintLast
/-- The slots of D filled out of g. -/
def puts (g : Tmp → Value) : List (Option Tmp) → Act → Act
  | [], a => a
  | none :: D, a => puts g D a
  | some t :: D, a => puts g D (a.put (some t) (g t))
theorem puts_defers (g : Tmp → Value) : ∀ D a, (puts g D a).defers = a.defers
  | [], _ => rfl
  | none :: D, a => puts_defers g D a
  | some t :: D, a => (puts_defers g D _).trans (by simp [Act.put])
theorem puts_size (g : Tmp → Value) : ∀ D a, (puts g D a).tmps.size = a.tmps.size
  | [], _ => rfl
  | none :: D, a => puts_size g D a
  | some t :: D, a => (puts_size g D _).trans (by simp [Act.put])
theorem puts_out (g : Tmp → Value) : ∀ D a t, some t ∉ D → (puts g D a).tmps[t]? = a.tmps[t]?
  | [], _, _, _ => rfl
  | none :: D, a, t, h => puts_out g D a t (fun h' => h (List.mem_cons_of_mem _ h'))
  | some u :: D, a, t, h => by
    have hne : u ≠ t := fun e => h (by rw [e]; exact List.mem_cons_self)
    refine (puts_out g D _ t (fun h' => h (List.mem_cons_of_mem _ h'))).trans ?_
    simp [Act.put, Array.getElem?_setIfInBounds_ne hne]
theorem puts_in (g : Tmp → Value) : ∀ D a t, some t ∈ D → t < a.tmps.size → (puts g D a).tmps[t]? = some (g t)
  | [], _, _, h, _ => by cases h
  | none :: D, a, t, h, hs => puts_in g D a t (by simpa using h) hs
  | some u :: D, a, t, h, hs => by
    show (puts g D (a.put (some u) (g u))).tmps[t]? = some (g t)
    by_cases hD : some t ∈ D
    · exact puts_in g D _ t hD (by simpa [Act.put] using hs)
    · have hu : u = t := by
        rcases List.mem_cons.1 h with h | h
        · exact (Option.some.inj h).symm
        · exact absurd h hD
      subst hu
      rw [puts_out g D _ u hD]
      simp [Act.put, hs]
/-- The frame that the region leaves. -/
theorem RegI.frame {D : List (Option Tmp)} {S : Nat → World → Value → Prop} {a0 : Act} {w0 : World} {b : Nat → Bool} {a : Act} {w : World} (h : RegI D S a0 w0 b a w) : a = puts (fun t => a.tmps.getD t undef) D a0 := by
  have h1 : a.tmps = (puts (fun t => a.tmps.getD t undef) D a0).tmps := by
    apply Array.ext_getElem?
    intro t
    by_cases hD : some t ∈ D
    · by_cases hs : t < a0.tmps.size
      · rw [puts_in _ D a0 t hD hs]
        have hs' : t < a.tmps.size := by rw [h.size]; exact hs
        simp [Array.getD_eq_getD_getElem?, hs']
      · rw [Array.getElem?_eq_none (by rw [h.size]; omega), Array.getElem?_eq_none (by rw [puts_size]; omega)]
    · rw [puts_out _ D a0 t hD, h.elder t hD]
  have h2 : a.defers = (puts (fun t => a.tmps.getD t undef) D a0).defers := by rw [puts_defers, h.defers]
  generalize puts (fun t => a.tmps.getD t undef) D a0 = c at h1 h2
  cases a; cases c
  simp only at h1 h2
  rw [h1, h2]
theorem getD_of {a : Act} {t : Tmp} {v : Value} (h : a.tmps[t]? = some v) : a.tmps.getD t undef = v := by simp [Array.getD_eq_getD_getElem?, h]
end Go.Proofs.Ytamajfcjcfkkjaa.Reg
end

section
/- More words for regions that draw and store: steps that read, a call of a value, a store; no conditions. -/
namespace Go.Proofs.Ytamajfcjcfkkjaa.Reg
open Go Go.RowKit Go.Proofs.YtamajfcjcfkkjaaW.PrintWords Go.Proofs.YtamajfcjcfkkjaaW.PrintLast
theorem eval_tmp {a : Act} {t : Tmp} {v : Value} (h : a.tmps[t]? = some v) : a.eval (.tmp t) = v := by simp [Act.eval, Array.getD_eq_getD_getElem?, h]
theorem ZStep.of_f {P : Program} {ops : Array Oper} {Q : Exit → Act → World → Prop} {B : List Nat} {D : List (Option Tmp)} {S : Nat → World → Value → Prop} {l : List (Nat × (World → Prop))} {z0 F : World → Prop} {gs : List Nat} {a0 : Act} {wb : World} {i : Nat} (c : Nat)
    (hz0 : MonoZ z0) (hm : ∀ c ∈ l, MonoZ c.2) (hne : ∀ c ∈ l, c.1 ≠ i) (hF : ∀ b w, b c = false → Zc l z0 b w → F w) (hc : ((List.range ops.size).contains c && (B.getD c 0).testBit i) = true)
    (h : ∀ a w, F w → Below wb.heap.size wb w → a.tmps.size = a0.tmps.size → (∀ t, some t ∉ D → a.tmps[t]? = a0.tmps[t]?) →
      (∀ (j : Nat) (t : Tmp), (B.getD i 0).testBit j = true → D[j]? = some (some t) → ∃ v, a.tmps[t]? = some v ∧ S j w v) →
      ∃ oi, ops[i]? = some oi ∧ ∀ K : Act → World → Prop, Shut (∀ v w', Below w.heap.size w w' → S i w' v → K (a.put oi.dst v) w') →
        if Region.wanted oi (yielded ops a.tmps) = true then Oper.wp P oi a w K Q else K (a.put oi.dst undef) w) : ZStep P ops Q B D S (Zc l z0) gs a0 wb i := by
  intro b a w hb hz hs hel hi hup hoff hon
  obtain ⟨oi, hoi, hK⟩ := h a w (hF b w (hoff c hc) hz) hb hs hel hon
  exact ⟨oi, hoi, fun K hS => hK K (fun v w' hbw hsi => hS.out v w' (hb.trans (hbw.mono hb.size)) (KeepL.of_below gs hbw) (Zc.step hz0 hbw hm hne hz) hsi)⟩
theorem goesv_ {P : Program} {ops : Array Oper} {Q : Exit → Act → World → Prop} {oi : Oper} {N : Option Tmp} {a : Act} {w : World} {K : Act → World → Prop} {f : FuncId} {fn : Func} {t : Tmp} {ts : Array TypeId} (hf : P.funcs[f]? = some fn) (hname : (fn.name == "runtime.NumGoroutine") = false) (hb : fn.body.isSome = true) (caps : Array Value)
    (hw : Region.wanted oi (yielded ops a.tmps) = true) (hN : oi.dst = N) (hop : oi.op = .call { callee := .value (.tmp t), args := #[], argTypes := ts }) (hv : a.eval (.tmp t) = .func (.func f) #[] caps)
    (h : Calls P f caps w fun e w' => ∃ v, e = .returned v ∧ K (a.put N v) w') : if Region.wanted oi (yielded ops a.tmps) = true then Oper.wp P oi a w K Q else K (a.put N undef) w := by
  refine call_ f caps hw hN ?_ h
  have he := enters_ hf hname hb caps w
  unfold execOp
  simp [hop, resolve, Deferred.ofValue, invoke, hv, he]
theorem skipP_ {P : Program} {Q : Exit → Act → World → Prop} {oi : Oper} {a : Act} {w w1 : World} {K : Act → World → Prop} (hN : oi.dst = none) (hrun : (execOp a.eval oi).run P w = .ok .skip w1) (h : K a w1) : Oper.wp P oi a w K Q := by
  unfold Oper.wp
  rw [hrun]
  show K (a.put oi.dst undef) w1
  rw [hN]
  exact h
end Go.Proofs.Ytamajfcjcfkkjaa.Reg
end

section
/- What stands while cycle.Begin fills its rows. -/
namespace Go.Proofs.Ytamajfcjcfkkjaa.Given
open Go Go.RowKit Go.Proofs.Ytamajfcjcfkkjaa.PSt Go.Proofs.Ytamajfcjcfkkjaa.RPure Go.Proofs.YtamajfcjcfkkjaaW.PrintWords Go.Proofs.YtamajfcjcfkkjaaW.PrintLast Go.Proofs.YtamajfcjcfkkjaaW.PrintMore
set_option linter.unusedVariables false
set_option linter.unusedSimpArgs false
abbrev k32 := Kd.slice 3 (Kd.int .i64)
theorem below_both {W w : World} (hB : Below W.heap.size W w) {g t : Nat} {cs : Array Value} (hg : W.heap[g]? = some (.cells cs t (0, 0))) (i : Nat) (u : Value) : Below (W.setCell ⟨g, i, none⟩ u).heap.size (W.setCell ⟨g, i, none⟩ u) (w.setCell ⟨g, i, none⟩ u) := by
  have hs : (W.setCell ⟨g, i, none⟩ u).heap.size = W.heap.size := by simp [World.setCell]
  have hs2 : (w.setCell ⟨g, i, none⟩ u).heap.size = w.heap.size := by simp [World.setCell]
  refine ⟨hB.os, hB.tape, hB.output, by rw [hs, hs2]; exact hB.size, fun k hk => ?_⟩
  rw [hs] at hk
  by_cases e : k = g
  · subst e
    have h1 := blk_set hg i u
    have h2 := blk_set ((hB.block _ hk).trans hg) i u
    rw [h1, h2]
  · rw [Below.heap_setCell _ _ _ k e, Below.heap_setCell _ _ _ k e]
    exact hB.block k hk
theorem setCell_self {W : World} {g t i : Nat} {cs : Array Value} {u : Value} (hg : W.heap[g]? = some (.cells cs t (0, 0))) (hi : cs[i]? = some u) : Below W.heap.size (W.setCell ⟨g, i, none⟩ u) W := by
  have hs : (W.setCell ⟨g, i, none⟩ u).heap.size = W.heap.size := by simp [World.setCell]
  refine ⟨rfl, rfl, rfl, by rw [hs]; exact Nat.le_refl _, fun k hk => ?_⟩
  by_cases e : k = g
  · subst e
    rw [blk_set hg i u, hg]
    obtain ⟨h1, h2⟩ := Array.getElem?_eq_some_iff.1 hi
    subst h2
    rw [Array.setIfInBounds_def, dif_pos h1, Array.set_getElem_self]
  · rw [Below.heap_setCell _ _ _ k e]
theorem alloc_size (w : World) (o : Obj) : (w.alloc o).heap.size = w.heap.size + 1 := by show (w.heap.push o).size = _; exact Array.size_push ..
theorem alloc_get (w : World) (o : Obj) : (w.alloc o).heap[w.heap.size]? = some o := by show (w.heap.push o)[w.heap.size]? = _; exact Array.getElem?_push_size ..
theorem three (w : World) (o1 o2 o3 : Obj) : ∃ W0, W0 = ((w.alloc o1).alloc o2).alloc o3 ∧ W0.heap.size = w.heap.size + 3 ∧ Below w.heap.size w W0 ∧ W0.heap[w.heap.size]? = some o1 ∧ W0.heap[w.heap.size + 1]? = some o2 ∧ W0.heap[w.heap.size + 2]? = some o3 := by
  have z1 : (w.alloc o1).heap.size = w.heap.size + 1 := alloc_size _ _
  have z2 : ((w.alloc o1).alloc o2).heap.size = w.heap.size + 2 := by rw [alloc_size, alloc_size]
  have z3 : (((w.alloc o1).alloc o2).alloc o3).heap.size = w.heap.size + 3 := by rw [alloc_size, alloc_size, alloc_size]
  refine ⟨_, rfl, z3, (((Below.refl _ _).alloc (Nat.le_refl _) _).alloc (by omega) _).alloc (by omega) _, ?_, ?_, ?_⟩
  · rw [Below.heap_alloc _ _ _ (by omega), Below.heap_alloc _ _ _ (by omega)]; exact alloc_get _ _
  · rw [Below.heap_alloc _ _ _ (by omega), ← z1]; exact alloc_get _ _
  · rw [← z2]; exact alloc_get _ _
theorem row_new (w : World) (cs ds : Array Value) (t : TypeId) : ∃ W, W = (w.alloc (.cells cs t)).setRow w.heap.size ds ∧ Below w.heap.size w W ∧ W.heap[w.heap.size]? = some (.cells ds t (0, 0)) ∧ W.heap.size = w.heap.size + 1 := by
  have hz : ((w.alloc (.cells cs t)).setRow w.heap.size ds).heap.size = w.heap.size + 1 := by simp only [World.setRow, Array.size_modify]; exact alloc_size _ _
  have h2 : (w.alloc (.cells cs t)).heap[w.heap.size]? = some (.cells cs t (0, 0)) := alloc_get _ _
  exact ⟨_, rfl, below_setRow ((Below.refl _ _).alloc (Nat.le_refl _) _) (Nat.le_refl _) _, setRow_heap _ _ _ _ _ _ h2, hz⟩
structure BB (w : World) (Ai : Option Addr) (ci : Nat) (L : List Int) (v0 v1 : Value) (now f : Int) (B : LI) (b9 : Nat) (V : LL) (n : Nat) (W : World) : Prop where
  below : Below w.heap.size w W
  h6 : W.heap[w.heap.size + 1]? = some (.cells #[.slice Ai L.length ci] 32 (0, 0))
  h8 : W.heap[w.heap.size + 2]? = some (.cells #[.slice none 0 0, .slice none 0 0, .int .i64 0, .int .i64 0] 31 (0, 0))
  h9 : W.heap[b9]? = some (.cells #[v0, v1, .int .i64 now, .int .i64 f] 31 (0, 0))
  h11 : W.heap[b9 + 1]? = some (.cells #[.int .i64 (n : Int)] 3 (0, 0))
  s : Kd.S k32 32 W (w.heap.size + 3) (fun k => k < b9) v0 V
  r : Kd.R k69 69 W (w.heap.size + 3) (fun k => k < b9) v1 B
  lt : w.heap.size + 3 ≤ b9
  nle : n ≤ L.length
section
variable {w W W' : World} {Ai : Option Addr} {ci : Nat} {L : List Int} {v0 v1 : Value} {now f : Int} {B : LI} {b9 : Nat} {V : LL} {n : Nat}
theorem BB.step (h : BB w Ai ci L v0 v1 now f B b9 V n W) (hb : Below W.heap.size W W') : BB w Ai ci L v0 v1 now f B b9 V n W' :=
  ⟨h.below.trans (hb.mono h.below.size), (hb.block _ (blk_lt h.h6)).trans h.h6, (hb.block _ (blk_lt h.h8)).trans h.h8, (hb.block _ (blk_lt h.h9)).trans h.h9, (hb.block _ (blk_lt h.h11)).trans h.h11, Kd.S_below h.s hb, Kd.R_below h.r hb, h.lt, h.nle⟩
theorem BB.next (h : BB w Ai ci L v0 v1 now f B b9 V n W) (m : Nat) (hm : m ≤ L.length) : BB w Ai ci L v0 v1 now f B b9 V m (W.setCell ⟨b9 + 1, 0, none⟩ (.int .i64 (m : Int))) := by
  have hlt := h.lt
  exact ⟨h.below.setCell (by show w.heap.size ≤ b9 + 1; omega) _, blk_far h.h6 (by show _ ≠ b9 + 1; omega) _, blk_far h.h8 (by show _ ≠ b9 + 1; omega) _, blk_far h.h9 (by show _ ≠ b9 + 1; omega) _, blk_put h.h11 0 _ rfl, Kd.S_far h.s (fun k hk => by show k ≠ b9 + 1; omega) _, Kd.R_far h.r (fun k hk => by show k ≠ b9 + 1; omega) _, hlt, hm⟩
theorem BB.elem (h : BB w Ai ci L v0 v1 now f B b9 V n W) (i : Nat) (hi : i < V.length) (k : Nat) (hk : k < V[i].length) :
    ∃ ad c g c2 cells, v0 = .slice (some ad) V.length c ∧ W.cell? (ad.add i) = some (.slice (some ⟨g, 0, none⟩) V[i].length c2) ∧ w.heap.size + 3 ≤ g ∧ g < b9 ∧ w.heap.size + 3 ≤ ad.block ∧ ad.block < b9 ∧ ad.block ≠ g ∧ V[i].length ≤ c2 ∧
      W.heap[g]? = some (.cells cells 3 (0, 0)) ∧ W.cell? ⟨g, k, none⟩ = some (.int .i64 V[i][k]) ∧ ∀ x : Int, BB w Ai ci L v0 v1 now f B b9 (V.set i (V[i].set k x)) n (W.setCell ⟨g, k, none⟩ (.int .i64 x)) := by
  obtain ⟨g0, cap, rfl, hg0, hl0, cells0, hc0⟩ := Kd.S_form h.s (by omega)
  obtain ⟨oki, ce, hcl, hM, hcc, hok, hbk⟩ := Kd.S_borrow h.s [] (i : Int) (by omega) (by omega)
  have hx : V.getD (i : Int).toNat [] = V[i] := by rw [Int.toNat_natCast, List.getD_eq_getElem?_getD, List.getElem?_eq_getElem hi]; rfl
  rw [hx] at hM
  obtain ⟨ve, rfl, ge⟩ := hM
  obtain ⟨g, c2, rfl, hg, hgl, cells, hh⟩ := Kd.R_form ge (by omega)
  have hv := hcc 0 _ rfl
  rw [Nat.add_zero, show k32.sz = 1 from rfl, Nat.mul_one, Int.toNat_natCast] at hv
  have hgok := hok g (ge.1 _ rfl)
  have hne : g0 ≠ g := fun e => hgok.2 (by rw [e]; rfl)
  obtain ⟨hcell, _⟩ := Kd.R_celln (0 : Int) ge (k : Int) (by omega) (by omega)
  rw [Int.toNat_natCast] at hcell
  have hrd : rdOf (0 : Int) V[i] (k : Int) = V[i][k] := by unfold rdOf; rw [Int.toNat_natCast, List.getD_eq_getElem?_getD, List.getElem?_eq_getElem hk]; rfl
  rw [hrd] at hcell
  have hg0ok : g0 < b9 := h.s.elim fun _ hq => hq.1 g0 rfl
  have hlt := h.lt
  refine ⟨_, _, g, c2, cells, rfl, hv, hg, hgok.1, hg0, hg0ok, hne, (Kd.R_reads' ge).2.1, hh, hcell, fun x => ?_⟩
  have HP := Kd.R_putg ge (k : Int) x
  rw [Int.toNat_natCast] at HP
  refine ⟨h.below.setCell (by show w.heap.size ≤ g; omega) _, blk_far h.h6 (by show _ ≠ g; omega) _, blk_far h.h8 (by show _ ≠ g; omega) _, blk_far h.h9 (by show _ ≠ g; have := hgok.1; omega) _, blk_far h.h11 (by show _ ≠ g; have := hgok.1; omega) _, ?_, ?_, hlt, h.nle⟩
  · have := hbk HP.2 (fun k_ e_ => by injection e_ with e_; subst e_; exact ge.1 _ rfl) (Kd.M_row HP.1)
    rw [Int.toNat_natCast] at this
    exact this
  · exact Kd.R_set h.r hh (by decide) k _
end
theorem rdV (v : List S60) (i : Nat) (h : i < v.length) : rd_T60 v (i : Int) = v[i] := by unfold rd_T60; rw [Int.toNat_natCast, List.getD_eq_getElem?_getD, List.getElem?_eq_getElem h]; rfl
/-- A row's inputs. -/
def fillF (t : Int) (L : List Int) : Nat → List Int → List Int × Nat
  | n, [] => ([], n)
  | n, _ :: r => (wrapF t (nextF L n).1 :: (fillF t L (nextF L n).2 r).1, (fillF t L (nextF L n).2 r).2)
def beginV (L : List Int) : Nat → List S60 → LL → LL
  | n, x :: v, l :: V => if x.f3 = 1 then (fillF x.f1 L n l).1 :: beginV L (fillF x.f1 L n l).2 v V else l :: beginV L n v V
  | _, _, V => V
def nowF (n dt : Int) : Int := wrap64 (mn n (wrap64 (1099511627776 - mx 0 (mn dt 1099511627776))) + mx 0 (mn dt 1099511627776))
theorem beginV_nil (L : List Int) (n : Nat) (v : List S60) : beginV L n v [] = [] := by cases v <;> rfl
theorem beginV_end (L : List Int) (n : Nat) (V : LL) : beginV L n [] V = V := by cases V <;> rfl
def Inv (L : List Int) (v : List S60) (V : LL) (j : Nat) (V' : LL) (m : Nat) : Prop := V'.length = V.length ∧ beginV L 0 v V = V'.take j ++ beginV L m (v.drop j) (V'.drop j)
theorem Inv.start (L : List Int) (v : List S60) (V : LL) : Inv L v V 0 V 0 := ⟨rfl, rfl⟩
theorem Inv.last {L : List Int} {v : List S60} {V V' : LL} {m : Nat} (h : Inv L v V v.length V' m) : V' = beginV L 0 v V := by rw [h.2, List.drop_length, beginV_end, List.take_append_drop]
theorem Inv.skip {L : List Int} {v : List S60} {V V' : LL} {j m : Nat} (h : Inv L v V j V' m) (hj : j < v.length) (hs : v[j].f3 ≠ 1 ∨ V'.length ≤ j) : Inv L v V (j + 1) V' m := by
  refine ⟨h.1, h.2.trans ?_⟩
  by_cases hV : j < V'.length
  · rw [List.drop_eq_getElem_cons hj, List.drop_eq_getElem_cons hV, beginV, if_neg (hs.resolve_right (by omega)), List.take_add_one (l := V'), List.getElem?_eq_getElem hV, List.append_assoc]
    rfl
  · have e1 : V'.drop j = [] := List.drop_eq_nil_of_le (by omega)
    have e2 : V'.drop (j + 1) = [] := List.drop_eq_nil_of_le (by omega)
    rw [e1, e2, beginV_nil, beginV_nil, List.take_of_length_le (by omega), List.take_of_length_le (by omega)]
theorem Inv.fill {L : List Int} {v : List S60} {V V' : LL} {j m : Nat} (h : Inv L v V j V' m) (hj : j < v.length) (hV : j < V'.length) (hs : v[j].f3 = 1) {R : List Int} {q : Nat} (hf : fillF v[j].f1 L m V'[j] = (R, q)) : Inv L v V (j + 1) (V'.set j R) q := by
  refine ⟨by rw [List.length_set]; exact h.1, h.2.trans ?_⟩
  rw [List.drop_eq_getElem_cons hj, List.drop_eq_getElem_cons hV, beginV, if_pos hs, hf]
  rw [List.take_add_one, List.getElem?_set_self hV, List.take_set_of_le (Nat.le_refl _), List.drop_set_of_lt (by omega)]
  simp
def FInv (t : Int) (L : List Int) (m : Nat) (R0 : List Int) (k : Nat) (R : List Int) (q : Nat) : Prop := R.length = R0.length ∧ fillF t L m R0 = (R.take k ++ (fillF t L q (R.drop k)).1, (fillF t L q (R.drop k)).2)
theorem FInv.start (t : Int) (L : List Int) (m : Nat) (R0 : List Int) : FInv t L m R0 0 R0 m := ⟨rfl, rfl⟩
theorem FInv.last {t : Int} {L : List Int} {m q : Nat} {R0 R : List Int} (h : FInv t L m R0 R0.length R q) : fillF t L m R0 = (R, q) := by
  rw [h.2, ← h.1, List.drop_length, List.take_length]
  simp [fillF]
theorem FInv.step {t : Int} {L : List Int} {m q k : Nat} {R0 R : List Int} (h : FInv t L m R0 k R q) (hk : k < R.length) : FInv t L m R0 (k + 1) (R.set k (wrapF t (nextF L q).1)) (nextF L q).2 := by
  refine ⟨by rw [List.length_set]; exact h.1, h.2.trans ?_⟩
  rw [List.drop_eq_getElem_cons hk, fillF]
  rw [List.take_add_one, List.getElem?_set_self hk, List.take_set_of_le (Nat.le_refl _), List.drop_set_of_lt (by omega)]
  simp
section
variable {w W W' : World} {Ai : Option Addr} {ci : Nat} {L : List Int} {v0 v1 : Value} {now f : Int} {B : LI} {b9 : Nat} {V : LL} {n : Nat}
theorem BB.row {A2 : Option Addr} {N c2 : Nat} (h : BB w Ai ci L (.slice A2 N c2) v1 now f B b9 V n W) (i : Nat) (hi : i < V.length) : ∃ ad A0 c0, A2 = some ad ∧ W.cell? (ad.add i) = some (.slice A0 V[i].length c0) ∧ V[i].length ≤ 9223372036854775807 := by
  obtain ⟨rfl, _, hC⟩ := Kd.S_reads' h.s
  obtain ⟨ad, c, e, _, hK, hc⟩ := Kd.C_get hC [] (i : Int) (by omega) (by omega)
  rw [show V.getD (i : Int).toNat [] = V[i] by rw [Int.toNat_natCast, List.getD_eq_getElem?_getD, List.getElem?_eq_getElem hi]; rfl] at hK
  obtain ⟨A0, c0, rfl, l0, g0⟩ := hK
  refine ⟨ad, A0, c0, e, ?_, g0.2.1⟩
  have := hc 0 _ rfl
  rw [Int.toNat_natCast] at this
  simpa [Kd.slice] using this
theorem BB.len {A2 : Option Addr} {N c2 : Nat} (h : BB w Ai ci L (.slice A2 N c2) v1 now f B b9 V n W) : N = V.length := (Kd.S_reads' h.s).1
theorem BB.elem' {A2 : Option Addr} {N c2 : Nat} (h : BB w Ai ci L (.slice A2 N c2) v1 now f B b9 V n W) (i : Nat) (hi : i < V.length) (k : Nat) (hk : k < V[i].length) :
    ∃ ad g c3 cells, A2 = some ad ∧ W.cell? (ad.add i) = some (.slice (some ⟨g, 0, none⟩) V[i].length c3) ∧ w.heap.size + 3 ≤ g ∧ g < b9 ∧ w.heap.size + 3 ≤ ad.block ∧ ad.block < b9 ∧ ad.block ≠ g ∧ V[i].length ≤ c3 ∧
      W.heap[g]? = some (.cells cells 3 (0, 0)) ∧ W.cell? ⟨g, k, none⟩ = some (.int .i64 V[i][k]) ∧ ∀ x : Int, BB w Ai ci L (.slice A2 N c2) v1 now f B b9 (V.set i (V[i].set k x)) n (W.setCell ⟨g, k, none⟩ (.int .i64 x)) := by
  obtain ⟨ad, c, g, c3, cells, e, hr⟩ := h.elem i hi k hk
  injection e with e1 e2 e3
  exact ⟨ad, g, c3, cells, e1, hr⟩
end
theorem next_all {wo W0 : World} {Ai : Option Addr} {ci : Nat} {L : List Int} {v0 v1 : Value} {now f : Int} {B : LI} {b9 : Nat} {V : LL} {q : Nat} (h : BB wo Ai ci L v0 v1 now f B b9 V q W0) (GL : Kd.C (Kd.int .i64) wo Ai L.length L) (gs : List Nat) (hgs : b9 + 1 ∈ gs) (W : World) (hW : Below W0.heap.size W0 W) :
    Calls Try.prog 33 #[.pointer (some ⟨b9 + 1, 0, none⟩), .pointer (some ⟨wo.heap.size + 1, 0, none⟩)] W fun e w' => e = .returned (.int .i64 (nextF L q).1) ∧ Below wo.heap.size wo w' ∧ Reg.KeepL gs W w' ∧ Below (W0.setCell ⟨b9 + 1, 0, none⟩ (.int .i64 ((nextF L q).2 : Nat))).heap.size (W0.setCell ⟨b9 + 1, 0, none⟩ (.int .i64 ((nextF L q).2 : Nat))) w' := by
  have hlt := h.lt
  have h' := h.step hW
  refine (next_c L Ai ci q W (b9 + 1) (wo.heap.size + 1) h'.h11 h'.h6 (Kd.C_below GL h'.below) h.nle (by omega) ?_).mono ?_
  · rintro hq ad rfl
    obtain ⟨ad', e, k2⟩ := Kd.at_int GL (q : Int) (by omega) (by omega)
    obtain rfl : ad = ad' := Option.some.inj e
    have := World.block_lt_of_cell? wo _ k2
    rw [add_block] at this
    omega
  · rintro e w' ⟨rfl, ⟨rfl, hq⟩ | rfl⟩
    · refine ⟨rfl, h'.below, Reg.KeepL.of_below _ (Below.refl _ _), ?_⟩
      rw [hq]
      have hs : (W0.setCell ⟨b9 + 1, 0, none⟩ (.int .i64 (q : Int))).heap.size = W0.heap.size := by simp [World.setCell]
      rw [hs]
      exact (setCell_self h.h11 rfl).trans hW
    · refine ⟨rfl, h'.below.setCell (by show wo.heap.size ≤ b9 + 1; omega) _, ⟨by simp [World.setCell], fun i hi hn => Below.heap_setCell _ _ _ i (fun e => hn (by rw [e]; exact hgs))⟩, below_both hW h.h11 0 _⟩
end Go.Proofs.Ytamajfcjcfkkjaa.Given
end

section
/- cycle.Begin, walked by hand: any state at a scan's beginning, any inputs. -/
namespace Go.Proofs.Ytamajfcjcfkkjaa.Given
open Go Go.RowKit Go.Proofs.Ytamajfcjcfkkjaa.PSt Go.Proofs.Ytamajfcjcfkkjaa.RPure Go.Proofs.YtamajfcjcfkkjaaW.PrintWords Go.Proofs.YtamajfcjcfkkjaaW.PrintLast Go.Proofs.YtamajfcjcfkkjaaW.PrintMore
set_option linter.unusedVariables false
set_option linter.unusedSimpArgs false
theorem max2_mx (k k' : IntKind) (x y : Int) : Builtin.max2 (.int k x) (.int k' y) = pure (.int k (mx x y)) := max2_int k k' x y
theorem min2_mn (k k' : IntKind) (x y : Int) : Builtin.min2 (.int k x) (.int k' y) = pure (.int k (mn x y)) := min2_int k k' x y
attribute [local go_sem] max2_mx min2_mn max_two min_two max_three min_three max_four min_four
set_option maxHeartbeats 4000000 in
set_option maxRecDepth 100000 in
theorem begin_w (A0 A1 Av Ai : Option Addr) (c0 c1 cv ci : Nat) (v : List S60) (V : LL) (B : LI) (n f dt : Int) (L : List Int) (k : Nat) (wo : World)
    (gv : Kd.C k60 wo Av v.length v) (g0 : Kd.C (Kd.slice 3 (Kd.int .i64)) wo A0 V.length V) (l0 : V.length ≤ c0) (g1 : Kd.C k69 wo A1 B.length B) (l1 : B.length ≤ c1) (gL : Kd.C (Kd.int .i64) wo Ai L.length L) (hcl : state_Clone.f k V B n f = some (V, B, n, f)) :
    Calls Try.prog 13 #[.slice Av v.length cv, .agg #[.slice A0 V.length c0, .slice A1 B.length c1, .int .i64 n, .int .i64 f], .slice Ai L.length ci, .int .i64 dt] wo fun e w' => ∃ v0 v1 : Value, e = .returned (.agg #[v0, v1, .int .i64 (nowF n dt), .int .i64 f]) ∧ Kd.S (Kd.slice 3 (Kd.int .i64)) 32 w' wo.heap.size (fun _ => True) v0 (beginV L 0 v V) ∧ Kd.R k69 69 w' wo.heap.size (fun _ => True) v1 B ∧ Below wo.heap.size wo w' := by
  have hi4 : (Try.prog.info? 31).map (·.size) = some 4 := by kernel_rfl
  have hi5 : (Try.prog.info? 60).map (·.size) = some 5 := by kernel_rfl
  have mv := gv.2.1
  have CL := Aside0.mk (fun W (hb : Below wo.heap.size wo W) => state_Clone.calls k A0 c0 V A1 c1 B n f V B n f W (Kd.C_below g0 hb) l0 (Kd.C_below g1 hb) l1 hcl)
  have GV := Aside0.mk gv
  have GL := Aside0.mk gL
  clear gv g0 l0 g1 l1 gL hcl
  go_enter Try.func13, Try.ntmps13
  go_wp2_with fail
  obtain ⟨W0, hW0, s0, hB0, H5, H6, H8⟩ := three wo (.cells #[.slice A0 V.length c0, .slice A1 B.length c1, .int .i64 n, .int .i64 f] 31) (.cells #[.slice Ai L.length ci] 32) (.cells #[.slice none 0 0, .slice none 0 0, .int .i64 0, .int .i64 0] 31)
  rw [← hW0]
  clear hW0
  refine (CL.out W0 hB0).mono ?_
  rintro e w1 ⟨v0, v1, rfl, hS, hR, hb1⟩
  rw [s0] at hS hR hb1
  obtain ⟨A2, c2, rfl, _⟩ := Kd.S_reads hS
  obtain ⟨A3, c3, rfl, _⟩ := Kd.R_reads hR
  have hS1 := Kd.S_mono (ok' := fun k => k < w1.heap.size) (Kd.S_bound hS) (fun k hk => hk.2.2.1)
  have hR1 := Kd.R_mono (ok' := fun k => k < w1.heap.size) (Kd.R_bound hR) (fun k hk => hk.2.2.1)
  have T := Aside0.mk (show Below wo.heap.size wo w1 ∧ w1.heap[wo.heap.size]? = _ ∧ w1.heap[wo.heap.size + 1]? = _ ∧ w1.heap[wo.heap.size + 2]? = _ ∧ _ ∧ _ from ⟨hB0.trans (hb1.mono (by omega)), (hb1.block _ (by omega)).trans H5, (hb1.block _ (by omega)).trans H6, (hb1.block _ (by omega)).trans H8, hS1, hR1⟩)
  have hlt : wo.heap.size + 3 ≤ w1.heap.size := by rw [← s0]; exact hb1.size
  clear hS hR hS1 hR1 hb1 H5 H6 H8 hB0 s0 CL
  go_wp2_with ((with_reducible refine gate_store (t := 31) (p := 9) (v := .tmp 17) rfl ?_); refine wpList_store_row rfl 31 (.tmp 9) (.tmp 17) rfl w1.heap.size #[.slice A2 V.length c2, .slice A3 B.length c3, .int .i64 n, .int .i64 f] rfl rfl 31 _ (heap_alloc_new w1 _) (by rw [hi4]; rfl) rfl (by kernel_rfl) ?_; obtain ⟨W3, hw, hb, hn, hz⟩ := row_new w1 #[.slice none 0 0, .slice none 0 0, .int .i64 0, .int .i64 0] #[.slice A2 V.length c2, .slice A3 B.length c3, .int .i64 n, .int .i64 f] 31; rw [← hw]; have T3 := Aside0.mk (And.intro hb (And.intro hn hz)); have q2 : W3.cell? ⟨wo.heap.size, 2, none⟩ = some (.int .i64 n) := (blk_cell ((hb.block _ (blk_lt T.out.2.1)).trans T.out.2.1) 2).trans rfl; have q92 : W3.cell? ⟨w1.heap.size, 2, none⟩ = some (.int .i64 n) := (blk_cell hn 2).trans rfl; have f92 := blk_frozen hn 2; clear hb hn hz hw)
  have hz3 : W3.heap.size = w1.heap.size + 1 := T3.out.2.2
  simp only [hz3]
  obtain ⟨W4, hW4⟩ : ∃ W, W = (W3.setCell ⟨w1.heap.size, 2, none⟩ (.int .i64 (wrap64 (mn n (wrap64 (1099511627776 - mx 0 (mn dt 1099511627776))) + mx 0 (mn dt 1099511627776))))).alloc (.cells #[.int .i64 0] 3) := ⟨_, rfl⟩
  rw [← hW4]
  have HB0 : BB wo Ai ci L (.slice A2 V.length c2) (.slice A3 B.length c3) (nowF n dt) f B w1.heap.size V 0 W4 := by
    obtain ⟨t1, t2, t3, t4, t5, t6⟩ := T.out
    obtain ⟨u1, u2, u3⟩ := T3.out
    have hb3 : Below w1.heap.size w1 (W3.setCell ⟨w1.heap.size, 2, none⟩ (.int .i64 (nowF n dt))) := u1.setCell (Nat.le_refl _) _
    have hsz : (W3.setCell ⟨w1.heap.size, 2, none⟩ (.int .i64 (nowF n dt))).heap.size = w1.heap.size + 1 := by rw [← u3]; simp [World.setCell]
    have hb4 : Below w1.heap.size w1 W4 := by rw [hW4]; exact hb3.alloc (by show _ ≤ (W3.setCell ⟨w1.heap.size, 2, none⟩ (.int .i64 (nowF n dt))).heap.size; omega) _
    refine ⟨t1.trans (hb4.mono t1.size), (hb4.block _ (blk_lt t3)).trans t3, (hb4.block _ (blk_lt t4)).trans t4, ?_, ?_, Kd.S_below t5 hb4, Kd.R_below t6 hb4, hlt, Nat.zero_le _⟩
    · rw [hW4, Below.heap_alloc _ _ _ (by show _ < (W3.setCell ⟨w1.heap.size, 2, none⟩ (.int .i64 (nowF n dt))).heap.size; omega)]
      exact blk_put u2 2 _ rfl
    · rw [hW4, ← hsz]
      exact alloc_get _ _
  have HB := Aside0.mk HB0
  clear HB0 hW4 hz3 T T3 q2 q92 f92
  go_loopw [32] (fun x wr => ∃ (j : Nat) (V' : LL) (m : Nat), j ≤ v.length ∧ x = .int .i64 (j : Int) ∧ Aside0 (BB wo Ai ci L (.slice A2 V.length c2) (.slice A3 B.length c3) (nowF n dt) f B w1.heap.size V' m wr) ∧ Aside0 (Inv L v V j V' m)) (fun x _ => v.length - (intOf x).toNat)
  case atStart => exact ⟨0, V, 0, Nat.zero_le _, rfl, HB, ⟨Inv.start L v V⟩⟩
  case round =>
    clear HB
    obtain ⟨j, V', m, hj, rfl, HB, HI⟩ := hrel
    by_cases hjv : j < v.length
    · obtain ⟨ad, rfl, k0, k1, k2, k3, k4⟩ := at_T60 (Kd.C_below GV.out HB.out.below) (j : Int) (by omega) (by omega)
      rw [Int.toNat_natCast] at k0 k1 k2 k3 k4
      rw [rdV v j hjv] at k0 k1 k2 k3 k4
      obtain ⟨x, hx⟩ : ∃ x, x = v[j] := ⟨_, rfl⟩
      rw [← hx] at k0 k1 k2 k3 k4
      have HX := Aside0.mk hx
      clear hx
      have hlen : V'.length = V.length := HI.out.1
      have zs : (v.length : Int) = ((v.length : Nat) : Int) := rfl
      by_cases h3 : x.f3 = 1
      rotate_left
      · have H3 := Aside0.mk h3
        clear h3
        go_wp2_with ((with_reducible refine gate_store (t := 60) (p := 14) (v := .tmp 36) rfl ?_); refine wpList_store_row rfl 60 (.tmp 14) (.tmp 36) rfl wr.heap.size #[.string x.f0, .int .i64 x.f1, .int .i64 x.f2, .int .i64 x.f3, .int .i64 x.f4] rfl rfl 60 _ (heap_alloc_new wr _) (by rw [hi5]; rfl) rfl (by kernel_rfl) ?_; obtain ⟨W5, hw, hb, hn, hz⟩ := row_new wr #[.string ⟨#[]⟩, .int .i64 0, .int .i64 0, .int .i64 0, .int .i64 0] #[.string x.f0, .int .i64 x.f1, .int .i64 x.f2, .int .i64 x.f3, .int .i64 x.f4] 60; rw [← hw]; clear k0 k1 k2 k3 k4; have HB5 := Aside0.mk (HB.out.step hb); have H14 := Aside0.mk hn; have q3 : W5.cell? ⟨wr.heap.size, 3, none⟩ = some (.int .i64 x.f3) := (blk_cell hn 3).trans rfl; have q90 : W5.cell? ⟨w1.heap.size, 0, none⟩ = some (.slice A2 V.length c2) := (blk_cell HB5.out.h9 0).trans rfl; have h3 := H3.out; clear hb hn hz hw)
        refine ⟨⟨j + 1, V', m, by omega, by push_cast; rfl, HB5, ⟨HI.out.skip hjv (.inl (by rw [← HX.out]; exact h3))⟩⟩, ?_⟩
        rw [show intOf (.int .i64 ((j : Int) + 1)) = (j : Int) + 1 from rfl, show intOf (.int .i64 (j : Int)) = (j : Int) from rfl]
        omega
      have H3 := Aside0.mk h3
      clear h3
      by_cases hjV : j < V.length
      rotate_left
      · have hge : (j : Int) ≥ (V.length : Int) := by omega
        go_wp2_with ((with_reducible refine gate_store (t := 60) (p := 14) (v := .tmp 36) rfl ?_); refine wpList_store_row rfl 60 (.tmp 14) (.tmp 36) rfl wr.heap.size #[.string x.f0, .int .i64 x.f1, .int .i64 x.f2, .int .i64 x.f3, .int .i64 x.f4] rfl rfl 60 _ (heap_alloc_new wr _) (by rw [hi5]; rfl) rfl (by kernel_rfl) ?_; obtain ⟨W5, hw, hb, hn, hz⟩ := row_new wr #[.string ⟨#[]⟩, .int .i64 0, .int .i64 0, .int .i64 0, .int .i64 0] #[.string x.f0, .int .i64 x.f1, .int .i64 x.f2, .int .i64 x.f3, .int .i64 x.f4] 60; rw [← hw]; clear k0 k1 k2 k3 k4; have HB5 := Aside0.mk (HB.out.step hb); have H14 := Aside0.mk hn; have q3 : W5.cell? ⟨wr.heap.size, 3, none⟩ = some (.int .i64 x.f3) := (blk_cell hn 3).trans rfl; have q90 : W5.cell? ⟨w1.heap.size, 0, none⟩ = some (.slice A2 V.length c2) := (blk_cell HB5.out.h9 0).trans rfl; have h3 := H3.out; clear hb hn hz hw)
        refine ⟨⟨j + 1, V', m, by omega, by push_cast; rfl, HB5, ⟨HI.out.skip hjv (.inr (by omega))⟩⟩, ?_⟩
        rw [show intOf (.int .i64 ((j : Int) + 1)) = (j : Int) + 1 from rfl, show intOf (.int .i64 (j : Int)) = (j : Int) from rfl]
        omega
      have hge : ¬ ((j : Int) ≥ (V.length : Int)) := by omega
      obtain ⟨R0, hR0⟩ : ∃ R0, R0 = V'[j]'(by omega) := ⟨_, rfl⟩
      go_wp2_with ((with_reducible refine gate_store (t := 60) (p := 14) (v := .tmp 36) rfl ?_); refine wpList_store_row rfl 60 (.tmp 14) (.tmp 36) rfl wr.heap.size #[.string x.f0, .int .i64 x.f1, .int .i64 x.f2, .int .i64 x.f3, .int .i64 x.f4] rfl rfl 60 _ (heap_alloc_new wr _) (by rw [hi5]; rfl) rfl (by kernel_rfl) ?_; obtain ⟨W5, hw, hb, hn, hz⟩ := row_new wr #[.string ⟨#[]⟩, .int .i64 0, .int .i64 0, .int .i64 0, .int .i64 0] #[.string x.f0, .int .i64 x.f1, .int .i64 x.f2, .int .i64 x.f3, .int .i64 x.f4] 60; rw [← hw]; clear k0 k1 k2 k3 k4; have HB5 := Aside0.mk (HB.out.step hb); have H14 := Aside0.mk hn; have q3 : W5.cell? ⟨wr.heap.size, 3, none⟩ = some (.int .i64 x.f3) := (blk_cell hn 3).trans rfl; have q90 : W5.cell? ⟨w1.heap.size, 0, none⟩ = some (.slice A2 V.length c2) := (blk_cell HB5.out.h9 0).trans rfl; have h3 := H3.out; clear hb hn hz hw; obtain ⟨ad2, A0', c0', rfl, r0, mR⟩ := HB5.out.row j (by omega); rw [← hR0] at r0 mR; have HR0 := Aside0.mk hR0; clear hR0)
      clear r0 q3 q90 h3
      have hb14 : w1.heap.size + 1 < wr.heap.size := blk_lt HB.out.h11
      generalize wr.heap.size = b14 at hb14 H14 ⊢
      go_loopw [53] (fun y wr => ∃ (ix : Nat) (R : List Int) (q : Nat), ix ≤ R0.length ∧ y = .int .i64 (ix : Int) ∧ Aside0 (BB wo Ai ci L (.slice (some ad2) V.length c2) (.slice A3 B.length c3) (nowF n dt) f B w1.heap.size (V'.set j R) q wr) ∧ Aside0 (FInv x.f1 L m R0 ix R q) ∧ Aside0 (wr.heap[b14]? = some (.cells #[.string x.f0, .int .i64 x.f1, .int .i64 x.f2, .int .i64 x.f3, .int .i64 x.f4] 60 (0, 0)))) (fun y _ => R0.length - (intOf y).toNat)
      case atStart => exact ⟨0, R0, m, Nat.zero_le _, rfl, ⟨by rw [HR0.out, List.set_getElem_self]; exact HB5.out⟩, ⟨FInv.start _ _ _ _⟩, H14⟩
      case round =>
        clear HB5 H14
        obtain ⟨ix, R, q, hi, rfl, HB2, HF, H14⟩ := hrel
        by_cases hik : ix < R0.length
        · have hRl : R.length = R0.length := HF.out.1
          have hjs : j < (V'.set j R).length := by rw [List.length_set]; omega
          have hje : (V'.set j R)[j] = R := List.getElem_set_self hjs
          have hN := HB2.out.next (nextF L q).2 (next_le HB2.out.nle)
          obtain ⟨ad2', g, c4, cells, e2, hc, hg1, hg2, ha1, ha2, hne, hl4, hgh, hgc, hput⟩ := hN.elem' j hjs ix (by rw [hje]; omega)
          obtain rfl : ad2 = ad2' := Option.some.inj e2
          have hput2 := hput (wrapF x.f1 (nextF L q).1)
          rw [hje] at hc hl4 hput2
          rw [List.set_set] at hput2
          have hgb : w1.heap.size + 1 ≠ g := by omega
          obtain ⟨WR1, hWR1⟩ : ∃ W, W = wr.setCell ⟨w1.heap.size + 1, 0, none⟩ (.int .i64 ((nextF L q).2 : Int)) := ⟨_, rfl⟩
          rw [← hWR1] at hN hc hgh hgc hput hput2
          have z1 : WR1.heap.size = wr.heap.size := by rw [hWR1]; simp [World.setCell]
          obtain ⟨WR2, hWR2⟩ : ∃ W, W = WR1.setCell ⟨g, ix, none⟩ (.int .i64 (wrapF x.f1 (nextF L q).1)) := ⟨_, rfl⟩
          rw [← hWR2] at hput2
          have HP := Aside0.mk hput2
          have h14' : WR1.heap[b14]? = some (.cells #[.string x.f0, .int .i64 x.f1, .int .i64 x.f2, .int .i64 x.f3, .int .i64 x.f4] 60 (0, 0)) := by rw [hWR1]; exact blk_far H14.out (by show _ ≠ w1.heap.size + 1; omega) _
          have h14s : WR2.heap[b14]? = some (.cells #[.string x.f0, .int .i64 x.f1, .int .i64 x.f2, .int .i64 x.f3, .int .i64 x.f4] 60 (0, 0)) := by rw [hWR2]; exact blk_far h14' (by show _ ≠ g; omega) _
          have H14s := Aside0.mk h14s
          have hcF : wr.cell? (ad2.add j) = some (.slice (some ⟨g, 0, none⟩) R.length c4) := by rw [hWR1, cell_far (p := ⟨w1.heap.size + 1, 0, none⟩) (by rw [add_block]; show _ ≠ w1.heap.size + 1; omega)] at hc; exact hc
          have FA : (fun W_ : World => W_.cell? ⟨w1.heap.size, 0, none⟩ = some (.slice (some ad2) V.length c2) ∧ W_.cell? (ad2.add j) = some (.slice (some ⟨g, 0, none⟩) R.length c4) ∧ W_.cell? ⟨b14, 1, none⟩ = some (.int .i64 x.f1)) wr := ⟨(blk_cell HB2.out.h9 0).trans rfl, hcF, (blk_cell H14.out 1).trans rfl⟩
          have FB : (fun W_ : World => W_.cell? ⟨w1.heap.size, 0, none⟩ = some (.slice (some ad2) V.length c2) ∧ W_.cell? (ad2.add j) = some (.slice (some ⟨g, 0, none⟩) R.length c4) ∧ W_.cell? ⟨b14, 1, none⟩ = some (.int .i64 x.f1)) WR1 := ⟨(blk_cell hN.h9 0).trans rfl, hc, (blk_cell h14' 1).trans rfl⟩
          have hF : ∀ b W_, b 12 = false → Reg.Zc [(12, fun W_ => Below WR2.heap.size WR2 W_), (9, fun W_ => Below WR1.heap.size WR1 W_)] (fun W_ => Below wr.heap.size wr W_) b W_ → W_.cell? ⟨w1.heap.size, 0, none⟩ = some (.slice (some ad2) V.length c2) ∧ W_.cell? (ad2.add j) = some (.slice (some ⟨g, 0, none⟩) R.length c4) ∧ W_.cell? ⟨b14, 1, none⟩ = some (.int .i64 x.f1) := by
            intro b W_ hb12 hz
            simp only [Reg.Zc, hb12, Bool.false_eq_true, if_false] at hz
            split at hz
            · exact ⟨pw_cell_below hz FB.1, pw_cell_below hz FB.2.1, pw_cell_below hz FB.2.2⟩
            · exact ⟨pw_cell_below hz FA.1, pw_cell_below hz FA.2.1, pw_cell_below hz FA.2.2⟩
          have HF12 := Aside0.mk hF
          have NX := Aside0.mk (next_all HB2.out GL.out [w1.heap.size + 1, g] (by simp))
          rw [← hWR1] at NX
          have KW := Aside0.mk (fun W => kind_Wrap.calls x.f1 (nextF L q).1 _ W (wrap_is x.f1 (nextF L q).1))
          have HGH := Aside0.mk (show WR1.heap[g]? = some (.cells cells 3 (0, 0)) ∧ (∃ u, WR1.cell? ⟨g, ix, none⟩ = some u) ∧ WR2 = WR1.setCell ⟨g, ix, none⟩ (.int .i64 (wrapF x.f1 (nextF L q).1)) from ⟨hgh, ⟨_, hgc⟩, hWR2⟩)
          have HW0 := Aside0.mk HB2.out.below
          have hgw : wo.heap.size ≤ g := by omega
          have hjV2 : (j : Int) < (V.length : Int) := by omega
          have hiR : (ix : Int) < (R.length : Int) := by omega
          clear hN hput hput2 hgh hgc hWR1 hWR2 h14' h14s hc hcF FA FB hF z1 hje e2 H14
          go_wp2_with fail
          have hMZ : ∀ c ∈ ([(12, fun W_ => Below WR2.heap.size WR2 W_), (9, fun W_ => Below WR1.heap.size WR1 W_)] : List (Nat × (World → Prop))), Reg.MonoZ c.2 := Reg.monoZ_cons ((fun _ _ hb h => h.trans (hb.mono h.size))) (Reg.monoZ_cons ((fun _ _ hb h => h.trans (hb.mono h.size))) Reg.monoZ_nil)
          have hM0 : Reg.MonoZ (fun W_ => Below wr.heap.size wr W_) := (fun _ _ hb h => h.trans (hb.mono h.size))
          refine Reg.region_z [some 56, some 57, some 58, some 59, some 60, some 61, some 62, some 63, some 64, some 65, some 66, some 67, none] [0, 1, 0, 7, 15, 0, 0, 64, 0, 256, 960, 2047, 4095] (true, [([], []), ([0], [0]), ([], []), ([1, 2], [1, 2]), ([3], [3]), ([], []), ([], []), ([6], [6]), ([], []), ([8], [8]), ([7, 9, 9], [7, 9]), ([4, 5, 0, 1, 2, 3, 4, 5, 6, 7, 8, 9, 10], [4, 5]), ([11, 10, 10, 0, 1, 2, 3, 4, 5, 6, 7, 8, 9, 10], [10, 11])]) (fun i => ([(fun _ v_ => v_ = (.pointer (some ⟨w1.heap.size, 0, none⟩))), (fun _ v_ => v_ = (.slice (some ad2) V.length c2)), (fun _ v_ => v_ = (.int .i64 (j : Int))), (fun _ v_ => v_ = (.pointer (some (ad2.add j)))), (fun _ v_ => v_ = (.slice (some ⟨g, 0, none⟩) R.length c4)), (fun _ v_ => v_ = (.int .i64 (ix : Int))), (fun _ v_ => v_ = (.pointer (some ⟨b14, 1, none⟩))), (fun _ v_ => v_ = (.int .i64 x.f1)), (fun _ v_ => v_ = (.func (.func 33) #[] #[.pointer (some ⟨w1.heap.size + 1, 0, none⟩), .pointer (some ⟨wo.heap.size + 1, 0, none⟩)])), (fun _ v_ => v_ = (.int .i64 (nextF L q).1)), (fun _ v_ => v_ = (.int .i64 (wrapF x.f1 (nextF L q).1))), (fun _ v_ => v_ = (.pointer (some ⟨g, ix, none⟩))), (fun _ _ => True)] : List (World → Value → Prop)).getD i (fun _ _ => False)) (Reg.Zc [(12, fun W_ => Below WR2.heap.size WR2 W_), (9, fun W_ => Below WR1.heap.size WR1 W_)] (fun W_ => Below wr.heap.size wr W_)) [w1.heap.size + 1, g] wo
              (by kernel_rfl) (by kernel_rfl) (by kernel_rfl) (by kernel_rfl) (by kernel_rfl) (by decide) (by rfl) (HW0.out) (Reg.Zc.drew (fun m => pw_below_drewN (Below.refl _ _) m)) (Reg.monoL_getD ?_) [0, 1, 2, 3, 4, 5, 6, 7, 8, 9, 10, 11, 12] (by kernel_rfl) ?_ ?_ ?_
          · exact Reg.monoL_cons (Reg.monoL_eq _) (Reg.monoL_cons (Reg.monoL_eq _) (Reg.monoL_cons (Reg.monoL_eq _) (Reg.monoL_cons (Reg.monoL_eq _) (Reg.monoL_cons (Reg.monoL_eq _) (Reg.monoL_cons (Reg.monoL_eq _) (Reg.monoL_cons (Reg.monoL_eq _) (Reg.monoL_cons (Reg.monoL_eq _) (Reg.monoL_cons (Reg.monoL_eq _) (Reg.monoL_cons (Reg.monoL_eq _) (Reg.monoL_cons (Reg.monoL_eq _) (Reg.monoL_cons (Reg.monoL_eq _) (Reg.monoL_cons (fun _ _ _ _ _ => trivial) Reg.monoL_nil))))))))))))
          · skip
            refine Reg.zs_cons (Reg.ZStep.of_r hM0 hMZ (Reg.ne_chain (by rfl)) ?_) ?_
            · intro a w hb hs hel hon
              have e9 : a.tmps[9]? = some (.pointer (some ⟨w1.heap.size, 0, none⟩)) := (hel 9 (by decide)).trans rfl
              obtain ⟨_, g9⟩ := Array.getElem?_eq_some_iff.1 e9
              refine ⟨_, rfl, fun K hK => ?_⟩
              refine value_ (w1 := w) (v := .pointer (some ⟨w1.heap.size, 0, none⟩)) (by rfl) rfl ?_ (hK.out _ _ (Below.refl _ _) (rfl))
              · go_simp
                (try simp only [i64_w, g9])
                (try go_simp)
                try rfl
            refine Reg.zs_cons (Reg.ZStep.of_f 12 hM0 hMZ (Reg.ne_chain (by rfl)) HF12.out (by kernel_rfl) ?_) ?_
            · intro a w hF_ hb hs hel hon
              obtain ⟨_, e56, rfl⟩ := hon 0 56 (by kernel_rfl) rfl
              obtain ⟨_, g56⟩ := Array.getElem?_eq_some_iff.1 e56
              refine ⟨_, rfl, fun K hK => ?_⟩
              obtain ⟨p0_, p1_, p2_⟩ := hF_
              refine value_ (w1 := w) (v := .slice (some ad2) V.length c2) (by rfl) rfl ?_ (hK.out _ _ (Below.refl _ _) (rfl))
              · go_simp
                (try simp only [i64_w, g56])
                (try go_simp)
                try rfl
            refine Reg.zs_cons (Reg.ZStep.of_r hM0 hMZ (Reg.ne_chain (by rfl)) ?_) ?_
            · intro a w hb hs hel hon
              have e13 : a.tmps[13]? = some (.int .i64 (j : Int)) := (hel 13 (by decide)).trans rfl
              obtain ⟨_, g13⟩ := Array.getElem?_eq_some_iff.1 e13
              refine ⟨_, rfl, fun K hK => ?_⟩
              refine value_ (w1 := w) (v := .int .i64 (j : Int)) (by rfl) rfl ?_ (hK.out _ _ (Below.refl _ _) (rfl))
              · go_simp
                (try simp only [i64_w, g13])
                (try go_simp)
                try rfl
            refine Reg.zs_cons (Reg.ZStep.of_r hM0 hMZ (Reg.ne_chain (by rfl)) ?_) ?_
            · intro a w hb hs hel hon
              obtain ⟨_, e57, rfl⟩ := hon 1 57 (by kernel_rfl) rfl
              obtain ⟨_, e58, rfl⟩ := hon 2 58 (by kernel_rfl) rfl
              obtain ⟨_, g57⟩ := Array.getElem?_eq_some_iff.1 e57
              obtain ⟨_, g58⟩ := Array.getElem?_eq_some_iff.1 e58
              refine ⟨_, rfl, fun K hK => ?_⟩
              refine value_ (w1 := w) (v := .pointer (some (ad2.add j))) (by rfl) rfl ?_ (hK.out _ _ (Below.refl _ _) (rfl))
              · go_simp
                (try simp only [i64_w, g57, g58])
                (try go_simp)
                try rfl
            refine Reg.zs_cons (Reg.ZStep.of_f 12 hM0 hMZ (Reg.ne_chain (by rfl)) HF12.out (by kernel_rfl) ?_) ?_
            · intro a w hF_ hb hs hel hon
              obtain ⟨_, e59, rfl⟩ := hon 3 59 (by kernel_rfl) rfl
              obtain ⟨_, g59⟩ := Array.getElem?_eq_some_iff.1 e59
              refine ⟨_, rfl, fun K hK => ?_⟩
              obtain ⟨p0_, p1_, p2_⟩ := hF_
              refine value_ (w1 := w) (v := .slice (some ⟨g, 0, none⟩) R.length c4) (by rfl) rfl ?_ (hK.out _ _ (Below.refl _ _) (rfl))
              · go_simp
                (try simp only [i64_w, g59])
                (try go_simp)
                try rfl
            refine Reg.zs_cons (Reg.ZStep.of_r hM0 hMZ (Reg.ne_chain (by rfl)) ?_) ?_
            · intro a w hb hs hel hon
              have e15 : a.tmps[15]? = some (.int .i64 (ix : Int)) := (hel 15 (by decide)).trans rfl
              obtain ⟨_, g15⟩ := Array.getElem?_eq_some_iff.1 e15
              refine ⟨_, rfl, fun K hK => ?_⟩
              refine value_ (w1 := w) (v := .int .i64 (ix : Int)) (by rfl) rfl ?_ (hK.out _ _ (Below.refl _ _) (rfl))
              · go_simp
                (try simp only [i64_w, g15])
                (try go_simp)
                try rfl
            refine Reg.zs_cons (Reg.ZStep.of_r hM0 hMZ (Reg.ne_chain (by rfl)) ?_) ?_
            · intro a w hb hs hel hon
              have e14 : a.tmps[14]? = some (.pointer (some ⟨b14, 0, none⟩)) := (hel 14 (by decide)).trans rfl
              obtain ⟨_, g14⟩ := Array.getElem?_eq_some_iff.1 e14
              refine ⟨_, rfl, fun K hK => ?_⟩
              refine value_ (w1 := w) (v := .pointer (some ⟨b14, 1, none⟩)) (by rfl) rfl ?_ (hK.out _ _ (Below.refl _ _) (rfl))
              · go_simp
                (try simp only [i64_w, g14])
                (try go_simp)
                try rfl
            refine Reg.zs_cons (Reg.ZStep.of_f 12 hM0 hMZ (Reg.ne_chain (by rfl)) HF12.out (by kernel_rfl) ?_) ?_
            · intro a w hF_ hb hs hel hon
              obtain ⟨_, e62, rfl⟩ := hon 6 62 (by kernel_rfl) rfl
              obtain ⟨_, g62⟩ := Array.getElem?_eq_some_iff.1 e62
              refine ⟨_, rfl, fun K hK => ?_⟩
              obtain ⟨p0_, p1_, p2_⟩ := hF_
              refine value_ (w1 := w) (v := .int .i64 x.f1) (by rfl) rfl ?_ (hK.out _ _ (Below.refl _ _) (rfl))
              · go_simp
                (try simp only [i64_w, g62])
                (try go_simp)
                try rfl
            refine Reg.zs_cons (Reg.ZStep.of_r hM0 hMZ (Reg.ne_chain (by rfl)) ?_) ?_
            · intro a w hb hs hel hon
              have e12 : a.tmps[12]? = some (.func (.func 33) #[] #[.pointer (some ⟨w1.heap.size + 1, 0, none⟩), .pointer (some ⟨wo.heap.size + 1, 0, none⟩)]) := (hel 12 (by decide)).trans rfl
              obtain ⟨_, g12⟩ := Array.getElem?_eq_some_iff.1 e12
              refine ⟨_, rfl, fun K hK => ?_⟩
              refine value_ (w1 := w) (v := .func (.func 33) #[] #[.pointer (some ⟨w1.heap.size + 1, 0, none⟩), .pointer (some ⟨wo.heap.size + 1, 0, none⟩)]) (by rfl) rfl ?_ (hK.out _ _ (Below.refl _ _) (rfl))
              · go_simp
                (try simp only [i64_w, g12])
                (try go_simp)
                try rfl
            refine Reg.zs_cons ?_ ?_
            · intro b a w hb hz hs hel hi hup hoff hon
              have f12 := hoff 12 (by kernel_rfl)
              have hz1 := hz
              simp only [Reg.Zc, f12, hi, Bool.false_eq_true, if_false, if_true] at hz1
              obtain ⟨_, e64, rfl⟩ := hon 8 64 (by kernel_rfl) rfl
              refine ⟨_, rfl, fun K hK => ?_⟩
              refine Reg.goesv_ Try.func33 (by kernel_rfl) rfl #[.pointer (some ⟨w1.heap.size + 1, 0, none⟩), .pointer (some ⟨wo.heap.size + 1, 0, none⟩)] (by rfl) rfl rfl (Reg.eval_tmp e64) ?_
              refine (NX.out w hz1).mono ?_
              rintro e w2 ⟨rfl, hb2, hk2, hz2⟩
              exact ⟨_, rfl, hK.out _ _ hb2 hk2 (by simp only [Reg.Zc, up_self, up_ne (show 12 ≠ 9 by decide), f12, Bool.false_eq_true, if_false, if_true]; exact hz2) rfl⟩
            refine Reg.zs_cons (Reg.ZStep.of_r hM0 hMZ (Reg.ne_chain (by rfl)) ?_) ?_
            · intro a w hb hs hel hon
              obtain ⟨_, e63, rfl⟩ := hon 7 63 (by kernel_rfl) rfl
              obtain ⟨_, e65, rfl⟩ := hon 9 65 (by kernel_rfl) rfl
              refine ⟨_, rfl, fun K hK => ?_⟩
              refine goes_ Try.func34 (by kernel_rfl) rfl #[.int .i64 x.f1, .int .i64 (nextF L q).1] (by rfl) rfl rfl (by first | (simp only [List.map_toArray, List.map_cons, List.map_nil, Act.eval, Array.getD_eq_getD_getElem?, Option.getD_some, e63, e65]; done) | (simp only [List.map_toArray, List.map_cons, List.map_nil, Act.eval, Array.getD_eq_getD_getElem?, Option.getD_some, e63, e65]; rfl) | rfl) ?_
              refine (KW.out w).mono ?_
              rintro e w2 ⟨rfl, nd_, rfl⟩
              exact ⟨_, rfl, hK.out _ _ (pw_below_drewN (Below.refl _ _) nd_) rfl⟩
            refine Reg.zs_cons (Reg.ZStep.of_r hM0 hMZ (Reg.ne_chain (by rfl)) ?_) ?_
            · intro a w hb hs hel hon
              obtain ⟨_, e60, rfl⟩ := hon 4 60 (by kernel_rfl) rfl
              obtain ⟨_, e61, rfl⟩ := hon 5 61 (by kernel_rfl) rfl
              obtain ⟨_, g60⟩ := Array.getElem?_eq_some_iff.1 e60
              obtain ⟨_, g61⟩ := Array.getElem?_eq_some_iff.1 e61
              refine ⟨_, rfl, fun K hK => ?_⟩
              refine value_ (w1 := w) (v := .pointer (some ⟨g, ix, none⟩)) (by rfl) rfl ?_ (hK.out _ _ (Below.refl _ _) (rfl))
              · go_simp
                (try simp only [i64_w, g60, g61])
                (try go_simp)
                try rfl
            refine Reg.zs_cons ?_ ?_
            · intro b a w hb hz hs hel hi hup hoff hon
              have q9 := hup 9 (by kernel_rfl)
              have hz1 := hz
              simp only [Reg.Zc, hi, q9, Bool.false_eq_true, if_false, if_true] at hz1
              obtain ⟨_, e67, rfl⟩ := hon 11 67 (by kernel_rfl) rfl
              obtain ⟨_, e66, rfl⟩ := hon 10 66 (by kernel_rfl) rfl
              refine ⟨_, rfl, fun K hK => ?_⟩
              rw [if_pos (by rfl)]
              obtain ⟨gh_, ⟨u_, gc_⟩, ge_⟩ := HGH.out
              have c_ := pw_cell_below hz1 gc_
              have hw_ := (hz1.block _ (blk_lt gh_)).trans gh_
              have f_ := blk_frozen hw_ ix
              obtain ⟨_, g67⟩ := Array.getElem?_eq_some_iff.1 e67
              obtain ⟨_, g66⟩ := Array.getElem?_eq_some_iff.1 e66
              refine Reg.skipP_ (w1 := w.setCell ⟨g, ix, none⟩ (.int .i64 (wrapF x.f1 (nextF L q).1))) rfl ?_ (hK.out undef _ (hb.setCell hgw _) ⟨by simp [World.setCell], fun i_ hi_ hn_ => Below.heap_setCell _ _ _ i_ (fun e_ => hn_ (by rw [e_]; simp))⟩ (by simp only [Reg.Zc, up_self, if_true]; rw [ge_]; exact below_both hz1 gh_ ix _) trivial)
              go_simp
              (try go_simp)
            exact Reg.zs_nil
          · intro a w hI
            rename_i K_ hK_
            refine hK_ a w ?_
            have hz := hI.z
            simp only [Reg.Zc, if_true] at hz
            have HQ := Aside0.mk (HP.out.step hz)
            have H14q := Aside0.mk ((hz.block _ (blk_lt H14s.out)).trans H14s.out)
            obtain ⟨_, e56, rfl⟩ := hI.vals 0 56 rfl rfl
            obtain ⟨_, e57, rfl⟩ := hI.vals 1 57 rfl rfl
            obtain ⟨_, e58, rfl⟩ := hI.vals 2 58 rfl rfl
            obtain ⟨_, e59, rfl⟩ := hI.vals 3 59 rfl rfl
            obtain ⟨_, e60, rfl⟩ := hI.vals 4 60 rfl rfl
            obtain ⟨_, e61, rfl⟩ := hI.vals 5 61 rfl rfl
            obtain ⟨_, e62, rfl⟩ := hI.vals 6 62 rfl rfl
            obtain ⟨_, e63, rfl⟩ := hI.vals 7 63 rfl rfl
            obtain ⟨_, e64, rfl⟩ := hI.vals 8 64 rfl rfl
            obtain ⟨_, e65, rfl⟩ := hI.vals 9 65 rfl rfl
            obtain ⟨_, e66, rfl⟩ := hI.vals 10 66 rfl rfl
            obtain ⟨_, e67, rfl⟩ := hI.vals 11 67 rfl rfl
            have g56 := Reg.getD_of e56
            have g57 := Reg.getD_of e57
            have g58 := Reg.getD_of e58
            have g59 := Reg.getD_of e59
            have g60 := Reg.getD_of e60
            have g61 := Reg.getD_of e61
            have g62 := Reg.getD_of e62
            have g63 := Reg.getD_of e63
            have g64 := Reg.getD_of e64
            have g65 := Reg.getD_of e65
            have g66 := Reg.getD_of e66
            have g67 := Reg.getD_of e67
            have hfr := Reg.RegI.frame (⟨hI.below, hI.defers, hI.size, hI.elder, hI.vals⟩ : Reg.RegI _ _ _ _ _ _ _)
            rw [hfr]
            simp only [Reg.puts, Act.put, List.setIfInBounds_toArray, List.set_cons_zero, List.set_cons_succ]
            rw [g56, g57, g58, g59, g60, g61, g62, g63, g64, g65, g66, g67]
            generalize a.tmps = ts_
            clear hI hfr hK_ hz e56 g56 e57 g57 e58 g58 e59 g59 e60 g60 e61 g61 e62 g62 e63 g63 e64 g64 e65 g65 e66 g66 e67 g67
            go_wp2_with fail
            refine ⟨⟨ix + 1, R.set ix (wrapF x.f1 (nextF L q).1), (nextF L q).2, by omega, by push_cast; rfl, HQ, ⟨HF.out.step (by omega)⟩, H14q⟩, ?_⟩
            rw [show intOf (.int .i64 ((ix : Int) + 1)) = (ix : Int) + 1 from rfl, show intOf (.int .i64 (ix : Int)) = (ix : Int) from rfl]
            omega
          · intro b w hall h
            have hc := hall 12 (by kernel_rfl)
            unfold Reg.Zc at h ⊢
            rw [if_pos hc] at h
            rw [if_pos rfl]
            exact h
        · go_wp2_with fail
          obtain rfl : ix = R0.length := by omega
          have hf := HF.out.last
          have h3 := H3.out
          rw [HX.out, HR0.out] at hf
          rw [HX.out] at h3
          refine ⟨⟨j + 1, V'.set j R, q, by omega, by push_cast; rfl, HB2, ⟨HI.out.fill hjv (by omega) h3 hf⟩⟩, ?_⟩
          rw [show intOf (.int .i64 ((j : Int) + 1)) = (j : Int) + 1 from rfl, show intOf (.int .i64 (j : Int)) = (j : Int) from rfl]
          omega
    · have hq := HB.out.h9
      have p0 : wr.cell? ⟨w1.heap.size, 0, none⟩ = some (.slice A2 V.length c2) := (blk_cell hq 0).trans rfl
      have p1 : wr.cell? ⟨w1.heap.size, 1, none⟩ = some (.slice A3 B.length c3) := (blk_cell hq 1).trans rfl
      have p2 : wr.cell? ⟨w1.heap.size, 2, none⟩ = some (.int .i64 (nowF n dt)) := (blk_cell hq 2).trans rfl
      have p3 : wr.cell? ⟨w1.heap.size, 3, none⟩ = some (.int .i64 f) := (blk_cell hq 3).trans rfl
      have h8 := HB.out.h8
      clear hq
      go_wp2_with ((with_reducible refine gate_store (t := 31) (p := 8) (v := .tmp 70) rfl ?_); refine wpList_store_row rfl 31 (.tmp 8) (.tmp 70) rfl (wo.heap.size + 2) #[.slice A2 V.length c2, .slice A3 B.length c3, .int .i64 (nowF n dt), .int .i64 f] rfl rfl 31 _ h8 (by rw [hi4]; rfl) rfl (by kernel_rfl) ?_)
      refine bodyPost_ret (results_single rfl (.cell (wo.heap.size + 2) 31 #[.slice A2 V.length c2, .slice A3 B.length c3, .int .i64 (nowF n dt), .int .i64 f] (0, 0) _ rfl (setRow_heap _ _ _ _ _ _ h8) Try.underlying31 rfl hi4 .nil)) rfl ?_
      obtain rfl : j = v.length := by omega
      have hbl := HB.out.lt
      refine ⟨_, _, rfl, ?_, ?_, below_setRow HB.out.below (by omega) _⟩
      · rw [← HI.out.last]
        exact Kd.S_mono (Kd.S_lower (Kd.S_step (Kd.S_types (t := 31) HB.out.s h8 (by decide)) (fun k hk _ => setRow_other _ _ _ _ (fun e => hk.2 e))) (by omega)) (fun _ _ => trivial)
      · exact Kd.R_mono (Kd.R_lower (Kd.R_step (Kd.R_types (t := 31) HB.out.r h8 (by decide)) (fun k hk _ => setRow_other _ _ _ _ (fun e => hk.2 e))) (by omega)) (fun _ _ => trivial)
end Go.Proofs.Ytamajfcjcfkkjaa.Given
end

section
/- cycle.Begin's contract, in the print's form. -/
namespace Go.Proofs.Ytamajfcjcfkkjaa.Given
open Go Go.RowKit Go.Proofs.Ytamajfcjcfkkjaa.PSt Go.Proofs.Ytamajfcjcfkkjaa.RPure Go.Proofs.YtamajfcjcfkkjaaW.PrintWords Go.Proofs.YtamajfcjcfkkjaaW.PrintLast Go.Proofs.YtamajfcjcfkkjaaW.PrintMore
set_option linter.unusedVariables false
def cycle_Begin.f (v : List S60) (V : List (List Int)) (B : List S69) (n f : Int) (L : List Int) (dt : Int) : Option (List (List Int) × List S69 × Int × Int) :=
  if state_Clone.f 2000 V B n f = some (V, B, n, f) then some (beginV L 0 v V, B, nowF n dt, f) else none
theorem cycle_Begin.calls (A0 : Option Addr) (c0 : Nat) (l0 : List S60) (A1_0 : Option Addr) (c1_0 : Nat) (l1_0 : List (List Int)) (A1_1 : Option Addr) (c1_1 : Nat) (l1_1 : List S69) (a1_2 a1_3 : Int) (A2 : Option Addr) (c2 : Nat) (l2 : List Int) (a3 : Int) (r1 : List (List Int)) (r2 : List S69) (r3 r4 : Int) (w : World)
    (hr0 : Kd.C k60 w A0 l0.length l0) (hc0 : l0.length ≤ c0) (hr1_0 : Kd.C (Kd.slice 3 (Kd.int .i64)) w A1_0 l1_0.length l1_0) (hc1_0 : l1_0.length ≤ c1_0) (hr1_1 : Kd.C k69 w A1_1 l1_1.length l1_1) (hc1_1 : l1_1.length ≤ c1_1) (hr2 : Kd.C (Kd.int .i64) w A2 l2.length l2) (hc2 : l2.length ≤ c2) (h : cycle_Begin.f l0 l1_0 l1_1 a1_2 a1_3 l2 a3 = some (r1, r2, r3, r4)) :
    Calls Try.prog 13 #[.slice A0 l0.length c0, .agg #[.slice A1_0 l1_0.length c1_0, .slice A1_1 l1_1.length c1_1, .int .i64 a1_2, .int .i64 a1_3], .slice A2 l2.length c2, .int .i64 a3] w fun e w' => ∃ v0_ v1_ : Value, e = .returned (.agg #[v0_, v1_, .int .i64 r3, .int .i64 r4]) ∧ Kd.S (Kd.slice 3 (Kd.int .i64)) 32 w' w.heap.size (fun _ => True) v0_ r1 ∧ Kd.R k69 69 w' w.heap.size (fun _ => True) v1_ r2 ∧ Below w.heap.size w w' := by
  unfold cycle_Begin.f at h
  split at h
  · rename_i hc
    simp only [Option.some.injEq, Prod.mk.injEq] at h
    obtain ⟨rfl, rfl, rfl, rfl⟩ := h
    exact begin_w A1_0 A1_1 A0 A2 c1_0 c1_1 c0 c2 l0 l1_0 l1_1 a1_2 a1_3 a3 l2 2000 w hr0 hr1_0 hc1_0 hr1_1 hc1_1 hr2 hc
  · cases h
end Go.Proofs.Ytamajfcjcfkkjaa.Given
end
