/- The numbers of a byte behind how many they are, plainly, as the program reads them; and what holds of a unit that is being read. -/
import Derived.LaidLaws
import Derived.Lib.LaidTab
import Derived.OpenShut
import Derived.Test.YthbcliofjfhmbaaDoorRows
import Derived.Test.YthbcliofjfhmbaaDoorProg
import Derived.Below
import Derived.Deep.Draws
import Derived.Deep.AppendLies
import Derived.Maps.AppendAt
import Derived.OwnWalk
import Derived.Laws.BytesArg
import Derived.Laws.MakeOwn
import Derived.Laws.OwnMore
import Derived.Deep.OwnRows
import Derived.Tactics
import Derived.Lib.ConvBytes
import Derived.Laws.Slices
import Derived.WalkKit
import Derived.KernelRfl
import Derived.RowKit3
import Derived.Deep.LoopGhost
import Derived.Deep.QuietTactic
import Derived.BigQuiet
import Derived.WideLaws
import Derived.Deep.DeepCutAuto
import Derived.Deep.CutBlock
import Derived.Deep.RegionHeld3
import Derived.Laws.Rows
import Derived.Lib.AppendStr
import Derived.ArgAppend
import Derived.Laws.IdiomCopy
import Derived.OrdersHeld
import Derived.Laws.BitsLemmas
import Derived.RowKit
import Derived.Test.YthbcliofjfhmbaaDoorZUnitGetsaa
import Derived.Test.YthbcliofjfhmbaaDoorZUnitGetsab
import Derived.Test.YthbcliofjfhmbaaDoorZUnitGetsac
import Derived.Test.YthbcliofjfhmbaaDoorZUnitGetsad
import Derived.Test.YthbcliofjfhmbaaDoorZUnitGetsae
section
/- Printed by a program of this session (wip/pg.py, over the print of the kit): functions, their Lean twins, and the proofs that the calls come to them; each under the conditions that it names. -/
namespace Go.Proofs.YthbcliofjfhmbaaDoor.PUni
open Go.Proofs.YthbcliofjfhmbaaDoor.Given
open Go.RowKit Go.Proofs.YthbcliofjfhmbaaDoorW.PrintWords Go.Proofs.YthbcliofjfhmbaaDoorW.PrintLast Go.Proofs.YthbcliofjfhmbaaDoorW.PrintMore
attribute [local go_sem] max2_int min2_int max_two min_two max_three min_three max_four min_four   -- for this text's walks alone
set_option linter.unusedVariables false
set_option linter.unusedSimpArgs false

attribute [local go_sem high] eqA47
/-! ### ladderbackref15_Slots: function 24 -/
mutual
def ladderbackref15_Slots.j0 : Nat → List Int → ByteArray → List Int → Int → List Int → List (S47) → Option (List Int)
  | 0, _, _, _, _, _, _ => none
  | k + 1, x3, x269000, x269001, x269002, x269003, x269004 => ladderbackref15_Slots.l0 k x3 0 x269000 x269001 x269002 x269003 x269004
def ladderbackref15_Slots.l0 : Nat → List Int → Int → ByteArray → List Int → Int → List Int → List (S47) → Option (List Int)
  | 0, _, _, _, _, _, _, _ => none
  | k + 1, x3, x4, x269000, x269001, x269002, x269003, x269004 => if x4 < (x269003.length : Int) then (if 0 ≤ x4 then (if x3.length < 17592186044416 then (ladderbackref15_Slots.l0 k (x3 ++ [rd x269003 x4]) (wrap64 (x4 + 1)) x269000 x269001 x269002 x269003 x269004) else (none)) else (none)) else (some x3)
end
def ladderbackref15_Slots.f (k : Nat) (a0_0 : ByteArray) (l0_1 : List Int) (a0_2 : Int) (l0_3 : List Int) (l0_4 : List (S47)) : Option (List Int) := (some (([] : List Int) : List Int)).bind fun y269 => (if y269.length + l0_1.length < 17592186044416 then ((some (y269 ++ l0_1 : List Int)).bind fun y272 => (if a0_2 = 0 then (ladderbackref15_Slots.j0 k y272 a0_0 l0_1 a0_2 l0_3 l0_4) else (if y272.length < 17592186044416 then (ladderbackref15_Slots.j0 k (y272 ++ [a0_2]) a0_0 l0_1 a0_2 l0_3 l0_4) else (none)))) else (none))
/-! ### unit_like_int: function 45 -/
def unit_like_int.l0 : Nat → List Int → List Int → Int → Int → Option (Bool)
  | 0, _, _, _, _ => none
  | k + 1, x0, x1, x12, x13 => if x13 < x12 then (if 0 ≤ x13 then (if x13 < (x0.length : Int) then (if x13 < (x1.length : Int) then (if (rd x0 x13) = (rd x1 x13) then (unit_like_int.l0 k x0 x1 x12 (wrap64 (x13 + 1))) else (some false)) else (none)) else (none)) else (none)) else (some true)
def unit_like_int.f (k : Nat) (l0 : List Int) (l1 : List Int) : Option (Bool) := if (l0.length : Int) = (l1.length : Int) then (unit_like_int.l0 k l0 l1 (l0.length : Int) 0) else (some false)
/-! ### api_Instr: function 46 -/
def api_Instr.l0 : Nat → List (S47) → List (S47) → Int → Int → Option (Bool)
  | 0, _, _, _, _ => none
  | k + 1, x0, x1, x12, x13 => if x13 < x12 then (if 0 ≤ x13 then (if x13 < (x0.length : Int) then (if x13 < (x1.length : Int) then (if (!(((rd_T47 x0 x13).f0) == ((rd_T47 x1 x13).f0)) || (!(((rd_T47 x0 x13).f1) == ((rd_T47 x1 x13).f1)) || (!(((rd_T47 x0 x13).f2) == ((rd_T47 x1 x13).f2))))) = true then (some false) else (api_Instr.l0 k x0 x1 x12 (wrap64 (x13 + 1)))) else (none)) else (none)) else (none)) else (some true)
def api_Instr.f (k : Nat) (l0 : List (S47)) (l1 : List (S47)) : Option (Bool) := if (l0.length : Int) = (l1.length : Int) then (api_Instr.l0 k l0 l1 (l0.length : Int) 0) else (some false)
/-! ### unit_Same: function 25 -/
def unit_Same.f (k : Nat) (a0_0 : ByteArray) (l0_1 : List Int) (a0_2 : Int) (l0_3 : List Int) (l0_4 : List (S47)) (a1_0 : ByteArray) (l1_1 : List Int) (a1_2 : Int) (l1_3 : List Int) (l1_4 : List (S47)) : Option (Bool) := if a0_0.toList = a1_0.toList then (if a0_2 = a1_2 then ((unit_like_int.f k l0_1 l1_1).bind fun t288 => (if t288 = true then ((unit_like_int.f k l0_3 l1_3).bind fun t289 => (if t289 = true then ((api_Instr.f k l0_4 l1_4).bind fun t290 => (some t290)) else (some false))) else (some false))) else (some false)) else (some false)
/-! ### ladderbackref13_Same: function 12 -/
def ladderbackref13_Same.l0 : Nat → List (S47) → List (S47) → Int → Option (Bool)
  | 0, _, _, _ => none
  | k + 1, x0, x1, x5 => if x5 < (x0.length : Int) then (if 0 ≤ x5 then (if x5 < (x1.length : Int) then (if (!(((rd_T47 x0 x5).f0) == ((rd_T47 x1 x5).f0)) || (!(((rd_T47 x0 x5).f1) == ((rd_T47 x1 x5).f1)) || (!(((rd_T47 x0 x5).f2) == ((rd_T47 x1 x5).f2))))) = true then (some false) else (ladderbackref13_Same.l0 k x0 x1 (wrap64 (x5 + 1)))) else (none)) else (none)) else (some true)
def ladderbackref13_Same.f (k : Nat) (l0 : List (S47)) (l1 : List (S47)) : Option (Bool) := if (l0.length : Int) = (l1.length : Int) then (ladderbackref13_Same.l0 k l0 l1 0) else (some false)
set_option maxHeartbeats 8000000 in
set_option maxRecDepth 100000 in
theorem ladderbackref13_Same.calls (k : Nat) (A0 : Option Addr) (c0 : Nat) (l0 : List (S47)) (A1 : Option Addr) (c1 : Nat) (l1 : List (S47)) (r : Bool) (w : World) (hr0 : Kd.C k47 w A0 l0.length l0) (hc0 : l0.length ≤ c0) (hr1 : Kd.C k47 w A1 l1.length l1) (hc1 : l1.length ≤ c1) (h : ladderbackref13_Same.f k l0 l1 = some r) :
    Calls Tryd.prog 12 #[.slice A0 l0.length c0, .slice A1 l1.length c1] w fun e w' => e = .returned (.bool r) ∧ Drawn0 w w' := by
  have hu47 := Tryd.underlying47
  have HR0 := Aside0.mk hr0
  have HC0 := Aside0.mk hc0
  clear hr0 hc0
  have HR1 := Aside0.mk hr1
  have HC1 := Aside0.mk hc1
  clear hr1 hc1
  have H : (if (l0.length : Int) = (l1.length : Int) then (ladderbackref13_Same.l0 k l0 l1 0) else (some false)) = some r := h
  clear h
  by_cases c3 : (l0.length : Int) = (l1.length : Int)
  · rw [if_pos c3] at H
    have c3b0 : ((l0.length : Int) == (l1.length : Int)) = true := beq_iff_eq.mpr c3
    have c3b1 : ((l0.length : Int) != (l1.length : Int)) = false := bne_eq_false_iff_eq.mpr c3
    have c3b2 : (l0.length == l1.length) = true := by first | simpa using c3 | (simp at c3 ⊢; omega)
    clear c3
    have H' := Aside0.mk H
    clear H
    go_enter Tryd.func12, Tryd.ntmps12
    go_wp2
    repeat (go_quiet (fail); try go_wp2)
    go_loopg [5] k (fun kq v5 w' => ∃ (x5_1 : Int), v5 = .int .i64 x5_1 ∧ Aside0 (ladderbackref13_Same.l0 kq l0 l1 x5_1 = some r) ∧ Aside0 (kq ≤ k) ∧ Drawn0 w w')
    case atStart => exact ⟨(0), (by first | rfl | (simp; done) | (simp [*]; done)), H', ⟨Nat.le_refl _⟩, by repeat (first | exact Drawn0.refl _ | apply Drawn0.step)⟩
    case round =>
      clear H'
      try clear c1
      try clear p2
      try clear c3
      try clear c3b0
      try clear c3b1
      try clear c3b2
      obtain ⟨x5_1, rfl, HA, HK1, ⟨m1, rfl⟩⟩ := hrel
      cases gk with
      | zero => exact absurd HA.out (by simp [ladderbackref13_Same.l0])
      | succ k1 =>
        have H := HA.out
        clear HA
        simp only [ladderbackref13_Same.l0] at H
        by_cases c4 : x5_1 < (l0.length : Int)
        · rw [if_pos c4] at H
          have c4b0 : decide (x5_1 < (l0.length : Int)) = true := decide_eq_true c4
          clear c4
          by_cases c5 : 0 ≤ x5_1
          · rw [if_pos c5] at H
            have c5b0 : decide (0 ≤ x5_1) = true := decide_eq_true c5
            clear c5
            by_cases c6 : x5_1 < (l1.length : Int)
            · rw [if_pos c6] at H
              have c6b0 : decide (x5_1 < (l1.length : Int)) = true := decide_eq_true c6
              clear c6
              by_cases c7 : (!(((rd_T47 l0 x5_1).f0) == ((rd_T47 l1 x5_1).f0)) || (!(((rd_T47 l0 x5_1).f1) == ((rd_T47 l1 x5_1).f1)) || (!(((rd_T47 l0 x5_1).f2) == ((rd_T47 l1 x5_1).f2))))) = true
              · rw [if_pos c7] at H
                have c7b0 : (!(((rd_T47 l0 x5_1).f0) == ((rd_T47 l1 x5_1).f0)) || (!(((rd_T47 l0 x5_1).f1) == ((rd_T47 l1 x5_1).f1)) || (!(((rd_T47 l0 x5_1).f2) == ((rd_T47 l1 x5_1).f2))))) = true := c7
                clear c7
                obtain rfl := Option.some.inj H
                have p291 : 0 ≤ (x5_1 : Int) := of_decide_eq_true (by first | (with_reducible assumption) | assumption)
                have q291 : x5_1 < (l0.length : Int) := of_decide_eq_true (by first | (with_reducible assumption) | assumption)
                obtain ⟨ad291, e291, hx291_0, hx291_1, hx291_2⟩ := at_T47 HR0.out x5_1 p291 q291
                cases e291
                replace p291 := eq_true p291
                replace q291 := eq_true q291
                have p292 : 0 ≤ (x5_1 : Int) := of_decide_eq_true (by first | (with_reducible assumption) | assumption)
                have q292 : x5_1 < (l1.length : Int) := of_decide_eq_true (by first | (with_reducible assumption) | assumption)
                obtain ⟨ad292, e292, hx292_0, hx292_1, hx292_2⟩ := at_T47 HR1.out x5_1 p292 q292
                cases e292
                replace p292 := eq_true p292
                replace q292 := eq_true q292
                go_wp2
                repeat (go_quiet (fail); try go_wp2)
                go_ret
                exact ⟨by first | rfl | (simp; done) | (simp [*]; done), by repeat (first | exact Drawn0.refl _ | apply Drawn0.step)⟩
              · rw [if_neg c7] at H
                have c7b0 : (!(((rd_T47 l0 x5_1).f0) == ((rd_T47 l1 x5_1).f0)) || (!(((rd_T47 l0 x5_1).f1) == ((rd_T47 l1 x5_1).f1)) || (!(((rd_T47 l0 x5_1).f2) == ((rd_T47 l1 x5_1).f2))))) = false := by simpa using c7
                clear c7
                have H' := Aside0.mk H
                clear H
                have p291 : 0 ≤ (x5_1 : Int) := of_decide_eq_true (by first | (with_reducible assumption) | assumption)
                have q291 : x5_1 < (l0.length : Int) := of_decide_eq_true (by first | (with_reducible assumption) | assumption)
                obtain ⟨ad291, e291, hx291_0, hx291_1, hx291_2⟩ := at_T47 HR0.out x5_1 p291 q291
                cases e291
                replace p291 := eq_true p291
                replace q291 := eq_true q291
                have p292 : 0 ≤ (x5_1 : Int) := of_decide_eq_true (by first | (with_reducible assumption) | assumption)
                have q292 : x5_1 < (l1.length : Int) := of_decide_eq_true (by first | (with_reducible assumption) | assumption)
                obtain ⟨ad292, e292, hx292_0, hx292_1, hx292_2⟩ := at_T47 HR1.out x5_1 p292 q292
                cases e292
                replace p292 := eq_true p292
                replace q292 := eq_true q292
                go_wp2
                repeat (go_quiet (fail); try go_wp2)
                go_roundg k1
                case measure => have := HK1.out; omega
                case rel => exact ⟨(wrap64 (x5_1 + 1)), (by first | rfl | (simp; done) | (simp [*]; done)), H', ⟨by have := HK1.out; omega⟩, by repeat (first | exact Drawn0.refl _ | apply Drawn0.step)⟩
            · rw [if_neg c6] at H
              exact absurd H (by simp)
          · rw [if_neg c5] at H
            exact absurd H (by simp)
        · rw [if_neg c4] at H
          have c4b0 : decide (x5_1 < (l0.length : Int)) = false := decide_eq_false c4
          clear c4
          obtain rfl := Option.some.inj H
          go_wp2
          repeat (go_quiet (fail); try go_wp2)
          go_ret
          exact ⟨by first | rfl | (simp; done) | (simp [*]; done), by repeat (first | exact Drawn0.refl _ | apply Drawn0.step)⟩
  · rw [if_neg c3] at H
    have c3b0 : ((l0.length : Int) == (l1.length : Int)) = false := beq_eq_false_iff_ne.mpr c3
    have c3b1 : ((l0.length : Int) != (l1.length : Int)) = true := bne_iff_ne.mpr c3
    have c3b2 : (l0.length == l1.length) = false := by first | simpa using c3 | (simp at c3 ⊢; omega)
    obtain rfl := Option.some.inj H
    go_enter Tryd.func12, Tryd.ntmps12
    go_wp2
    repeat (go_quiet (fail); try go_wp2)
    go_ret
    exact ⟨by first | rfl | (simp; done) | (simp [*]; done), by repeat (first | exact Drawn0.refl _ | apply Drawn0.step)⟩

end Go.Proofs.YthbcliofjfhmbaaDoor.PUni
end

section
/- Printed by a program of this session (wip/pg.py, over the print of the kit): functions, their Lean twins, and the proofs that the calls come to them; each under the conditions that it names. -/
namespace Go.Proofs.YthbcliofjfhmbaaDoor.PUni
open Go.Proofs.YthbcliofjfhmbaaDoor.Given
open Go.RowKit Go.Proofs.YthbcliofjfhmbaaDoorW.PrintWords Go.Proofs.YthbcliofjfhmbaaDoorW.PrintLast Go.Proofs.YthbcliofjfhmbaaDoorW.PrintMore
attribute [local go_sem] max2_int min2_int max_two min_two max_three min_three max_four min_four   -- for this text's walks alone
set_option linter.unusedVariables false
set_option linter.unusedSimpArgs false

/-! ### ladderbackref15_Same: function 26 -/
def ladderbackref15_Same.f (k : Nat) (a0_0 : ByteArray) (l0_1 : List Int) (a0_2 : Int) (l0_3 : List Int) (l0_4 : List (S47)) (a1_0 : ByteArray) (l1_1 : List Int) (a1_2 : Int) (l1_3 : List Int) (l1_4 : List (S47)) : Option (Bool) := if a0_0.toList = a1_0.toList then (if a0_2 = a1_2 then ((ladderbackref15_Ints.f k l0_1 l1_1).bind fun t295 => (if t295 = true then ((ladderbackref15_Ints.f k l0_3 l1_3).bind fun t296 => (if t296 = true then ((ladderbackref13_Same.f k l0_4 l1_4).bind fun t297 => (some t297)) else (some false))) else (some false))) else (some false)) else (some false)
set_option maxHeartbeats 8000000 in
set_option maxRecDepth 100000 in
theorem ladderbackref15_Same.calls (k : Nat) (a0_0 : ByteArray) (A0_1 : Option Addr) (c0_1 : Nat) (l0_1 : List Int) (a0_2 : Int) (A0_3 : Option Addr) (c0_3 : Nat) (l0_3 : List Int) (A0_4 : Option Addr) (c0_4 : Nat) (l0_4 : List (S47)) (a1_0 : ByteArray) (A1_1 : Option Addr) (c1_1 : Nat) (l1_1 : List Int) (a1_2 : Int) (A1_3 : Option Addr) (c1_3 : Nat) (l1_3 : List Int) (A1_4 : Option Addr) (c1_4 : Nat) (l1_4 : List (S47)) (r : Bool) (w : World) (hr0_1 : Kd.C (Kd.int .i64) w A0_1 l0_1.length l0_1) (hc0_1 : l0_1.length ≤ c0_1) (hr0_3 : Kd.C (Kd.int .i64) w A0_3 l0_3.length l0_3) (hc0_3 : l0_3.length ≤ c0_3) (hr0_4 : Kd.C k47 w A0_4 l0_4.length l0_4) (hc0_4 : l0_4.length ≤ c0_4) (hr1_1 : Kd.C (Kd.int .i64) w A1_1 l1_1.length l1_1) (hc1_1 : l1_1.length ≤ c1_1) (hr1_3 : Kd.C (Kd.int .i64) w A1_3 l1_3.length l1_3) (hc1_3 : l1_3.length ≤ c1_3) (hr1_4 : Kd.C k47 w A1_4 l1_4.length l1_4) (hc1_4 : l1_4.length ≤ c1_4) (h : ladderbackref15_Same.f k a0_0 l0_1 a0_2 l0_3 l0_4 a1_0 l1_1 a1_2 l1_3 l1_4 = some r) :
    Calls Tryd.prog 26 #[.agg #[.string a0_0, .slice A0_1 l0_1.length c0_1, .int .i64 a0_2, .slice A0_3 l0_3.length c0_3, .slice A0_4 l0_4.length c0_4], .agg #[.string a1_0, .slice A1_1 l1_1.length c1_1, .int .i64 a1_2, .slice A1_3 l1_3.length c1_3, .slice A1_4 l1_4.length c1_4]] w fun e w' => e = .returned (.bool r) ∧ Below w.heap.size w w' := by
  have hu37 := Tryd.underlying37
  have HR0_1 := Aside0.mk hr0_1
  have HC0_1 := Aside0.mk hc0_1
  clear hr0_1 hc0_1
  have HR0_3 := Aside0.mk hr0_3
  have HC0_3 := Aside0.mk hc0_3
  clear hr0_3 hc0_3
  have HR0_4 := Aside0.mk hr0_4
  have HC0_4 := Aside0.mk hc0_4
  clear hr0_4 hc0_4
  have HR1_1 := Aside0.mk hr1_1
  have HC1_1 := Aside0.mk hc1_1
  clear hr1_1 hc1_1
  have HR1_3 := Aside0.mk hr1_3
  have HC1_3 := Aside0.mk hc1_3
  clear hr1_3 hc1_3
  have HR1_4 := Aside0.mk hr1_4
  have HC1_4 := Aside0.mk hc1_4
  clear hr1_4 hc1_4
  have HB := Aside0.mk (Below.refl w.heap.size w)
  have H : (if a0_0.toList = a1_0.toList then (if a0_2 = a1_2 then ((ladderbackref15_Ints.f k l0_1 l1_1).bind fun t295 => (if t295 = true then ((ladderbackref15_Ints.f k l0_3 l1_3).bind fun t296 => (if t296 = true then ((ladderbackref13_Same.f k l0_4 l1_4).bind fun t297 => (some t297)) else (some false))) else (some false))) else (some false)) else (some false)) = some r := h
  clear h
  by_cases c3 : a0_0.toList = a1_0.toList
  · rw [if_pos c3] at H
    have c3b0 : (a0_0.toList == a1_0.toList) = true := beq_iff_eq.mpr c3
    have c3b1 : (a0_0.toList != a1_0.toList) = false := bne_eq_false_iff_eq.mpr c3
    clear c3
    by_cases c4 : a0_2 = a1_2
    · rw [if_pos c4] at H
      have c4b0 : (a0_2 == a1_2) = true := beq_iff_eq.mpr c4
      have c4b1 : (a0_2 != a1_2) = false := bne_eq_false_iff_eq.mpr c4
      clear c4
      replace H := Option.bind_eq_some_iff.mp H
      obtain ⟨t295, A50, H⟩ := H
      replace H : (if t295 = true then ((ladderbackref15_Ints.f k l0_3 l1_3).bind fun t296 => (if t296 = true then ((ladderbackref13_Same.f k l0_4 l1_4).bind fun t297 => (some t297)) else (some false))) else (some false)) = some r := H
      have A5 := Aside0.mk A50
      clear A50
      by_cases c6 : t295 = true
      · subst c6
        have H1 : ((ladderbackref15_Ints.f k l0_3 l1_3).bind fun t296 => (if t296 = true then ((ladderbackref13_Same.f k l0_4 l1_4).bind fun t297 => (some t297)) else (some false))) = some r := by rw [if_pos rfl] at H; exact H
        clear H
        have H := H1
        clear H1
        replace H := Option.bind_eq_some_iff.mp H
        obtain ⟨t296, A70, H⟩ := H
        replace H : (if t296 = true then ((ladderbackref13_Same.f k l0_4 l1_4).bind fun t297 => (some t297)) else (some false)) = some r := H
        have A7 := Aside0.mk A70
        clear A70
        by_cases c8 : t296 = true
        · subst c8
          have H1 : ((ladderbackref13_Same.f k l0_4 l1_4).bind fun t297 => (some t297)) = some r := by rw [if_pos rfl] at H; exact H
          clear H
          have H := H1
          clear H1
          replace H := Option.bind_eq_some_iff.mp H
          obtain ⟨t297, A90, H⟩ := H
          replace H : (some t297) = some r := H
          have A9 := Aside0.mk A90
          clear A90
          obtain rfl := Option.some.inj H
          go_enter Tryd.func26, Tryd.ntmps26
          go_wp2_with (first | ((with_reducible refine gate_dst (N := 2) rfl ?_); refine box_event ?hg (N := 2) ?hd (cs := #[.string a0_0, .slice A0_1 l0_1.length c0_1, .int .i64 a0_2, .slice A0_3 l0_3.length c0_3, .slice A0_4 l0_4.length c0_4]) (t := 37) ?hr ?_; (case hd => rfl); (case hg => rfl); (case hr => first | (go_simp; done) | (go_simp; rfl)); intro gb293 hg w10 hbox hb; have n0_ := Aside0.mk (below_step (by repeat (first | (with_reducible first | exact HB.out | apply below_alloc | apply pw_below_drewN | apply below_drew1) | exact HB.out)) hb); have n1_ := Aside0.mk (hbox); have n2_ := Aside0.mk ((by rw [hg]; exact (below_size (by repeat (first | (with_reducible first | exact HB.out | apply below_alloc | apply pw_below_drewN | apply below_drew1) | exact HB.out))) : w.heap.size ≤ gb293)); have n3_ := Aside0.mk ((by rw [hg]; exact (below_size (by repeat (first | (with_reducible first | exact HB.out | apply below_alloc | apply pw_below_drewN | apply below_drew1) | exact HB.out))) : w.heap.size ≤ gb293)); clear HB; have HB := n0_; have BK293 := n1_; have GW293 := n2_; have GE293 := n3_; clear n0_ n1_ n2_ n3_; clear hb hbox hg) | ((with_reducible refine gate_dst (N := 3) rfl ?_); refine box_event ?hg (N := 3) ?hd (cs := #[.string a1_0, .slice A1_1 l1_1.length c1_1, .int .i64 a1_2, .slice A1_3 l1_3.length c1_3, .slice A1_4 l1_4.length c1_4]) (t := 37) ?hr ?_; (case hd => rfl); (case hg => rfl); (case hr => first | (go_simp; done) | (go_simp; rfl)); intro gb294 hg w11 hbox hb; have n0_ := Aside0.mk (blk_below (g := gb293) (o := .cells #[.string a0_0, .slice A0_1 l0_1.length c0_1, .int .i64 a0_2, .slice A0_3 l0_3.length c0_3, .slice A0_4 l0_4.length c0_4] 37 (0, 0)) (by (with_reducible repeat (first | refine blk_drewN ?_ _ | refine blk_drew ?_ | refine blk_alloc ?_ _)); exact BK293.out) hb); have n1_ := Aside0.mk (below_step (by repeat (first | (with_reducible first | exact HB.out | apply below_alloc | apply pw_below_drewN | apply below_drew1 | refine below_set ?_ GE293.out) | exact HB.out)) hb); have n2_ := Aside0.mk (hbox); have n3_ := Aside0.mk ((by rw [hg]; exact (below_size (by repeat (first | (with_reducible first | exact HB.out | apply below_alloc | apply pw_below_drewN | apply below_drew1 | refine below_set ?_ GE293.out) | exact HB.out))) : w.heap.size ≤ gb294)); have n4_ := Aside0.mk ((by rw [hg]; exact (below_size (by repeat (first | (with_reducible first | exact HB.out | apply below_alloc | apply pw_below_drewN | apply below_drew1 | refine below_set ?_ GE293.out) | exact HB.out))) : w.heap.size ≤ gb294)); have n5_ := Aside0.mk ((by rw [hg]; exact Nat.ne_of_lt (blk_lt (g := gb293) (o := .cells #[.string a0_0, .slice A0_1 l0_1.length c0_1, .int .i64 a0_2, .slice A0_3 l0_3.length c0_3, .slice A0_4 l0_4.length c0_4] 37 (0, 0)) (by (with_reducible repeat (first | refine blk_drewN ?_ _ | refine blk_drew ?_ | refine blk_alloc ?_ _)); exact BK293.out)) : gb293 ≠ gb294)); have n6_ := Aside0.mk ((by rw [hg]; exact Nat.ne_of_gt (blk_lt (g := gb293) (o := .cells #[.string a0_0, .slice A0_1 l0_1.length c0_1, .int .i64 a0_2, .slice A0_3 l0_3.length c0_3, .slice A0_4 l0_4.length c0_4] 37 (0, 0)) (by (with_reducible repeat (first | refine blk_drewN ?_ _ | refine blk_drew ?_ | refine blk_alloc ?_ _)); exact BK293.out)) : gb294 ≠ gb293)); clear BK293; clear HB; have BK293 := n0_; have HB := n1_; have BK294 := n2_; have GW294 := n3_; have GE294 := n4_; have NB293_294 := n5_; have NB294_293 := n6_; clear n0_ n1_ n2_ n3_ n4_ n5_ n6_; clear hb hbox hg; have hnb12 := NB293_294.out; have hnc12 := NB294_293.out; have hcz13_0 : w11.cell? ⟨gb293, 0, none⟩ = some (.string a0_0) := (blk_cell BK293.out 0).trans rfl; have hcz13_1 : w11.cell? ⟨gb293, 1, none⟩ = some (.slice A0_1 l0_1.length c0_1) := (blk_cell BK293.out 1).trans rfl; have hcz13_2 : w11.cell? ⟨gb293, 2, none⟩ = some (.int .i64 a0_2) := (blk_cell BK293.out 2).trans rfl; have hcz13_3 : w11.cell? ⟨gb293, 3, none⟩ = some (.slice A0_3 l0_3.length c0_3) := (blk_cell BK293.out 3).trans rfl; have hcz13_4 : w11.cell? ⟨gb293, 4, none⟩ = some (.slice A0_4 l0_4.length c0_4) := (blk_cell BK293.out 4).trans rfl; have hfz13_0 := blk_frozen BK293.out 0; have hfz13_1 := blk_frozen BK293.out 1; have hfz13_2 := blk_frozen BK293.out 2; have hfz13_3 := blk_frozen BK293.out 3; have hfz13_4 := blk_frozen BK293.out 4; have hcz14_0 : w11.cell? ⟨gb294, 0, none⟩ = some (.string a1_0) := (blk_cell BK294.out 0).trans rfl; have hcz14_1 : w11.cell? ⟨gb294, 1, none⟩ = some (.slice A1_1 l1_1.length c1_1) := (blk_cell BK294.out 1).trans rfl; have hcz14_2 : w11.cell? ⟨gb294, 2, none⟩ = some (.int .i64 a1_2) := (blk_cell BK294.out 2).trans rfl; have hcz14_3 : w11.cell? ⟨gb294, 3, none⟩ = some (.slice A1_3 l1_3.length c1_3) := (blk_cell BK294.out 3).trans rfl; have hcz14_4 : w11.cell? ⟨gb294, 4, none⟩ = some (.slice A1_4 l1_4.length c1_4) := (blk_cell BK294.out 4).trans rfl; have hfz14_0 := blk_frozen BK294.out 0; have hfz14_1 := blk_frozen BK294.out 1; have hfz14_2 := blk_frozen BK294.out 2; have hfz14_3 := blk_frozen BK294.out 3; have hfz14_4 := blk_frozen BK294.out 4) | (go_at_call 22; (with_reducible refine (ladderbackref15_Ints.calls k _ _ l0_1 _ _ l1_1 true _ ?side1 ?side2 ?side3 ?side4 A5.out).mono ?_); (case side1 => repeat (first | exact (Kd.C_below HR0_1.out HB.out) | (with_reducible refine Kd.C_alloc ?_ _) | (with_reducible refine Kd.C_drewN ?_ _) | (with_reducible refine Kd.C_drew ?_))); (case side2 => exact HC0_1.out); (case side3 => repeat (first | exact (Kd.C_below HR1_1.out HB.out) | (with_reducible refine Kd.C_alloc ?_ _) | (with_reducible refine Kd.C_drewN ?_ _) | (with_reducible refine Kd.C_drew ?_))); (case side4 => exact HC1_1.out); rintro e w' ⟨rfl, ⟨nd, rfl⟩⟩) | (go_at_call 22; (with_reducible refine (ladderbackref15_Ints.calls k _ _ l0_3 _ _ l1_3 true _ ?side1 ?side2 ?side3 ?side4 A7.out).mono ?_); (case side1 => repeat (first | exact (Kd.C_below HR0_3.out (by repeat (first | (with_reducible first | exact HB.out | apply below_alloc | apply pw_below_drewN | apply below_drew1 | refine below_set ?_ GE293.out | refine below_set ?_ GE294.out) | exact HB.out))) | (with_reducible refine Kd.C_alloc ?_ _) | (with_reducible refine Kd.C_drewN ?_ _) | (with_reducible refine Kd.C_drew ?_))); (case side2 => exact HC0_3.out); (case side3 => repeat (first | exact (Kd.C_below HR1_3.out (by repeat (first | (with_reducible first | exact HB.out | apply below_alloc | apply pw_below_drewN | apply below_drew1 | refine below_set ?_ GE293.out | refine below_set ?_ GE294.out) | exact HB.out))) | (with_reducible refine Kd.C_alloc ?_ _) | (with_reducible refine Kd.C_drewN ?_ _) | (with_reducible refine Kd.C_drew ?_))); (case side4 => exact HC1_3.out); rintro e w' ⟨rfl, ⟨nd, rfl⟩⟩) | (go_at_call 12; (with_reducible refine (ladderbackref13_Same.calls k _ _ l0_4 _ _ l1_4 t297 _ ?side1 ?side2 ?side3 ?side4 A9.out).mono ?_); (case side1 => repeat (first | exact (Kd.C_below HR0_4.out (by repeat (first | (with_reducible first | exact HB.out | apply below_alloc | apply pw_below_drewN | apply below_drew1 | refine below_set ?_ GE293.out | refine below_set ?_ GE294.out) | exact HB.out))) | (with_reducible refine Kd.C_alloc ?_ _) | (with_reducible refine Kd.C_drewN ?_ _) | (with_reducible refine Kd.C_drew ?_))); (case side2 => exact HC0_4.out); (case side3 => repeat (first | exact (Kd.C_below HR1_4.out (by repeat (first | (with_reducible first | exact HB.out | apply below_alloc | apply pw_below_drewN | apply below_drew1 | refine below_set ?_ GE293.out | refine below_set ?_ GE294.out) | exact HB.out))) | (with_reducible refine Kd.C_alloc ?_ _) | (with_reducible refine Kd.C_drewN ?_ _) | (with_reducible refine Kd.C_drew ?_))); (case side4 => exact HC1_4.out); rintro e w' ⟨rfl, ⟨nd, rfl⟩⟩))
          go_ret
          exact ⟨by first | rfl | (simp [errW_none, errW_some] <;> rfl) | (simp [*, errW_none, errW_some] <;> rfl), by repeat (first | (with_reducible first | exact HB.out | apply below_alloc | apply pw_below_drewN | apply below_drew1 | refine below_set ?_ GE293.out | refine below_set ?_ GE294.out) | exact HB.out)⟩
        · replace c8 := Bool.eq_false_iff.mpr c8
          subst c8
          have H1 : (some false) = some r := by rw [if_neg (show ¬ (false = true) by decide)] at H; exact H
          clear H
          have H := H1
          clear H1
          obtain rfl := Option.some.inj H
          go_enter Tryd.func26, Tryd.ntmps26
          go_wp2_with (first | ((with_reducible refine gate_dst (N := 2) rfl ?_); refine box_event ?hg (N := 2) ?hd (cs := #[.string a0_0, .slice A0_1 l0_1.length c0_1, .int .i64 a0_2, .slice A0_3 l0_3.length c0_3, .slice A0_4 l0_4.length c0_4]) (t := 37) ?hr ?_; (case hd => rfl); (case hg => rfl); (case hr => first | (go_simp; done) | (go_simp; rfl)); intro gb293 hg w15 hbox hb; have n0_ := Aside0.mk (below_step (by repeat (first | (with_reducible first | exact HB.out | apply below_alloc | apply pw_below_drewN | apply below_drew1) | exact HB.out)) hb); have n1_ := Aside0.mk (hbox); have n2_ := Aside0.mk ((by rw [hg]; exact (below_size (by repeat (first | (with_reducible first | exact HB.out | apply below_alloc | apply pw_below_drewN | apply below_drew1) | exact HB.out))) : w.heap.size ≤ gb293)); have n3_ := Aside0.mk ((by rw [hg]; exact (below_size (by repeat (first | (with_reducible first | exact HB.out | apply below_alloc | apply pw_below_drewN | apply below_drew1) | exact HB.out))) : w.heap.size ≤ gb293)); clear HB; have HB := n0_; have BK293 := n1_; have GW293 := n2_; have GE293 := n3_; clear n0_ n1_ n2_ n3_; clear hb hbox hg) | ((with_reducible refine gate_dst (N := 3) rfl ?_); refine box_event ?hg (N := 3) ?hd (cs := #[.string a1_0, .slice A1_1 l1_1.length c1_1, .int .i64 a1_2, .slice A1_3 l1_3.length c1_3, .slice A1_4 l1_4.length c1_4]) (t := 37) ?hr ?_; (case hd => rfl); (case hg => rfl); (case hr => first | (go_simp; done) | (go_simp; rfl)); intro gb294 hg w16 hbox hb; have n0_ := Aside0.mk (blk_below (g := gb293) (o := .cells #[.string a0_0, .slice A0_1 l0_1.length c0_1, .int .i64 a0_2, .slice A0_3 l0_3.length c0_3, .slice A0_4 l0_4.length c0_4] 37 (0, 0)) (by (with_reducible repeat (first | refine blk_drewN ?_ _ | refine blk_drew ?_ | refine blk_alloc ?_ _)); exact BK293.out) hb); have n1_ := Aside0.mk (below_step (by repeat (first | (with_reducible first | exact HB.out | apply below_alloc | apply pw_below_drewN | apply below_drew1 | refine below_set ?_ GE293.out) | exact HB.out)) hb); have n2_ := Aside0.mk (hbox); have n3_ := Aside0.mk ((by rw [hg]; exact (below_size (by repeat (first | (with_reducible first | exact HB.out | apply below_alloc | apply pw_below_drewN | apply below_drew1 | refine below_set ?_ GE293.out) | exact HB.out))) : w.heap.size ≤ gb294)); have n4_ := Aside0.mk ((by rw [hg]; exact (below_size (by repeat (first | (with_reducible first | exact HB.out | apply below_alloc | apply pw_below_drewN | apply below_drew1 | refine below_set ?_ GE293.out) | exact HB.out))) : w.heap.size ≤ gb294)); have n5_ := Aside0.mk ((by rw [hg]; exact Nat.ne_of_lt (blk_lt (g := gb293) (o := .cells #[.string a0_0, .slice A0_1 l0_1.length c0_1, .int .i64 a0_2, .slice A0_3 l0_3.length c0_3, .slice A0_4 l0_4.length c0_4] 37 (0, 0)) (by (with_reducible repeat (first | refine blk_drewN ?_ _ | refine blk_drew ?_ | refine blk_alloc ?_ _)); exact BK293.out)) : gb293 ≠ gb294)); have n6_ := Aside0.mk ((by rw [hg]; exact Nat.ne_of_gt (blk_lt (g := gb293) (o := .cells #[.string a0_0, .slice A0_1 l0_1.length c0_1, .int .i64 a0_2, .slice A0_3 l0_3.length c0_3, .slice A0_4 l0_4.length c0_4] 37 (0, 0)) (by (with_reducible repeat (first | refine blk_drewN ?_ _ | refine blk_drew ?_ | refine blk_alloc ?_ _)); exact BK293.out)) : gb294 ≠ gb293)); clear BK293; clear HB; have BK293 := n0_; have HB := n1_; have BK294 := n2_; have GW294 := n3_; have GE294 := n4_; have NB293_294 := n5_; have NB294_293 := n6_; clear n0_ n1_ n2_ n3_ n4_ n5_ n6_; clear hb hbox hg; have hnb17 := NB293_294.out; have hnc17 := NB294_293.out; have hcz18_0 : w16.cell? ⟨gb293, 0, none⟩ = some (.string a0_0) := (blk_cell BK293.out 0).trans rfl; have hcz18_1 : w16.cell? ⟨gb293, 1, none⟩ = some (.slice A0_1 l0_1.length c0_1) := (blk_cell BK293.out 1).trans rfl; have hcz18_2 : w16.cell? ⟨gb293, 2, none⟩ = some (.int .i64 a0_2) := (blk_cell BK293.out 2).trans rfl; have hcz18_3 : w16.cell? ⟨gb293, 3, none⟩ = some (.slice A0_3 l0_3.length c0_3) := (blk_cell BK293.out 3).trans rfl; have hcz18_4 : w16.cell? ⟨gb293, 4, none⟩ = some (.slice A0_4 l0_4.length c0_4) := (blk_cell BK293.out 4).trans rfl; have hfz18_0 := blk_frozen BK293.out 0; have hfz18_1 := blk_frozen BK293.out 1; have hfz18_2 := blk_frozen BK293.out 2; have hfz18_3 := blk_frozen BK293.out 3; have hfz18_4 := blk_frozen BK293.out 4; have hcz19_0 : w16.cell? ⟨gb294, 0, none⟩ = some (.string a1_0) := (blk_cell BK294.out 0).trans rfl; have hcz19_1 : w16.cell? ⟨gb294, 1, none⟩ = some (.slice A1_1 l1_1.length c1_1) := (blk_cell BK294.out 1).trans rfl; have hcz19_2 : w16.cell? ⟨gb294, 2, none⟩ = some (.int .i64 a1_2) := (blk_cell BK294.out 2).trans rfl; have hcz19_3 : w16.cell? ⟨gb294, 3, none⟩ = some (.slice A1_3 l1_3.length c1_3) := (blk_cell BK294.out 3).trans rfl; have hcz19_4 : w16.cell? ⟨gb294, 4, none⟩ = some (.slice A1_4 l1_4.length c1_4) := (blk_cell BK294.out 4).trans rfl; have hfz19_0 := blk_frozen BK294.out 0; have hfz19_1 := blk_frozen BK294.out 1; have hfz19_2 := blk_frozen BK294.out 2; have hfz19_3 := blk_frozen BK294.out 3; have hfz19_4 := blk_frozen BK294.out 4) | (go_at_call 22; (with_reducible refine (ladderbackref15_Ints.calls k _ _ l0_1 _ _ l1_1 true _ ?side1 ?side2 ?side3 ?side4 A5.out).mono ?_); (case side1 => repeat (first | exact (Kd.C_below HR0_1.out HB.out) | (with_reducible refine Kd.C_alloc ?_ _) | (with_reducible refine Kd.C_drewN ?_ _) | (with_reducible refine Kd.C_drew ?_))); (case side2 => exact HC0_1.out); (case side3 => repeat (first | exact (Kd.C_below HR1_1.out HB.out) | (with_reducible refine Kd.C_alloc ?_ _) | (with_reducible refine Kd.C_drewN ?_ _) | (with_reducible refine Kd.C_drew ?_))); (case side4 => exact HC1_1.out); rintro e w' ⟨rfl, ⟨nd, rfl⟩⟩) | (go_at_call 22; (with_reducible refine (ladderbackref15_Ints.calls k _ _ l0_3 _ _ l1_3 false _ ?side1 ?side2 ?side3 ?side4 A7.out).mono ?_); (case side1 => repeat (first | exact (Kd.C_below HR0_3.out (by repeat (first | (with_reducible first | exact HB.out | apply below_alloc | apply pw_below_drewN | apply below_drew1 | refine below_set ?_ GE293.out | refine below_set ?_ GE294.out) | exact HB.out))) | (with_reducible refine Kd.C_alloc ?_ _) | (with_reducible refine Kd.C_drewN ?_ _) | (with_reducible refine Kd.C_drew ?_))); (case side2 => exact HC0_3.out); (case side3 => repeat (first | exact (Kd.C_below HR1_3.out (by repeat (first | (with_reducible first | exact HB.out | apply below_alloc | apply pw_below_drewN | apply below_drew1 | refine below_set ?_ GE293.out | refine below_set ?_ GE294.out) | exact HB.out))) | (with_reducible refine Kd.C_alloc ?_ _) | (with_reducible refine Kd.C_drewN ?_ _) | (with_reducible refine Kd.C_drew ?_))); (case side4 => exact HC1_3.out); rintro e w' ⟨rfl, ⟨nd, rfl⟩⟩))
          go_ret
          exact ⟨by first | rfl | (simp [errW_none, errW_some] <;> rfl) | (simp [*, errW_none, errW_some] <;> rfl), by repeat (first | (with_reducible first | exact HB.out | apply below_alloc | apply pw_below_drewN | apply below_drew1 | refine below_set ?_ GE293.out | refine below_set ?_ GE294.out) | exact HB.out)⟩
      · replace c6 := Bool.eq_false_iff.mpr c6
        subst c6
        have H1 : (some false) = some r := by rw [if_neg (show ¬ (false = true) by decide)] at H; exact H
        clear H
        have H := H1
        clear H1
        obtain rfl := Option.some.inj H
        go_enter Tryd.func26, Tryd.ntmps26
        go_wp2_with (first | ((with_reducible refine gate_dst (N := 2) rfl ?_); refine box_event ?hg (N := 2) ?hd (cs := #[.string a0_0, .slice A0_1 l0_1.length c0_1, .int .i64 a0_2, .slice A0_3 l0_3.length c0_3, .slice A0_4 l0_4.length c0_4]) (t := 37) ?hr ?_; (case hd => rfl); (case hg => rfl); (case hr => first | (go_simp; done) | (go_simp; rfl)); intro gb293 hg w20 hbox hb; have n0_ := Aside0.mk (below_step (by repeat (first | (with_reducible first | exact HB.out | apply below_alloc | apply pw_below_drewN | apply below_drew1) | exact HB.out)) hb); have n1_ := Aside0.mk (hbox); have n2_ := Aside0.mk ((by rw [hg]; exact (below_size (by repeat (first | (with_reducible first | exact HB.out | apply below_alloc | apply pw_below_drewN | apply below_drew1) | exact HB.out))) : w.heap.size ≤ gb293)); have n3_ := Aside0.mk ((by rw [hg]; exact (below_size (by repeat (first | (with_reducible first | exact HB.out | apply below_alloc | apply pw_below_drewN | apply below_drew1) | exact HB.out))) : w.heap.size ≤ gb293)); clear HB; have HB := n0_; have BK293 := n1_; have GW293 := n2_; have GE293 := n3_; clear n0_ n1_ n2_ n3_; clear hb hbox hg) | ((with_reducible refine gate_dst (N := 3) rfl ?_); refine box_event ?hg (N := 3) ?hd (cs := #[.string a1_0, .slice A1_1 l1_1.length c1_1, .int .i64 a1_2, .slice A1_3 l1_3.length c1_3, .slice A1_4 l1_4.length c1_4]) (t := 37) ?hr ?_; (case hd => rfl); (case hg => rfl); (case hr => first | (go_simp; done) | (go_simp; rfl)); intro gb294 hg w21 hbox hb; have n0_ := Aside0.mk (blk_below (g := gb293) (o := .cells #[.string a0_0, .slice A0_1 l0_1.length c0_1, .int .i64 a0_2, .slice A0_3 l0_3.length c0_3, .slice A0_4 l0_4.length c0_4] 37 (0, 0)) (by (with_reducible repeat (first | refine blk_drewN ?_ _ | refine blk_drew ?_ | refine blk_alloc ?_ _)); exact BK293.out) hb); have n1_ := Aside0.mk (below_step (by repeat (first | (with_reducible first | exact HB.out | apply below_alloc | apply pw_below_drewN | apply below_drew1 | refine below_set ?_ GE293.out) | exact HB.out)) hb); have n2_ := Aside0.mk (hbox); have n3_ := Aside0.mk ((by rw [hg]; exact (below_size (by repeat (first | (with_reducible first | exact HB.out | apply below_alloc | apply pw_below_drewN | apply below_drew1 | refine below_set ?_ GE293.out) | exact HB.out))) : w.heap.size ≤ gb294)); have n4_ := Aside0.mk ((by rw [hg]; exact (below_size (by repeat (first | (with_reducible first | exact HB.out | apply below_alloc | apply pw_below_drewN | apply below_drew1 | refine below_set ?_ GE293.out) | exact HB.out))) : w.heap.size ≤ gb294)); have n5_ := Aside0.mk ((by rw [hg]; exact Nat.ne_of_lt (blk_lt (g := gb293) (o := .cells #[.string a0_0, .slice A0_1 l0_1.length c0_1, .int .i64 a0_2, .slice A0_3 l0_3.length c0_3, .slice A0_4 l0_4.length c0_4] 37 (0, 0)) (by (with_reducible repeat (first | refine blk_drewN ?_ _ | refine blk_drew ?_ | refine blk_alloc ?_ _)); exact BK293.out)) : gb293 ≠ gb294)); have n6_ := Aside0.mk ((by rw [hg]; exact Nat.ne_of_gt (blk_lt (g := gb293) (o := .cells #[.string a0_0, .slice A0_1 l0_1.length c0_1, .int .i64 a0_2, .slice A0_3 l0_3.length c0_3, .slice A0_4 l0_4.length c0_4] 37 (0, 0)) (by (with_reducible repeat (first | refine blk_drewN ?_ _ | refine blk_drew ?_ | refine blk_alloc ?_ _)); exact BK293.out)) : gb294 ≠ gb293)); clear BK293; clear HB; have BK293 := n0_; have HB := n1_; have BK294 := n2_; have GW294 := n3_; have GE294 := n4_; have NB293_294 := n5_; have NB294_293 := n6_; clear n0_ n1_ n2_ n3_ n4_ n5_ n6_; clear hb hbox hg; have hnb22 := NB293_294.out; have hnc22 := NB294_293.out; have hcz23_0 : w21.cell? ⟨gb293, 0, none⟩ = some (.string a0_0) := (blk_cell BK293.out 0).trans rfl; have hcz23_1 : w21.cell? ⟨gb293, 1, none⟩ = some (.slice A0_1 l0_1.length c0_1) := (blk_cell BK293.out 1).trans rfl; have hcz23_2 : w21.cell? ⟨gb293, 2, none⟩ = some (.int .i64 a0_2) := (blk_cell BK293.out 2).trans rfl; have hcz23_3 : w21.cell? ⟨gb293, 3, none⟩ = some (.slice A0_3 l0_3.length c0_3) := (blk_cell BK293.out 3).trans rfl; have hcz23_4 : w21.cell? ⟨gb293, 4, none⟩ = some (.slice A0_4 l0_4.length c0_4) := (blk_cell BK293.out 4).trans rfl; have hfz23_0 := blk_frozen BK293.out 0; have hfz23_1 := blk_frozen BK293.out 1; have hfz23_2 := blk_frozen BK293.out 2; have hfz23_3 := blk_frozen BK293.out 3; have hfz23_4 := blk_frozen BK293.out 4; have hcz24_0 : w21.cell? ⟨gb294, 0, none⟩ = some (.string a1_0) := (blk_cell BK294.out 0).trans rfl; have hcz24_1 : w21.cell? ⟨gb294, 1, none⟩ = some (.slice A1_1 l1_1.length c1_1) := (blk_cell BK294.out 1).trans rfl; have hcz24_2 : w21.cell? ⟨gb294, 2, none⟩ = some (.int .i64 a1_2) := (blk_cell BK294.out 2).trans rfl; have hcz24_3 : w21.cell? ⟨gb294, 3, none⟩ = some (.slice A1_3 l1_3.length c1_3) := (blk_cell BK294.out 3).trans rfl; have hcz24_4 : w21.cell? ⟨gb294, 4, none⟩ = some (.slice A1_4 l1_4.length c1_4) := (blk_cell BK294.out 4).trans rfl; have hfz24_0 := blk_frozen BK294.out 0; have hfz24_1 := blk_frozen BK294.out 1; have hfz24_2 := blk_frozen BK294.out 2; have hfz24_3 := blk_frozen BK294.out 3; have hfz24_4 := blk_frozen BK294.out 4) | (go_at_call 22; (with_reducible refine (ladderbackref15_Ints.calls k _ _ l0_1 _ _ l1_1 false _ ?side1 ?side2 ?side3 ?side4 A5.out).mono ?_); (case side1 => repeat (first | exact (Kd.C_below HR0_1.out HB.out) | (with_reducible refine Kd.C_alloc ?_ _) | (with_reducible refine Kd.C_drewN ?_ _) | (with_reducible refine Kd.C_drew ?_))); (case side2 => exact HC0_1.out); (case side3 => repeat (first | exact (Kd.C_below HR1_1.out HB.out) | (with_reducible refine Kd.C_alloc ?_ _) | (with_reducible refine Kd.C_drewN ?_ _) | (with_reducible refine Kd.C_drew ?_))); (case side4 => exact HC1_1.out); rintro e w' ⟨rfl, ⟨nd, rfl⟩⟩))
        go_ret
        exact ⟨by first | rfl | (simp [errW_none, errW_some] <;> rfl) | (simp [*, errW_none, errW_some] <;> rfl), by repeat (first | (with_reducible first | exact HB.out | apply below_alloc | apply pw_below_drewN | apply below_drew1 | refine below_set ?_ GE293.out | refine below_set ?_ GE294.out) | exact HB.out)⟩
    · rw [if_neg c4] at H
      have c4b0 : (a0_2 == a1_2) = false := beq_eq_false_iff_ne.mpr c4
      have c4b1 : (a0_2 != a1_2) = true := bne_iff_ne.mpr c4
      obtain rfl := Option.some.inj H
      go_enter Tryd.func26, Tryd.ntmps26
      go_wp2_with (first | ((with_reducible refine gate_dst (N := 2) rfl ?_); refine box_event ?hg (N := 2) ?hd (cs := #[.string a0_0, .slice A0_1 l0_1.length c0_1, .int .i64 a0_2, .slice A0_3 l0_3.length c0_3, .slice A0_4 l0_4.length c0_4]) (t := 37) ?hr ?_; (case hd => rfl); (case hg => rfl); (case hr => first | (go_simp; done) | (go_simp; rfl)); intro gb293 hg w25 hbox hb; have n0_ := Aside0.mk (below_step (by repeat (first | (with_reducible first | exact HB.out | apply below_alloc | apply pw_below_drewN | apply below_drew1) | exact HB.out)) hb); have n1_ := Aside0.mk (hbox); have n2_ := Aside0.mk ((by rw [hg]; exact (below_size (by repeat (first | (with_reducible first | exact HB.out | apply below_alloc | apply pw_below_drewN | apply below_drew1) | exact HB.out))) : w.heap.size ≤ gb293)); have n3_ := Aside0.mk ((by rw [hg]; exact (below_size (by repeat (first | (with_reducible first | exact HB.out | apply below_alloc | apply pw_below_drewN | apply below_drew1) | exact HB.out))) : w.heap.size ≤ gb293)); clear HB; have HB := n0_; have BK293 := n1_; have GW293 := n2_; have GE293 := n3_; clear n0_ n1_ n2_ n3_; clear hb hbox hg) | ((with_reducible refine gate_dst (N := 3) rfl ?_); refine box_event ?hg (N := 3) ?hd (cs := #[.string a1_0, .slice A1_1 l1_1.length c1_1, .int .i64 a1_2, .slice A1_3 l1_3.length c1_3, .slice A1_4 l1_4.length c1_4]) (t := 37) ?hr ?_; (case hd => rfl); (case hg => rfl); (case hr => first | (go_simp; done) | (go_simp; rfl)); intro gb294 hg w26 hbox hb; have n0_ := Aside0.mk (blk_below (g := gb293) (o := .cells #[.string a0_0, .slice A0_1 l0_1.length c0_1, .int .i64 a0_2, .slice A0_3 l0_3.length c0_3, .slice A0_4 l0_4.length c0_4] 37 (0, 0)) (by (with_reducible repeat (first | refine blk_drewN ?_ _ | refine blk_drew ?_ | refine blk_alloc ?_ _)); exact BK293.out) hb); have n1_ := Aside0.mk (below_step (by repeat (first | (with_reducible first | exact HB.out | apply below_alloc | apply pw_below_drewN | apply below_drew1 | refine below_set ?_ GE293.out) | exact HB.out)) hb); have n2_ := Aside0.mk (hbox); have n3_ := Aside0.mk ((by rw [hg]; exact (below_size (by repeat (first | (with_reducible first | exact HB.out | apply below_alloc | apply pw_below_drewN | apply below_drew1 | refine below_set ?_ GE293.out) | exact HB.out))) : w.heap.size ≤ gb294)); have n4_ := Aside0.mk ((by rw [hg]; exact (below_size (by repeat (first | (with_reducible first | exact HB.out | apply below_alloc | apply pw_below_drewN | apply below_drew1 | refine below_set ?_ GE293.out) | exact HB.out))) : w.heap.size ≤ gb294)); have n5_ := Aside0.mk ((by rw [hg]; exact Nat.ne_of_lt (blk_lt (g := gb293) (o := .cells #[.string a0_0, .slice A0_1 l0_1.length c0_1, .int .i64 a0_2, .slice A0_3 l0_3.length c0_3, .slice A0_4 l0_4.length c0_4] 37 (0, 0)) (by (with_reducible repeat (first | refine blk_drewN ?_ _ | refine blk_drew ?_ | refine blk_alloc ?_ _)); exact BK293.out)) : gb293 ≠ gb294)); have n6_ := Aside0.mk ((by rw [hg]; exact Nat.ne_of_gt (blk_lt (g := gb293) (o := .cells #[.string a0_0, .slice A0_1 l0_1.length c0_1, .int .i64 a0_2, .slice A0_3 l0_3.length c0_3, .slice A0_4 l0_4.length c0_4] 37 (0, 0)) (by (with_reducible repeat (first | refine blk_drewN ?_ _ | refine blk_drew ?_ | refine blk_alloc ?_ _)); exact BK293.out)) : gb294 ≠ gb293)); clear BK293; clear HB; have BK293 := n0_; have HB := n1_; have BK294 := n2_; have GW294 := n3_; have GE294 := n4_; have NB293_294 := n5_; have NB294_293 := n6_; clear n0_ n1_ n2_ n3_ n4_ n5_ n6_; clear hb hbox hg; have hnb27 := NB293_294.out; have hnc27 := NB294_293.out; have hcz28_0 : w26.cell? ⟨gb293, 0, none⟩ = some (.string a0_0) := (blk_cell BK293.out 0).trans rfl; have hcz28_1 : w26.cell? ⟨gb293, 1, none⟩ = some (.slice A0_1 l0_1.length c0_1) := (blk_cell BK293.out 1).trans rfl; have hcz28_2 : w26.cell? ⟨gb293, 2, none⟩ = some (.int .i64 a0_2) := (blk_cell BK293.out 2).trans rfl; have hcz28_3 : w26.cell? ⟨gb293, 3, none⟩ = some (.slice A0_3 l0_3.length c0_3) := (blk_cell BK293.out 3).trans rfl; have hcz28_4 : w26.cell? ⟨gb293, 4, none⟩ = some (.slice A0_4 l0_4.length c0_4) := (blk_cell BK293.out 4).trans rfl; have hfz28_0 := blk_frozen BK293.out 0; have hfz28_1 := blk_frozen BK293.out 1; have hfz28_2 := blk_frozen BK293.out 2; have hfz28_3 := blk_frozen BK293.out 3; have hfz28_4 := blk_frozen BK293.out 4; have hcz29_0 : w26.cell? ⟨gb294, 0, none⟩ = some (.string a1_0) := (blk_cell BK294.out 0).trans rfl; have hcz29_1 : w26.cell? ⟨gb294, 1, none⟩ = some (.slice A1_1 l1_1.length c1_1) := (blk_cell BK294.out 1).trans rfl; have hcz29_2 : w26.cell? ⟨gb294, 2, none⟩ = some (.int .i64 a1_2) := (blk_cell BK294.out 2).trans rfl; have hcz29_3 : w26.cell? ⟨gb294, 3, none⟩ = some (.slice A1_3 l1_3.length c1_3) := (blk_cell BK294.out 3).trans rfl; have hcz29_4 : w26.cell? ⟨gb294, 4, none⟩ = some (.slice A1_4 l1_4.length c1_4) := (blk_cell BK294.out 4).trans rfl; have hfz29_0 := blk_frozen BK294.out 0; have hfz29_1 := blk_frozen BK294.out 1; have hfz29_2 := blk_frozen BK294.out 2; have hfz29_3 := blk_frozen BK294.out 3; have hfz29_4 := blk_frozen BK294.out 4))
      go_ret
      exact ⟨by first | rfl | (simp [errW_none, errW_some] <;> rfl) | (simp [*, errW_none, errW_some] <;> rfl), by repeat (first | (with_reducible first | exact HB.out | apply below_alloc | apply pw_below_drewN | apply below_drew1 | refine below_set ?_ GE293.out | refine below_set ?_ GE294.out) | exact HB.out)⟩
  · rw [if_neg c3] at H
    have c3b0 : (a0_0.toList == a1_0.toList) = false := beq_eq_false_iff_ne.mpr c3
    have c3b1 : (a0_0.toList != a1_0.toList) = true := bne_iff_ne.mpr c3
    obtain rfl := Option.some.inj H
    go_enter Tryd.func26, Tryd.ntmps26
    go_wp2_with (first | ((with_reducible refine gate_dst (N := 2) rfl ?_); refine box_event ?hg (N := 2) ?hd (cs := #[.string a0_0, .slice A0_1 l0_1.length c0_1, .int .i64 a0_2, .slice A0_3 l0_3.length c0_3, .slice A0_4 l0_4.length c0_4]) (t := 37) ?hr ?_; (case hd => rfl); (case hg => rfl); (case hr => first | (go_simp; done) | (go_simp; rfl)); intro gb293 hg w30 hbox hb; have n0_ := Aside0.mk (below_step (by repeat (first | (with_reducible first | exact HB.out | apply below_alloc | apply pw_below_drewN | apply below_drew1) | exact HB.out)) hb); have n1_ := Aside0.mk (hbox); have n2_ := Aside0.mk ((by rw [hg]; exact (below_size (by repeat (first | (with_reducible first | exact HB.out | apply below_alloc | apply pw_below_drewN | apply below_drew1) | exact HB.out))) : w.heap.size ≤ gb293)); have n3_ := Aside0.mk ((by rw [hg]; exact (below_size (by repeat (first | (with_reducible first | exact HB.out | apply below_alloc | apply pw_below_drewN | apply below_drew1) | exact HB.out))) : w.heap.size ≤ gb293)); clear HB; have HB := n0_; have BK293 := n1_; have GW293 := n2_; have GE293 := n3_; clear n0_ n1_ n2_ n3_; clear hb hbox hg) | ((with_reducible refine gate_dst (N := 3) rfl ?_); refine box_event ?hg (N := 3) ?hd (cs := #[.string a1_0, .slice A1_1 l1_1.length c1_1, .int .i64 a1_2, .slice A1_3 l1_3.length c1_3, .slice A1_4 l1_4.length c1_4]) (t := 37) ?hr ?_; (case hd => rfl); (case hg => rfl); (case hr => first | (go_simp; done) | (go_simp; rfl)); intro gb294 hg w31 hbox hb; have n0_ := Aside0.mk (blk_below (g := gb293) (o := .cells #[.string a0_0, .slice A0_1 l0_1.length c0_1, .int .i64 a0_2, .slice A0_3 l0_3.length c0_3, .slice A0_4 l0_4.length c0_4] 37 (0, 0)) (by (with_reducible repeat (first | refine blk_drewN ?_ _ | refine blk_drew ?_ | refine blk_alloc ?_ _)); exact BK293.out) hb); have n1_ := Aside0.mk (below_step (by repeat (first | (with_reducible first | exact HB.out | apply below_alloc | apply pw_below_drewN | apply below_drew1 | refine below_set ?_ GE293.out) | exact HB.out)) hb); have n2_ := Aside0.mk (hbox); have n3_ := Aside0.mk ((by rw [hg]; exact (below_size (by repeat (first | (with_reducible first | exact HB.out | apply below_alloc | apply pw_below_drewN | apply below_drew1 | refine below_set ?_ GE293.out) | exact HB.out))) : w.heap.size ≤ gb294)); have n4_ := Aside0.mk ((by rw [hg]; exact (below_size (by repeat (first | (with_reducible first | exact HB.out | apply below_alloc | apply pw_below_drewN | apply below_drew1 | refine below_set ?_ GE293.out) | exact HB.out))) : w.heap.size ≤ gb294)); have n5_ := Aside0.mk ((by rw [hg]; exact Nat.ne_of_lt (blk_lt (g := gb293) (o := .cells #[.string a0_0, .slice A0_1 l0_1.length c0_1, .int .i64 a0_2, .slice A0_3 l0_3.length c0_3, .slice A0_4 l0_4.length c0_4] 37 (0, 0)) (by (with_reducible repeat (first | refine blk_drewN ?_ _ | refine blk_drew ?_ | refine blk_alloc ?_ _)); exact BK293.out)) : gb293 ≠ gb294)); have n6_ := Aside0.mk ((by rw [hg]; exact Nat.ne_of_gt (blk_lt (g := gb293) (o := .cells #[.string a0_0, .slice A0_1 l0_1.length c0_1, .int .i64 a0_2, .slice A0_3 l0_3.length c0_3, .slice A0_4 l0_4.length c0_4] 37 (0, 0)) (by (with_reducible repeat (first | refine blk_drewN ?_ _ | refine blk_drew ?_ | refine blk_alloc ?_ _)); exact BK293.out)) : gb294 ≠ gb293)); clear BK293; clear HB; have BK293 := n0_; have HB := n1_; have BK294 := n2_; have GW294 := n3_; have GE294 := n4_; have NB293_294 := n5_; have NB294_293 := n6_; clear n0_ n1_ n2_ n3_ n4_ n5_ n6_; clear hb hbox hg; have hnb32 := NB293_294.out; have hnc32 := NB294_293.out; have hcz33_0 : w31.cell? ⟨gb293, 0, none⟩ = some (.string a0_0) := (blk_cell BK293.out 0).trans rfl; have hcz33_1 : w31.cell? ⟨gb293, 1, none⟩ = some (.slice A0_1 l0_1.length c0_1) := (blk_cell BK293.out 1).trans rfl; have hcz33_2 : w31.cell? ⟨gb293, 2, none⟩ = some (.int .i64 a0_2) := (blk_cell BK293.out 2).trans rfl; have hcz33_3 : w31.cell? ⟨gb293, 3, none⟩ = some (.slice A0_3 l0_3.length c0_3) := (blk_cell BK293.out 3).trans rfl; have hcz33_4 : w31.cell? ⟨gb293, 4, none⟩ = some (.slice A0_4 l0_4.length c0_4) := (blk_cell BK293.out 4).trans rfl; have hfz33_0 := blk_frozen BK293.out 0; have hfz33_1 := blk_frozen BK293.out 1; have hfz33_2 := blk_frozen BK293.out 2; have hfz33_3 := blk_frozen BK293.out 3; have hfz33_4 := blk_frozen BK293.out 4; have hcz34_0 : w31.cell? ⟨gb294, 0, none⟩ = some (.string a1_0) := (blk_cell BK294.out 0).trans rfl; have hcz34_1 : w31.cell? ⟨gb294, 1, none⟩ = some (.slice A1_1 l1_1.length c1_1) := (blk_cell BK294.out 1).trans rfl; have hcz34_2 : w31.cell? ⟨gb294, 2, none⟩ = some (.int .i64 a1_2) := (blk_cell BK294.out 2).trans rfl; have hcz34_3 : w31.cell? ⟨gb294, 3, none⟩ = some (.slice A1_3 l1_3.length c1_3) := (blk_cell BK294.out 3).trans rfl; have hcz34_4 : w31.cell? ⟨gb294, 4, none⟩ = some (.slice A1_4 l1_4.length c1_4) := (blk_cell BK294.out 4).trans rfl; have hfz34_0 := blk_frozen BK294.out 0; have hfz34_1 := blk_frozen BK294.out 1; have hfz34_2 := blk_frozen BK294.out 2; have hfz34_3 := blk_frozen BK294.out 3; have hfz34_4 := blk_frozen BK294.out 4))
    go_ret
    exact ⟨by first | rfl | (simp [errW_none, errW_some] <;> rfl) | (simp [*, errW_none, errW_some] <;> rfl), by repeat (first | (with_reducible first | exact HB.out | apply below_alloc | apply pw_below_drewN | apply below_drew1 | refine below_set ?_ GE293.out | refine below_set ?_ GE294.out) | exact HB.out)⟩

-- NOT PRINTED: function 6 (ladderbacklaw15_UnitPuts)

end Go.Proofs.YthbcliofjfhmbaaDoor.PUni
end

section
/- Units, plainly: whether they fit, their bytes, their slots, and whether two are the same; the program's and the document's tell the same. -/
namespace Go.Proofs.YthbcliofjfhmbaaDoor.UPure
open Go.RowKit Go.Proofs.YthbcliofjfhmbaaDoor.PUni Go.Proofs.YthbcliofjfhmbaaDoor.Given Go.Proofs.YthbcliofjfhmbaaDoorW.PrintWords Go.Proofs.YthbcliofjfhmbaaDoorW.PrintLast
set_option linter.unusedVariables false
set_option linter.unusedSimpArgs false
/-- From some rounds on it tells r. -/
def Tells {α : Type} (g : Nat → Option α) (r : α) : Prop := ∃ k0, ∀ k, k0 ≤ k → g k = some r
theorem rd_drop (l : List Int) (i : Nat) (h : i < l.length) : l.drop i = rd l (i : Int) :: l.drop (i + 1) := by
  unfold rd
  rw [Int.toNat_natCast, List.getD_eq_getElem?_getD, List.getElem?_eq_getElem h, Option.getD_some]
  exact List.drop_eq_getElem_cons h
def byteL : List Int → Bool
  | [] => true
  | x :: t => (decide (0 ≤ x) && decide (x ≤ 255)) && byteL t
theorem byteL_cons {x : Int} {t : List Int} (h : ¬ x < 0) (h2 : ¬ x > 255) : byteL (x :: t) = byteL t := by
  show ((decide (0 ≤ x) && decide (x ≤ 255)) && byteL t) = byteL t
  rw [decide_eq_true (by omega), decide_eq_true (by omega)]; rfl
/-! ### Fits -/
def fitsF (n : ByteArray) (P : List Int) (R : Int) (L : List Int) (C : List S47) : Bool := decide (n.size ≤ 255) && decide (P.length ≤ 8) && decide (L.length ≤ 1024) && decide (C.length ≤ 16384) && allR C && byteL P && byteL L && (decide (0 ≤ R) && decide (R ≤ 255))
end Go.Proofs.YthbcliofjfhmbaaDoor.UPure
end

section
/- Units' bytes, plainly: the program's and the document's are the same. -/
namespace Go.Proofs.YthbcliofjfhmbaaDoor.UPure
open Go.RowKit Go.Proofs.YthbcliofjfhmbaaDoor.PUni Go.Proofs.YthbcliofjfhmbaaDoor.Given Go.Proofs.YthbcliofjfhmbaaDoorW.PrintWords Go.Proofs.YthbcliofjfhmbaaDoorW.PrintLast
set_option linter.unusedVariables false
set_option linter.unusedSimpArgs false
def low (l : List Int) : List Int := l.map (· % 256)
theorem low_len (l : List Int) : (low l).length = l.length := by simp [low]
/-- A unit's bytes. -/
def putB (n : ByteArray) (P : List Int) (R : Int) (L : List Int) (C : List S47) : List Int :=
  le 1 ((min n.size 255 : Nat) : Int) ++ bytesOf (textOf n) ++ le 1 (P.length : Int) ++ low P ++ le 1 R ++ le 2 (L.length : Int) ++ low L ++ le 2 (C.length : Int) ++ encF C
theorem m1 : (mx 0 (mn 1 8)).toNat = 1 := by decide
theorem m2 : (mx 0 (mn 2 8)).toNat = 2 := by decide
theorem fits_allR {n : ByteArray} {P : List Int} {R : Int} {L : List Int} {C : List S47} (h : fitsF n P R L C = true) : n.size ≤ 255 ∧ P.length ≤ 8 ∧ L.length ≤ 1024 ∧ C.length ≤ 16384 ∧ allR C = true ∧ byteL P = true ∧ byteL L = true ∧ 0 ≤ R ∧ R ≤ 255 := by
  unfold fitsF at h
  simp only [Bool.and_eq_true, decide_eq_true_eq] at h
  obtain ⟨⟨⟨⟨⟨⟨⟨a, b⟩, c⟩, d⟩, e⟩, f⟩, g⟩, i, j⟩ := h
  exact ⟨a, b, c, d, e, f, g, i, j⟩
/-! ### The document's -/
end Go.Proofs.YthbcliofjfhmbaaDoor.UPure
end

section
/- Units' slots, and whether two are the same, plainly; the program's and the document's tell the same. -/
namespace Go.Proofs.YthbcliofjfhmbaaDoor.UPure
open Go.RowKit Go.Proofs.YthbcliofjfhmbaaDoor.PUni Go.Proofs.YthbcliofjfhmbaaDoor.Given Go.Proofs.YthbcliofjfhmbaaDoorW.PrintWords Go.Proofs.YthbcliofjfhmbaaDoorW.PrintLast
set_option linter.unusedVariables false
set_option linter.unusedSimpArgs false
def slotsF (P : List Int) (R : Int) (L : List Int) : List Int := P ++ (if R = 0 then [] else [R]) ++ L
def sameI : List Int → List Int → Bool
  | [], [] => true
  | x :: s, y :: t => (x == y) && sameI s t
  | _, _ => false
def eq3 (x y : S47) : Bool := x.f0 == y.f0 && (x.f1 == y.f1 && x.f2 == y.f2)
def sameC : List S47 → List S47 → Bool
  | [], [] => true
  | x :: s, y :: t => eq3 x y && sameC s t
  | _, _ => false
theorem sameI_self : ∀ l, sameI l l = true
  | [] => rfl
  | x :: t => by unfold sameI; rw [sameI_self t]; simp
theorem sameC_self : ∀ l, sameC l l = true
  | [] => rfl
  | x :: t => by unfold sameC eq3; rw [sameC_self t]; simp
theorem sameI_len : ∀ a b : List Int, a.length ≠ b.length → sameI a b = false
  | [], [], h => absurd rfl h
  | [], _ :: _, _ => rfl
  | _ :: _, [], _ => rfl
  | x :: s, y :: t, h => by unfold sameI; rw [sameI_len s t (by simpa using h)]; simp
theorem sameC_len : ∀ a b : List S47, a.length ≠ b.length → sameC a b = false
  | [], [], h => absurd rfl h
  | [], _ :: _, _ => rfl
  | _ :: _, [], _ => rfl
  | x :: s, y :: t, h => by unfold sameC; rw [sameC_len s t (by simpa using h)]; simp
theorem ints_l0 (a b : List Int) (hz : a.length ≤ 100000) (hl : a.length = b.length) : ∀ (d i k : Nat), i + d = a.length → d < k → ladderbackref15_Ints.l0 k a b (i : Int) = some (sameI (a.drop i) (b.drop i)) := by
  intro d
  induction d with
  | zero =>
    intro i k h1 h2
    obtain ⟨k, rfl⟩ : ∃ m, k = m + 1 := ⟨k - 1, by omega⟩
    unfold ladderbackref15_Ints.l0
    rw [if_neg (by omega), List.drop_eq_nil_of_le (by omega), List.drop_eq_nil_of_le (by omega)]; rfl
  | succ d ih =>
    intro i k h1 h2
    obtain ⟨k, rfl⟩ : ∃ m, k = m + 1 := ⟨k - 1, by omega⟩
    unfold ladderbackref15_Ints.l0
    rw [if_pos (by omega), if_pos (by omega), if_pos (by omega), rd_drop a i (by omega), rd_drop b i (by omega)]
    generalize rd a (i : Int) = x
    generalize rd b (i : Int) = y
    unfold sameI
    by_cases h : x = y
    · rw [if_pos h, w64 _ (by omega) (by omega), beq_iff_eq.2 h, Bool.true_and]
      exact ih (i + 1) k (by omega) (by omega)
    · rw [if_neg h, beq_eq_false_iff_ne.2 h]; rfl
theorem ints_is (a b : List Int) (hz : a.length ≤ 100000) (k : Nat) (hk : a.length < k) : ladderbackref15_Ints.f k a b = some (sameI a b) := by
  unfold ladderbackref15_Ints.f
  by_cases h : (a.length : Int) = (b.length : Int)
  · rw [if_pos h]
    exact ints_l0 a b hz (by omega) a.length 0 k (by omega) hk
  · rw [if_neg h, sameI_len a b (by omega)]
theorem likei_l0 (a b : List Int) (hz : a.length ≤ 100000) (hl : a.length = b.length) : ∀ (d i k : Nat), i + d = a.length → d < k → unit_like_int.l0 k a b (a.length : Int) (i : Int) = some (sameI (a.drop i) (b.drop i)) := by
  intro d
  induction d with
  | zero =>
    intro i k h1 h2
    obtain ⟨k, rfl⟩ : ∃ m, k = m + 1 := ⟨k - 1, by omega⟩
    unfold unit_like_int.l0
    rw [if_neg (by omega), List.drop_eq_nil_of_le (by omega), List.drop_eq_nil_of_le (by omega)]; rfl
  | succ d ih =>
    intro i k h1 h2
    obtain ⟨k, rfl⟩ : ∃ m, k = m + 1 := ⟨k - 1, by omega⟩
    unfold unit_like_int.l0
    rw [if_pos (by omega), if_pos (by omega), if_pos (by omega), if_pos (by omega), rd_drop a i (by omega), rd_drop b i (by omega)]
    generalize rd a (i : Int) = x
    generalize rd b (i : Int) = y
    unfold sameI
    by_cases h : x = y
    · rw [if_pos h, w64 _ (by omega) (by omega), beq_iff_eq.2 h, Bool.true_and]
      exact ih (i + 1) k (by omega) (by omega)
    · rw [if_neg h, beq_eq_false_iff_ne.2 h]; rfl
theorem likei_is (a b : List Int) (hz : a.length ≤ 100000) (k : Nat) (hk : a.length < k) : unit_like_int.f k a b = some (sameI a b) := by
  unfold unit_like_int.f
  by_cases h : (a.length : Int) = (b.length : Int)
  · rw [if_pos h]
    exact likei_l0 a b hz (by omega) a.length 0 k (by omega) hk
  · rw [if_neg h, sameI_len a b (by omega)]
theorem same13_l0 (a b : List S47) (hz : a.length ≤ 100000) (hl : a.length = b.length) : ∀ (d i k : Nat), i + d = a.length → d < k → ladderbackref13_Same.l0 k a b (i : Int) = some (sameC (a.drop i) (b.drop i)) := by
  intro d
  induction d with
  | zero =>
    intro i k h1 h2
    obtain ⟨k, rfl⟩ : ∃ m, k = m + 1 := ⟨k - 1, by omega⟩
    unfold ladderbackref13_Same.l0
    rw [if_neg (by omega), List.drop_eq_nil_of_le (by omega), List.drop_eq_nil_of_le (by omega)]; rfl
  | succ d ih =>
    intro i k h1 h2
    obtain ⟨k, rfl⟩ : ∃ m, k = m + 1 := ⟨k - 1, by omega⟩
    unfold ladderbackref13_Same.l0
    rw [if_pos (by omega), if_pos (by omega), if_pos (by omega), rd47_drop a i (by omega), rd47_drop b i (by omega)]
    generalize rd_T47 a (i : Int) = x
    generalize rd_T47 b (i : Int) = y
    have e : (!(x.f0 == y.f0) || (!(x.f1 == y.f1) || !(x.f2 == y.f2))) = !eq3 x y := by
      unfold eq3
      cases x.f0 == y.f0 <;> cases x.f1 == y.f1 <;> cases x.f2 == y.f2 <;> rfl
    rw [e]
    unfold sameC
    by_cases h : eq3 x y = true
    · rw [if_neg (by rw [h]; simp), w64 _ (by omega) (by omega), h, Bool.true_and]
      exact ih (i + 1) k (by omega) (by omega)
    · rw [show eq3 x y = false by simpa using h]; rfl
theorem same13_is (a b : List S47) (hz : a.length ≤ 100000) (k : Nat) (hk : a.length < k) : ladderbackref13_Same.f k a b = some (sameC a b) := by
  unfold ladderbackref13_Same.f
  by_cases h : (a.length : Int) = (b.length : Int)
  · rw [if_pos h]
    exact same13_l0 a b hz (by omega) a.length 0 k (by omega) hk
  · rw [if_neg h, sameC_len a b (by omega)]
theorem likec_l0 (a b : List S47) (hz : a.length ≤ 100000) (hl : a.length = b.length) : ∀ (d i k : Nat), i + d = a.length → d < k → api_Instr.l0 k a b (a.length : Int) (i : Int) = some (sameC (a.drop i) (b.drop i)) := by
  intro d
  induction d with
  | zero =>
    intro i k h1 h2
    obtain ⟨k, rfl⟩ : ∃ m, k = m + 1 := ⟨k - 1, by omega⟩
    unfold api_Instr.l0
    rw [if_neg (by omega), List.drop_eq_nil_of_le (by omega), List.drop_eq_nil_of_le (by omega)]; rfl
  | succ d ih =>
    intro i k h1 h2
    obtain ⟨k, rfl⟩ : ∃ m, k = m + 1 := ⟨k - 1, by omega⟩
    unfold api_Instr.l0
    rw [if_pos (by omega), if_pos (by omega), if_pos (by omega), if_pos (by omega), rd47_drop a i (by omega), rd47_drop b i (by omega)]
    generalize rd_T47 a (i : Int) = x
    generalize rd_T47 b (i : Int) = y
    have e : (!(x.f0 == y.f0) || (!(x.f1 == y.f1) || !(x.f2 == y.f2))) = !eq3 x y := by
      unfold eq3
      cases x.f0 == y.f0 <;> cases x.f1 == y.f1 <;> cases x.f2 == y.f2 <;> rfl
    rw [e]
    unfold sameC
    by_cases h : eq3 x y = true
    · rw [if_neg (by rw [h]; simp), w64 _ (by omega) (by omega), h, Bool.true_and]
      exact ih (i + 1) k (by omega) (by omega)
    · rw [show eq3 x y = false by simpa using h]; rfl
theorem likec_is (a b : List S47) (hz : a.length ≤ 100000) (k : Nat) (hk : a.length < k) : api_Instr.f k a b = some (sameC a b) := by
  unfold api_Instr.f
  by_cases h : (a.length : Int) = (b.length : Int)
  · rw [if_pos h]
    exact likec_l0 a b hz (by omega) a.length 0 k (by omega) hk
  · rw [if_neg h, sameC_len a b (by omega)]
def sameU (n : ByteArray) (P : List Int) (R : Int) (L : List Int) (C : List S47) (n' : ByteArray) (P' : List Int) (R' : Int) (L' : List Int) (C' : List S47) : Bool := decide (n.toList = n'.toList) && decide (R = R') && sameI P P' && sameI L L' && sameC C C'
theorem same_is (n : ByteArray) (P : List Int) (R : Int) (L : List Int) (C : List S47) (n' : ByteArray) (P' : List Int) (R' : Int) (L' : List Int) (C' : List S47) (hP : P.length ≤ 10000) (hL : L.length ≤ 10000) (hC : C.length ≤ 10000) (k : Nat) (hk : 10001 ≤ k) : unit_Same.f k n P R L C n' P' R' L' C' = some (sameU n P R L C n' P' R' L' C') := by
  unfold unit_Same.f sameU
  by_cases h1 : n.toList = n'.toList
  · rw [if_pos h1, decide_eq_true h1, Bool.true_and]
    by_cases h2 : R = R'
    · rw [if_pos h2, decide_eq_true h2, Bool.true_and, likei_is P P' (by omega) k (by omega), Option.bind_some, likei_is L L' (by omega) k (by omega), Option.bind_some, likec_is C C' (by omega) k (by omega), Option.bind_some]
      cases sameI P P' <;> cases sameI L L' <;> simp
    · rw [if_neg h2, decide_eq_false h2]; simp
  · rw [if_neg h1, decide_eq_false h1]; simp
theorem rsame_is (n : ByteArray) (P : List Int) (R : Int) (L : List Int) (C : List S47) (n' : ByteArray) (P' : List Int) (R' : Int) (L' : List Int) (C' : List S47) (hP : P.length ≤ 10000) (hL : L.length ≤ 10000) (hC : C.length ≤ 10000) (k : Nat) (hk : 10001 ≤ k) : ladderbackref15_Same.f k n P R L C n' P' R' L' C' = some (sameU n P R L C n' P' R' L' C') := by
  unfold ladderbackref15_Same.f sameU
  by_cases h1 : n.toList = n'.toList
  · rw [if_pos h1, decide_eq_true h1, Bool.true_and]
    by_cases h2 : R = R'
    · rw [if_pos h2, decide_eq_true h2, Bool.true_and, ints_is P P' (by omega) k (by omega), Option.bind_some, ints_is L L' (by omega) k (by omega), Option.bind_some, same13_is C C' (by omega) k (by omega), Option.bind_some]
      cases sameI P P' <;> cases sameI L L' <;> simp
    · rw [if_neg h2, decide_eq_false h2]; simp
  · rw [if_neg h1, decide_eq_false h1]; simp
theorem sameU_self (n : ByteArray) (P : List Int) (R : Int) (L : List Int) (C : List S47) : sameU n P R L C n P R L C = true := by
  unfold sameU
  rw [sameI_self, sameI_self, sameC_self]; simp
theorem awake15 : ∃ k, ladderbacklaw15_awake.f k = some true := ⟨30, by decide +kernel⟩
end Go.Proofs.YthbcliofjfhmbaaDoor.UPure
end

section
/- A unit in memory, and what the calls of the units' laws tell of it; any unit of few parts, the operations' table as the program lays it. -/
namespace Go.Proofs.YthbcliofjfhmbaaDoor.UPure
open Go.RowKit Go.Proofs.YthbcliofjfhmbaaDoor.PUni Go.Proofs.YthbcliofjfhmbaaDoor.Given Go.Proofs.YthbcliofjfhmbaaDoorW.PrintWords Go.Proofs.YthbcliofjfhmbaaDoorW.PrintLast
set_option linter.unusedVariables false
set_option linter.unusedSimpArgs false
/-- A unit, and where its lists lie. -/
structure UR where
  n : ByteArray
  A1 : Option Addr
  c1 : Nat
  P : List Int
  R : Int
  A3 : Option Addr
  c3 : Nat
  L : List Int
  A4 : Option Addr
  c4 : Nat
  C : List S47
def UR.cells (u : UR) : Array Value := #[.string u.n, .slice u.A1 u.P.length u.c1, .int .i64 u.R, .slice u.A3 u.L.length u.c3, .slice u.A4 u.C.length u.c4]
structure UR.Ok (u : UR) (w : World) : Prop where
  p : Kd.C (Kd.int .i64) w u.A1 u.P.length u.P
  pl : u.P.length ≤ u.c1
  l : Kd.C (Kd.int .i64) w u.A3 u.L.length u.L
  ll : u.L.length ≤ u.c3
  c : Kd.C k47 w u.A4 u.C.length u.C
  cl : u.C.length ≤ u.c4
theorem UR.Ok.below {u : UR} {w w2 : World} (h : u.Ok w) (hb : Below w.heap.size w w2) : u.Ok w2 := ⟨Kd.C_below h.p hb, h.pl, Kd.C_below h.l hb, h.ll, Kd.C_below h.c hb, h.cl⟩
def UR.few (u : UR) : Bool := decide ((u.n.size : Int) ≤ 300) && (decide ((u.P.length : Int) ≤ 20) && (decide ((u.L.length : Int) ≤ 1100) && decide ((u.C.length : Int) ≤ 300)))
def UR.fits (u : UR) : Bool := fitsF u.n u.P u.R u.L u.C
def UR.put (u : UR) : List Int := if u.fits = true then putB u.n u.P u.R u.L u.C else []
def UR.slots (u : UR) : List Int := slotsF u.P u.R u.L
def UR.same (u v : UR) : Bool := sameU u.n u.P u.R u.L u.C v.n v.P v.R v.L v.C
theorem awake_c (w : World) (hL : LaidOps w) : Calls Tryd.prog 18 #[] w fun e w' => e = .returned (.bool true) ∧ Below w.heap.size w w' := by
  obtain ⟨k, hk⟩ := awake15
  exact ladderbacklaw15_awake.calls k true w hk hL
end Go.Proofs.YthbcliofjfhmbaaDoor.UPure
end

section
/- A region that draws its order: each operation by itself, whatever order comes up; no conditions. -/
namespace Go.Proofs.YthbcliofjfhmbaaDoor.Reg
open Go Go.RowKit Go.Proofs.YthbcliofjfhmbaaDoorW.PrintWords Go.Proofs.YthbcliofjfhmbaaDoorW.PrintLast
/-- What stands while a region's operations come up in whatever order. D: the slots that they fill; S: what each one's value is. -/
structure RegI (D : List (Option Tmp)) (S : Nat → World → Value → Prop) (a0 : Act) (w0 : World) (b : Nat → Bool) (a : Act) (w : World) : Prop where
  below : Below w0.heap.size w0 w
  defers : a.defers = a0.defers
  size : a.tmps.size = a0.tmps.size
  elder : ∀ t, some t ∉ D → a.tmps[t]? = a0.tmps[t]?
  vals : ∀ (i : Nat) (t : Tmp), D[i]? = some (some t) → b i = true → ∃ v, a.tmps[t]? = some v ∧ S i w v
/-- Operation i, all that it waits for having come up. -/
def RStep (P : Program) (ops : Array Oper) (Q : Exit → Act → World → Prop) (B : List Nat) (D : List (Option Tmp)) (S : Nat → World → Value → Prop) (a0 : Act) (w0 : World) (i : Nat) : Prop :=
  ∀ a w, Below w0.heap.size w0 w → a.tmps.size = a0.tmps.size → (∀ t, some t ∉ D → a.tmps[t]? = a0.tmps[t]?) →
    (∀ (j : Nat) (t : Tmp), (B.getD i 0).testBit j = true → D[j]? = some (some t) → ∃ v, a.tmps[t]? = some v ∧ S j w v) →
    ∃ oi, ops[i]? = some oi ∧ ∀ K : Act → World → Prop, Shut (∀ v w', Below w.heap.size w w' → S i w' v → K (a.put oi.dst v) w') →
      if Region.wanted oi (yielded ops a.tmps) = true then Oper.wp P oi a w K Q else K (a.put oi.dst undef) w
/-- Is each of a list of specifications kept as the world grows? -/
def MonoS (s : World → Value → Prop) : Prop := ∀ w1 w2 v, Below w1.heap.size w1 w2 → s w1 v → s w2 v
/-- A value is a slice that holds these. -/
def Rs {α : Type} (d : Kd α) (w : World) (v : Value) (xs : List α) : Prop := ∃ A c, v = .slice A xs.length c ∧ xs.length ≤ c ∧ d.C w A xs.length xs
end Go.Proofs.YthbcliofjfhmbaaDoor.Reg
end

section
/- The walk of UnitPuts: for any two units its call returns true; the operations' table as the program lays it. -/
namespace Go.Proofs.YthbcliofjfhmbaaDoor.UPure
open Go Go.RowKit Go.Proofs.YthbcliofjfhmbaaDoor.PUni Go.Proofs.YthbcliofjfhmbaaDoor.Given Go.Proofs.YthbcliofjfhmbaaDoorW.PrintWords Go.Proofs.YthbcliofjfhmbaaDoorW.PrintLast Go.Proofs.YthbcliofjfhmbaaDoorW.PrintMore
set_option linter.unusedVariables false
set_option linter.unusedSimpArgs false
theorem cell_all {u : UR} {W : World} {g : Nat} (h : W.heap[g]? = some (.cells u.cells 37 (0, 0))) : W.cell? ⟨g, 0, none⟩ = some (.string u.n) ∧ W.cell? ⟨g, 1, none⟩ = some (.slice u.A1 u.P.length u.c1) ∧ W.cell? ⟨g, 2, none⟩ = some (.int .i64 u.R) ∧ W.cell? ⟨g, 3, none⟩ = some (.slice u.A3 u.L.length u.c3) ∧ W.cell? ⟨g, 4, none⟩ = some (.slice u.A4 u.C.length u.c4) :=
  ⟨(blk_cell h 0).trans rfl, (blk_cell h 1).trans rfl, (blk_cell h 2).trans rfl, (blk_cell h 3).trans rfl, (blk_cell h 4).trans rfl⟩
end Go.Proofs.YthbcliofjfhmbaaDoor.UPure
end

section
/- What a package's variable that is laid as plain data has in its cells; numbers, truths, texts, structs and arrays alone. -/
namespace Go.Proofs.YthbcliofjfhmbaaDoor.Flat
open Go Go.Lib Go.RowKit
mutual
/-- The cells that a datum of numbers, bools, texts, structs and arrays says. -/
def flatW {H : Type} : DataW H → Option (List Value)
  | .lit (.int k n) => some [.int k n]
  | .lit (.bool b) => some [.bool b]
  | .lit (.string s) => some [.string ⟨s.toArray⟩]
  | .agg ps => flatWs ps
  | _ => none
def flatWs {H : Type} : List (DataW H) → Option (List Value)
  | [] => some []
  | d :: r => (flatW d).bind fun a => (flatWs r).map (a ++ ·)
end
/-- Do a type's parts lie one behind the other, without a gap? -/
def tiles (P : Program) : Nat → TypeId → Bool
  | 0, _ => false
  | n + 1, t => match P.underlying t with
    | some .bool | some (.int _) | some .string => true
    | some (.struct fs) => fs.toList.foldl (fun o f => o.bind fun k => if f.offset = k ∧ tiles P n f.type = true then some (k + P.cellsOf f.type) else none) (some 0) == some (P.cellsOf t)
    | some (.array m e) => tiles P n e && P.cellsOf t == m * P.cellsOf e
    | _ => false
theorem foldl_none {α β : Type} (f : Option β → α → Option β) (h : ∀ a, f none a = none) : ∀ l : List α, l.foldl f none = none
  | [] => rfl
  | a :: l => by rw [List.foldl_cons, h, foldl_none f h l]
theorem flat_cells {H : Type} {enc : TypeId × Value → H} {P : Program} {w : World} {base : Nat} {sp : Nat → Bool} {held : Bool} :
    ∀ (n fuel : Nat) (t : TypeId) (cs : List Value) (d : DataW H) (ps : List MemPlace) (vs : List Value), tiles P n t = true → DataW.trod enc P w base sp held fuel t cs = some (d, ps) → flatW d = some vs → cs = vs := by
  intro n
  induction n with
  | zero => intro fuel t cs d ps vs ht; simp [tiles] at ht
  | succ n ih =>
    intro fuel t cs d ps vs ht h hf
    cases fuel with
    | zero => simp [DataW.trod] at h
    | succ fuel =>
      cases hu : P.underlying t with
      | none => simp [tiles, hu] at ht
      | some u =>
        cases u with
        | bool =>
          unfold DataW.trod at h; rw [hu] at h
          split at h <;> simp_all
          obtain ⟨rfl, _⟩ := h
          simp [flatW] at hf; exact hf
        | int k =>
          unfold DataW.trod at h; rw [hu] at h
          split at h <;> simp_all
          obtain ⟨⟨rfl, _⟩, rfl, _⟩ := h
          simp [flatW] at hf; exact hf
        | string =>
          unfold DataW.trod at h; rw [hu] at h
          split at h <;> simp_all
          obtain ⟨_, rfl, _⟩ := h
          simp [flatW] at hf; exact hf
        | struct fs =>
          simp only [tiles, hu, beq_iff_eq] at ht
          unfold DataW.trod at h; rw [hu] at h
          simp only at h
          split at h
          · rename_i hl
            obtain ⟨xs, hm, hx⟩ := Option.map_eq_some_iff.1 h
            simp only [Prod.mk.injEq] at hx
            obtain ⟨rfl, _⟩ := hx
            have key : ∀ (fs : List Field) (k : Nat) (xs : List (DataW H × List MemPlace)) (vs : List Value), k ≤ cs.length → fs.mapM (fun f => DataW.trod enc P w base sp held fuel f.type ((cs.drop f.offset).take (P.cellsOf f.type))) = some xs →
                fs.foldl (fun o f => o.bind fun k => if f.offset = k ∧ tiles P n f.type = true then some (k + P.cellsOf f.type) else none) (some k) = some cs.length → flatWs (xs.map (·.1)) = some vs → cs.drop k = vs := by
              intro fs
              induction fs with
              | nil =>
                intro k xs vs hk hm ht hf
                simp at hm; subst hm
                simp [flatWs] at hf; subst hf
                simp at ht; simp; omega
              | cons f fs ihf =>
                intro k xs vs hk hm ht hf
                simp only [List.mapM_cons, Option.bind_eq_bind, Option.bind_eq_some_iff, Option.pure_def, Option.some.injEq] at hm
                obtain ⟨b, hb, r, hr, rfl⟩ := hm
                simp only [List.foldl_cons, Option.bind_some] at ht
                split at ht
                · rename_i hc
                  obtain ⟨hc1, hc2⟩ := hc
                  simp only [List.map_cons, flatWs, Option.bind_eq_some_iff, Option.map_eq_some_iff] at hf
                  obtain ⟨a, ha, s, hs, rfl⟩ := hf
                  have e1 := ih _ _ _ b.1 b.2 a hc2 (by rw [hb]) ha
                  rw [hc1] at e1
                  have hle : k + P.cellsOf f.type ≤ cs.length := by
                    have mono : ∀ (l : List Field) (k m : Nat), l.foldl (fun o f => o.bind fun k => if f.offset = k ∧ tiles P n f.type = true then some (k + P.cellsOf f.type) else none) (some k) = some m → k ≤ m := by
                      intro l
                      induction l with
                      | nil => intro k m h; simp at h; omega
                      | cons g l ihl =>
                        intro k m h
                        simp only [List.foldl_cons, Option.bind_some] at h
                        split at h
                        · have := ihl _ _ h; omega
                        · rw [foldl_none _ (fun _ => rfl)] at h; cases h
                    exact mono _ _ _ ht
                  have e2 := ihf _ _ _ hle hr ht hs
                  rw [← e1, ← e2, ← List.drop_drop, List.take_append_drop]
                · rw [foldl_none _ (fun _ => rfl)] at ht; cases ht
            have := key fs.toList 0 xs vs (Nat.zero_le _) hm (by rw [ht, hl]) (by simpa [flatW] using hf)
            simpa using this
          · cases h
        | array m e =>
          simp only [tiles, hu, Bool.and_eq_true, beq_iff_eq] at ht
          obtain ⟨ht1, ht2⟩ := ht
          unfold DataW.trod at h; rw [hu] at h
          simp only at h
          split at h
          · rename_i hl
            obtain ⟨xs, hm, hx⟩ := Option.map_eq_some_iff.1 h
            simp only [Prod.mk.injEq] at hx
            obtain ⟨rfl, _⟩ := hx
            have key : ∀ (j k : Nat) (xs : List (DataW H × List MemPlace)) (vs : List Value), k + j = m → (List.range' k j).mapM (fun i => DataW.trod enc P w base sp held fuel e ((cs.drop (i * P.cellsOf e)).take (P.cellsOf e))) = some xs → flatWs (xs.map (·.1)) = some vs → cs.drop (k * P.cellsOf e) = vs := by
              intro j
              induction j with
              | zero =>
                intro k xs vs hk hm hf
                simp at hm; subst hm
                simp [flatWs] at hf; subst hf
                have hkm : k = m := by omega
                subst hkm
                rw [← ht2, ← hl]; simp
              | succ j ihj =>
                intro k xs vs hk hm hf
                simp only [List.range'_succ, List.mapM_cons, Option.bind_eq_bind, Option.bind_eq_some_iff, Option.pure_def, Option.some.injEq] at hm
                obtain ⟨b, hb, r, hr, rfl⟩ := hm
                simp only [List.map_cons, flatWs, Option.bind_eq_some_iff, Option.map_eq_some_iff] at hf
                obtain ⟨a, ha, s, hs, rfl⟩ := hf
                have e1 := ih _ _ _ b.1 b.2 a ht1 (by rw [hb]) ha
                have e2 := ihj (k + 1) _ _ (by omega) hr hs
                rw [← e1, ← e2, Nat.add_mul, Nat.one_mul, ← List.drop_drop, List.take_append_drop]
            have := key m 0 xs vs (by omega) (by rw [← List.range_eq_range']; exact hm) (by simpa [flatW] using hf)
            simpa using this
          · cases h
        | _ => simp [tiles, hu] at ht
/-- The variable holds these cells. -/
def VarIs (P : Program) (w : World) (name : String) (vs : List Value) : Prop := w.var? P name = some vs.toArray
theorem varIs_of_laid {P : Program} {W : World} {name : String} {D : DataW Unit} {vs : List Value} {g : Nat} {t : TypeId} (n : Nat)
    (hg : P.globalNamed name = some g) (hty : (P.globals[g]?).map (·.type) = some t) (ht : tiles P n t = true) (hf : flatW D = some vs) :
    ∀ {l : List (String × DataW Unit)} {ps : List MemPlace}, (name, D) ∈ l → DataW.LaidVars P W l ps → VarIs P W name vs := by
  intro l
  induction l with
  | nil => intro ps h; cases h
  | cons x l ih =>
    intro ps hm h
    obtain ⟨nm, E⟩ := x
    obtain ⟨g', t', cs, fuel, p, q, hg', ht', hvar, hd, hr, _⟩ := h
    rcases List.mem_cons.1 hm with h | h
    · injection h with h1 h2
      subst h1 h2
      obtain rfl := Option.some.inj (hg.symm.trans hg')
      obtain rfl := Option.some.inj (hty.symm.trans ht')
      unfold VarIs
      rw [hvar, ← flat_cells n _ _ _ _ _ _ ht hd hf]
    · exact ih h hr
theorem varIs {P : Program} {W : World} {name : String} {D : DataW Unit} {vs : List Value} {g : Nat} {t : TypeId} {l : List (String × DataW Unit)} (n : Nat)
    (h : laidMetH P l W) (hp : (l.filter fun x => x.2.handleName?.isSome) = []) (hm : (name, D) ∈ l)
    (hg : P.globalNamed name = some g) (hty : (P.globals[g]?).map (·.type) = some t) (ht : tiles P n t = true) (hf : flatW D = some vs) : VarIs P W name vs := by
  unfold laidMetH at h
  rw [hp] at h
  obtain ⟨ps, h, _⟩ := h
  exact varIs_of_laid n hg hty ht hf hm h
theorem VarIs.cell {P : Program} {W : World} {name : String} {vs : List Value} {g : Nat} (h : VarIs P W name vs) (hg : P.globalNamed name = some g) (i : Nat) : W.cell? ⟨g, i, none⟩ = vs[i]? := by
  rw [World.var?_cell hg h i]; simp
end Go.Proofs.YthbcliofjfhmbaaDoor.Flat
end

section
/- UnitPuts over units that are read as data: any two units. -/
namespace Go.Proofs.YthbcliofjfhmbaaDoor
open Go Go.RowKit Go.Proofs.YthbcliofjfhmbaaDoorW.PrintWords Go.Proofs.YthbcliofjfhmbaaDoor.PUni Go.Proofs.YthbcliofjfhmbaaDoor.Given Go.Proofs.YthbcliofjfhmbaaDoor.UPure
set_option linter.unusedVariables false
namespace UniRow
theorem laidOps_of {l : List (String × DataW Unit)} {w : World} (h : laidMetH Tryd.prog l w) (hp : (l.filter fun x => x.2.handleName?.isSome) = []) (hm : ("ladderback/op.rows", Rows.laid_ladderback_op_rows) ∈ l) : LaidOps w := by
  have hv := Flat.varIs (name := "ladderback/op.rows") (D := Rows.laid_ladderback_op_rows) (vs := opsV) (g := 0) (t := 92) 6 h hp hm (by kernel_rfl) (by kernel_rfl) (by kernel_rfl) (by rfl)
  intro i v hi
  rw [hv.cell (by kernel_rfl), hi]
/-- A unit as data: its name, parameters, result, locals, code. -/
def KUnit : Kd (ByteArray × List Int × Int × List Int × List S47) := Kd.pair Kd.string (Kd.pair (Kd.slice 3 (Kd.int .i64)) (Kd.pair (Kd.int .i64) (Kd.pair (Kd.slice 3 (Kd.int .i64)) (Kd.slice 47 k47))))
end UniRow
end Go.Proofs.YthbcliofjfhmbaaDoor
end

section
/- The reader's contracts as printed texts call them; any reader of bytes that is not past its end. -/
namespace Go.Proofs.YthbcliofjfhmbaaDoor.Given
set_option linter.unusedVariables false
open Go.RowKit Go.Proofs.YthbcliofjfhmbaaDoorW.PrintWords Go.Proofs.YthbcliofjfhmbaaDoorW.PrintLast Go.Proofs.YthbcliofjfhmbaaDoorW.PrintMore
def octet_Reader_Num.f (s0_0 : List Int) (s0_1 : Int) (s0_2 : Bool) (a1 : Int) : Option (Int × Int × Bool) := if okB s0_0 = true then some (numR s0_0 s0_1 s0_2 a1) else none
theorem octet_Reader_Num.calls (g : Nat) (s0_0 : List Int) (s0_1 : Int) (s0_2 : Bool) (a1 : Int) (r1 : Int) (r2 : Int) (r3 : Bool) (w0 w : World) (hI : IsS88 w0 w g s0_0 s0_1 s0_2) (hB : Below w0.heap.size w0 w) (h : octet_Reader_Num.f s0_0 s0_1 s0_2 a1 = some (r1, r2, r3)) :
    Calls Tryd.prog 51 #[.pointer (some ⟨g, 0, none⟩), .int .i64 a1] w fun e w' => e = .returned (.int .i64 r1) ∧ IsS88 w0 w' g s0_0 r2 r3 ∧ Below w0.heap.size w0 w' ∧ KeepBut w w' g none := by
  unfold octet_Reader_Num.f at h
  split at h
  · rename_i hb
    have h := Option.some.inj h
    have := num_calls g w0 w s0_0 s0_1 s0_2 a1 hI hB hb
    rw [h] at this
    exact this
  · cases h
def octet_Reader_Take.f (s0_0 : List Int) (s0_1 : Int) (s0_2 : Bool) (a1 : Int) : Option (List Int × Int × Bool) := if okB s0_0 = true then some (takeR s0_0 s0_1 s0_2 a1) else none
theorem octet_Reader_Take.calls (g : Nat) (s0_0 : List Int) (s0_1 : Int) (s0_2 : Bool) (a1 : Int) (r1 : List Int) (r2 : Int) (r3 : Bool) (w0 w : World) (hI : IsS88 w0 w g s0_0 s0_1 s0_2) (hB : Below w0.heap.size w0 w) (h : octet_Reader_Take.f s0_0 s0_1 s0_2 a1 = some (r1, r2, r3)) :
    Calls Tryd.prog 52 #[.pointer (some ⟨g, 0, none⟩), .int .i64 a1] w fun e w' => ∃ v0_ : Value, e = .returned (v0_) ∧ Kd.R (Kd.int .u8) 5 w' w.heap.size (fun _ => True) v0_ r1 ∧ IsS88 w0 w' g s0_0 r2 r3 ∧ Below w0.heap.size w0 w' ∧ KeepBut w w' g none := by
  unfold octet_Reader_Take.f at h
  split at h
  · rename_i hb
    have h := Option.some.inj h
    have := take_calls g w0 w s0_0 s0_1 s0_2 a1 hI hB hb
    rw [h] at this
    exact this
  · cases h
def octet_Reader_Bad.f (s0_0 : List Int) (s0_1 : Int) (s0_2 : Bool) : Option (Bool × Int × Bool) := some (s0_2, s0_1, s0_2)
theorem octet_Reader_Bad.calls (g : Nat) (s0_0 : List Int) (s0_1 : Int) (s0_2 : Bool) (r1 : Bool) (r2 : Int) (r3 : Bool) (w0 w : World) (hI : IsS88 w0 w g s0_0 s0_1 s0_2) (hB : Below w0.heap.size w0 w) (h : octet_Reader_Bad.f s0_0 s0_1 s0_2 = some (r1, r2, r3)) :
    Calls Tryd.prog 49 #[.pointer (some ⟨g, 0, none⟩)] w fun e w' => e = .returned (.bool r1) ∧ IsS88 w0 w' g s0_0 r2 r3 ∧ Below w0.heap.size w0 w' ∧ KeepBut w w' g none := by
  have h := Option.some.inj h
  rw [Prod.mk.injEq, Prod.mk.injEq] at h
  obtain ⟨rfl, rfl, rfl⟩ := h
  refine (bad_calls g w0 w s0_0 s0_1 s0_2 hI).mono ?_
  rintro e w' ⟨he, m, rfl⟩
  exact ⟨he, hI.drewN m, pw_below_drewN hB m, keep_drewN (KeepBut.refl w g none) m⟩
end Go.Proofs.YthbcliofjfhmbaaDoor.Given
end

section
/- Printed by a program of this session (wip/pg.py, over the print of the kit): functions, their Lean twins, and the proofs that the calls come to them; each under the conditions that it names. -/
namespace Go.Proofs.YthbcliofjfhmbaaDoor.PNum
open Go.Proofs.YthbcliofjfhmbaaDoor.Given
open Go.RowKit Go.Proofs.YthbcliofjfhmbaaDoorW.PrintWords Go.Proofs.YthbcliofjfhmbaaDoorW.PrintLast Go.Proofs.YthbcliofjfhmbaaDoorW.PrintMore
attribute [local go_sem] max2_int min2_int max_two min_two max_three min_three max_four min_four   -- for this text's walks alone
set_option linter.unusedVariables false
set_option linter.unusedSimpArgs false



def errW : Option Int → Value
  | none => .nilIface
  | some c => .iface 0 (.int .i64 c)
theorem errW_none : errW none = .nilIface := rfl
theorem errW_some (c : Int) : errW (some c) = .iface 0 (.int .i64 c) := rfl

theorem info3 : (Tryd.prog.info? 3).map (fun i => (i.zero, i.size, i.bytes)) = some (some (.int .i64 0), 1, 8) := by kernel_rfl
-- the values' own types

end Go.Proofs.YthbcliofjfhmbaaDoor.PNum
end

section
/- Printed by a program of this session (wip/pg.py, over the print of the kit): functions, their Lean twins, and the proofs that the calls come to them; each under the conditions that it names. -/
namespace Go.Proofs.YthbcliofjfhmbaaDoor.PNum
open Go.Proofs.YthbcliofjfhmbaaDoor.Given
open Go.RowKit Go.Proofs.YthbcliofjfhmbaaDoorW.PrintWords Go.Proofs.YthbcliofjfhmbaaDoorW.PrintLast Go.Proofs.YthbcliofjfhmbaaDoorW.PrintMore
attribute [local go_sem] max2_int min2_int max_two min_two max_three min_three max_four min_four   -- for this text's walks alone
set_option linter.unusedVariables false
set_option linter.unusedSimpArgs false

-- NOT PRINTED: function 70 (octet_Reader_next)


/-! ### unit_numbers: function 50 -/
def unit_numbers.l0 : Nat → List Int → List Int → Int → Int → List Int → Int → Bool → Option (List Int × Int × Int × Bool)
  | 0, _, _, _, _, _, _, _ => none
  | k + 1, x9, x20, x21, x22, x1000, x1001, x1002 => if x22 < x21 then (if 0 ≤ x22 then (if x22 < (x20.length : Int) then (if x9.length < 17592186044416 then (unit_numbers.l0 k (x9 ++ [wrap64 (rd x20 x22)]) x20 x21 (wrap64 (x22 + 1)) x1000 x1001 x1002) else (none)) else (none)) else (none)) else ((octet_Reader_Bad.f x1000 x1001 x1002).bind fun bt113 => (if bt113.1 = true then (some (([] : List Int), 1, bt113.2.1, bt113.2.2)) else (some (x9, 0, bt113.2.1, bt113.2.2))))
def unit_numbers.f (k : Nat) (s0_0 : List Int) (s0_1 : Int) (s0_2 : Bool) (a1 : Int) (a2 : Int) : Option (List Int × Int × Int × Bool) := (octet_Reader_Num.f s0_0 s0_1 s0_2 a1).bind fun bt101 => (if bt101.1 > a2 then (some (([] : List Int), 5, bt101.2.1, bt101.2.2)) else ((octet_Reader_Take.f s0_0 bt101.2.1 bt101.2.2 bt101.1).bind fun bt104 => (unit_numbers.l0 k ([] : List Int) bt104.1 (bt104.1.length : Int) 0 s0_0 bt104.2.1 bt104.2.2)))
set_option maxHeartbeats 8000000 in
set_option maxRecDepth 100000 in
theorem unit_numbers.calls (k : Nat) (g : Nat) (s0_0 : List Int) (s0_1 : Int) (s0_2 : Bool) (a1 : Int) (a2 : Int) (r1 : List Int) (r2 : Int) (r3 : Int) (r4 : Bool) (w0 w : World) (hI : IsS88 w0 w g s0_0 s0_1 s0_2) (hB : Below w0.heap.size w0 w) (h : unit_numbers.f k s0_0 s0_1 s0_2 a1 a2 = some (r1, r2, r3, r4)) :
    Calls Tryd.prog 50 #[.pointer (some ⟨g, 0, none⟩), .int .i64 a1, .int .i64 a2] w fun e w' => ∃ v0_ : Value, e = .returned (.tuple #[v0_, .int .i64 r2]) ∧ Kd.R (Kd.int .i64) 3 w' w.heap.size (fun _ => True) v0_ r1 ∧ IsS88 w0 w' g s0_0 r3 r4 ∧ Below w0.heap.size w0 w' ∧ KeepBut w w' g none := by
  have HI0 := Aside0.mk hI
  have HK := Aside0.mk (KeepBut.refl w g none)
  have HL := Aside0.mk hB.size
  clear hI
  have HW0 := Aside0.mk hB.size
  have HB := Aside0.mk hB
  clear hB
  have H : ((octet_Reader_Num.f s0_0 s0_1 s0_2 a1).bind fun bt101 => (if bt101.1 > a2 then (some (([] : List Int), 5, bt101.2.1, bt101.2.2)) else ((octet_Reader_Take.f s0_0 bt101.2.1 bt101.2.2 bt101.1).bind fun bt104 => (unit_numbers.l0 k ([] : List Int) bt104.1 (bt104.1.length : Int) 0 s0_0 bt104.2.1 bt104.2.2)))) = some (r1, r2, r3, r4) := h
  clear h
  replace H := Option.bind_eq_some_iff.mp H
  obtain ⟨⟨t101, t102, t103⟩, A40, H⟩ := H
  replace H : (if t101 > a2 then (some (([] : List Int), 5, t102, t103)) else ((octet_Reader_Take.f s0_0 t102 t103 t101).bind fun bt104 => (unit_numbers.l0 k ([] : List Int) bt104.1 (bt104.1.length : Int) 0 s0_0 bt104.2.1 bt104.2.2))) = some (r1, r2, r3, r4) := H
  have A4 := Aside0.mk A40
  clear A40
  by_cases c5 : t101 > a2
  · rw [if_pos c5] at H
    have c5b0 : decide (a2 < t101) = true := decide_eq_true c5
    clear c5
    simp only [Option.some.injEq, Prod.mk.injEq] at H
    obtain ⟨rfl, rfl, rfl, rfl⟩ := H
    go_enter Tryd.func50, Tryd.ntmps50
    go_wp2_with (first | ((with_reducible refine gate_callee (f := 51) rfl ?_); refine goesL_ (some 14) rfl rfl Tryd.func51 (by kernel_rfl) rfl #[.pointer (some ⟨g, 0, none⟩), .int .i64 a1] rfl (by (try simp only [List.map_toArray, List.map_cons, List.map_nil]); first | done | rfl | (simp only [List.length_drop, List.length_take]; rfl)) ?_; (with_reducible refine (octet_Reader_Num.calls g s0_0 s0_1 s0_2 a1 t101 t102 t103 w0 _ ?side1 ?side2 A4.out).mono ?_); (case side1 => repeat (first | (with_reducible first | exact HI0.out | apply IsS88.alloc | apply IsS88.drewN | apply IsS88.drew | apply IsS88.set_1 | apply IsS88.set_2) | exact HI0.out)); (case side2 => repeat (first | (with_reducible first | exact HB.out | apply below_alloc | apply pw_below_drewN | apply below_drew1 | refine below_set ?_ (IsS88.ge HI0.out)) | exact HB.out)); rintro e w6 ⟨rfl, hi, hb, hk⟩; refine ⟨_, rfl, ?_⟩; have n0_ := Aside0.mk (KeepBut.trans (by repeat (first | (with_reducible first | exact HK.out | apply KeepBut.set_ | apply keep_drewN | apply keep_drew | apply keep_alloc) | exact HK.out)) hk (.inl rfl)); have n1_ := Aside0.mk (hb); have n2_ := Aside0.mk (hi); clear HK; clear HB; clear HI0; have HK := n0_; have HB := n1_; have HI0 := n2_; clear n0_ n1_ n2_; (try clear hb); (try clear hb2); (try clear hk); (try clear hi)))
    go_ret2
    exact ⟨_, by first | rfl | (simp [errW_none, errW_some] <;> rfl) | (simp [*, errW_none, errW_some] <;> rfl), by first | exact Kd.R_nil _ _ _ _ _ | exact Kd.N_nil _ _ _ _ _ | exact Kd.V_nil _ _ _ _ _ | exact Kd.Q_nil _ _ _ _ _ | exact Kd.S_nil _ _ _ _ _, by repeat (first | (with_reducible first | exact HI0.out | apply IsS88.alloc | apply IsS88.drewN | apply IsS88.drew | apply IsS88.set_1 | apply IsS88.set_2) | exact HI0.out), by repeat (first | (with_reducible first | exact HB.out | apply below_alloc | apply pw_below_drewN | apply below_drew1 | refine below_set ?_ (IsS88.ge HI0.out)) | exact HB.out), by repeat (first | (with_reducible first | exact HK.out | apply KeepBut.set_ | apply keep_drewN | apply keep_drew | apply keep_alloc) | exact HK.out)⟩
  · rw [if_neg c5] at H
    have c5b0 : decide (a2 < t101) = false := decide_eq_false c5
    clear c5
    replace H := Option.bind_eq_some_iff.mp H
    obtain ⟨⟨t104, t107, t108⟩, A70, H⟩ := H
    replace H : (unit_numbers.l0 k ([] : List Int) t104 (t104.length : Int) 0 s0_0 t107 t108) = some (r1, r2, r3, r4) := H
    have A7 := Aside0.mk A70
    clear A70
    have H' := Aside0.mk H
    clear H
    go_enter Tryd.func50, Tryd.ntmps50
    go_wp2_with (first | ((with_reducible refine gate_callee (f := 51) rfl ?_); refine goesL_ (some 14) rfl rfl Tryd.func51 (by kernel_rfl) rfl #[.pointer (some ⟨g, 0, none⟩), .int .i64 a1] rfl (by (try simp only [List.map_toArray, List.map_cons, List.map_nil]); first | done | rfl | (simp only [List.length_drop, List.length_take]; rfl)) ?_; (with_reducible refine (octet_Reader_Num.calls g s0_0 s0_1 s0_2 a1 t101 t102 t103 w0 _ ?side1 ?side2 A4.out).mono ?_); (case side1 => repeat (first | (with_reducible first | exact HI0.out | apply IsS88.alloc | apply IsS88.drewN | apply IsS88.drew | apply IsS88.set_1 | apply IsS88.set_2) | exact HI0.out)); (case side2 => repeat (first | (with_reducible first | exact HB.out | apply below_alloc | apply pw_below_drewN | apply below_drew1 | refine below_set ?_ (IsS88.ge HI0.out)) | exact HB.out)); rintro e w8 ⟨rfl, hi, hb, hk⟩; refine ⟨_, rfl, ?_⟩; have n0_ := Aside0.mk (KeepBut.trans (by repeat (first | (with_reducible first | exact HK.out | apply KeepBut.set_ | apply keep_drewN | apply keep_drew | apply keep_alloc) | exact HK.out)) hk (.inl rfl)); have n1_ := Aside0.mk (hb); have n2_ := Aside0.mk (hi); clear HK; clear HB; clear HI0; have HK := n0_; have HB := n1_; have HI0 := n2_; clear n0_ n1_ n2_; (try clear hb); (try clear hb2); (try clear hk); (try clear hi)) | ((with_reducible refine gate_callee (f := 52) rfl ?_); refine goesL_ (some 20) rfl rfl Tryd.func52 (by kernel_rfl) rfl #[.pointer (some ⟨g, 0, none⟩), .int .i64 t101] rfl (by (try simp only [List.map_toArray, List.map_cons, List.map_nil]); first | done | rfl | (simp only [List.length_drop, List.length_take]; rfl)) ?_; (with_reducible refine (octet_Reader_Take.calls g s0_0 t102 t103 t101 t104 t107 t108 w0 _ ?side1 ?side2 A7.out).mono ?_); (case side1 => repeat (first | (with_reducible first | exact HI0.out | apply IsS88.alloc | apply IsS88.drewN | apply IsS88.drew | apply IsS88.set_1 | apply IsS88.set_2) | exact HI0.out)); (case side2 => repeat (first | (with_reducible first | exact HB.out | apply below_alloc | apply pw_below_drewN | apply below_drew1 | refine below_set ?_ (IsS88.ge HI0.out)) | exact HB.out)); rintro e w9 ⟨v105, rfl, ho0, hi, hb, hk⟩; refine ⟨_, rfl, ?_⟩; have n0_ := Aside0.mk (Kd.R_lower ho0 (keep_size (w := w) (g := g) (row := none) (by repeat (first | (with_reducible first | exact HK.out | apply KeepBut.set_ | apply keep_drewN | apply keep_drew | apply keep_alloc) | exact HK.out)))); have n1_ := Aside0.mk (KeepBut.trans (by repeat (first | (with_reducible first | exact HK.out | apply KeepBut.set_ | apply keep_drewN | apply keep_drew | apply keep_alloc) | exact HK.out)) hk (.inl rfl)); have n2_ := Aside0.mk (hb); have n3_ := Aside0.mk (hi); clear HK; clear HB; clear HI0; have HO106 := n0_; have HK := n1_; have HB := n2_; have HI0 := n3_; clear n0_ n1_ n2_ n3_; (try clear hb); (try clear hb2); (try clear hk); (try clear hi); (try clear ho0); obtain ⟨Ao10, co10, eo10⟩ := Kd.R_slice HO106.out; subst eo10))
    go_loopg [9, 22] k (fun kq v9 v22 w' => ∃ (x9_1 : List Int) (x22_1 : Int), v22 = .int .i64 x22_1 ∧ Aside0 (unit_numbers.l0 kq x9_1 t104 (t104.length : Int) x22_1 s0_0 t107 t108 = some (r1, r2, r3, r4)) ∧ Aside0 (kq ≤ k) ∧ Aside0 (Kd.R (Kd.int .i64) 3 w' w.heap.size (fun _ => True) v9 x9_1) ∧ Aside0 (Kd.R (Kd.int .u8) 5 w' w.heap.size (fun _ => True) (.slice Ao10 t104.length co10) t104) ∧ Aside0 (IsS88 w0 w' g s0_0 t107 t108) ∧ Aside0 (KeepBut w w' g none) ∧ Aside0 (Below w0.heap.size w0 w'))
    case atStart => exact ⟨(([] : List Int)), (0), (by first | rfl | (simp; done) | (simp [*]; done)), H', ⟨Nat.le_refl _⟩, ⟨by first | exact Kd.R_nil _ _ _ _ _ | exact Kd.N_nil _ _ _ _ _ | exact Kd.V_nil _ _ _ _ _ | exact Kd.Q_nil _ _ _ _ _ | exact Kd.S_nil _ _ _ _ _⟩, ⟨by (with_reducible repeat (first | apply Kd.R_alloc | apply Kd.R_drewN | apply Kd.R_drew)); exact HO106.out⟩, ⟨by repeat (first | (with_reducible first | exact HI0.out | apply IsS88.alloc | apply IsS88.drewN | apply IsS88.drew | apply IsS88.set_1 | apply IsS88.set_2) | exact HI0.out)⟩, ⟨by repeat (first | (with_reducible first | exact HK.out | apply KeepBut.set_ | apply keep_drewN | apply keep_drew | apply keep_alloc) | exact HK.out)⟩, ⟨by repeat (first | (with_reducible first | exact HB.out | apply below_alloc | apply pw_below_drewN | apply below_drew1 | refine below_set ?_ (IsS88.ge HI0.out)) | exact HB.out)⟩⟩
    case round =>
      clear H'
      try clear p2
      try clear c5
      try clear c5b0
      obtain ⟨x9_1, x22_1, rfl, HA, HK1, HO_9, HO_20, HI0, HK, HB⟩ := hrel
      cases gk with
      | zero => exact absurd HA.out (by simp [unit_numbers.l0])
      | succ k1 =>
        have H := HA.out
        clear HA
        simp only [unit_numbers.l0] at H
        by_cases c11 : x22_1 < (t104.length : Int)
        · rw [if_pos c11] at H
          have c11b0 : decide (x22_1 < (t104.length : Int)) = true := decide_eq_true c11
          clear c11
          by_cases c12 : 0 ≤ x22_1
          · rw [if_pos c12] at H
            have c12b0 : decide (0 ≤ x22_1) = true := decide_eq_true c12
            clear c12
            by_cases c13 : x22_1 < (t104.length : Int)
            · rw [if_pos c13] at H
              have c13b0 : decide (x22_1 < (t104.length : Int)) = true := decide_eq_true c13
              clear c13
              by_cases c14 : x9_1.length < 17592186044416
              · rw [if_pos c14] at H
                have LMc14 := Aside0.mk c14
                clear c14
                obtain ⟨y110, hy110⟩ : ∃ y_ : List Int, y_ = (x9_1 ++ [wrap64 (rd t104 x22_1)]) := ⟨_, rfl⟩
                replace H : (unit_numbers.l0 k1 y110 t104 (t104.length : Int) (wrap64 (x22_1 + 1)) s0_0 t107 t108) = some (r1, r2, r3, r4) := by first | (rw [hy110]; with_reducible exact H) | (have H2_ := (Option.bind_some _ _).symm.trans H; rw [hy110]; with_reducible exact H2_) | (have H2_ := (Option.bind_some _ _).symm.trans H; with_reducible exact H2_) | with_reducible exact H | (rw [hy110]; exact H) | exact H
                have Ny110 := Aside0.mk hy110
                clear hy110
                have H' := Aside0.mk H
                clear H
                have p109 : 0 ≤ (x22_1 : Int) := of_decide_eq_true (by first | (with_reducible assumption) | assumption)
                have q109 : x22_1 < (t104.length : Int) := of_decide_eq_true (by first | (with_reducible assumption) | assumption)
                obtain ⟨ad109, e109, hx109_0⟩ := Kd.at_int (Kd.R_reads' HO_20.out).2.2 x22_1 p109 q109
                cases e109
                replace p109 := eq_true p109
                replace q109 := eq_true q109
                go_wp2_with (first | ((with_reducible refine gate_builtin (b := .append) (xs := #[.tmp 26, .tmp 29]) rfl ?_); at_builtin; refine Kd.R_append (Kd.int .i64) w.heap.size rfl (.tmp 26) (.tmp 29) 35 3 (.int .i64 0) 8 rfl Tryd.underlying35 info3 rfl (by decide) (by omega) u9 x9_1 (wrap64 (rd t104 x22_1)) [.int .i64 (wrap64 (rd t104 x22_1))] (fun _ => True) (fun _ => False) rfl rfl ?aP (fun _ hk => hk.elim) ?aF ?aO (Below.refl _ _) ?aS ?aL ?_; (case aP => exact rfl); (case aF => exact (fun _ _ => trivial)); (case aO => exact (by (with_reducible repeat (first | apply Kd.R_alloc | apply Kd.R_drewN | apply Kd.R_drew)); exact HO_9.out)); (case aS => exact (keep_size (w := w) (g := g) (row := none) (by repeat (first | (with_reducible first | exact HK.out | apply KeepBut.set_ | apply keep_drewN | apply keep_drew | apply keep_alloc) | exact HK.out)))); (case aL => have := LMc14.out; omega); intro v111 w15 ho hb hg hat; rw [← Ny110.out] at ho; have n0_ := Aside0.mk (Kd.R_over' (by (with_reducible repeat (first | apply Kd.R_alloc | apply Kd.R_drewN | apply Kd.R_drew)); exact HO_20.out) (Kd.R_typed (by (with_reducible repeat (first | apply Kd.R_alloc | apply Kd.R_drewN | apply Kd.R_drew)); exact HO_9.out)) (by decide) hg); have n1_ := Aside0.mk (IsS88.grown (by repeat (first | (with_reducible first | exact HI0.out | apply IsS88.alloc | apply IsS88.drewN | apply IsS88.drew | apply IsS88.set_1 | apply IsS88.set_2) | exact HI0.out)) hg (IsS88.own_ne HI0.out HO_9.out (by decide))); have n2_ := Aside0.mk (below_weaken (by repeat (first | (with_reducible first | exact HB.out | apply below_alloc | apply pw_below_drewN | apply below_drew1 | refine below_set ?_ (IsS88.ge HI0.out)) | exact HB.out)) HL.out hb); have n3_ := Aside0.mk (KeepBut.trans (by repeat (first | (with_reducible first | exact HK.out | apply KeepBut.set_ | apply keep_drewN | apply keep_drew | apply keep_alloc) | exact HK.out)) (KeepBut.of_grown hg g) (Kd.R_base2 HO_9.out)); have n4_ := Aside0.mk (ho); clear HO_20; clear HI0; clear HB; clear HK; clear HO_9; have HO_20 := n0_; have HI0 := n1_; have HB := n2_; have HK := n3_; have HO112 := n4_; clear n0_ n1_ n2_ n3_ n4_; clear ho hb hg hat))
                go_roundg k1
                case measure => have := HK1.out; omega
                case rel => exact ⟨(y110), (wrap64 (x22_1 + 1)), (by first | rfl | (simp; done) | (simp [*]; done)), H', ⟨by have := HK1.out; omega⟩, ⟨by (with_reducible repeat (first | apply Kd.R_alloc | apply Kd.R_drewN | apply Kd.R_drew)); exact HO112.out⟩, ⟨by (with_reducible repeat (first | apply Kd.R_alloc | apply Kd.R_drewN | apply Kd.R_drew)); exact HO_20.out⟩, ⟨by repeat (first | (with_reducible first | exact HI0.out | apply IsS88.alloc | apply IsS88.drewN | apply IsS88.drew | apply IsS88.set_1 | apply IsS88.set_2) | exact HI0.out)⟩, ⟨by repeat (first | (with_reducible first | exact HK.out | apply KeepBut.set_ | apply keep_drewN | apply keep_drew | apply keep_alloc) | exact HK.out)⟩, ⟨by repeat (first | (with_reducible first | exact HB.out | apply below_alloc | apply pw_below_drewN | apply below_drew1 | refine below_set ?_ (IsS88.ge HI0.out)) | exact HB.out)⟩⟩
              · rw [if_neg c14] at H
                exact absurd H (by simp)
            · rw [if_neg c13] at H
              exact absurd H (by simp)
          · rw [if_neg c12] at H
            exact absurd H (by simp)
        · rw [if_neg c11] at H
          have c11b0 : decide (x22_1 < (t104.length : Int)) = false := decide_eq_false c11
          clear c11
          replace H := Option.bind_eq_some_iff.mp H
          obtain ⟨⟨t113, t114, t115⟩, A160, H⟩ := H
          replace H : (if t113 = true then (some (([] : List Int), 1, t114, t115)) else (some (x9_1, 0, t114, t115))) = some (r1, r2, r3, r4) := H
          have A16 := Aside0.mk A160
          clear A160
          by_cases c17 : t113 = true
          · subst c17
            have H1 : (some (([] : List Int), 1, t114, t115)) = some (r1, r2, r3, r4) := by rw [if_pos rfl] at H; exact H
            clear H
            have H := H1
            clear H1
            simp only [Option.some.injEq, Prod.mk.injEq] at H
            obtain ⟨rfl, rfl, rfl, rfl⟩ := H
            go_wp2_with (first | ((with_reducible refine gate_callee (f := 49) rfl ?_); refine goesL_ (some 33) rfl rfl Tryd.func49 (by kernel_rfl) rfl #[.pointer (some ⟨g, 0, none⟩)] rfl (by (try simp only [List.map_toArray, List.map_cons, List.map_nil]); first | done | rfl | (simp only [List.length_drop, List.length_take]; rfl)) ?_; (with_reducible refine (octet_Reader_Bad.calls g s0_0 t107 t108 true t114 t115 w0 _ ?side1 ?side2 A16.out).mono ?_); (case side1 => repeat (first | (with_reducible first | exact HI0.out | apply IsS88.alloc | apply IsS88.drewN | apply IsS88.drew | apply IsS88.set_1 | apply IsS88.set_2) | exact HI0.out)); (case side2 => repeat (first | (with_reducible first | exact HB.out | apply below_alloc | apply pw_below_drewN | apply below_drew1 | refine below_set ?_ (IsS88.ge HI0.out)) | exact HB.out)); rintro e w18 ⟨rfl, hi, hb, hk⟩; refine ⟨_, rfl, ?_⟩; have n0_ := Aside0.mk (Kd.R_mono (Kd.R_keep (IsS88.apart (show IsS88 w0 _ g s0_0 t107 t108 from by repeat (first | (with_reducible first | exact HI0.out | apply IsS88.alloc | apply IsS88.drewN | apply IsS88.drew | apply IsS88.set_1 | apply IsS88.set_2) | exact HI0.out)) (by (with_reducible repeat (first | apply Kd.R_alloc | apply Kd.R_drewN | apply Kd.R_drew)); exact HO_9.out) (by decide)) hk (fun _ h => h.2)) (fun _ h => h.1)); have n1_ := Aside0.mk (Kd.R_mono (Kd.R_keep (IsS88.apart (show IsS88 w0 _ g s0_0 t107 t108 from by repeat (first | (with_reducible first | exact HI0.out | apply IsS88.alloc | apply IsS88.drewN | apply IsS88.drew | apply IsS88.set_1 | apply IsS88.set_2) | exact HI0.out)) (by (with_reducible repeat (first | apply Kd.R_alloc | apply Kd.R_drewN | apply Kd.R_drew)); exact HO_20.out) (by decide)) hk (fun _ h => h.2)) (fun _ h => h.1)); have n2_ := Aside0.mk (KeepBut.trans (by repeat (first | (with_reducible first | exact HK.out | apply KeepBut.set_ | apply keep_drewN | apply keep_drew | apply keep_alloc) | exact HK.out)) hk (.inl rfl)); have n3_ := Aside0.mk (hb); have n4_ := Aside0.mk (hi); clear HO_9; clear HO_20; clear HK; clear HB; clear HI0; have HO_9 := n0_; have HO_20 := n1_; have HK := n2_; have HB := n3_; have HI0 := n4_; clear n0_ n1_ n2_ n3_ n4_; (try clear hb); (try clear hb2); (try clear hk); (try clear hi)))
            go_ret2
            exact ⟨_, by first | rfl | (simp [errW_none, errW_some] <;> rfl) | (simp [*, errW_none, errW_some] <;> rfl), by first | exact Kd.R_nil _ _ _ _ _ | exact Kd.N_nil _ _ _ _ _ | exact Kd.V_nil _ _ _ _ _ | exact Kd.Q_nil _ _ _ _ _ | exact Kd.S_nil _ _ _ _ _, by repeat (first | (with_reducible first | exact HI0.out | apply IsS88.alloc | apply IsS88.drewN | apply IsS88.drew | apply IsS88.set_1 | apply IsS88.set_2) | exact HI0.out), by repeat (first | (with_reducible first | exact HB.out | apply below_alloc | apply pw_below_drewN | apply below_drew1 | refine below_set ?_ (IsS88.ge HI0.out)) | exact HB.out), by repeat (first | (with_reducible first | exact HK.out | apply KeepBut.set_ | apply keep_drewN | apply keep_drew | apply keep_alloc) | exact HK.out)⟩
          · replace c17 := Bool.eq_false_iff.mpr c17
            subst c17
            have H1 : (some (x9_1, 0, t114, t115)) = some (r1, r2, r3, r4) := by rw [if_neg (show ¬ (false = true) by decide)] at H; exact H
            clear H
            have H := H1
            clear H1
            simp only [Option.some.injEq, Prod.mk.injEq] at H
            obtain ⟨rfl, rfl, rfl, rfl⟩ := H
            go_wp2_with (first | ((with_reducible refine gate_callee (f := 49) rfl ?_); refine goesL_ (some 33) rfl rfl Tryd.func49 (by kernel_rfl) rfl #[.pointer (some ⟨g, 0, none⟩)] rfl (by (try simp only [List.map_toArray, List.map_cons, List.map_nil]); first | done | rfl | (simp only [List.length_drop, List.length_take]; rfl)) ?_; (with_reducible refine (octet_Reader_Bad.calls g s0_0 t107 t108 false t114 t115 w0 _ ?side1 ?side2 A16.out).mono ?_); (case side1 => repeat (first | (with_reducible first | exact HI0.out | apply IsS88.alloc | apply IsS88.drewN | apply IsS88.drew | apply IsS88.set_1 | apply IsS88.set_2) | exact HI0.out)); (case side2 => repeat (first | (with_reducible first | exact HB.out | apply below_alloc | apply pw_below_drewN | apply below_drew1 | refine below_set ?_ (IsS88.ge HI0.out)) | exact HB.out)); rintro e w19 ⟨rfl, hi, hb, hk⟩; refine ⟨_, rfl, ?_⟩; have n0_ := Aside0.mk (Kd.R_mono (Kd.R_keep (IsS88.apart (show IsS88 w0 _ g s0_0 t107 t108 from by repeat (first | (with_reducible first | exact HI0.out | apply IsS88.alloc | apply IsS88.drewN | apply IsS88.drew | apply IsS88.set_1 | apply IsS88.set_2) | exact HI0.out)) (by (with_reducible repeat (first | apply Kd.R_alloc | apply Kd.R_drewN | apply Kd.R_drew)); exact HO_9.out) (by decide)) hk (fun _ h => h.2)) (fun _ h => h.1)); have n1_ := Aside0.mk (Kd.R_mono (Kd.R_keep (IsS88.apart (show IsS88 w0 _ g s0_0 t107 t108 from by repeat (first | (with_reducible first | exact HI0.out | apply IsS88.alloc | apply IsS88.drewN | apply IsS88.drew | apply IsS88.set_1 | apply IsS88.set_2) | exact HI0.out)) (by (with_reducible repeat (first | apply Kd.R_alloc | apply Kd.R_drewN | apply Kd.R_drew)); exact HO_20.out) (by decide)) hk (fun _ h => h.2)) (fun _ h => h.1)); have n2_ := Aside0.mk (KeepBut.trans (by repeat (first | (with_reducible first | exact HK.out | apply KeepBut.set_ | apply keep_drewN | apply keep_drew | apply keep_alloc) | exact HK.out)) hk (.inl rfl)); have n3_ := Aside0.mk (hb); have n4_ := Aside0.mk (hi); clear HO_9; clear HO_20; clear HK; clear HB; clear HI0; have HO_9 := n0_; have HO_20 := n1_; have HK := n2_; have HB := n3_; have HI0 := n4_; clear n0_ n1_ n2_ n3_ n4_; (try clear hb); (try clear hb2); (try clear hk); (try clear hi)))
            go_ret2
            exact ⟨_, by first | rfl | (simp [errW_none, errW_some] <;> rfl) | (simp [*, errW_none, errW_some] <;> rfl), by (with_reducible repeat (first | apply Kd.R_alloc | apply Kd.R_drewN | apply Kd.R_drew)); exact HO_9.out, by repeat (first | (with_reducible first | exact HI0.out | apply IsS88.alloc | apply IsS88.drewN | apply IsS88.drew | apply IsS88.set_1 | apply IsS88.set_2) | exact HI0.out), by repeat (first | (with_reducible first | exact HB.out | apply below_alloc | apply pw_below_drewN | apply below_drew1 | refine below_set ?_ (IsS88.ge HI0.out)) | exact HB.out), by repeat (first | (with_reducible first | exact HK.out | apply KeepBut.set_ | apply keep_drewN | apply keep_drew | apply keep_alloc) | exact HK.out)⟩

end Go.Proofs.YthbcliofjfhmbaaDoor.PNum
end

section
/- Printed by a program of this session (wip/pg.py, over the print of the kit): functions, their Lean twins, and the proofs that the calls come to them; each under the conditions that it names. -/
namespace Go.Proofs.YthbcliofjfhmbaaDoor.PNum
open Go.Proofs.YthbcliofjfhmbaaDoor.Given
open Go.RowKit Go.Proofs.YthbcliofjfhmbaaDoorW.PrintWords Go.Proofs.YthbcliofjfhmbaaDoorW.PrintLast Go.Proofs.YthbcliofjfhmbaaDoorW.PrintMore
attribute [local go_sem] max2_int min2_int max_two min_two max_three min_three max_four min_four   -- for this text's walks alone
set_option linter.unusedVariables false
set_option linter.unusedSimpArgs false

end Go.Proofs.YthbcliofjfhmbaaDoor.PNum
end

section
/- Printed by a program of this session (wip/pg.py, over the print of the kit): functions, their Lean twins, and the proofs that the calls come to them; each under the conditions that it names. -/
namespace Go.Proofs.YthbcliofjfhmbaaDoor.PCod
open Go.RowKit Go.Proofs.YthbcliofjfhmbaaDoorW.PrintWords Go.Proofs.YthbcliofjfhmbaaDoorW.PrintLast Go.Proofs.YthbcliofjfhmbaaDoorW.PrintMore
attribute [local go_sem] max2_int min2_int max_two min_two max_three min_three max_four min_four   -- for this text's walks alone
set_option linter.unusedVariables false
set_option linter.unusedSimpArgs false



def errW : Option Int → Value
  | none => .nilIface
  | some c => .iface 0 (.int .i64 c)
theorem errW_none : errW none = .nilIface := rfl
theorem errW_some (c : Int) : errW (some c) = .iface 0 (.int .i64 c) := rfl

theorem info3 : (Tryd.prog.info? 3).map (fun i => (i.zero, i.size, i.bytes)) = some (some (.int .i64 0), 1, 8) := by kernel_rfl
theorem info5 : (Tryd.prog.info? 5).map (fun i => (i.zero, i.size, i.bytes)) = some (some (.int .u8 0), 1, 1) := by kernel_rfl
theorem info47 : (Tryd.prog.info? 47).map (fun i => (i.zero, i.size, i.bytes)) = some (some (.agg #[(.int .i64 0), (.int .i64 0), (.int .i64 0)]), 3, 24) := by kernel_rfl
-- the values' own types
/-! #### struct type 47 -/
structure S47 where
  f0 : Int
  f1 : Int
  f2 : Int
def z47 : S47 := ⟨(0 : Int), (0 : Int), (0 : Int)⟩
def k47 : Kd S47 := Kd.iso (Kd.pair (Kd.int .i64) (Kd.pair (Kd.int .i64) (Kd.int .i64))) (fun x : S47 => (x.f0, x.f1, x.f2))
theorem k47_open {w : World} {x : S47} {cs : List Value} (h : k47.K w x cs) : cs = [.int .i64 x.f0, .int .i64 x.f1, .int .i64 x.f2] := by
  obtain ⟨_, _, rfl, rfl, ⟨_, _, rfl, rfl, rfl⟩⟩ := h
  exact rfl
theorem k47_mkM (w : World) (base : Nat) (ok : Nat → Prop) (x : S47)  : k47.M w base ok x [.int .i64 x.f0, .int .i64 x.f1, .int .i64 x.f2] := ⟨[.int .i64 x.f0], [.int .i64 x.f1, .int .i64 x.f2], rfl, rfl, ⟨[.int .i64 x.f1], [.int .i64 x.f2], rfl, rfl, rfl⟩⟩
def rd_T47 (xs : List S47) (i : Int) : S47 := xs.getD i.toNat z47
theorem at_T47 {w : World} {A : Option Addr} {n : Nat} {xs : List S47} (h : Kd.C k47 w A n xs) (i : Int) (h0 : 0 ≤ i) (h1 : i < n) : ∃ ad , A = some ad ∧ w.cell? (ad.add (i.toNat * 3)) = some (.int .i64 (rd_T47 xs i).f0) ∧ w.cell? ⟨(ad.add (i.toNat * 3)).block, (ad.add (i.toNat * 3)).off + 1, none⟩ = some (.int .i64 (rd_T47 xs i).f1) ∧ w.cell? ⟨(ad.add (i.toNat * 3)).block, (ad.add (i.toNat * 3)).off + 2, none⟩ = some (.int .i64 (rd_T47 xs i).f2) := by
  obtain ⟨ad, c, e, _, hK, hc0⟩ := Kd.C_get h z47 i h0 h1
  have hc : ∀ j u, c[j]? = some u → w.cell? (ad.add (i.toNat * 3 + j)) = some u := hc0
  obtain rfl := k47_open hK
  exact ⟨ad, e, hc 0 _ rfl, by rw [← add_field _ _ 1 (by omega)]; exact hc 1 _ rfl, by rw [← add_field _ _ 2 (by omega)]; exact hc 2 _ rfl⟩

end Go.Proofs.YthbcliofjfhmbaaDoor.PCod
end

section
/- Bytes as instructions, as the program reads them; bytes of at most 1000000 in length, the operations' table as the program lays it. -/
namespace Go.Proofs.YthbcliofjfhmbaaDoor.Given
set_option linter.unusedVariables false
set_option linter.unusedSimpArgs false
open Go.RowKit Go.Proofs.YthbcliofjfhmbaaDoorW.PrintWords Go.Proofs.YthbcliofjfhmbaaDoorW.PrintLast Go.Proofs.YthbcliofjfhmbaaDoorW.PrintMore
open Go.Proofs.YthbcliofjfhmbaaDoor
abbrev InS := PCod.S47
abbrev inK := PCod.k47
/-- Bytes as instructions; or how many there were, and the error. -/
def decF : Nat → List Int → List InS → List InS × Int × Int
  | 0, _, out => (out, 0, 0)
  | n + 1, a :: b :: c :: d :: e :: t, out => if errI a (b + 256 * c) (d + 256 * e) = 0 then decF n t (out ++ [⟨a, b + 256 * c, d + 256 * e⟩]) else ([], out.length, errI a (b + 256 * c) (d + 256 * e))
  | _ + 1, [], out => (out, 0, 0)
  | _ + 1, _ :: _, out => ([], out.length, 1)
theorem num1 (a b c d e : Int) (h : okB [a, b, c, d, e] = true) : numR [a, b, c, d, e] 0 false 1 = (a, 1, false) := by
  have hr := (okB_all h).1
  have ha := hr a (by simp)
  unfold numR
  rw [show mx 0 (mn 1 8) = 1 by decide, if_pos (show okR [a, b, c, d, e] 0 false 1 from ⟨rfl, by decide, by simp⟩)]
  show (wrap64 (a + 256 * 0), _, _) = _
  rw [show wrap64 (a + 256 * 0) = a by unfold wrap64; omega]
  rfl
theorem num2 (a b c d e : Int) (h : okB [a, b, c, d, e] = true) : numR [a, b, c, d, e] 1 false 2 = (b + 256 * c, 3, false) := by
  have hr := (okB_all h).1
  have hb := hr b (by simp)
  have hc := hr c (by simp)
  unfold numR
  rw [show mx 0 (mn 2 8) = 2 by decide, if_pos (show okR [a, b, c, d, e] 1 false 2 from ⟨rfl, by decide, by simp⟩)]
  show (wrap64 (b + 256 * (c + 256 * 0)), _, _) = _
  rw [show wrap64 (b + 256 * (c + 256 * 0)) = b + 256 * c by unfold wrap64; omega]
  rfl
theorem num3 (a b c d e : Int) (h : okB [a, b, c, d, e] = true) : numR [a, b, c, d, e] 3 false 2 = (d + 256 * e, 5, false) := by
  have hr := (okB_all h).1
  have hd := hr d (by simp)
  have he := hr e (by simp)
  unfold numR
  rw [show mx 0 (mn 2 8) = 2 by decide, if_pos (show okR [a, b, c, d, e] 3 false 2 from ⟨rfl, by decide, by simp⟩)]
  show (wrap64 (d + 256 * (e + 256 * 0)), _, _) = _
  rw [show wrap64 (d + 256 * (e + 256 * 0)) = d + 256 * e by unfold wrap64; omega]
  rfl
def lenOf : Value → Nat
  | .slice _ n _ => n
  | _ => 0
set_option maxHeartbeats 4000000 in
set_option maxRecDepth 100000 in
theorem decode_calls (A0 : Option Addr) (c0 : Nat) (l0 : List Int) (r : List InS × Int × Int) (w : World) (hr0 : Kd.C (Kd.int .u8) w A0 l0.length l0) (hc0 : l0.length ≤ c0) (hl : l0.length ≤ 1000000) (hb : okB l0 = true) (hr : decF l0.length l0 [] = r) (hL : LaidOps w) :
    Calls Tryd.prog 10 #[.slice A0 l0.length c0] w fun e w' => ∃ v0_ : Value, e = .returned (.tuple #[v0_, .int .i64 r.2.1, .int .i64 r.2.2]) ∧ Kd.R inK 47 w' w.heap.size (fun _ => True) v0_ r.1 ∧ Below w.heap.size w w' := by
  have HR0 := Aside0.mk hr0
  have HR := Aside0.mk hr
  have HO := Aside0.mk hb
  have HL := Aside0.mk hL
  have HLl := Aside0.mk hl
  clear hr0 hr hb hL
  go_enter Tryd.func10, Tryd.ntmps10
  go_wp2_with fail
  go_loopw [0, 5] (fun bv ov wr => ∃ (A : Option Addr) (c n : Nat) (l : List Int) (out : List InS), bv = .slice A l.length c ∧ l.length ≤ c ∧ l.length ≤ n ∧ Aside0 (l.length + out.length ≤ 1000000) ∧ Aside0 (okB l = true) ∧ Aside0 (Kd.C (Kd.int .u8) w A l.length l) ∧ Aside0 (Kd.R inK 47 wr w.heap.size (fun _ => True) ov out) ∧ Aside0 (Below w.heap.size w wr) ∧ Aside0 (decF n l out = r)) (fun bv _ _ => lenOf bv)
  case atStart => exact ⟨A0, c0, l0.length, l0, [], rfl, hc0, Nat.le_refl _, ⟨by simpa using hl⟩, HO, HR0, ⟨Kd.R_nil _ _ _ _ _⟩, ⟨Below.refl _ _⟩, HR⟩
  case round =>
    clear HR HR0 HO hc0 hl HLl
    obtain ⟨A, c, n, l, out, rfl, hc, hn, HZ, HO, HC, HV, HB, HR⟩ := hrel
    obtain ⟨A2, c2, rfl, hl2, hC2⟩ := Kd.R_reads HV.out
    clear hC2 hl2
    by_cases h0 : l.length = 0
    · obtain rfl := List.eq_nil_of_length_eq_zero h0
      have hh := HR.out
      have hd : decF n [] out = (out, 0, 0) := by cases n <;> rfl
      rw [hd] at hh
      go_wp2_with fail
      refine bodyPost_ret (results_tmp3 rfl _ _ _) rfl ?_
      rw [← hh]
      exact ⟨_, rfl, HV.out, HB.out⟩
    · by_cases h5 : l.length < 5
      · have hh := HR.out
        have hd : decF n l out = ([], (out.length : Int), 1) := by
          match n, l, h0, h5, hn with
          | n + 1, [_], _, _, _ => rfl
          | n + 1, [_, _], _, _, _ => rfl
          | n + 1, [_, _, _], _, _, _ => rfl
          | n + 1, [_, _, _, _], _, _, _ => rfl
          | 0, _ :: _, _, _, h => exact absurd h (by simp)
          | _, [], h, _, _ => exact absurd rfl h
          | _, _ :: _ :: _ :: _ :: _ :: _, _, h, _ => exact absurd h (by simp)
        rw [hd] at hh
        clear hd
        go_wp2_with fail
        refine bodyPost_ret (results_tmp3 rfl _ _ _) rfl ?_
        rw [← hh]
        exact ⟨_, rfl, Kd.R_nil _ _ _ _ _, HB.out⟩
      · obtain ⟨a, b, c', d, e, t, rfl⟩ : ∃ a b c' d e t, l = a :: b :: c' :: d :: e :: t := by
          match l, h5 with
          | a :: b :: c :: d :: e :: t, _ => exact ⟨a, b, c, d, e, t, rfl⟩
          | [], h => simp at h
          | [_], h => simp at h
          | [_, _], h => simp at h
          | [_, _, _], h => simp at h
          | [_, _, _, _], h => simp at h
        obtain ⟨n, rfl⟩ : ∃ m, n = m + 1 := ⟨n - 1, by simp at hn; omega⟩
        have hok := okB_all HO.out
        have ok5 : okB [a, b, c', d, e] = true := by
          have := HO.out
          unfold okB at this ⊢
          simp only [List.all_cons, List.all_nil, Bool.and_true, Bool.and_eq_true, decide_eq_true_eq] at this ⊢
          refine ⟨⟨this.1.1, this.1.2.1, this.1.2.2.1, this.1.2.2.2.1, this.1.2.2.2.2.1⟩, by simp⟩
        have hO : Aside0 (okB t = true) := ⟨by
          have := HO.out
          unfold okB at this ⊢
          simp only [List.all_cons, Bool.and_eq_true, decide_eq_true_eq] at this ⊢
          refine ⟨this.1.2.2.2.2.2, by have := this.2; simp only [List.length_cons] at this; omega⟩⟩
        have hC5 : Kd.C (Kd.int .u8) wr A [a, b, c', d, e].length [a, b, c', d, e] := Kd.C_below (Kd.C_take (m := 5) HC.out (by simp)) HB.out
        have H1 := Aside0.mk (one_calls A 5 [a, b, c', d, e] a (b + 256 * c') (d + 256 * e) wr hC5 (Nat.le_refl _) (by simp) ok5 (num1 a b c' d e ok5) (num2 a b c' d e ok5) (num3 a b c' d e ok5) (HL.out.below HB.out))
        have hh := HR.out
        unfold decF at hh
        have hcc : 5 ≤ c := by simp only [List.length_cons] at hc; omega
        have hdrop := Aside0.mk (Kd.C_drop (k := Kd.int .u8) (m := 5) (c := c) HC.out (by simp) hc)
        have hzz : t.length + 5 + out.length ≤ 1000000 := by have := HZ.out; simp only [List.length_cons] at this; omega
        have HZ := Aside0.mk hzz
        clear hok ok5 hC5 HC HO hzz h0 h5
        generalize hE : errI a (b + 256 * c') (d + 256 * e) = E at hh H1
        generalize hy : b + 256 * c' = y at hh H1 hE
        generalize hz : d + 256 * e = z at hh H1 hE
        by_cases he : E = 0
        · rw [if_pos he] at hh
          subst he
          go_wp2_with fail
          refine H1.out.mono ?_
          rintro e' w2 ⟨rfl, hb2⟩
          have HB2 := Aside0.mk (HB.out.trans (hb2.mono HB.out.size))
          have HV2 := Aside0.mk (Kd.R_below HV.out hb2)
          have ub : Aside0 (Kd.R inK 47 (w2.alloc (.cells #[.int .i64 a, .int .i64 y, .int .i64 z] 47)) w.heap.size (fun _ => True) (.slice A2 out.length c2) out) := ⟨Kd.R_alloc HV2.out _⟩
          have HB3 := Aside0.mk (HB2.out.alloc HB2.out.size (.cells #[.int .i64 a, .int .i64 y, .int .i64 z] 47))
          go_wp2_with ((with_reducible refine gate_builtin (b := .append) (xs := #[.tmp 27, .tmp 29]) rfl ?_); at_builtin; refine Kd.R_append inK (w0 := w) w.heap.size rfl (.tmp 27) (.tmp 29) 24 47 (.agg #[(.int .i64 0), (.int .i64 0), (.int .i64 0)]) 24 rfl Tryd.underlying24 PCod.info47 rfl (by decide) (by omega) (.slice A2 out.length c2) out (⟨a, y, z⟩ : InS) [.int .i64 a, .int .i64 y, .int .i64 z] (fun _ => True) (fun _ => False) rfl (by first | (go_simp; done) | (go_simp; rfl)) ?aP (fun _ hk => hk.elim) ?aF ?aO ?aB ?aS ?aL ?_; (case aP => exact PCod.k47_mkM _ _ _ (⟨a, y, z⟩ : InS)); (case aB => exact HB3.out); (case aF => exact fun _ _ => trivial); (case aO => exact ub.out); (case aS => exact HB3.out.size); (case aL => have := HZ.out; omega); intro v5 w5 ho5 hb5 hg5 hat5; clear hg5 hat5; have HV5 := Aside0.mk ho5; have HB5 := Aside0.mk hb5; clear ho5 hb5)
          refine ⟨⟨_, c - 5, n, t, out ++ [⟨a, y, z⟩], rfl, by simp only [List.length_cons] at hc; omega, by simp only [List.length_cons] at hn; omega, ⟨by have := HZ.out; simp only [List.length_append, List.length_cons, List.length_nil]; omega⟩, hO, ⟨?_⟩, HV5, HB5, ⟨hh⟩⟩, by show t.length < t.length + 1 + 1 + 1 + 1 + 1; omega⟩
          have h := hdrop.out
          simpa [Addr.add, Kd.int, Kd.scalar] using h
        · rw [if_neg he] at hh
          go_wp2_with fail
          refine H1.out.mono ?_
          rintro e' w2 ⟨rfl, hb2⟩
          have HB2 := Aside0.mk (HB.out.trans (hb2.mono HB.out.size))
          go_wp2_with fail
          refine bodyPost_ret (results_tmp3 rfl _ _ _) rfl ?_
          rw [← hh]
          exact ⟨_, rfl, Kd.R_nil _ _ _ _ _, HB2.out.alloc HB2.out.size _⟩
def code_Decode.f (l0 : List Int) : Option (List InS × Int × Int) := if l0.length ≤ 1000000 ∧ okB l0 = true then some (decF l0.length l0 []) else none
theorem code_Decode.calls (A0 : Option Addr) (c0 : Nat) (l0 : List Int) (r1 : List InS) (r2 r3 : Int) (w : World) (hr0 : Kd.C (Kd.int .u8) w A0 l0.length l0) (hc0 : l0.length ≤ c0) (h : code_Decode.f l0 = some (r1, r2, r3)) (hL : LaidOps w) :
    Calls Tryd.prog 10 #[.slice A0 l0.length c0] w fun e w' => ∃ v0_ : Value, e = .returned (.tuple #[v0_, .int .i64 r2, .int .i64 r3]) ∧ Kd.R inK 47 w' w.heap.size (fun _ => True) v0_ r1 ∧ Below w.heap.size w w' := by
  unfold code_Decode.f at h
  split at h
  · rename_i hl
    exact decode_calls A0 c0 l0 (r1, r2, r3) w hr0 hc0 hl.1 hl.2 (Option.some.inj h) hL
  · cases h
end Go.Proofs.YthbcliofjfhmbaaDoor.Given
end

section
/- The numbers of a byte behind how many they are, plainly, as the program reads them; and what holds of a unit that is being read. -/
namespace Go.Proofs.YthbcliofjfhmbaaDoor.Given
open Go.RowKit Go.Proofs.YthbcliofjfhmbaaDoorW.PrintWords Go.Proofs.YthbcliofjfhmbaaDoorW.PrintLast Go.Proofs.YthbcliofjfhmbaaDoorW.PrintMore
set_option linter.unusedVariables false
set_option linter.unusedSimpArgs false
/-- Numbers of a byte: what they are, the error, where the reader is, whether it's bad. -/
def numbersR (b : List Int) (at_ : Int) (bad : Bool) (many most : Int) : List Int × Int × Int × Bool :=
  let t := numR b at_ bad many
  if t.1 > most then ([], 5, t.2.1, t.2.2)
  else
    let u := takeR b t.2.1 t.2.2 t.1
    if u.2.2 = true then ([], 1, u.2.1, u.2.2) else (u.1, 0, u.2.1, u.2.2)
theorem take_mem {b : List Int} {at_ : Int} {bad : Bool} {n : Int} : ∀ x ∈ (takeR b at_ bad n).1, x ∈ b := by
  intro x hx
  unfold takeR at hx
  split at hx
  · exact List.mem_of_mem_drop (List.mem_of_mem_take hx)
  · cases hx
theorem take_len {b : List Int} {at_ : Int} {bad : Bool} {n : Int} : (takeR b at_ bad n).1.length ≤ b.length := by
  unfold takeR
  split
  · unfold cutR; simp; omega
  · simp
theorem wN (x : Int) (h0 : -9223372036854775808 ≤ x) (h1 : x < 9223372036854775808) : wrap64 x = x := by unfold wrap64; omega
theorem numbers_l0 (L : List Int) (hL : ∀ x ∈ L, 0 ≤ x ∧ x < 256) (hz : L.length ≤ 1000000000) (b : List Int) (at_ : Int) (bad : Bool) : ∀ (d i k : Nat) (x : List Int), i + d = L.length → d < k → x = L.take i →
    PNum.unit_numbers.l0 k x L (L.length : Int) (i : Int) b at_ bad = if bad = true then some ([], 1, at_, bad) else some (L, 0, at_, bad) := by
  intro d
  induction d with
  | zero =>
    intro i k x h1 h2 h3
    obtain ⟨k, rfl⟩ : ∃ m, k = m + 1 := ⟨k - 1, by omega⟩
    unfold PNum.unit_numbers.l0 octet_Reader_Bad.f
    rw [if_neg (by omega), Option.bind_some, h3, List.take_of_length_le (by omega)]
  | succ d ih =>
    intro i k x h1 h2 h3
    obtain ⟨k, rfl⟩ : ∃ m, k = m + 1 := ⟨k - 1, by omega⟩
    unfold PNum.unit_numbers.l0
    have hr : rd L (i : Int) = L[i]'(by omega) := by unfold rd; simp [show i < L.length by omega]
    have hx := hL _ (List.getElem_mem (show i < L.length by omega))
    have hxl : x.length = i := by rw [h3, List.length_take]; omega
    rw [if_pos (by omega), if_pos (by omega), if_pos (by omega), if_pos (by omega), hr, wN _ (by omega) (by omega), wN _ (by omega) (by omega)]
    have := ih (i + 1) k (x ++ [L[i]'(by omega)]) (by omega) (by omega) (by rw [h3, List.take_succ_eq_append_getElem (by omega)])
    rw [show ((i + 1 : Nat) : Int) = (i : Int) + 1 by omega] at this
    exact this
theorem numbers_is (b : List Int) (hb : okB b = true) (at_ : Int) (bad : Bool) (many most : Int) (k : Nat) (hk : 1000000001 ≤ k) : PNum.unit_numbers.f k b at_ bad many most = some (numbersR b at_ bad many most) := by
  unfold PNum.unit_numbers.f octet_Reader_Num.f octet_Reader_Take.f numbersR
  rw [if_pos hb, Option.bind_some]
  dsimp only
  by_cases h : (numR b at_ bad many).1 > most
  · rw [if_pos h, if_pos h]
  · rw [if_neg h, if_neg h, if_pos hb, Option.bind_some]
    have hl := take_len (b := b) (at_ := (numR b at_ bad many).2.1) (bad := (numR b at_ bad many).2.2) (n := (numR b at_ bad many).1)
    have hm := take_mem (b := b) (at_ := (numR b at_ bad many).2.1) (bad := (numR b at_ bad many).2.2) (n := (numR b at_ bad many).1)
    generalize takeR b (numR b at_ bad many).2.1 (numR b at_ bad many).2.2 (numR b at_ bad many).1 = u at hl hm ⊢
    have h2 := okB_all hb
    have := numbers_l0 u.1 (fun x hx => h2.1 x (hm x hx)) (by omega) b u.2.1 u.2.2 u.1.length 0 k [] (by omega) (by omega) (by simp)
    rw [show ((0 : Nat) : Int) = 0 from rfl] at this
    rw [this]
    by_cases hu : u.2.2 = true
    · rw [if_pos hu, if_pos hu]
    · rw [if_neg hu, if_neg hu]
theorem numbers_calls (g : Nat) (w0 w : World) (b : List Int) (at_ : Int) (bad : Bool) (many most : Int) (hI : IsS88 w0 w g b at_ bad) (hB : Below w0.heap.size w0 w) (hb : okB b = true) :
    Calls Tryd.prog 50 #[.pointer (some ⟨g, 0, none⟩), .int .i64 many, .int .i64 most] w fun e w' => ∃ v0_ : Value, e = .returned (.tuple #[v0_, .int .i64 (numbersR b at_ bad many most).2.1]) ∧ Kd.R (Kd.int .i64) 3 w' w.heap.size (fun _ => True) v0_ (numbersR b at_ bad many most).1 ∧ IsS88 w0 w' g b (numbersR b at_ bad many most).2.2.1 (numbersR b at_ bad many most).2.2.2 ∧ Below w0.heap.size w0 w' ∧ KeepBut w w' g none :=
  PNum.unit_numbers.calls 1000000001 g b at_ bad many most _ _ _ _ w0 w hI hB (numbers_is b hb at_ bad many most 1000000001 (Nat.le_refl _))
end Go.Proofs.YthbcliofjfhmbaaDoor.Given
end
