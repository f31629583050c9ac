/- Printed by a program of this session (wip/pg.py, over the print of the kit): functions, their Lean twins, and the proofs that the calls come to them; each under the conditions that it names. -/
import Derived.Test.YtdbfgfgbjheibaaDoorZBoxEncodesq
import Derived.Test.YtdbfgfgbjheibaaDoorZBoxEncodesab
import Derived.Test.YtdbfgfgbjheibaaDoorZBoxEncodesaf
section
/- Printed by a program of this session (wip/pg.py, over the print of the kit): functions, their Lean twins, and the proofs that the calls come to them; each under the conditions that it names. -/
namespace Go.Proofs.YtdbfgfgbjheibaaDoor.PBx
open Go.RowKit Go.Proofs.YtdbfgfgbjheibaaDoorW.PrintWords Go.Proofs.YtdbfgfgbjheibaaDoorW.PrintLast Go.Proofs.YtdbfgfgbjheibaaDoorW.PrintMore
attribute [local go_sem] max2_int min2_int max_two min_two max_three min_three max_four min_four   -- for this text's walks alone
set_option linter.unusedVariables false
set_option linter.unusedSimpArgs false

attribute [local go_sem high] eqA41 eqA43 eqA68 eqA109
/-! ### api_Const_37: function 37 -/
def api_Const_37.l0 : Nat → List (S68) → List (S68) → Int → Int → Option (Bool)
 | 0, _, _, _, _ => none
 | k + 1, x0, x1, x12, x13 => if x13 < x12 then (if 0 ≤ x13 then (if x13 < (x0.length : Int) then (if x13 < (x1.length : Int) then (if (!(((rd_T68 x0 x13).f0) == ((rd_T68 x1 x13).f0)) || (!(((rd_T68 x0 x13).f1) == ((rd_T68 x1 x13).f1)))) = true then (some false) else (api_Const_37.l0 k x0 x1 x12 (wrap64 (x13 + 1)))) else (none)) else (none)) else (none)) else (some true)
def api_Const_37.f (k : Nat) (l0 : List (S68)) (l1 : List (S68)) : Option (Bool) := if (l0.length : Int) = (l1.length : Int) then (api_Const_37.l0 k l0 l1 (l0.length : Int) 0) else (some false)
set_option maxHeartbeats 8000000 in
set_option maxRecDepth 100000 in
theorem api_Const_37.calls (k : Nat) (A0 : Option Addr) (c0 : Nat) (l0 : List (S68)) (A1 : Option Addr) (c1 : Nat) (l1 : List (S68)) (r : Bool) (w : World) (hr0 : Kd.C k68 w A0 l0.length l0) (hc0 : l0.length ≤ c0) (hr1 : Kd.C k68 w A1 l1.length l1) (hc1 : l1.length ≤ c1) (h : api_Const_37.f k l0 l1 = some r) :
  Calls Tryd.prog 37 #[.slice A0 l0.length c0, .slice A1 l1.length c1] w fun e w' => e = .returned (.bool r) ∧ Drawn0 w w' := by
 have hu68 := Tryd.underlying68
 have HR0 := zA hr0
 have HC0 := zA hc0
 clear hr0 hc0
 have HR1 := zA hr1
 have HC1 := zA hc1
 clear hr1 hc1
 have H : (if (l0.length : Int) = (l1.length : Int) then (api_Const_37.l0 k l0 l1 (l0.length : Int) 0) else (some false)) = some r := h
 clear h
 by_cases c3 : (l0.length : Int) = (l1.length : Int)
 ·rw [if_pos c3] at H
  have c3b0 : ((l0.length : Int) == (l1.length : Int)) = true := beq_iff_eq.mpr c3
  have c3b1 : ((l0.length : Int) != (l1.length : Int)) = false := bne_eq_false_iff_eq.mpr c3
  have c3b2 : (l0.length == l1.length) = true := by first | simpa using c3 | (simp at c3 ⊢; omega)
  clear c3
  have H' := zA H
  clear H
  go_enter Tryd.func37, Tryd.ntmps37
  go_wp2
  repeat (go_quiet (fail); try go_wp2)
  go_loopg [13] k (fun kq v13 w' => ∃ (x13_1 : Int), v13 = .int .i64 x13_1 ∧ Aside0 (api_Const_37.l0 kq l0 l1 (l0.length : Int) x13_1 = some r) ∧ Aside0 (kq ≤ k) ∧ Drawn0 w w')
  case atStart => exact ⟨(0), (by first | rfl | (simp; done) | (simp [*]; done)), H', ⟨z5 _⟩, by repeat (first | exact z4 _ | apply z3)⟩
  case round =>
   clear H'
   try clear c1
   try clear p2
   try clear c3
   try clear c3b0
   try clear c3b1
   try clear c3b2
   obtain ⟨x13_1, rfl, HA, HK1, ⟨m1, rfl⟩⟩ := hrel
   cases gk with
   | zero => exact absurd HA.out (by simp [api_Const_37.l0])
   | succ k1 =>
    have H := HA.out
    clear HA
    simp only [api_Const_37.l0] at H
    by_cases c4 : x13_1 < (l0.length : Int)
    ·rw [if_pos c4] at H
     have c4b0 : decide (x13_1 < (l0.length : Int)) = true := decide_eq_true c4
     clear c4
     by_cases c5 : 0 ≤ x13_1
     ·rw [if_pos c5] at H
      have c5b0 : decide (0 ≤ x13_1) = true := decide_eq_true c5
      clear c5
      by_cases c6 : x13_1 < (l0.length : Int)
      ·rw [if_pos c6] at H
       have c6b0 : decide (x13_1 < (l0.length : Int)) = true := decide_eq_true c6
       clear c6
       by_cases c7 : x13_1 < (l1.length : Int)
       ·rw [if_pos c7] at H
        have c7b0 : decide (x13_1 < (l1.length : Int)) = true := decide_eq_true c7
        clear c7
        by_cases c8 : (!(((rd_T68 l0 x13_1).f0) == ((rd_T68 l1 x13_1).f0)) || (!(((rd_T68 l0 x13_1).f1) == ((rd_T68 l1 x13_1).f1)))) = true
        ·rw [if_pos c8] at H
         have c8b0 : (!(((rd_T68 l0 x13_1).f0) == ((rd_T68 l1 x13_1).f0)) || (!(((rd_T68 l0 x13_1).f1) == ((rd_T68 l1 x13_1).f1)))) = true := c8
         clear c8
         obtain rfl := zJ H
         have p503 : 0 ≤ (x13_1 : Int) := zO (by first | (with_reducible assumption) | assumption)
         have q503 : x13_1 < (l0.length : Int) := zO (by first | (with_reducible assumption) | assumption)
         obtain ⟨ad503, e503, hx503_0, hx503_1⟩ := at_T68 HR0.out x13_1 p503 q503
         cases e503
         replace p503 := eq_true p503
         replace q503 := eq_true q503
         have p504 : 0 ≤ (x13_1 : Int) := zO (by first | (with_reducible assumption) | assumption)
         have q504 : x13_1 < (l1.length : Int) := zO (by first | (with_reducible assumption) | assumption)
         obtain ⟨ad504, e504, hx504_0, hx504_1⟩ := at_T68 HR1.out x13_1 p504 q504
         cases e504
         replace p504 := eq_true p504
         replace q504 := eq_true q504
         go_wp2
         repeat (go_quiet (fail); try go_wp2)
         go_ret
         exact ⟨by first | rfl | (simp; done) | (simp [*]; done), by repeat (first | exact z4 _ | apply z3)⟩
        ·rw [if_neg c8] at H
         have c8b0 : (!(((rd_T68 l0 x13_1).f0) == ((rd_T68 l1 x13_1).f0)) || (!(((rd_T68 l0 x13_1).f1) == ((rd_T68 l1 x13_1).f1)))) = false := by simpa using c8
         clear c8
         have H' := zA H
         clear H
         have p503 : 0 ≤ (x13_1 : Int) := zO (by first | (with_reducible assumption) | assumption)
         have q503 : x13_1 < (l0.length : Int) := zO (by first | (with_reducible assumption) | assumption)
         obtain ⟨ad503, e503, hx503_0, hx503_1⟩ := at_T68 HR0.out x13_1 p503 q503
         cases e503
         replace p503 := eq_true p503
         replace q503 := eq_true q503
         have p504 : 0 ≤ (x13_1 : Int) := zO (by first | (with_reducible assumption) | assumption)
         have q504 : x13_1 < (l1.length : Int) := zO (by first | (with_reducible assumption) | assumption)
         obtain ⟨ad504, e504, hx504_0, hx504_1⟩ := at_T68 HR1.out x13_1 p504 q504
         cases e504
         replace p504 := eq_true p504
         replace q504 := eq_true q504
         go_wp2
         repeat (go_quiet (fail); try go_wp2)
         go_roundg k1
         case measure => have := HK1.out; omega
         case rel => exact ⟨(wrap64 (x13_1 + 1)), (by first | rfl | (simp; done) | (simp [*]; done)), H', ⟨by have := HK1.out; omega⟩, by repeat (first | exact z4 _ | apply z3)⟩
       ·rw [if_neg c7] at H
        exact absurd H (by simp)
      ·rw [if_neg c6] at H
       exact absurd H (by simp)
     ·rw [if_neg c5] at H
      exact absurd H (by simp)
    ·rw [if_neg c4] at H
     have c4b0 : decide (x13_1 < (l0.length : Int)) = false := decide_eq_false c4
     clear c4
     obtain rfl := zJ H
     go_wp2
     repeat (go_quiet (fail); try go_wp2)
     go_ret
     exact ⟨by first | rfl | (simp; done) | (simp [*]; done), by repeat (first | exact z4 _ | apply z3)⟩
 ·rw [if_neg c3] at H
  have c3b0 : ((l0.length : Int) == (l1.length : Int)) = false := beq_eq_false_iff_ne.mpr c3
  have c3b1 : ((l0.length : Int) != (l1.length : Int)) = true := bne_iff_ne.mpr c3
  have c3b2 : (l0.length == l1.length) = false := by first | simpa using c3 | (simp at c3 ⊢; omega)
  obtain rfl := zJ H
  go_enter Tryd.func37, Tryd.ntmps37
  go_wp2
  repeat (go_quiet (fail); try go_wp2)
  go_ret
  exact ⟨by first | rfl | (simp; done) | (simp [*]; done), by repeat (first | exact z4 _ | apply z3)⟩

/-! ### api_Var_38: function 38 -/
def api_Var_38.l0 : Nat → List (S41) → List (S41) → Int → Int → Option (Bool)
 | 0, _, _, _, _ => none
 | k + 1, x0, x1, x12, x13 => if x13 < x12 then (if 0 ≤ x13 then (if x13 < (x0.length : Int) then (if x13 < (x1.length : Int) then (if (!((((rd_T41 x0 x13).f0).toList) == (((rd_T41 x1 x13).f0).toList)) || (!(((rd_T41 x0 x13).f1) == ((rd_T41 x1 x13).f1)) || (!(((rd_T41 x0 x13).f2) == ((rd_T41 x1 x13).f2)) || (!(((rd_T41 x0 x13).f3) == ((rd_T41 x1 x13).f3)) || (!(((rd_T41 x0 x13).f4) == ((rd_T41 x1 x13).f4))))))) = true then (some false) else (api_Var_38.l0 k x0 x1 x12 (wrap64 (x13 + 1)))) else (none)) else (none)) else (none)) else (some true)
def api_Var_38.f (k : Nat) (l0 : List (S41)) (l1 : List (S41)) : Option (Bool) := if (l0.length : Int) = (l1.length : Int) then (api_Var_38.l0 k l0 l1 (l0.length : Int) 0) else (some false)
set_option maxHeartbeats 8000000 in
set_option maxRecDepth 100000 in
theorem api_Var_38.calls (k : Nat) (A0 : Option Addr) (c0 : Nat) (l0 : List (S41)) (A1 : Option Addr) (c1 : Nat) (l1 : List (S41)) (r : Bool) (w : World) (hr0 : Kd.C k41 w A0 l0.length l0) (hc0 : l0.length ≤ c0) (hr1 : Kd.C k41 w A1 l1.length l1) (hc1 : l1.length ≤ c1) (h : api_Var_38.f k l0 l1 = some r) :
  Calls Tryd.prog 38 #[.slice A0 l0.length c0, .slice A1 l1.length c1] w fun e w' => e = .returned (.bool r) ∧ Drawn0 w w' := by
 have hu41 := Tryd.underlying41
 have HR0 := zA hr0
 have HC0 := zA hc0
 clear hr0 hc0
 have HR1 := zA hr1
 have HC1 := zA hc1
 clear hr1 hc1
 have H : (if (l0.length : Int) = (l1.length : Int) then (api_Var_38.l0 k l0 l1 (l0.length : Int) 0) else (some false)) = some r := h
 clear h
 by_cases c3 : (l0.length : Int) = (l1.length : Int)
 ·rw [if_pos c3] at H
  have c3b0 : ((l0.length : Int) == (l1.length : Int)) = true := beq_iff_eq.mpr c3
  have c3b1 : ((l0.length : Int) != (l1.length : Int)) = false := bne_eq_false_iff_eq.mpr c3
  have c3b2 : (l0.length == l1.length) = true := by first | simpa using c3 | (simp at c3 ⊢; omega)
  clear c3
  have H' := zA H
  clear H
  go_enter Tryd.func38, Tryd.ntmps38
  go_wp2
  repeat (go_quiet (fail); try go_wp2)
  go_loopg [13] k (fun kq v13 w' => ∃ (x13_1 : Int), v13 = .int .i64 x13_1 ∧ Aside0 (api_Var_38.l0 kq l0 l1 (l0.length : Int) x13_1 = some r) ∧ Aside0 (kq ≤ k) ∧ Drawn0 w w')
  case atStart => exact ⟨(0), (by first | rfl | (simp; done) | (simp [*]; done)), H', ⟨z5 _⟩, by repeat (first | exact z4 _ | apply z3)⟩
  case round =>
   clear H'
   try clear c1
   try clear p2
   try clear c3
   try clear c3b0
   try clear c3b1
   try clear c3b2
   obtain ⟨x13_1, rfl, HA, HK1, ⟨m1, rfl⟩⟩ := hrel
   cases gk with
   | zero => exact absurd HA.out (by simp [api_Var_38.l0])
   | succ k1 =>
    have H := HA.out
    clear HA
    simp only [api_Var_38.l0] at H
    by_cases c4 : x13_1 < (l0.length : Int)
    ·rw [if_pos c4] at H
     have c4b0 : decide (x13_1 < (l0.length : Int)) = true := decide_eq_true c4
     clear c4
     by_cases c5 : 0 ≤ x13_1
     ·rw [if_pos c5] at H
      have c5b0 : decide (0 ≤ x13_1) = true := decide_eq_true c5
      clear c5
      by_cases c6 : x13_1 < (l0.length : Int)
      ·rw [if_pos c6] at H
       have c6b0 : decide (x13_1 < (l0.length : Int)) = true := decide_eq_true c6
       clear c6
       by_cases c7 : x13_1 < (l1.length : Int)
       ·rw [if_pos c7] at H
        have c7b0 : decide (x13_1 < (l1.length : Int)) = true := decide_eq_true c7
        clear c7
        by_cases c8 : (!((((rd_T41 l0 x13_1).f0).toList) == (((rd_T41 l1 x13_1).f0).toList)) || (!(((rd_T41 l0 x13_1).f1) == ((rd_T41 l1 x13_1).f1)) || (!(((rd_T41 l0 x13_1).f2) == ((rd_T41 l1 x13_1).f2)) || (!(((rd_T41 l0 x13_1).f3) == ((rd_T41 l1 x13_1).f3)) || (!(((rd_T41 l0 x13_1).f4) == ((rd_T41 l1 x13_1).f4))))))) = true
        ·rw [if_pos c8] at H
         have c8b0 : (!((((rd_T41 l0 x13_1).f0).toList) == (((rd_T41 l1 x13_1).f0).toList)) || (!(((rd_T41 l0 x13_1).f1) == ((rd_T41 l1 x13_1).f1)) || (!(((rd_T41 l0 x13_1).f2) == ((rd_T41 l1 x13_1).f2)) || (!(((rd_T41 l0 x13_1).f3) == ((rd_T41 l1 x13_1).f3)) || (!(((rd_T41 l0 x13_1).f4) == ((rd_T41 l1 x13_1).f4))))))) = true := c8
         clear c8
         obtain rfl := zJ H
         have p505 : 0 ≤ (x13_1 : Int) := zO (by first | (with_reducible assumption) | assumption)
         have q505 : x13_1 < (l0.length : Int) := zO (by first | (with_reducible assumption) | assumption)
         obtain ⟨ad505, e505, hx505_0, hx505_1, hx505_2, hx505_3, hx505_4⟩ := at_T41 HR0.out x13_1 p505 q505
         cases e505
         replace p505 := eq_true p505
         replace q505 := eq_true q505
         have p506 : 0 ≤ (x13_1 : Int) := zO (by first | (with_reducible assumption) | assumption)
         have q506 : x13_1 < (l1.length : Int) := zO (by first | (with_reducible assumption) | assumption)
         obtain ⟨ad506, e506, hx506_0, hx506_1, hx506_2, hx506_3, hx506_4⟩ := at_T41 HR1.out x13_1 p506 q506
         cases e506
         replace p506 := eq_true p506
         replace q506 := eq_true q506
         go_wp2
         repeat (go_quiet (fail); try go_wp2)
         go_ret
         exact ⟨by first | rfl | (simp; done) | (simp [*]; done), by repeat (first | exact z4 _ | apply z3)⟩
        ·rw [if_neg c8] at H
         have c8b0 : (!((((rd_T41 l0 x13_1).f0).toList) == (((rd_T41 l1 x13_1).f0).toList)) || (!(((rd_T41 l0 x13_1).f1) == ((rd_T41 l1 x13_1).f1)) || (!(((rd_T41 l0 x13_1).f2) == ((rd_T41 l1 x13_1).f2)) || (!(((rd_T41 l0 x13_1).f3) == ((rd_T41 l1 x13_1).f3)) || (!(((rd_T41 l0 x13_1).f4) == ((rd_T41 l1 x13_1).f4))))))) = false := by simpa using c8
         clear c8
         have H' := zA H
         clear H
         have p505 : 0 ≤ (x13_1 : Int) := zO (by first | (with_reducible assumption) | assumption)
         have q505 : x13_1 < (l0.length : Int) := zO (by first | (with_reducible assumption) | assumption)
         obtain ⟨ad505, e505, hx505_0, hx505_1, hx505_2, hx505_3, hx505_4⟩ := at_T41 HR0.out x13_1 p505 q505
         cases e505
         replace p505 := eq_true p505
         replace q505 := eq_true q505
         have p506 : 0 ≤ (x13_1 : Int) := zO (by first | (with_reducible assumption) | assumption)
         have q506 : x13_1 < (l1.length : Int) := zO (by first | (with_reducible assumption) | assumption)
         obtain ⟨ad506, e506, hx506_0, hx506_1, hx506_2, hx506_3, hx506_4⟩ := at_T41 HR1.out x13_1 p506 q506
         cases e506
         replace p506 := eq_true p506
         replace q506 := eq_true q506
         go_wp2
         repeat (go_quiet (fail); try go_wp2)
         go_roundg k1
         case measure => have := HK1.out; omega
         case rel => exact ⟨(wrap64 (x13_1 + 1)), (by first | rfl | (simp; done) | (simp [*]; done)), H', ⟨by have := HK1.out; omega⟩, by repeat (first | exact z4 _ | apply z3)⟩
       ·rw [if_neg c7] at H
        exact absurd H (by simp)
      ·rw [if_neg c6] at H
       exact absurd H (by simp)
     ·rw [if_neg c5] at H
      exact absurd H (by simp)
    ·rw [if_neg c4] at H
     have c4b0 : decide (x13_1 < (l0.length : Int)) = false := decide_eq_false c4
     clear c4
     obtain rfl := zJ H
     go_wp2
     repeat (go_quiet (fail); try go_wp2)
     go_ret
     exact ⟨by first | rfl | (simp; done) | (simp [*]; done), by repeat (first | exact z4 _ | apply z3)⟩
 ·rw [if_neg c3] at H
  have c3b0 : ((l0.length : Int) == (l1.length : Int)) = false := beq_eq_false_iff_ne.mpr c3
  have c3b1 : ((l0.length : Int) != (l1.length : Int)) = true := bne_iff_ne.mpr c3
  have c3b2 : (l0.length == l1.length) = false := by first | simpa using c3 | (simp at c3 ⊢; omega)
  obtain rfl := zJ H
  go_enter Tryd.func38, Tryd.ntmps38
  go_wp2
  repeat (go_quiet (fail); try go_wp2)
  go_ret
  exact ⟨by first | rfl | (simp; done) | (simp [*]; done), by repeat (first | exact z4 _ | apply z3)⟩

/-! ### api_Block_39: function 39 -/
def api_Block_39.l0 : Nat → List (S43) → List (S43) → Int → Int → Option (Bool)
 | 0, _, _, _, _ => none
 | k + 1, x0, x1, x12, x13 => if x13 < x12 then (if 0 ≤ x13 then (if x13 < (x0.length : Int) then (if x13 < (x1.length : Int) then (if (!((((rd_T43 x0 x13).f0).toList) == (((rd_T43 x1 x13).f0).toList)) || (!(((rd_T43 x0 x13).f1) == ((rd_T43 x1 x13).f1)))) = true then (some false) else (api_Block_39.l0 k x0 x1 x12 (wrap64 (x13 + 1)))) else (none)) else (none)) else (none)) else (some true)
def api_Block_39.f (k : Nat) (l0 : List (S43)) (l1 : List (S43)) : Option (Bool) := if (l0.length : Int) = (l1.length : Int) then (api_Block_39.l0 k l0 l1 (l0.length : Int) 0) else (some false)
set_option maxHeartbeats 8000000 in
set_option maxRecDepth 100000 in
theorem api_Block_39.calls (k : Nat) (A0 : Option Addr) (c0 : Nat) (l0 : List (S43)) (A1 : Option Addr) (c1 : Nat) (l1 : List (S43)) (r : Bool) (w : World) (hr0 : Kd.C k43 w A0 l0.length l0) (hc0 : l0.length ≤ c0) (hr1 : Kd.C k43 w A1 l1.length l1) (hc1 : l1.length ≤ c1) (h : api_Block_39.f k l0 l1 = some r) :
  Calls Tryd.prog 39 #[.slice A0 l0.length c0, .slice A1 l1.length c1] w fun e w' => e = .returned (.bool r) ∧ Drawn0 w w' := by
 have hu43 := Tryd.underlying43
 have HR0 := zA hr0
 have HC0 := zA hc0
 clear hr0 hc0
 have HR1 := zA hr1
 have HC1 := zA hc1
 clear hr1 hc1
 have H : (if (l0.length : Int) = (l1.length : Int) then (api_Block_39.l0 k l0 l1 (l0.length : Int) 0) else (some false)) = some r := h
 clear h
 by_cases c3 : (l0.length : Int) = (l1.length : Int)
 ·rw [if_pos c3] at H
  have c3b0 : ((l0.length : Int) == (l1.length : Int)) = true := beq_iff_eq.mpr c3
  have c3b1 : ((l0.length : Int) != (l1.length : Int)) = false := bne_eq_false_iff_eq.mpr c3
  have c3b2 : (l0.length == l1.length) = true := by first | simpa using c3 | (simp at c3 ⊢; omega)
  clear c3
  have H' := zA H
  clear H
  go_enter Tryd.func39, Tryd.ntmps39
  go_wp2
  repeat (go_quiet (fail); try go_wp2)
  go_loopg [13] k (fun kq v13 w' => ∃ (x13_1 : Int), v13 = .int .i64 x13_1 ∧ Aside0 (api_Block_39.l0 kq l0 l1 (l0.length : Int) x13_1 = some r) ∧ Aside0 (kq ≤ k) ∧ Drawn0 w w')
  case atStart => exact ⟨(0), (by first | rfl | (simp; done) | (simp [*]; done)), H', ⟨z5 _⟩, by repeat (first | exact z4 _ | apply z3)⟩
  case round =>
   clear H'
   try clear c1
   try clear p2
   try clear c3
   try clear c3b0
   try clear c3b1
   try clear c3b2
   obtain ⟨x13_1, rfl, HA, HK1, ⟨m1, rfl⟩⟩ := hrel
   cases gk with
   | zero => exact absurd HA.out (by simp [api_Block_39.l0])
   | succ k1 =>
    have H := HA.out
    clear HA
    simp only [api_Block_39.l0] at H
    by_cases c4 : x13_1 < (l0.length : Int)
    ·rw [if_pos c4] at H
     have c4b0 : decide (x13_1 < (l0.length : Int)) = true := decide_eq_true c4
     clear c4
     by_cases c5 : 0 ≤ x13_1
     ·rw [if_pos c5] at H
      have c5b0 : decide (0 ≤ x13_1) = true := decide_eq_true c5
      clear c5
      by_cases c6 : x13_1 < (l0.length : Int)
      ·rw [if_pos c6] at H
       have c6b0 : decide (x13_1 < (l0.length : Int)) = true := decide_eq_true c6
       clear c6
       by_cases c7 : x13_1 < (l1.length : Int)
       ·rw [if_pos c7] at H
        have c7b0 : decide (x13_1 < (l1.length : Int)) = true := decide_eq_true c7
        clear c7
        by_cases c8 : (!((((rd_T43 l0 x13_1).f0).toList) == (((rd_T43 l1 x13_1).f0).toList)) || (!(((rd_T43 l0 x13_1).f1) == ((rd_T43 l1 x13_1).f1)))) = true
        ·rw [if_pos c8] at H
         have c8b0 : (!((((rd_T43 l0 x13_1).f0).toList) == (((rd_T43 l1 x13_1).f0).toList)) || (!(((rd_T43 l0 x13_1).f1) == ((rd_T43 l1 x13_1).f1)))) = true := c8
         clear c8
         obtain rfl := zJ H
         have p507 : 0 ≤ (x13_1 : Int) := zO (by first | (with_reducible assumption) | assumption)
         have q507 : x13_1 < (l0.length : Int) := zO (by first | (with_reducible assumption) | assumption)
         obtain ⟨ad507, e507, hx507_0, hx507_1⟩ := at_T43 HR0.out x13_1 p507 q507
         cases e507
         replace p507 := eq_true p507
         replace q507 := eq_true q507
         have p508 : 0 ≤ (x13_1 : Int) := zO (by first | (with_reducible assumption) | assumption)
         have q508 : x13_1 < (l1.length : Int) := zO (by first | (with_reducible assumption) | assumption)
         obtain ⟨ad508, e508, hx508_0, hx508_1⟩ := at_T43 HR1.out x13_1 p508 q508
         cases e508
         replace p508 := eq_true p508
         replace q508 := eq_true q508
         go_wp2
         repeat (go_quiet (fail); try go_wp2)
         go_ret
         exact ⟨by first | rfl | (simp; done) | (simp [*]; done), by repeat (first | exact z4 _ | apply z3)⟩
        ·rw [if_neg c8] at H
         have c8b0 : (!((((rd_T43 l0 x13_1).f0).toList) == (((rd_T43 l1 x13_1).f0).toList)) || (!(((rd_T43 l0 x13_1).f1) == ((rd_T43 l1 x13_1).f1)))) = false := by simpa using c8
         clear c8
         have H' := zA H
         clear H
         have p507 : 0 ≤ (x13_1 : Int) := zO (by first | (with_reducible assumption) | assumption)
         have q507 : x13_1 < (l0.length : Int) := zO (by first | (with_reducible assumption) | assumption)
         obtain ⟨ad507, e507, hx507_0, hx507_1⟩ := at_T43 HR0.out x13_1 p507 q507
         cases e507
         replace p507 := eq_true p507
         replace q507 := eq_true q507
         have p508 : 0 ≤ (x13_1 : Int) := zO (by first | (with_reducible assumption) | assumption)
         have q508 : x13_1 < (l1.length : Int) := zO (by first | (with_reducible assumption) | assumption)
         obtain ⟨ad508, e508, hx508_0, hx508_1⟩ := at_T43 HR1.out x13_1 p508 q508
         cases e508
         replace p508 := eq_true p508
         replace q508 := eq_true q508
         go_wp2
         repeat (go_quiet (fail); try go_wp2)
         go_roundg k1
         case measure => have := HK1.out; omega
         case rel => exact ⟨(wrap64 (x13_1 + 1)), (by first | rfl | (simp; done) | (simp [*]; done)), H', ⟨by have := HK1.out; omega⟩, by repeat (first | exact z4 _ | apply z3)⟩
       ·rw [if_neg c7] at H
        exact absurd H (by simp)
      ·rw [if_neg c6] at H
       exact absurd H (by simp)
     ·rw [if_neg c5] at H
      exact absurd H (by simp)
    ·rw [if_neg c4] at H
     have c4b0 : decide (x13_1 < (l0.length : Int)) = false := decide_eq_false c4
     clear c4
     obtain rfl := zJ H
     go_wp2
     repeat (go_quiet (fail); try go_wp2)
     go_ret
     exact ⟨by first | rfl | (simp; done) | (simp [*]; done), by repeat (first | exact z4 _ | apply z3)⟩
 ·rw [if_neg c3] at H
  have c3b0 : ((l0.length : Int) == (l1.length : Int)) = false := beq_eq_false_iff_ne.mpr c3
  have c3b1 : ((l0.length : Int) != (l1.length : Int)) = true := bne_iff_ne.mpr c3
  have c3b2 : (l0.length == l1.length) = false := by first | simpa using c3 | (simp at c3 ⊢; omega)
  obtain rfl := zJ H
  go_enter Tryd.func39, Tryd.ntmps39
  go_wp2
  repeat (go_quiet (fail); try go_wp2)
  go_ret
  exact ⟨by first | rfl | (simp; done) | (simp [*]; done), by repeat (first | exact z4 _ | apply z3)⟩

/-! ### unit_like_int: function 75 -/
def unit_like_int.l0 : Nat → List Int → List Int → Int → Int → Option (Bool)
 | 0, _, _, _, _ => none
 | k + 1, x0, x1, x12, x13 => if x13 < x12 then (if 0 ≤ x13 then (if x13 < (x0.length : Int) then (if x13 < (x1.length : Int) then (if (rd x0 x13) = (rd x1 x13) then (unit_like_int.l0 k x0 x1 x12 (wrap64 (x13 + 1))) else (some false)) else (none)) else (none)) else (none)) else (some true)
def unit_like_int.f (k : Nat) (l0 : List Int) (l1 : List Int) : Option (Bool) := if (l0.length : Int) = (l1.length : Int) then (unit_like_int.l0 k l0 l1 (l0.length : Int) 0) else (some false)
set_option maxHeartbeats 8000000 in
set_option maxRecDepth 100000 in
theorem unit_like_int.calls (k : Nat) (A0 : Option Addr) (c0 : Nat) (l0 : List Int) (A1 : Option Addr) (c1 : Nat) (l1 : List Int) (r : Bool) (w : World) (hr0 : Kd.C (Kd.int .i64) w A0 l0.length l0) (hc0 : l0.length ≤ c0) (hr1 : Kd.C (Kd.int .i64) w A1 l1.length l1) (hc1 : l1.length ≤ c1) (h : unit_like_int.f k l0 l1 = some r) :
  Calls Tryd.prog 75 #[.slice A0 l0.length c0, .slice A1 l1.length c1] w fun e w' => e = .returned (.bool r) ∧ Drawn0 w w' := by
 have HR0 := zA hr0
 have HC0 := zA hc0
 clear hr0 hc0
 have HR1 := zA hr1
 have HC1 := zA hc1
 clear hr1 hc1
 have H : (if (l0.length : Int) = (l1.length : Int) then (unit_like_int.l0 k l0 l1 (l0.length : Int) 0) else (some false)) = some r := h
 clear h
 by_cases c3 : (l0.length : Int) = (l1.length : Int)
 ·rw [if_pos c3] at H
  have c3b0 : ((l0.length : Int) == (l1.length : Int)) = true := beq_iff_eq.mpr c3
  have c3b1 : ((l0.length : Int) != (l1.length : Int)) = false := bne_eq_false_iff_eq.mpr c3
  have c3b2 : (l0.length == l1.length) = true := by first | simpa using c3 | (simp at c3 ⊢; omega)
  clear c3
  have H' := zA H
  clear H
  go_enter Tryd.func75, Tryd.ntmps75
  go_wp2
  repeat (go_quiet (fail); try go_wp2)
  go_loopg [13] k (fun kq v13 w' => ∃ (x13_1 : Int), v13 = .int .i64 x13_1 ∧ Aside0 (unit_like_int.l0 kq l0 l1 (l0.length : Int) x13_1 = some r) ∧ Aside0 (kq ≤ k) ∧ Drawn0 w w')
  case atStart => exact ⟨(0), (by first | rfl | (simp; done) | (simp [*]; done)), H', ⟨z5 _⟩, by repeat (first | exact z4 _ | apply z3)⟩
  case round =>
   clear H'
   try clear c1
   try clear p2
   try clear c3
   try clear c3b0
   try clear c3b1
   try clear c3b2
   obtain ⟨x13_1, rfl, HA, HK1, ⟨m1, rfl⟩⟩ := hrel
   cases gk with
   | zero => exact absurd HA.out (by simp [unit_like_int.l0])
   | succ k1 =>
    have H := HA.out
    clear HA
    simp only [unit_like_int.l0] at H
    by_cases c4 : x13_1 < (l0.length : Int)
    ·rw [if_pos c4] at H
     have c4b0 : decide (x13_1 < (l0.length : Int)) = true := decide_eq_true c4
     clear c4
     by_cases c5 : 0 ≤ x13_1
     ·rw [if_pos c5] at H
      have c5b0 : decide (0 ≤ x13_1) = true := decide_eq_true c5
      clear c5
      by_cases c6 : x13_1 < (l0.length : Int)
      ·rw [if_pos c6] at H
       have c6b0 : decide (x13_1 < (l0.length : Int)) = true := decide_eq_true c6
       clear c6
       by_cases c7 : x13_1 < (l1.length : Int)
       ·rw [if_pos c7] at H
        have c7b0 : decide (x13_1 < (l1.length : Int)) = true := decide_eq_true c7
        clear c7
        by_cases c8 : (rd l0 x13_1) = (rd l1 x13_1)
        ·rw [if_pos c8] at H
         have c8b0 : ((rd l0 x13_1) == (rd l1 x13_1)) = true := beq_iff_eq.mpr c8
         have c8b1 : ((rd l0 x13_1) != (rd l1 x13_1)) = false := bne_eq_false_iff_eq.mpr c8
         clear c8
         have H' := zA H
         clear H
         have p509 : 0 ≤ (x13_1 : Int) := zO (by first | (with_reducible assumption) | assumption)
         have q509 : x13_1 < (l0.length : Int) := zO (by first | (with_reducible assumption) | assumption)
         obtain ⟨ad509, e509, hx509_0⟩ := Kd.at_int HR0.out x13_1 p509 q509
         cases e509
         replace p509 := eq_true p509
         replace q509 := eq_true q509
         have p510 : 0 ≤ (x13_1 : Int) := zO (by first | (with_reducible assumption) | assumption)
         have q510 : x13_1 < (l1.length : Int) := zO (by first | (with_reducible assumption) | assumption)
         obtain ⟨ad510, e510, hx510_0⟩ := Kd.at_int HR1.out x13_1 p510 q510
         cases e510
         replace p510 := eq_true p510
         replace q510 := eq_true q510
         go_wp2
         repeat (go_quiet (fail); try go_wp2)
         go_roundg k1
         case measure => have := HK1.out; omega
         case rel => exact ⟨(wrap64 (x13_1 + 1)), (by first | rfl | (simp; done) | (simp [*]; done)), H', ⟨by have := HK1.out; omega⟩, by repeat (first | exact z4 _ | apply z3)⟩
        ·rw [if_neg c8] at H
         have c8b0 : ((rd l0 x13_1) == (rd l1 x13_1)) = false := beq_eq_false_iff_ne.mpr c8
         have c8b1 : ((rd l0 x13_1) != (rd l1 x13_1)) = true := bne_iff_ne.mpr c8
         obtain rfl := zJ H
         have p509 : 0 ≤ (x13_1 : Int) := zO (by first | (with_reducible assumption) | assumption)
         have q509 : x13_1 < (l0.length : Int) := zO (by first | (with_reducible assumption) | assumption)
         obtain ⟨ad509, e509, hx509_0⟩ := Kd.at_int HR0.out x13_1 p509 q509
         cases e509
         replace p509 := eq_true p509
         replace q509 := eq_true q509
         have p510 : 0 ≤ (x13_1 : Int) := zO (by first | (with_reducible assumption) | assumption)
         have q510 : x13_1 < (l1.length : Int) := zO (by first | (with_reducible assumption) | assumption)
         obtain ⟨ad510, e510, hx510_0⟩ := Kd.at_int HR1.out x13_1 p510 q510
         cases e510
         replace p510 := eq_true p510
         replace q510 := eq_true q510
         go_wp2
         repeat (go_quiet (fail); try go_wp2)
         go_ret
         exact ⟨by first | rfl | (simp; done) | (simp [*]; done), by repeat (first | exact z4 _ | apply z3)⟩
       ·rw [if_neg c7] at H
        exact absurd H (by simp)
      ·rw [if_neg c6] at H
       exact absurd H (by simp)
     ·rw [if_neg c5] at H
      exact absurd H (by simp)
    ·rw [if_neg c4] at H
     have c4b0 : decide (x13_1 < (l0.length : Int)) = false := decide_eq_false c4
     clear c4
     obtain rfl := zJ H
     go_wp2
     repeat (go_quiet (fail); try go_wp2)
     go_ret
     exact ⟨by first | rfl | (simp; done) | (simp [*]; done), by repeat (first | exact z4 _ | apply z3)⟩
 ·rw [if_neg c3] at H
  have c3b0 : ((l0.length : Int) == (l1.length : Int)) = false := beq_eq_false_iff_ne.mpr c3
  have c3b1 : ((l0.length : Int) != (l1.length : Int)) = true := bne_iff_ne.mpr c3
  have c3b2 : (l0.length == l1.length) = false := by first | simpa using c3 | (simp at c3 ⊢; omega)
  obtain rfl := zJ H
  go_enter Tryd.func75, Tryd.ntmps75
  go_wp2
  repeat (go_quiet (fail); try go_wp2)
  go_ret
  exact ⟨by first | rfl | (simp; done) | (simp [*]; done), by repeat (first | exact z4 _ | apply z3)⟩

/-! ### api_Instr: function 76 -/
def api_Instr.l0 : Nat → List (S109) → List (S109) → Int → Int → Option (Bool)
 | 0, _, _, _, _ => none
 | k + 1, x0, x1, x12, x13 => if x13 < x12 then (if 0 ≤ x13 then (if x13 < (x0.length : Int) then (if x13 < (x1.length : Int) then (if (!(((rd_T109 x0 x13).f0) == ((rd_T109 x1 x13).f0)) || (!(((rd_T109 x0 x13).f1) == ((rd_T109 x1 x13).f1)) || (!(((rd_T109 x0 x13).f2) == ((rd_T109 x1 x13).f2))))) = true then (some false) else (api_Instr.l0 k x0 x1 x12 (wrap64 (x13 + 1)))) else (none)) else (none)) else (none)) else (some true)
def api_Instr.f (k : Nat) (l0 : List (S109)) (l1 : List (S109)) : Option (Bool) := if (l0.length : Int) = (l1.length : Int) then (api_Instr.l0 k l0 l1 (l0.length : Int) 0) else (some false)
set_option maxHeartbeats 8000000 in
set_option maxRecDepth 100000 in
theorem api_Instr.calls (k : Nat) (A0 : Option Addr) (c0 : Nat) (l0 : List (S109)) (A1 : Option Addr) (c1 : Nat) (l1 : List (S109)) (r : Bool) (w : World) (hr0 : Kd.C k109 w A0 l0.length l0) (hc0 : l0.length ≤ c0) (hr1 : Kd.C k109 w A1 l1.length l1) (hc1 : l1.length ≤ c1) (h : api_Instr.f k l0 l1 = some r) :
  Calls Tryd.prog 76 #[.slice A0 l0.length c0, .slice A1 l1.length c1] w fun e w' => e = .returned (.bool r) ∧ Drawn0 w w' := by
 have hu109 := Tryd.underlying109
 have HR0 := zA hr0
 have HC0 := zA hc0
 clear hr0 hc0
 have HR1 := zA hr1
 have HC1 := zA hc1
 clear hr1 hc1
 have H : (if (l0.length : Int) = (l1.length : Int) then (api_Instr.l0 k l0 l1 (l0.length : Int) 0) else (some false)) = some r := h
 clear h
 by_cases c3 : (l0.length : Int) = (l1.length : Int)
 ·rw [if_pos c3] at H
  have c3b0 : ((l0.length : Int) == (l1.length : Int)) = true := beq_iff_eq.mpr c3
  have c3b1 : ((l0.length : Int) != (l1.length : Int)) = false := bne_eq_false_iff_eq.mpr c3
  have c3b2 : (l0.length == l1.length) = true := by first | simpa using c3 | (simp at c3 ⊢; omega)
  clear c3
  have H' := zA H
  clear H
  go_enter Tryd.func76, Tryd.ntmps76
  go_wp2
  repeat (go_quiet (fail); try go_wp2)
  go_loopg [13] k (fun kq v13 w' => ∃ (x13_1 : Int), v13 = .int .i64 x13_1 ∧ Aside0 (api_Instr.l0 kq l0 l1 (l0.length : Int) x13_1 = some r) ∧ Aside0 (kq ≤ k) ∧ Drawn0 w w')
  case atStart => exact ⟨(0), (by first | rfl | (simp; done) | (simp [*]; done)), H', ⟨z5 _⟩, by repeat (first | exact z4 _ | apply z3)⟩
  case round =>
   clear H'
   try clear c1
   try clear p2
   try clear c3
   try clear c3b0
   try clear c3b1
   try clear c3b2
   obtain ⟨x13_1, rfl, HA, HK1, ⟨m1, rfl⟩⟩ := hrel
   cases gk with
   | zero => exact absurd HA.out (by simp [api_Instr.l0])
   | succ k1 =>
    have H := HA.out
    clear HA
    simp only [api_Instr.l0] at H
    by_cases c4 : x13_1 < (l0.length : Int)
    ·rw [if_pos c4] at H
     have c4b0 : decide (x13_1 < (l0.length : Int)) = true := decide_eq_true c4
     clear c4
     by_cases c5 : 0 ≤ x13_1
     ·rw [if_pos c5] at H
      have c5b0 : decide (0 ≤ x13_1) = true := decide_eq_true c5
      clear c5
      by_cases c6 : x13_1 < (l0.length : Int)
      ·rw [if_pos c6] at H
       have c6b0 : decide (x13_1 < (l0.length : Int)) = true := decide_eq_true c6
       clear c6
       by_cases c7 : x13_1 < (l1.length : Int)
       ·rw [if_pos c7] at H
        have c7b0 : decide (x13_1 < (l1.length : Int)) = true := decide_eq_true c7
        clear c7
        by_cases c8 : (!(((rd_T109 l0 x13_1).f0) == ((rd_T109 l1 x13_1).f0)) || (!(((rd_T109 l0 x13_1).f1) == ((rd_T109 l1 x13_1).f1)) || (!(((rd_T109 l0 x13_1).f2) == ((rd_T109 l1 x13_1).f2))))) = true
        ·rw [if_pos c8] at H
         have c8b0 : (!(((rd_T109 l0 x13_1).f0) == ((rd_T109 l1 x13_1).f0)) || (!(((rd_T109 l0 x13_1).f1) == ((rd_T109 l1 x13_1).f1)) || (!(((rd_T109 l0 x13_1).f2) == ((rd_T109 l1 x13_1).f2))))) = true := c8
         clear c8
         obtain rfl := zJ H
         have p511 : 0 ≤ (x13_1 : Int) := zO (by first | (with_reducible assumption) | assumption)
         have q511 : x13_1 < (l0.length : Int) := zO (by first | (with_reducible assumption) | assumption)
         obtain ⟨ad511, e511, hx511_0, hx511_1, hx511_2⟩ := at_T109 HR0.out x13_1 p511 q511
         cases e511
         replace p511 := eq_true p511
         replace q511 := eq_true q511
         have p512 : 0 ≤ (x13_1 : Int) := zO (by first | (with_reducible assumption) | assumption)
         have q512 : x13_1 < (l1.length : Int) := zO (by first | (with_reducible assumption) | assumption)
         obtain ⟨ad512, e512, hx512_0, hx512_1, hx512_2⟩ := at_T109 HR1.out x13_1 p512 q512
         cases e512
         replace p512 := eq_true p512
         replace q512 := eq_true q512
         go_wp2
         repeat (go_quiet (fail); try go_wp2)
         go_ret
         exact ⟨by first | rfl | (simp; done) | (simp [*]; done), by repeat (first | exact z4 _ | apply z3)⟩
        ·rw [if_neg c8] at H
         have c8b0 : (!(((rd_T109 l0 x13_1).f0) == ((rd_T109 l1 x13_1).f0)) || (!(((rd_T109 l0 x13_1).f1) == ((rd_T109 l1 x13_1).f1)) || (!(((rd_T109 l0 x13_1).f2) == ((rd_T109 l1 x13_1).f2))))) = false := by simpa using c8
         clear c8
         have H' := zA H
         clear H
         have p511 : 0 ≤ (x13_1 : Int) := zO (by first | (with_reducible assumption) | assumption)
         have q511 : x13_1 < (l0.length : Int) := zO (by first | (with_reducible assumption) | assumption)
         obtain ⟨ad511, e511, hx511_0, hx511_1, hx511_2⟩ := at_T109 HR0.out x13_1 p511 q511
         cases e511
         replace p511 := eq_true p511
         replace q511 := eq_true q511
         have p512 : 0 ≤ (x13_1 : Int) := zO (by first | (with_reducible assumption) | assumption)
         have q512 : x13_1 < (l1.length : Int) := zO (by first | (with_reducible assumption) | assumption)
         obtain ⟨ad512, e512, hx512_0, hx512_1, hx512_2⟩ := at_T109 HR1.out x13_1 p512 q512
         cases e512
         replace p512 := eq_true p512
         replace q512 := eq_true q512
         go_wp2
         repeat (go_quiet (fail); try go_wp2)
         go_roundg k1
         case measure => have := HK1.out; omega
         case rel => exact ⟨(wrap64 (x13_1 + 1)), (by first | rfl | (simp; done) | (simp [*]; done)), H', ⟨by have := HK1.out; omega⟩, by repeat (first | exact z4 _ | apply z3)⟩
       ·rw [if_neg c7] at H
        exact absurd H (by simp)
      ·rw [if_neg c6] at H
       exact absurd H (by simp)
     ·rw [if_neg c5] at H
      exact absurd H (by simp)
    ·rw [if_neg c4] at H
     have c4b0 : decide (x13_1 < (l0.length : Int)) = false := decide_eq_false c4
     clear c4
     obtain rfl := zJ H
     go_wp2
     repeat (go_quiet (fail); try go_wp2)
     go_ret
     exact ⟨by first | rfl | (simp; done) | (simp [*]; done), by repeat (first | exact z4 _ | apply z3)⟩
 ·rw [if_neg c3] at H
  have c3b0 : ((l0.length : Int) == (l1.length : Int)) = false := beq_eq_false_iff_ne.mpr c3
  have c3b1 : ((l0.length : Int) != (l1.length : Int)) = true := bne_iff_ne.mpr c3
  have c3b2 : (l0.length == l1.length) = false := by first | simpa using c3 | (simp at c3 ⊢; omega)
  obtain rfl := zJ H
  go_enter Tryd.func76, Tryd.ntmps76
  go_wp2
  repeat (go_quiet (fail); try go_wp2)
  go_ret
  exact ⟨by first | rfl | (simp; done) | (simp [*]; done), by repeat (first | exact z4 _ | apply z3)⟩

end Go.Proofs.YtdbfgfgbjheibaaDoor.PBx
end

section
/- Printed by a program of this session (wip/pg.py, over the print of the kit): functions, their Lean twins, and the proofs that the calls come to them; each under the conditions that it names. -/
namespace Go.Proofs.YtdbfgfgbjheibaaDoor.PBx
open Go.RowKit Go.Proofs.YtdbfgfgbjheibaaDoorW.PrintWords Go.Proofs.YtdbfgfgbjheibaaDoorW.PrintLast Go.Proofs.YtdbfgfgbjheibaaDoorW.PrintMore
attribute [local go_sem] max2_int min2_int max_two min_two max_three min_three max_four min_four   -- for this text's walks alone
set_option linter.unusedVariables false
set_option linter.unusedSimpArgs false

/-! ### unit_Same: function 40 -/
def unit_Same.f (k : Nat) (a0_0 : ByteArray) (l0_1 : List Int) (a0_2 : Int) (l0_3 : List Int) (l0_4 : List (S109)) (a1_0 : ByteArray) (l1_1 : List Int) (a1_2 : Int) (l1_3 : List Int) (l1_4 : List (S109)) : Option (Bool) := if a0_0.toList = a1_0.toList then (if a0_2 = a1_2 then ((unit_like_int.f k l0_1 l1_1).bind fun t515 => (if t515 = true then ((unit_like_int.f k l0_3 l1_3).bind fun t516 => (if t516 = true then ((api_Instr.f k l0_4 l1_4).bind fun t517 => (some t517)) else (some false))) else (some false))) else (some false)) else (some false)
set_option maxHeartbeats 8000000 in
set_option maxRecDepth 100000 in
theorem unit_Same.calls (k : Nat) (a0_0 : ByteArray) (A0_1 : Option Addr) (c0_1 : Nat) (l0_1 : List Int) (a0_2 : Int) (A0_3 : Option Addr) (c0_3 : Nat) (l0_3 : List Int) (A0_4 : Option Addr) (c0_4 : Nat) (l0_4 : List (S109)) (a1_0 : ByteArray) (A1_1 : Option Addr) (c1_1 : Nat) (l1_1 : List Int) (a1_2 : Int) (A1_3 : Option Addr) (c1_3 : Nat) (l1_3 : List Int) (A1_4 : Option Addr) (c1_4 : Nat) (l1_4 : List (S109)) (r : Bool) (w : World) (hr0_1 : Kd.C (Kd.int .i64) w A0_1 l0_1.length l0_1) (hc0_1 : l0_1.length ≤ c0_1) (hr0_3 : Kd.C (Kd.int .i64) w A0_3 l0_3.length l0_3) (hc0_3 : l0_3.length ≤ c0_3) (hr0_4 : Kd.C k109 w A0_4 l0_4.length l0_4) (hc0_4 : l0_4.length ≤ c0_4) (hr1_1 : Kd.C (Kd.int .i64) w A1_1 l1_1.length l1_1) (hc1_1 : l1_1.length ≤ c1_1) (hr1_3 : Kd.C (Kd.int .i64) w A1_3 l1_3.length l1_3) (hc1_3 : l1_3.length ≤ c1_3) (hr1_4 : Kd.C k109 w A1_4 l1_4.length l1_4) (hc1_4 : l1_4.length ≤ c1_4) (h : unit_Same.f k a0_0 l0_1 a0_2 l0_3 l0_4 a1_0 l1_1 a1_2 l1_3 l1_4 = some r) :
  Calls Tryd.prog 40 #[.agg #[.string a0_0, .slice A0_1 l0_1.length c0_1, .int .i64 a0_2, .slice A0_3 l0_3.length c0_3, .slice A0_4 l0_4.length c0_4], .agg #[.string a1_0, .slice A1_1 l1_1.length c1_1, .int .i64 a1_2, .slice A1_3 l1_3.length c1_3, .slice A1_4 l1_4.length c1_4]] w fun e w' => e = .returned (.bool r) ∧ Below w.heap.size w w' := by
 have hu48 := Tryd.underlying48
 have HR0_1 := zA hr0_1
 have HC0_1 := zA hc0_1
 clear hr0_1 hc0_1
 have HR0_3 := zA hr0_3
 have HC0_3 := zA hc0_3
 clear hr0_3 hc0_3
 have HR0_4 := zA hr0_4
 have HC0_4 := zA hc0_4
 clear hr0_4 hc0_4
 have HR1_1 := zA hr1_1
 have HC1_1 := zA hc1_1
 clear hr1_1 hc1_1
 have HR1_3 := zA hr1_3
 have HC1_3 := zA hc1_3
 clear hr1_3 hc1_3
 have HR1_4 := zA hr1_4
 have HC1_4 := zA hc1_4
 clear hr1_4 hc1_4
 have HB := zA (zX w.heap.size w)
 have H : (if a0_0.toList = a1_0.toList then (if a0_2 = a1_2 then ((unit_like_int.f k l0_1 l1_1).bind fun t515 => (if t515 = true then ((unit_like_int.f k l0_3 l1_3).bind fun t516 => (if t516 = true then ((api_Instr.f k l0_4 l1_4).bind fun t517 => (some t517)) else (some false))) else (some false))) else (some false)) else (some false)) = some r := h
 clear h
 by_cases c3 : a0_0.toList = a1_0.toList
 ·rw [if_pos c3] at H
  have c3b0 : (a0_0.toList == a1_0.toList) = true := beq_iff_eq.mpr c3
  have c3b1 : (a0_0.toList != a1_0.toList) = false := bne_eq_false_iff_eq.mpr c3
  clear c3
  by_cases c4 : a0_2 = a1_2
  ·rw [if_pos c4] at H
   have c4b0 : (a0_2 == a1_2) = true := beq_iff_eq.mpr c4
   have c4b1 : (a0_2 != a1_2) = false := bne_eq_false_iff_eq.mpr c4
   clear c4
   replace H := Option.bind_eq_some_iff.mp H
   obtain ⟨t515, A50, H⟩ := H
   replace H : (if t515 = true then ((unit_like_int.f k l0_3 l1_3).bind fun t516 => (if t516 = true then ((api_Instr.f k l0_4 l1_4).bind fun t517 => (some t517)) else (some false))) else (some false)) = some r := H
   have A5 := zA A50
   clear A50
   by_cases c6 : t515 = true
   ·subst c6
    have H1 : ((unit_like_int.f k l0_3 l1_3).bind fun t516 => (if t516 = true then ((api_Instr.f k l0_4 l1_4).bind fun t517 => (some t517)) else (some false))) = some r := by rw [if_pos rfl] at H; exact H
    clear H
    have H := H1
    clear H1
    replace H := Option.bind_eq_some_iff.mp H
    obtain ⟨t516, A70, H⟩ := H
    replace H : (if t516 = true then ((api_Instr.f k l0_4 l1_4).bind fun t517 => (some t517)) else (some false)) = some r := H
    have A7 := zA A70
    clear A70
    by_cases c8 : t516 = true
    ·subst c8
     have H1 : ((api_Instr.f k l0_4 l1_4).bind fun t517 => (some t517)) = some r := by rw [if_pos rfl] at H; exact H
     clear H
     have H := H1
     clear H1
     replace H := Option.bind_eq_some_iff.mp H
     obtain ⟨t517, A90, H⟩ := H
     replace H : (some t517) = some r := H
     have A9 := zA A90
     clear A90
     obtain rfl := zJ H
     go_enter Tryd.func40, Tryd.ntmps40
     go_wp2_with (first | ((with_reducible refine gate_dst (N := 2) rfl ?_); refine box_event ?hg (N := 2) ?hd (cs := #[.string a0_0, .slice A0_1 l0_1.length c0_1, .int .i64 a0_2, .slice A0_3 l0_3.length c0_3, .slice A0_4 l0_4.length c0_4]) (t := 48) ?hr ?_; (case hd => rfl); (case hg => rfl); (case hr => first | (go_simp; done) | (go_simp; rfl)); intro gb513 hg w10 hbox hb; have BK513 := zA (hbox); have GW513 := zA ((by rw [hg]; exact (below_size (by repeat (first | (with_reducible first | exact HB.out | apply zB | apply zN | apply below_drew1) | exact HB.out))) : w.heap.size ≤ gb513)); have GE513 := GW513; replace HB := zA (below_step (by repeat (first | (with_reducible first | exact HB.out | apply zB | apply zN | apply below_drew1) | exact HB.out)) hb); clear hb hbox hg) | ((with_reducible refine gate_dst (N := 3) rfl ?_); refine box_event ?hg (N := 3) ?hd (cs := #[.string a1_0, .slice A1_1 l1_1.length c1_1, .int .i64 a1_2, .slice A1_3 l1_3.length c1_3, .slice A1_4 l1_4.length c1_4]) (t := 48) ?hr ?_; (case hd => rfl); (case hg => rfl); (case hr => first | (go_simp; done) | (go_simp; rfl)); intro gb514 hg w11 hbox hb; have BK514 := zA (hbox); have GW514 := zA ((by rw [hg]; exact (below_size (by repeat (first | (with_reducible first | exact HB.out | apply zB | apply zN | apply below_drew1 | refine zE ?_ GE513.out) | exact HB.out))) : w.heap.size ≤ gb514)); have GE514 := GW514; replace HB := zA (below_step (by repeat (first | (with_reducible first | exact HB.out | apply zB | apply zN | apply below_drew1 | refine zE ?_ GE513.out) | exact HB.out)) hb); have NB513_514 := zA ((by rw [hg]; exact Nat.ne_of_lt (blk_lt (g := gb513) (o := .cells #[.string a0_0, .slice A0_1 l0_1.length c0_1, .int .i64 a0_2, .slice A0_3 l0_3.length c0_3, .slice A0_4 l0_4.length c0_4] 48 (0, 0)) (by (with_reducible repeat (first | refine zG ?_ _ | refine zH ?_)); exact BK513.out)) : gb513 ≠ gb514)); have NB514_513 := zA ((by rw [hg]; exact Nat.ne_of_gt (blk_lt (g := gb513) (o := .cells #[.string a0_0, .slice A0_1 l0_1.length c0_1, .int .i64 a0_2, .slice A0_3 l0_3.length c0_3, .slice A0_4 l0_4.length c0_4] 48 (0, 0)) (by (with_reducible repeat (first | refine zG ?_ _ | refine zH ?_)); exact BK513.out)) : gb514 ≠ gb513)); replace BK513 := zA (zQ (g := gb513) (o := .cells #[.string a0_0, .slice A0_1 l0_1.length c0_1, .int .i64 a0_2, .slice A0_3 l0_3.length c0_3, .slice A0_4 l0_4.length c0_4] 48 (0, 0)) (by (with_reducible repeat (first | refine zG ?_ _ | refine zH ?_)); exact BK513.out) hb); clear hb hbox hg; have hnb12 := NB513_514.out; have hnc12 := NB514_513.out; have hcz13_0 : w11.cell? ⟨gb513, 0, none⟩ = some (.string a0_0) := (zC BK513.out 0).trans rfl; have hcz13_1 : w11.cell? ⟨gb513, 1, none⟩ = some (.slice A0_1 l0_1.length c0_1) := (zC BK513.out 1).trans rfl; have hcz13_2 : w11.cell? ⟨gb513, 2, none⟩ = some (.int .i64 a0_2) := (zC BK513.out 2).trans rfl; have hcz13_3 : w11.cell? ⟨gb513, 3, none⟩ = some (.slice A0_3 l0_3.length c0_3) := (zC BK513.out 3).trans rfl; have hcz13_4 : w11.cell? ⟨gb513, 4, none⟩ = some (.slice A0_4 l0_4.length c0_4) := (zC BK513.out 4).trans rfl; have hfz13_0 := zF BK513.out 0; have hfz13_1 := zF BK513.out 1; have hfz13_2 := zF BK513.out 2; have hfz13_3 := zF BK513.out 3; have hfz13_4 := zF BK513.out 4; have hcz14_0 : w11.cell? ⟨gb514, 0, none⟩ = some (.string a1_0) := (zC BK514.out 0).trans rfl; have hcz14_1 : w11.cell? ⟨gb514, 1, none⟩ = some (.slice A1_1 l1_1.length c1_1) := (zC BK514.out 1).trans rfl; have hcz14_2 : w11.cell? ⟨gb514, 2, none⟩ = some (.int .i64 a1_2) := (zC BK514.out 2).trans rfl; have hcz14_3 : w11.cell? ⟨gb514, 3, none⟩ = some (.slice A1_3 l1_3.length c1_3) := (zC BK514.out 3).trans rfl; have hcz14_4 : w11.cell? ⟨gb514, 4, none⟩ = some (.slice A1_4 l1_4.length c1_4) := (zC BK514.out 4).trans rfl; have hfz14_0 := zF BK514.out 0; have hfz14_1 := zF BK514.out 1; have hfz14_2 := zF BK514.out 2; have hfz14_3 := zF BK514.out 3; have hfz14_4 := zF BK514.out 4) | (go_at_call 75; (with_reducible refine (unit_like_int.calls k _ _ l0_1 _ _ l1_1 true _ ?side1 ?side2 ?side3 ?side4 A5.out).mono ?_); (case side1 => repeat (first | exact (zD HR0_1.out HB.out))); (case side2 => exact HC0_1.out); (case side3 => repeat (first | exact (zD HR1_1.out HB.out))); (case side4 => exact HC1_1.out); rintro e w' ⟨rfl, ⟨nd, rfl⟩⟩) | (go_at_call 75; (with_reducible refine (unit_like_int.calls k _ _ l0_3 _ _ l1_3 true _ ?side1 ?side2 ?side3 ?side4 A7.out).mono ?_); (case side1 => repeat (first | exact (zD HR0_3.out (by repeat (first | (with_reducible first | exact HB.out | apply zB | apply zN | apply below_drew1 | refine zE ?_ GE513.out | refine zE ?_ GE514.out) | exact HB.out))))); (case side2 => exact HC0_3.out); (case side3 => repeat (first | exact (zD HR1_3.out (by repeat (first | (with_reducible first | exact HB.out | apply zB | apply zN | apply below_drew1 | refine zE ?_ GE513.out | refine zE ?_ GE514.out) | exact HB.out))))); (case side4 => exact HC1_3.out); rintro e w' ⟨rfl, ⟨nd, rfl⟩⟩) | (go_at_call 76; (with_reducible refine (api_Instr.calls k _ _ l0_4 _ _ l1_4 t517 _ ?side1 ?side2 ?side3 ?side4 A9.out).mono ?_); (case side1 => repeat (first | exact (zD HR0_4.out (by repeat (first | (with_reducible first | exact HB.out | apply zB | apply zN | apply below_drew1 | refine zE ?_ GE513.out | refine zE ?_ GE514.out) | exact HB.out))))); (case side2 => exact HC0_4.out); (case side3 => repeat (first | exact (zD HR1_4.out (by repeat (first | (with_reducible first | exact HB.out | apply zB | apply zN | apply below_drew1 | refine zE ?_ GE513.out | refine zE ?_ GE514.out) | exact HB.out))))); (case side4 => exact HC1_4.out); rintro e w' ⟨rfl, ⟨nd, rfl⟩⟩))
     go_ret
     exact ⟨by first | rfl | (simp [errW_none, errW_some] <;> rfl) | (simp [*, errW_none, errW_some] <;> rfl), by repeat (first | (with_reducible first | exact HB.out | apply zB | apply zN | apply below_drew1 | refine zE ?_ GE513.out | refine zE ?_ GE514.out) | exact HB.out)⟩
    ·replace c8 := Bool.eq_false_iff.mpr c8
     subst c8
     have H1 : (some false) = some r := by rw [if_neg (show ¬ (false = true) by decide)] at H; exact H
     clear H
     have H := H1
     clear H1
     obtain rfl := zJ H
     go_enter Tryd.func40, Tryd.ntmps40
     go_wp2_with (first | ((with_reducible refine gate_dst (N := 2) rfl ?_); refine box_event ?hg (N := 2) ?hd (cs := #[.string a0_0, .slice A0_1 l0_1.length c0_1, .int .i64 a0_2, .slice A0_3 l0_3.length c0_3, .slice A0_4 l0_4.length c0_4]) (t := 48) ?hr ?_; (case hd => rfl); (case hg => rfl); (case hr => first | (go_simp; done) | (go_simp; rfl)); intro gb513 hg w15 hbox hb; have BK513 := zA (hbox); have GW513 := zA ((by rw [hg]; exact (below_size (by repeat (first | (with_reducible first | exact HB.out | apply zB | apply zN | apply below_drew1) | exact HB.out))) : w.heap.size ≤ gb513)); have GE513 := GW513; replace HB := zA (below_step (by repeat (first | (with_reducible first | exact HB.out | apply zB | apply zN | apply below_drew1) | exact HB.out)) hb); clear hb hbox hg) | ((with_reducible refine gate_dst (N := 3) rfl ?_); refine box_event ?hg (N := 3) ?hd (cs := #[.string a1_0, .slice A1_1 l1_1.length c1_1, .int .i64 a1_2, .slice A1_3 l1_3.length c1_3, .slice A1_4 l1_4.length c1_4]) (t := 48) ?hr ?_; (case hd => rfl); (case hg => rfl); (case hr => first | (go_simp; done) | (go_simp; rfl)); intro gb514 hg w16 hbox hb; have BK514 := zA (hbox); have GW514 := zA ((by rw [hg]; exact (below_size (by repeat (first | (with_reducible first | exact HB.out | apply zB | apply zN | apply below_drew1 | refine zE ?_ GE513.out) | exact HB.out))) : w.heap.size ≤ gb514)); have GE514 := GW514; replace HB := zA (below_step (by repeat (first | (with_reducible first | exact HB.out | apply zB | apply zN | apply below_drew1 | refine zE ?_ GE513.out) | exact HB.out)) hb); have NB513_514 := zA ((by rw [hg]; exact Nat.ne_of_lt (blk_lt (g := gb513) (o := .cells #[.string a0_0, .slice A0_1 l0_1.length c0_1, .int .i64 a0_2, .slice A0_3 l0_3.length c0_3, .slice A0_4 l0_4.length c0_4] 48 (0, 0)) (by (with_reducible repeat (first | refine zG ?_ _ | refine zH ?_)); exact BK513.out)) : gb513 ≠ gb514)); have NB514_513 := zA ((by rw [hg]; exact Nat.ne_of_gt (blk_lt (g := gb513) (o := .cells #[.string a0_0, .slice A0_1 l0_1.length c0_1, .int .i64 a0_2, .slice A0_3 l0_3.length c0_3, .slice A0_4 l0_4.length c0_4] 48 (0, 0)) (by (with_reducible repeat (first | refine zG ?_ _ | refine zH ?_)); exact BK513.out)) : gb514 ≠ gb513)); replace BK513 := zA (zQ (g := gb513) (o := .cells #[.string a0_0, .slice A0_1 l0_1.length c0_1, .int .i64 a0_2, .slice A0_3 l0_3.length c0_3, .slice A0_4 l0_4.length c0_4] 48 (0, 0)) (by (with_reducible repeat (first | refine zG ?_ _ | refine zH ?_)); exact BK513.out) hb); clear hb hbox hg; have hnb17 := NB513_514.out; have hnc17 := NB514_513.out; have hcz18_0 : w16.cell? ⟨gb513, 0, none⟩ = some (.string a0_0) := (zC BK513.out 0).trans rfl; have hcz18_1 : w16.cell? ⟨gb513, 1, none⟩ = some (.slice A0_1 l0_1.length c0_1) := (zC BK513.out 1).trans rfl; have hcz18_2 : w16.cell? ⟨gb513, 2, none⟩ = some (.int .i64 a0_2) := (zC BK513.out 2).trans rfl; have hcz18_3 : w16.cell? ⟨gb513, 3, none⟩ = some (.slice A0_3 l0_3.length c0_3) := (zC BK513.out 3).trans rfl; have hcz18_4 : w16.cell? ⟨gb513, 4, none⟩ = some (.slice A0_4 l0_4.length c0_4) := (zC BK513.out 4).trans rfl; have hfz18_0 := zF BK513.out 0; have hfz18_1 := zF BK513.out 1; have hfz18_2 := zF BK513.out 2; have hfz18_3 := zF BK513.out 3; have hfz18_4 := zF BK513.out 4; have hcz19_0 : w16.cell? ⟨gb514, 0, none⟩ = some (.string a1_0) := (zC BK514.out 0).trans rfl; have hcz19_1 : w16.cell? ⟨gb514, 1, none⟩ = some (.slice A1_1 l1_1.length c1_1) := (zC BK514.out 1).trans rfl; have hcz19_2 : w16.cell? ⟨gb514, 2, none⟩ = some (.int .i64 a1_2) := (zC BK514.out 2).trans rfl; have hcz19_3 : w16.cell? ⟨gb514, 3, none⟩ = some (.slice A1_3 l1_3.length c1_3) := (zC BK514.out 3).trans rfl; have hcz19_4 : w16.cell? ⟨gb514, 4, none⟩ = some (.slice A1_4 l1_4.length c1_4) := (zC BK514.out 4).trans rfl; have hfz19_0 := zF BK514.out 0; have hfz19_1 := zF BK514.out 1; have hfz19_2 := zF BK514.out 2; have hfz19_3 := zF BK514.out 3; have hfz19_4 := zF BK514.out 4) | (go_at_call 75; (with_reducible refine (unit_like_int.calls k _ _ l0_1 _ _ l1_1 true _ ?side1 ?side2 ?side3 ?side4 A5.out).mono ?_); (case side1 => repeat (first | exact (zD HR0_1.out HB.out))); (case side2 => exact HC0_1.out); (case side3 => repeat (first | exact (zD HR1_1.out HB.out))); (case side4 => exact HC1_1.out); rintro e w' ⟨rfl, ⟨nd, rfl⟩⟩) | (go_at_call 75; (with_reducible refine (unit_like_int.calls k _ _ l0_3 _ _ l1_3 false _ ?side1 ?side2 ?side3 ?side4 A7.out).mono ?_); (case side1 => repeat (first | exact (zD HR0_3.out (by repeat (first | (with_reducible first | exact HB.out | apply zB | apply zN | apply below_drew1 | refine zE ?_ GE513.out | refine zE ?_ GE514.out) | exact HB.out))))); (case side2 => exact HC0_3.out); (case side3 => repeat (first | exact (zD HR1_3.out (by repeat (first | (with_reducible first | exact HB.out | apply zB | apply zN | apply below_drew1 | refine zE ?_ GE513.out | refine zE ?_ GE514.out) | exact HB.out))))); (case side4 => exact HC1_3.out); rintro e w' ⟨rfl, ⟨nd, rfl⟩⟩))
     go_ret
     exact ⟨by first | rfl | (simp [errW_none, errW_some] <;> rfl) | (simp [*, errW_none, errW_some] <;> rfl), by repeat (first | (with_reducible first | exact HB.out | apply zB | apply zN | apply below_drew1 | refine zE ?_ GE513.out | refine zE ?_ GE514.out) | exact HB.out)⟩
   ·replace c6 := Bool.eq_false_iff.mpr c6
    subst c6
    have H1 : (some false) = some r := by rw [if_neg (show ¬ (false = true) by decide)] at H; exact H
    clear H
    have H := H1
    clear H1
    obtain rfl := zJ H
    go_enter Tryd.func40, Tryd.ntmps40
    go_wp2_with (first | ((with_reducible refine gate_dst (N := 2) rfl ?_); refine box_event ?hg (N := 2) ?hd (cs := #[.string a0_0, .slice A0_1 l0_1.length c0_1, .int .i64 a0_2, .slice A0_3 l0_3.length c0_3, .slice A0_4 l0_4.length c0_4]) (t := 48) ?hr ?_; (case hd => rfl); (case hg => rfl); (case hr => first | (go_simp; done) | (go_simp; rfl)); intro gb513 hg w20 hbox hb; have BK513 := zA (hbox); have GW513 := zA ((by rw [hg]; exact (below_size (by repeat (first | (with_reducible first | exact HB.out | apply zB | apply zN | apply below_drew1) | exact HB.out))) : w.heap.size ≤ gb513)); have GE513 := GW513; replace HB := zA (below_step (by repeat (first | (with_reducible first | exact HB.out | apply zB | apply zN | apply below_drew1) | exact HB.out)) hb); clear hb hbox hg) | ((with_reducible refine gate_dst (N := 3) rfl ?_); refine box_event ?hg (N := 3) ?hd (cs := #[.string a1_0, .slice A1_1 l1_1.length c1_1, .int .i64 a1_2, .slice A1_3 l1_3.length c1_3, .slice A1_4 l1_4.length c1_4]) (t := 48) ?hr ?_; (case hd => rfl); (case hg => rfl); (case hr => first | (go_simp; done) | (go_simp; rfl)); intro gb514 hg w21 hbox hb; have BK514 := zA (hbox); have GW514 := zA ((by rw [hg]; exact (below_size (by repeat (first | (with_reducible first | exact HB.out | apply zB | apply zN | apply below_drew1 | refine zE ?_ GE513.out) | exact HB.out))) : w.heap.size ≤ gb514)); have GE514 := GW514; replace HB := zA (below_step (by repeat (first | (with_reducible first | exact HB.out | apply zB | apply zN | apply below_drew1 | refine zE ?_ GE513.out) | exact HB.out)) hb); have NB513_514 := zA ((by rw [hg]; exact Nat.ne_of_lt (blk_lt (g := gb513) (o := .cells #[.string a0_0, .slice A0_1 l0_1.length c0_1, .int .i64 a0_2, .slice A0_3 l0_3.length c0_3, .slice A0_4 l0_4.length c0_4] 48 (0, 0)) (by (with_reducible repeat (first | refine zG ?_ _ | refine zH ?_)); exact BK513.out)) : gb513 ≠ gb514)); have NB514_513 := zA ((by rw [hg]; exact Nat.ne_of_gt (blk_lt (g := gb513) (o := .cells #[.string a0_0, .slice A0_1 l0_1.length c0_1, .int .i64 a0_2, .slice A0_3 l0_3.length c0_3, .slice A0_4 l0_4.length c0_4] 48 (0, 0)) (by (with_reducible repeat (first | refine zG ?_ _ | refine zH ?_)); exact BK513.out)) : gb514 ≠ gb513)); replace BK513 := zA (zQ (g := gb513) (o := .cells #[.string a0_0, .slice A0_1 l0_1.length c0_1, .int .i64 a0_2, .slice A0_3 l0_3.length c0_3, .slice A0_4 l0_4.length c0_4] 48 (0, 0)) (by (with_reducible repeat (first | refine zG ?_ _ | refine zH ?_)); exact BK513.out) hb); clear hb hbox hg; have hnb22 := NB513_514.out; have hnc22 := NB514_513.out; have hcz23_0 : w21.cell? ⟨gb513, 0, none⟩ = some (.string a0_0) := (zC BK513.out 0).trans rfl; have hcz23_1 : w21.cell? ⟨gb513, 1, none⟩ = some (.slice A0_1 l0_1.length c0_1) := (zC BK513.out 1).trans rfl; have hcz23_2 : w21.cell? ⟨gb513, 2, none⟩ = some (.int .i64 a0_2) := (zC BK513.out 2).trans rfl; have hcz23_3 : w21.cell? ⟨gb513, 3, none⟩ = some (.slice A0_3 l0_3.length c0_3) := (zC BK513.out 3).trans rfl; have hcz23_4 : w21.cell? ⟨gb513, 4, none⟩ = some (.slice A0_4 l0_4.length c0_4) := (zC BK513.out 4).trans rfl; have hfz23_0 := zF BK513.out 0; have hfz23_1 := zF BK513.out 1; have hfz23_2 := zF BK513.out 2; have hfz23_3 := zF BK513.out 3; have hfz23_4 := zF BK513.out 4; have hcz24_0 : w21.cell? ⟨gb514, 0, none⟩ = some (.string a1_0) := (zC BK514.out 0).trans rfl; have hcz24_1 : w21.cell? ⟨gb514, 1, none⟩ = some (.slice A1_1 l1_1.length c1_1) := (zC BK514.out 1).trans rfl; have hcz24_2 : w21.cell? ⟨gb514, 2, none⟩ = some (.int .i64 a1_2) := (zC BK514.out 2).trans rfl; have hcz24_3 : w21.cell? ⟨gb514, 3, none⟩ = some (.slice A1_3 l1_3.length c1_3) := (zC BK514.out 3).trans rfl; have hcz24_4 : w21.cell? ⟨gb514, 4, none⟩ = some (.slice A1_4 l1_4.length c1_4) := (zC BK514.out 4).trans rfl; have hfz24_0 := zF BK514.out 0; have hfz24_1 := zF BK514.out 1; have hfz24_2 := zF BK514.out 2; have hfz24_3 := zF BK514.out 3; have hfz24_4 := zF BK514.out 4) | (go_at_call 75; (with_reducible refine (unit_like_int.calls k _ _ l0_1 _ _ l1_1 false _ ?side1 ?side2 ?side3 ?side4 A5.out).mono ?_); (case side1 => repeat (first | exact (zD HR0_1.out HB.out))); (case side2 => exact HC0_1.out); (case side3 => repeat (first | exact (zD HR1_1.out HB.out))); (case side4 => exact HC1_1.out); rintro e w' ⟨rfl, ⟨nd, rfl⟩⟩))
    go_ret
    exact ⟨by first | rfl | (simp [errW_none, errW_some] <;> rfl) | (simp [*, errW_none, errW_some] <;> rfl), by repeat (first | (with_reducible first | exact HB.out | apply zB | apply zN | apply below_drew1 | refine zE ?_ GE513.out | refine zE ?_ GE514.out) | exact HB.out)⟩
  ·rw [if_neg c4] at H
   have c4b0 : (a0_2 == a1_2) = false := beq_eq_false_iff_ne.mpr c4
   have c4b1 : (a0_2 != a1_2) = true := bne_iff_ne.mpr c4
   obtain rfl := zJ H
   go_enter Tryd.func40, Tryd.ntmps40
   go_wp2_with (first | ((with_reducible refine gate_dst (N := 2) rfl ?_); refine box_event ?hg (N := 2) ?hd (cs := #[.string a0_0, .slice A0_1 l0_1.length c0_1, .int .i64 a0_2, .slice A0_3 l0_3.length c0_3, .slice A0_4 l0_4.length c0_4]) (t := 48) ?hr ?_; (case hd => rfl); (case hg => rfl); (case hr => first | (go_simp; done) | (go_simp; rfl)); intro gb513 hg w25 hbox hb; have BK513 := zA (hbox); have GW513 := zA ((by rw [hg]; exact (below_size (by repeat (first | (with_reducible first | exact HB.out | apply zB | apply zN | apply below_drew1) | exact HB.out))) : w.heap.size ≤ gb513)); have GE513 := GW513; replace HB := zA (below_step (by repeat (first | (with_reducible first | exact HB.out | apply zB | apply zN | apply below_drew1) | exact HB.out)) hb); clear hb hbox hg) | ((with_reducible refine gate_dst (N := 3) rfl ?_); refine box_event ?hg (N := 3) ?hd (cs := #[.string a1_0, .slice A1_1 l1_1.length c1_1, .int .i64 a1_2, .slice A1_3 l1_3.length c1_3, .slice A1_4 l1_4.length c1_4]) (t := 48) ?hr ?_; (case hd => rfl); (case hg => rfl); (case hr => first | (go_simp; done) | (go_simp; rfl)); intro gb514 hg w26 hbox hb; have BK514 := zA (hbox); have GW514 := zA ((by rw [hg]; exact (below_size (by repeat (first | (with_reducible first | exact HB.out | apply zB | apply zN | apply below_drew1 | refine zE ?_ GE513.out) | exact HB.out))) : w.heap.size ≤ gb514)); have GE514 := GW514; replace HB := zA (below_step (by repeat (first | (with_reducible first | exact HB.out | apply zB | apply zN | apply below_drew1 | refine zE ?_ GE513.out) | exact HB.out)) hb); have NB513_514 := zA ((by rw [hg]; exact Nat.ne_of_lt (blk_lt (g := gb513) (o := .cells #[.string a0_0, .slice A0_1 l0_1.length c0_1, .int .i64 a0_2, .slice A0_3 l0_3.length c0_3, .slice A0_4 l0_4.length c0_4] 48 (0, 0)) (by (with_reducible repeat (first | refine zG ?_ _ | refine zH ?_)); exact BK513.out)) : gb513 ≠ gb514)); have NB514_513 := zA ((by rw [hg]; exact Nat.ne_of_gt (blk_lt (g := gb513) (o := .cells #[.string a0_0, .slice A0_1 l0_1.length c0_1, .int .i64 a0_2, .slice A0_3 l0_3.length c0_3, .slice A0_4 l0_4.length c0_4] 48 (0, 0)) (by (with_reducible repeat (first | refine zG ?_ _ | refine zH ?_)); exact BK513.out)) : gb514 ≠ gb513)); replace BK513 := zA (zQ (g := gb513) (o := .cells #[.string a0_0, .slice A0_1 l0_1.length c0_1, .int .i64 a0_2, .slice A0_3 l0_3.length c0_3, .slice A0_4 l0_4.length c0_4] 48 (0, 0)) (by (with_reducible repeat (first | refine zG ?_ _ | refine zH ?_)); exact BK513.out) hb); clear hb hbox hg; have hnb27 := NB513_514.out; have hnc27 := NB514_513.out; have hcz28_0 : w26.cell? ⟨gb513, 0, none⟩ = some (.string a0_0) := (zC BK513.out 0).trans rfl; have hcz28_1 : w26.cell? ⟨gb513, 1, none⟩ = some (.slice A0_1 l0_1.length c0_1) := (zC BK513.out 1).trans rfl; have hcz28_2 : w26.cell? ⟨gb513, 2, none⟩ = some (.int .i64 a0_2) := (zC BK513.out 2).trans rfl; have hcz28_3 : w26.cell? ⟨gb513, 3, none⟩ = some (.slice A0_3 l0_3.length c0_3) := (zC BK513.out 3).trans rfl; have hcz28_4 : w26.cell? ⟨gb513, 4, none⟩ = some (.slice A0_4 l0_4.length c0_4) := (zC BK513.out 4).trans rfl; have hfz28_0 := zF BK513.out 0; have hfz28_1 := zF BK513.out 1; have hfz28_2 := zF BK513.out 2; have hfz28_3 := zF BK513.out 3; have hfz28_4 := zF BK513.out 4; have hcz29_0 : w26.cell? ⟨gb514, 0, none⟩ = some (.string a1_0) := (zC BK514.out 0).trans rfl; have hcz29_1 : w26.cell? ⟨gb514, 1, none⟩ = some (.slice A1_1 l1_1.length c1_1) := (zC BK514.out 1).trans rfl; have hcz29_2 : w26.cell? ⟨gb514, 2, none⟩ = some (.int .i64 a1_2) := (zC BK514.out 2).trans rfl; have hcz29_3 : w26.cell? ⟨gb514, 3, none⟩ = some (.slice A1_3 l1_3.length c1_3) := (zC BK514.out 3).trans rfl; have hcz29_4 : w26.cell? ⟨gb514, 4, none⟩ = some (.slice A1_4 l1_4.length c1_4) := (zC BK514.out 4).trans rfl; have hfz29_0 := zF BK514.out 0; have hfz29_1 := zF BK514.out 1; have hfz29_2 := zF BK514.out 2; have hfz29_3 := zF BK514.out 3; have hfz29_4 := zF BK514.out 4))
   go_ret
   exact ⟨by first | rfl | (simp [errW_none, errW_some] <;> rfl) | (simp [*, errW_none, errW_some] <;> rfl), by repeat (first | (with_reducible first | exact HB.out | apply zB | apply zN | apply below_drew1 | refine zE ?_ GE513.out | refine zE ?_ GE514.out) | exact HB.out)⟩
 ·rw [if_neg c3] at H
  have c3b0 : (a0_0.toList == a1_0.toList) = false := beq_eq_false_iff_ne.mpr c3
  have c3b1 : (a0_0.toList != a1_0.toList) = true := bne_iff_ne.mpr c3
  obtain rfl := zJ H
  go_enter Tryd.func40, Tryd.ntmps40
  go_wp2_with (first | ((with_reducible refine gate_dst (N := 2) rfl ?_); refine box_event ?hg (N := 2) ?hd (cs := #[.string a0_0, .slice A0_1 l0_1.length c0_1, .int .i64 a0_2, .slice A0_3 l0_3.length c0_3, .slice A0_4 l0_4.length c0_4]) (t := 48) ?hr ?_; (case hd => rfl); (case hg => rfl); (case hr => first | (go_simp; done) | (go_simp; rfl)); intro gb513 hg w30 hbox hb; have BK513 := zA (hbox); have GW513 := zA ((by rw [hg]; exact (below_size (by repeat (first | (with_reducible first | exact HB.out | apply zB | apply zN | apply below_drew1) | exact HB.out))) : w.heap.size ≤ gb513)); have GE513 := GW513; replace HB := zA (below_step (by repeat (first | (with_reducible first | exact HB.out | apply zB | apply zN | apply below_drew1) | exact HB.out)) hb); clear hb hbox hg) | ((with_reducible refine gate_dst (N := 3) rfl ?_); refine box_event ?hg (N := 3) ?hd (cs := #[.string a1_0, .slice A1_1 l1_1.length c1_1, .int .i64 a1_2, .slice A1_3 l1_3.length c1_3, .slice A1_4 l1_4.length c1_4]) (t := 48) ?hr ?_; (case hd => rfl); (case hg => rfl); (case hr => first | (go_simp; done) | (go_simp; rfl)); intro gb514 hg w31 hbox hb; have BK514 := zA (hbox); have GW514 := zA ((by rw [hg]; exact (below_size (by repeat (first | (with_reducible first | exact HB.out | apply zB | apply zN | apply below_drew1 | refine zE ?_ GE513.out) | exact HB.out))) : w.heap.size ≤ gb514)); have GE514 := GW514; replace HB := zA (below_step (by repeat (first | (with_reducible first | exact HB.out | apply zB | apply zN | apply below_drew1 | refine zE ?_ GE513.out) | exact HB.out)) hb); have NB513_514 := zA ((by rw [hg]; exact Nat.ne_of_lt (blk_lt (g := gb513) (o := .cells #[.string a0_0, .slice A0_1 l0_1.length c0_1, .int .i64 a0_2, .slice A0_3 l0_3.length c0_3, .slice A0_4 l0_4.length c0_4] 48 (0, 0)) (by (with_reducible repeat (first | refine zG ?_ _ | refine zH ?_)); exact BK513.out)) : gb513 ≠ gb514)); have NB514_513 := zA ((by rw [hg]; exact Nat.ne_of_gt (blk_lt (g := gb513) (o := .cells #[.string a0_0, .slice A0_1 l0_1.length c0_1, .int .i64 a0_2, .slice A0_3 l0_3.length c0_3, .slice A0_4 l0_4.length c0_4] 48 (0, 0)) (by (with_reducible repeat (first | refine zG ?_ _ | refine zH ?_)); exact BK513.out)) : gb514 ≠ gb513)); replace BK513 := zA (zQ (g := gb513) (o := .cells #[.string a0_0, .slice A0_1 l0_1.length c0_1, .int .i64 a0_2, .slice A0_3 l0_3.length c0_3, .slice A0_4 l0_4.length c0_4] 48 (0, 0)) (by (with_reducible repeat (first | refine zG ?_ _ | refine zH ?_)); exact BK513.out) hb); clear hb hbox hg; have hnb32 := NB513_514.out; have hnc32 := NB514_513.out; have hcz33_0 : w31.cell? ⟨gb513, 0, none⟩ = some (.string a0_0) := (zC BK513.out 0).trans rfl; have hcz33_1 : w31.cell? ⟨gb513, 1, none⟩ = some (.slice A0_1 l0_1.length c0_1) := (zC BK513.out 1).trans rfl; have hcz33_2 : w31.cell? ⟨gb513, 2, none⟩ = some (.int .i64 a0_2) := (zC BK513.out 2).trans rfl; have hcz33_3 : w31.cell? ⟨gb513, 3, none⟩ = some (.slice A0_3 l0_3.length c0_3) := (zC BK513.out 3).trans rfl; have hcz33_4 : w31.cell? ⟨gb513, 4, none⟩ = some (.slice A0_4 l0_4.length c0_4) := (zC BK513.out 4).trans rfl; have hfz33_0 := zF BK513.out 0; have hfz33_1 := zF BK513.out 1; have hfz33_2 := zF BK513.out 2; have hfz33_3 := zF BK513.out 3; have hfz33_4 := zF BK513.out 4; have hcz34_0 : w31.cell? ⟨gb514, 0, none⟩ = some (.string a1_0) := (zC BK514.out 0).trans rfl; have hcz34_1 : w31.cell? ⟨gb514, 1, none⟩ = some (.slice A1_1 l1_1.length c1_1) := (zC BK514.out 1).trans rfl; have hcz34_2 : w31.cell? ⟨gb514, 2, none⟩ = some (.int .i64 a1_2) := (zC BK514.out 2).trans rfl; have hcz34_3 : w31.cell? ⟨gb514, 3, none⟩ = some (.slice A1_3 l1_3.length c1_3) := (zC BK514.out 3).trans rfl; have hcz34_4 : w31.cell? ⟨gb514, 4, none⟩ = some (.slice A1_4 l1_4.length c1_4) := (zC BK514.out 4).trans rfl; have hfz34_0 := zF BK514.out 0; have hfz34_1 := zF BK514.out 1; have hfz34_2 := zF BK514.out 2; have hfz34_3 := zF BK514.out 3; have hfz34_4 := zF BK514.out 4))
  go_ret
  exact ⟨by first | rfl | (simp [errW_none, errW_some] <;> rfl) | (simp [*, errW_none, errW_some] <;> rfl), by repeat (first | (with_reducible first | exact HB.out | apply zB | apply zN | apply below_drew1 | refine zE ?_ GE513.out | refine zE ?_ GE514.out) | exact HB.out)⟩

end Go.Proofs.YtdbfgfgbjheibaaDoor.PBx
end
