/- Printed by a program of this session (wip/pg.py, over the print of the kit): functions, their Lean twins, and the proofs that the calls come to them; each under the conditions that it names. -/
import Derived.Test.YtohdabkhafcdkaaDoorPAlux0
namespace Go.Proofs.YtohdabkhafcdkaaDoor.PAlu
open Go.Proofs.YtohdabkhafcdkaaDoor.Given
open Go.RowKit Go.Proofs.YtohdabkhafcdkaaDoorW.PrintWords Go.Proofs.YtohdabkhafcdkaaDoorW.PrintLast Go.Proofs.YtohdabkhafcdkaaDoorW.PrintMore
attribute [local go_sem] max2_int min2_int max_two min_two max_three min_three max_four min_four   -- for this text's walks alone
set_option linter.unusedVariables false
set_option linter.unusedSimpArgs false

/-! ### ladderbackref07_so: function 46 -/
def ladderbackref07_so.f (a0 : Int) (a1 : Int) (a2 : Int) : Option (Bool) := if a0 = 20 then (if a1 = a2 then (some true) else (if a0 = 21 then (some true) else (if a0 = 22 then (if a1 < a2 then (some true) else (if a0 = 23 then (if a1 ≤ a2 then (some true) else (if a0 = 24 then (if a1 > a2 then (some true) else (if a0 = 25 then (some (decide (a1 ≥ a2))) else (some false))) else (if a0 = 25 then (some (decide (a1 ≥ a2))) else (some false)))) else (if a0 = 24 then (if a1 > a2 then (some true) else (if a0 = 25 then (some (decide (a1 ≥ a2))) else (some false))) else (if a0 = 25 then (some (decide (a1 ≥ a2))) else (some false))))) else (if a0 = 23 then (if a1 ≤ a2 then (some true) else (if a0 = 24 then (if a1 > a2 then (some true) else (if a0 = 25 then (some (decide (a1 ≥ a2))) else (some false))) else (if a0 = 25 then (some (decide (a1 ≥ a2))) else (some false)))) else (if a0 = 24 then (if a1 > a2 then (some true) else (if a0 = 25 then (some (decide (a1 ≥ a2))) else (some false))) else (if a0 = 25 then (some (decide (a1 ≥ a2))) else (some false))))))) else (if a0 = 21 then (if a1 = a2 then (if a0 = 22 then (if a1 < a2 then (some true) else (if a0 = 23 then (if a1 ≤ a2 then (some true) else (if a0 = 24 then (if a1 > a2 then (some true) else (if a0 = 25 then (some (decide (a1 ≥ a2))) else (some false))) else (if a0 = 25 then (some (decide (a1 ≥ a2))) else (some false)))) else (if a0 = 24 then (if a1 > a2 then (some true) else (if a0 = 25 then (some (decide (a1 ≥ a2))) else (some false))) else (if a0 = 25 then (some (decide (a1 ≥ a2))) else (some false))))) else (if a0 = 23 then (if a1 ≤ a2 then (some true) else (if a0 = 24 then (if a1 > a2 then (some true) else (if a0 = 25 then (some (decide (a1 ≥ a2))) else (some false))) else (if a0 = 25 then (some (decide (a1 ≥ a2))) else (some false)))) else (if a0 = 24 then (if a1 > a2 then (some true) else (if a0 = 25 then (some (decide (a1 ≥ a2))) else (some false))) else (if a0 = 25 then (some (decide (a1 ≥ a2))) else (some false))))) else (some true)) else (if a0 = 22 then (if a1 < a2 then (some true) else (if a0 = 23 then (if a1 ≤ a2 then (some true) else (if a0 = 24 then (if a1 > a2 then (some true) else (if a0 = 25 then (some (decide (a1 ≥ a2))) else (some false))) else (if a0 = 25 then (some (decide (a1 ≥ a2))) else (some false)))) else (if a0 = 24 then (if a1 > a2 then (some true) else (if a0 = 25 then (some (decide (a1 ≥ a2))) else (some false))) else (if a0 = 25 then (some (decide (a1 ≥ a2))) else (some false))))) else (if a0 = 23 then (if a1 ≤ a2 then (some true) else (if a0 = 24 then (if a1 > a2 then (some true) else (if a0 = 25 then (some (decide (a1 ≥ a2))) else (some false))) else (if a0 = 25 then (some (decide (a1 ≥ a2))) else (some false)))) else (if a0 = 24 then (if a1 > a2 then (some true) else (if a0 = 25 then (some (decide (a1 ≥ a2))) else (some false))) else (if a0 = 25 then (some (decide (a1 ≥ a2))) else (some false))))))
set_option maxHeartbeats 8000000 in
set_option maxRecDepth 100000 in
theorem ladderbackref07_so.calls (a0 : Int) (a1 : Int) (a2 : Int) (r : Bool) (w : World) (h : ladderbackref07_so.f a0 a1 a2 = some r) :
    Calls Tryd.prog 46 #[.int .i64 a0, .int .i64 a1, .int .i64 a2] w fun e w' => e = .returned (.bool r) ∧ Drawn0 w w' := by
  have H : (if a0 = 20 then (if a1 = a2 then (some true) else (if a0 = 21 then (some true) else (if a0 = 22 then (if a1 < a2 then (some true) else (if a0 = 23 then (if a1 ≤ a2 then (some true) else (if a0 = 24 then (if a1 > a2 then (some true) else (if a0 = 25 then (some (decide (a1 ≥ a2))) else (some false))) else (if a0 = 25 then (some (decide (a1 ≥ a2))) else (some false)))) else (if a0 = 24 then (if a1 > a2 then (some true) else (if a0 = 25 then (some (decide (a1 ≥ a2))) else (some false))) else (if a0 = 25 then (some (decide (a1 ≥ a2))) else (some false))))) else (if a0 = 23 then (if a1 ≤ a2 then (some true) else (if a0 = 24 then (if a1 > a2 then (some true) else (if a0 = 25 then (some (decide (a1 ≥ a2))) else (some false))) else (if a0 = 25 then (some (decide (a1 ≥ a2))) else (some false)))) else (if a0 = 24 then (if a1 > a2 then (some true) else (if a0 = 25 then (some (decide (a1 ≥ a2))) else (some false))) else (if a0 = 25 then (some (decide (a1 ≥ a2))) else (some false))))))) else (if a0 = 21 then (if a1 = a2 then (if a0 = 22 then (if a1 < a2 then (some true) else (if a0 = 23 then (if a1 ≤ a2 then (some true) else (if a0 = 24 then (if a1 > a2 then (some true) else (if a0 = 25 then (some (decide (a1 ≥ a2))) else (some false))) else (if a0 = 25 then (some (decide (a1 ≥ a2))) else (some false)))) else (if a0 = 24 then (if a1 > a2 then (some true) else (if a0 = 25 then (some (decide (a1 ≥ a2))) else (some false))) else (if a0 = 25 then (some (decide (a1 ≥ a2))) else (some false))))) else (if a0 = 23 then (if a1 ≤ a2 then (some true) else (if a0 = 24 then (if a1 > a2 then (some true) else (if a0 = 25 then (some (decide (a1 ≥ a2))) else (some false))) else (if a0 = 25 then (some (decide (a1 ≥ a2))) else (some false)))) else (if a0 = 24 then (if a1 > a2 then (some true) else (if a0 = 25 then (some (decide (a1 ≥ a2))) else (some false))) else (if a0 = 25 then (some (decide (a1 ≥ a2))) else (some false))))) else (some true)) else (if a0 = 22 then (if a1 < a2 then (some true) else (if a0 = 23 then (if a1 ≤ a2 then (some true) else (if a0 = 24 then (if a1 > a2 then (some true) else (if a0 = 25 then (some (decide (a1 ≥ a2))) else (some false))) else (if a0 = 25 then (some (decide (a1 ≥ a2))) else (some false)))) else (if a0 = 24 then (if a1 > a2 then (some true) else (if a0 = 25 then (some (decide (a1 ≥ a2))) else (some false))) else (if a0 = 25 then (some (decide (a1 ≥ a2))) else (some false))))) else (if a0 = 23 then (if a1 ≤ a2 then (some true) else (if a0 = 24 then (if a1 > a2 then (some true) else (if a0 = 25 then (some (decide (a1 ≥ a2))) else (some false))) else (if a0 = 25 then (some (decide (a1 ≥ a2))) else (some false)))) else (if a0 = 24 then (if a1 > a2 then (some true) else (if a0 = 25 then (some (decide (a1 ≥ a2))) else (some false))) else (if a0 = 25 then (some (decide (a1 ≥ a2))) else (some false))))))) = some r := h
  clear h
  by_cases c4 : a0 = 20
  · rw [if_pos c4] at H
    have c4b0 : (a0 == 20) = true := beq_iff_eq.mpr c4
    have c4b1 : (a0 != 20) = false := bne_eq_false_iff_eq.mpr c4
    clear c4
    by_cases c5 : a1 = a2
    · rw [if_pos c5] at H
      have c5b0 : (a1 == a2) = true := beq_iff_eq.mpr c5
      have c5b1 : (a1 != a2) = false := bne_eq_false_iff_eq.mpr c5
      clear c5
      obtain rfl := Option.some.inj H
      go_enter Tryd.func46, Tryd.ntmps46
      go_wp2
      go_ret
      exact ⟨by first | rfl | (simp; done) | (simp [*]; done), by repeat (first | exact Drawn0.refl _ | apply Drawn0.step)⟩
    · rw [if_neg c5] at H
      have c5b0 : (a1 == a2) = false := beq_eq_false_iff_ne.mpr c5
      have c5b1 : (a1 != a2) = true := bne_iff_ne.mpr c5
      by_cases c6 : a0 = 21
      · rw [if_pos c6] at H
        have c6b0 : (a0 == 21) = true := beq_iff_eq.mpr c6
        have c6b1 : (a0 != 21) = false := bne_eq_false_iff_eq.mpr c6
        clear c6
        obtain rfl := Option.some.inj H
        go_enter Tryd.func46, Tryd.ntmps46
        go_wp2
        go_ret
        exact ⟨by first | rfl | (simp; done) | (simp [*]; done), by repeat (first | exact Drawn0.refl _ | apply Drawn0.step)⟩
      · rw [if_neg c6] at H
        have c6b0 : (a0 == 21) = false := beq_eq_false_iff_ne.mpr c6
        have c6b1 : (a0 != 21) = true := bne_iff_ne.mpr c6
        by_cases c7 : a0 = 22
        · rw [if_pos c7] at H
          have c7b0 : (a0 == 22) = true := beq_iff_eq.mpr c7
          have c7b1 : (a0 != 22) = false := bne_eq_false_iff_eq.mpr c7
          clear c7
          by_cases c8 : a1 < a2
          · rw [if_pos c8] at H
            have c8b0 : decide (a1 < a2) = true := decide_eq_true c8
            clear c8
            obtain rfl := Option.some.inj H
            go_enter Tryd.func46, Tryd.ntmps46
            go_wp2
            go_ret
            exact ⟨by first | rfl | (simp; done) | (simp [*]; done), by repeat (first | exact Drawn0.refl _ | apply Drawn0.step)⟩
          · rw [if_neg c8] at H
            have c8b0 : decide (a1 < a2) = false := decide_eq_false c8
            clear c8
            by_cases c9 : a0 = 23
            · rw [if_pos c9] at H
              have c9b0 : (a0 == 23) = true := beq_iff_eq.mpr c9
              have c9b1 : (a0 != 23) = false := bne_eq_false_iff_eq.mpr c9
              clear c9
              by_cases c10 : a1 ≤ a2
              · rw [if_pos c10] at H
                have c10b0 : decide (a1 ≤ a2) = true := decide_eq_true c10
                clear c10
                obtain rfl := Option.some.inj H
                go_enter Tryd.func46, Tryd.ntmps46
                go_wp2
                go_ret
                exact ⟨by first | rfl | (simp; done) | (simp [*]; done), by repeat (first | exact Drawn0.refl _ | apply Drawn0.step)⟩
              · rw [if_neg c10] at H
                have c10b0 : decide (a1 ≤ a2) = false := decide_eq_false c10
                clear c10
                by_cases c11 : a0 = 24
                · rw [if_pos c11] at H
                  have c11b0 : (a0 == 24) = true := beq_iff_eq.mpr c11
                  have c11b1 : (a0 != 24) = false := bne_eq_false_iff_eq.mpr c11
                  clear c11
                  by_cases c12 : a1 > a2
                  · rw [if_pos c12] at H
                    have c12b0 : decide (a2 < a1) = true := decide_eq_true c12
                    clear c12
                    obtain rfl := Option.some.inj H
                    go_enter Tryd.func46, Tryd.ntmps46
                    go_wp2
                    go_ret
                    exact ⟨by first | rfl | (simp; done) | (simp [*]; done), by repeat (first | exact Drawn0.refl _ | apply Drawn0.step)⟩
                  · rw [if_neg c12] at H
                    have c12b0 : decide (a2 < a1) = false := decide_eq_false c12
                    clear c12
                    by_cases c13 : a0 = 25
                    · rw [if_pos c13] at H
                      have c13b0 : (a0 == 25) = true := beq_iff_eq.mpr c13
                      have c13b1 : (a0 != 25) = false := bne_eq_false_iff_eq.mpr c13
                      clear c13
                      obtain rfl := Option.some.inj H
                      go_enter Tryd.func46, Tryd.ntmps46
                      go_wp2
                      go_ret
                      exact ⟨by first | rfl | (simp; done) | (simp [*]; done), by repeat (first | exact Drawn0.refl _ | apply Drawn0.step)⟩
                    · rw [if_neg c13] at H
                      have c13b0 : (a0 == 25) = false := beq_eq_false_iff_ne.mpr c13
                      have c13b1 : (a0 != 25) = true := bne_iff_ne.mpr c13
                      obtain rfl := Option.some.inj H
                      go_enter Tryd.func46, Tryd.ntmps46
                      go_wp2
                      go_ret
                      exact ⟨by first | rfl | (simp; done) | (simp [*]; done), by repeat (first | exact Drawn0.refl _ | apply Drawn0.step)⟩
                · rw [if_neg c11] at H
                  have c11b0 : (a0 == 24) = false := beq_eq_false_iff_ne.mpr c11
                  have c11b1 : (a0 != 24) = true := bne_iff_ne.mpr c11
                  by_cases c14 : a0 = 25
                  · rw [if_pos c14] at H
                    have c14b0 : (a0 == 25) = true := beq_iff_eq.mpr c14
                    have c14b1 : (a0 != 25) = false := bne_eq_false_iff_eq.mpr c14
                    clear c14
                    obtain rfl := Option.some.inj H
                    go_enter Tryd.func46, Tryd.ntmps46
                    go_wp2
                    go_ret
                    exact ⟨by first | rfl | (simp; done) | (simp [*]; done), by repeat (first | exact Drawn0.refl _ | apply Drawn0.step)⟩
                  · rw [if_neg c14] at H
                    have c14b0 : (a0 == 25) = false := beq_eq_false_iff_ne.mpr c14
                    have c14b1 : (a0 != 25) = true := bne_iff_ne.mpr c14
                    obtain rfl := Option.some.inj H
                    go_enter Tryd.func46, Tryd.ntmps46
                    go_wp2
                    go_ret
                    exact ⟨by first | rfl | (simp; done) | (simp [*]; done), by repeat (first | exact Drawn0.refl _ | apply Drawn0.step)⟩
            · rw [if_neg c9] at H
              have c9b0 : (a0 == 23) = false := beq_eq_false_iff_ne.mpr c9
              have c9b1 : (a0 != 23) = true := bne_iff_ne.mpr c9
              by_cases c15 : a0 = 24
              · rw [if_pos c15] at H
                have c15b0 : (a0 == 24) = true := beq_iff_eq.mpr c15
                have c15b1 : (a0 != 24) = false := bne_eq_false_iff_eq.mpr c15
                clear c15
                by_cases c16 : a1 > a2
                · rw [if_pos c16] at H
                  have c16b0 : decide (a2 < a1) = true := decide_eq_true c16
                  clear c16
                  obtain rfl := Option.some.inj H
                  go_enter Tryd.func46, Tryd.ntmps46
                  go_wp2
                  go_ret
                  exact ⟨by first | rfl | (simp; done) | (simp [*]; done), by repeat (first | exact Drawn0.refl _ | apply Drawn0.step)⟩
                · rw [if_neg c16] at H
                  have c16b0 : decide (a2 < a1) = false := decide_eq_false c16
                  clear c16
                  by_cases c17 : a0 = 25
                  · rw [if_pos c17] at H
                    have c17b0 : (a0 == 25) = true := beq_iff_eq.mpr c17
                    have c17b1 : (a0 != 25) = false := bne_eq_false_iff_eq.mpr c17
                    clear c17
                    obtain rfl := Option.some.inj H
                    go_enter Tryd.func46, Tryd.ntmps46
                    go_wp2
                    go_ret
                    exact ⟨by first | rfl | (simp; done) | (simp [*]; done), by repeat (first | exact Drawn0.refl _ | apply Drawn0.step)⟩
                  · rw [if_neg c17] at H
                    have c17b0 : (a0 == 25) = false := beq_eq_false_iff_ne.mpr c17
                    have c17b1 : (a0 != 25) = true := bne_iff_ne.mpr c17
                    obtain rfl := Option.some.inj H
                    go_enter Tryd.func46, Tryd.ntmps46
                    go_wp2
                    go_ret
                    exact ⟨by first | rfl | (simp; done) | (simp [*]; done), by repeat (first | exact Drawn0.refl _ | apply Drawn0.step)⟩
              · rw [if_neg c15] at H
                have c15b0 : (a0 == 24) = false := beq_eq_false_iff_ne.mpr c15
                have c15b1 : (a0 != 24) = true := bne_iff_ne.mpr c15
                by_cases c18 : a0 = 25
                · rw [if_pos c18] at H
                  have c18b0 : (a0 == 25) = true := beq_iff_eq.mpr c18
                  have c18b1 : (a0 != 25) = false := bne_eq_false_iff_eq.mpr c18
                  clear c18
                  obtain rfl := Option.some.inj H
                  go_enter Tryd.func46, Tryd.ntmps46
                  go_wp2
                  go_ret
                  exact ⟨by first | rfl | (simp; done) | (simp [*]; done), by repeat (first | exact Drawn0.refl _ | apply Drawn0.step)⟩
                · rw [if_neg c18] at H
                  have c18b0 : (a0 == 25) = false := beq_eq_false_iff_ne.mpr c18
                  have c18b1 : (a0 != 25) = true := bne_iff_ne.mpr c18
                  obtain rfl := Option.some.inj H
                  go_enter Tryd.func46, Tryd.ntmps46
                  go_wp2
                  go_ret
                  exact ⟨by first | rfl | (simp; done) | (simp [*]; done), by repeat (first | exact Drawn0.refl _ | apply Drawn0.step)⟩
        · rw [if_neg c7] at H
          have c7b0 : (a0 == 22) = false := beq_eq_false_iff_ne.mpr c7
          have c7b1 : (a0 != 22) = true := bne_iff_ne.mpr c7
          by_cases c19 : a0 = 23
          · rw [if_pos c19] at H
            have c19b0 : (a0 == 23) = true := beq_iff_eq.mpr c19
            have c19b1 : (a0 != 23) = false := bne_eq_false_iff_eq.mpr c19
            clear c19
            by_cases c20 : a1 ≤ a2
            · rw [if_pos c20] at H
              have c20b0 : decide (a1 ≤ a2) = true := decide_eq_true c20
              clear c20
              obtain rfl := Option.some.inj H
              go_enter Tryd.func46, Tryd.ntmps46
              go_wp2
              go_ret
              exact ⟨by first | rfl | (simp; done) | (simp [*]; done), by repeat (first | exact Drawn0.refl _ | apply Drawn0.step)⟩
            · rw [if_neg c20] at H
              have c20b0 : decide (a1 ≤ a2) = false := decide_eq_false c20
              clear c20
              by_cases c21 : a0 = 24
              · rw [if_pos c21] at H
                have c21b0 : (a0 == 24) = true := beq_iff_eq.mpr c21
                have c21b1 : (a0 != 24) = false := bne_eq_false_iff_eq.mpr c21
                clear c21
                by_cases c22 : a1 > a2
                · rw [if_pos c22] at H
                  have c22b0 : decide (a2 < a1) = true := decide_eq_true c22
                  clear c22
                  obtain rfl := Option.some.inj H
                  go_enter Tryd.func46, Tryd.ntmps46
                  go_wp2
                  go_ret
                  exact ⟨by first | rfl | (simp; done) | (simp [*]; done), by repeat (first | exact Drawn0.refl _ | apply Drawn0.step)⟩
                · rw [if_neg c22] at H
                  have c22b0 : decide (a2 < a1) = false := decide_eq_false c22
                  clear c22
                  by_cases c23 : a0 = 25
                  · rw [if_pos c23] at H
                    have c23b0 : (a0 == 25) = true := beq_iff_eq.mpr c23
                    have c23b1 : (a0 != 25) = false := bne_eq_false_iff_eq.mpr c23
                    clear c23
                    obtain rfl := Option.some.inj H
                    go_enter Tryd.func46, Tryd.ntmps46
                    go_wp2
                    go_ret
                    exact ⟨by first | rfl | (simp; done) | (simp [*]; done), by repeat (first | exact Drawn0.refl _ | apply Drawn0.step)⟩
                  · rw [if_neg c23] at H
                    have c23b0 : (a0 == 25) = false := beq_eq_false_iff_ne.mpr c23
                    have c23b1 : (a0 != 25) = true := bne_iff_ne.mpr c23
                    obtain rfl := Option.some.inj H
                    go_enter Tryd.func46, Tryd.ntmps46
                    go_wp2
                    go_ret
                    exact ⟨by first | rfl | (simp; done) | (simp [*]; done), by repeat (first | exact Drawn0.refl _ | apply Drawn0.step)⟩
              · rw [if_neg c21] at H
                have c21b0 : (a0 == 24) = false := beq_eq_false_iff_ne.mpr c21
                have c21b1 : (a0 != 24) = true := bne_iff_ne.mpr c21
                by_cases c24 : a0 = 25
                · rw [if_pos c24] at H
                  have c24b0 : (a0 == 25) = true := beq_iff_eq.mpr c24
                  have c24b1 : (a0 != 25) = false := bne_eq_false_iff_eq.mpr c24
                  clear c24
                  obtain rfl := Option.some.inj H
                  go_enter Tryd.func46, Tryd.ntmps46
                  go_wp2
                  go_ret
                  exact ⟨by first | rfl | (simp; done) | (simp [*]; done), by repeat (first | exact Drawn0.refl _ | apply Drawn0.step)⟩
                · rw [if_neg c24] at H
                  have c24b0 : (a0 == 25) = false := beq_eq_false_iff_ne.mpr c24
                  have c24b1 : (a0 != 25) = true := bne_iff_ne.mpr c24
                  obtain rfl := Option.some.inj H
                  go_enter Tryd.func46, Tryd.ntmps46
                  go_wp2
                  go_ret
                  exact ⟨by first | rfl | (simp; done) | (simp [*]; done), by repeat (first | exact Drawn0.refl _ | apply Drawn0.step)⟩
          · rw [if_neg c19] at H
            have c19b0 : (a0 == 23) = false := beq_eq_false_iff_ne.mpr c19
            have c19b1 : (a0 != 23) = true := bne_iff_ne.mpr c19
            by_cases c25 : a0 = 24
            · rw [if_pos c25] at H
              have c25b0 : (a0 == 24) = true := beq_iff_eq.mpr c25
              have c25b1 : (a0 != 24) = false := bne_eq_false_iff_eq.mpr c25
              clear c25
              by_cases c26 : a1 > a2
              · rw [if_pos c26] at H
                have c26b0 : decide (a2 < a1) = true := decide_eq_true c26
                clear c26
                obtain rfl := Option.some.inj H
                go_enter Tryd.func46, Tryd.ntmps46
                go_wp2
                go_ret
                exact ⟨by first | rfl | (simp; done) | (simp [*]; done), by repeat (first | exact Drawn0.refl _ | apply Drawn0.step)⟩
              · rw [if_neg c26] at H
                have c26b0 : decide (a2 < a1) = false := decide_eq_false c26
                clear c26
                by_cases c27 : a0 = 25
                · rw [if_pos c27] at H
                  have c27b0 : (a0 == 25) = true := beq_iff_eq.mpr c27
                  have c27b1 : (a0 != 25) = false := bne_eq_false_iff_eq.mpr c27
                  clear c27
                  obtain rfl := Option.some.inj H
                  go_enter Tryd.func46, Tryd.ntmps46
                  go_wp2
                  go_ret
                  exact ⟨by first | rfl | (simp; done) | (simp [*]; done), by repeat (first | exact Drawn0.refl _ | apply Drawn0.step)⟩
                · rw [if_neg c27] at H
                  have c27b0 : (a0 == 25) = false := beq_eq_false_iff_ne.mpr c27
                  have c27b1 : (a0 != 25) = true := bne_iff_ne.mpr c27
                  obtain rfl := Option.some.inj H
                  go_enter Tryd.func46, Tryd.ntmps46
                  go_wp2
                  go_ret
                  exact ⟨by first | rfl | (simp; done) | (simp [*]; done), by repeat (first | exact Drawn0.refl _ | apply Drawn0.step)⟩
            · rw [if_neg c25] at H
              have c25b0 : (a0 == 24) = false := beq_eq_false_iff_ne.mpr c25
              have c25b1 : (a0 != 24) = true := bne_iff_ne.mpr c25
              by_cases c28 : a0 = 25
              · rw [if_pos c28] at H
                have c28b0 : (a0 == 25) = true := beq_iff_eq.mpr c28
                have c28b1 : (a0 != 25) = false := bne_eq_false_iff_eq.mpr c28
                clear c28
                obtain rfl := Option.some.inj H
                go_enter Tryd.func46, Tryd.ntmps46
                go_wp2
                go_ret
                exact ⟨by first | rfl | (simp; done) | (simp [*]; done), by repeat (first | exact Drawn0.refl _ | apply Drawn0.step)⟩
              · rw [if_neg c28] at H
                have c28b0 : (a0 == 25) = false := beq_eq_false_iff_ne.mpr c28
                have c28b1 : (a0 != 25) = true := bne_iff_ne.mpr c28
                obtain rfl := Option.some.inj H
                go_enter Tryd.func46, Tryd.ntmps46
                go_wp2
                go_ret
                exact ⟨by first | rfl | (simp; done) | (simp [*]; done), by repeat (first | exact Drawn0.refl _ | apply Drawn0.step)⟩
  · rw [if_neg c4] at H
    have c4b0 : (a0 == 20) = false := beq_eq_false_iff_ne.mpr c4
    have c4b1 : (a0 != 20) = true := bne_iff_ne.mpr c4
    by_cases c29 : a0 = 21
    · rw [if_pos c29] at H
      have c29b0 : (a0 == 21) = true := beq_iff_eq.mpr c29
      have c29b1 : (a0 != 21) = false := bne_eq_false_iff_eq.mpr c29
      clear c29
      by_cases c30 : a1 = a2
      · rw [if_pos c30] at H
        have c30b0 : (a1 == a2) = true := beq_iff_eq.mpr c30
        have c30b1 : (a1 != a2) = false := bne_eq_false_iff_eq.mpr c30
        clear c30
        by_cases c31 : a0 = 22
        · rw [if_pos c31] at H
          have c31b0 : (a0 == 22) = true := beq_iff_eq.mpr c31
          have c31b1 : (a0 != 22) = false := bne_eq_false_iff_eq.mpr c31
          clear c31
          by_cases c32 : a1 < a2
          · rw [if_pos c32] at H
            have c32b0 : decide (a1 < a2) = true := decide_eq_true c32
            clear c32
            obtain rfl := Option.some.inj H
            go_enter Tryd.func46, Tryd.ntmps46
            go_wp2
            go_ret
            exact ⟨by first | rfl | (simp; done) | (simp [*]; done), by repeat (first | exact Drawn0.refl _ | apply Drawn0.step)⟩
          · rw [if_neg c32] at H
            have c32b0 : decide (a1 < a2) = false := decide_eq_false c32
            clear c32
            by_cases c33 : a0 = 23
            · rw [if_pos c33] at H
              have c33b0 : (a0 == 23) = true := beq_iff_eq.mpr c33
              have c33b1 : (a0 != 23) = false := bne_eq_false_iff_eq.mpr c33
              clear c33
              by_cases c34 : a1 ≤ a2
              · rw [if_pos c34] at H
                have c34b0 : decide (a1 ≤ a2) = true := decide_eq_true c34
                clear c34
                obtain rfl := Option.some.inj H
                go_enter Tryd.func46, Tryd.ntmps46
                go_wp2
                go_ret
                exact ⟨by first | rfl | (simp; done) | (simp [*]; done), by repeat (first | exact Drawn0.refl _ | apply Drawn0.step)⟩
              · rw [if_neg c34] at H
                have c34b0 : decide (a1 ≤ a2) = false := decide_eq_false c34
                clear c34
                by_cases c35 : a0 = 24
                · rw [if_pos c35] at H
                  have c35b0 : (a0 == 24) = true := beq_iff_eq.mpr c35
                  have c35b1 : (a0 != 24) = false := bne_eq_false_iff_eq.mpr c35
                  clear c35
                  by_cases c36 : a1 > a2
                  · rw [if_pos c36] at H
                    have c36b0 : decide (a2 < a1) = true := decide_eq_true c36
                    clear c36
                    obtain rfl := Option.some.inj H
                    go_enter Tryd.func46, Tryd.ntmps46
                    go_wp2
                    go_ret
                    exact ⟨by first | rfl | (simp; done) | (simp [*]; done), by repeat (first | exact Drawn0.refl _ | apply Drawn0.step)⟩
                  · rw [if_neg c36] at H
                    have c36b0 : decide (a2 < a1) = false := decide_eq_false c36
                    clear c36
                    by_cases c37 : a0 = 25
                    · rw [if_pos c37] at H
                      have c37b0 : (a0 == 25) = true := beq_iff_eq.mpr c37
                      have c37b1 : (a0 != 25) = false := bne_eq_false_iff_eq.mpr c37
                      clear c37
                      obtain rfl := Option.some.inj H
                      go_enter Tryd.func46, Tryd.ntmps46
                      go_wp2
                      go_ret
                      exact ⟨by first | rfl | (simp; done) | (simp [*]; done), by repeat (first | exact Drawn0.refl _ | apply Drawn0.step)⟩
                    · rw [if_neg c37] at H
                      have c37b0 : (a0 == 25) = false := beq_eq_false_iff_ne.mpr c37
                      have c37b1 : (a0 != 25) = true := bne_iff_ne.mpr c37
                      obtain rfl := Option.some.inj H
                      go_enter Tryd.func46, Tryd.ntmps46
                      go_wp2
                      go_ret
                      exact ⟨by first | rfl | (simp; done) | (simp [*]; done), by repeat (first | exact Drawn0.refl _ | apply Drawn0.step)⟩
                · rw [if_neg c35] at H
                  have c35b0 : (a0 == 24) = false := beq_eq_false_iff_ne.mpr c35
                  have c35b1 : (a0 != 24) = true := bne_iff_ne.mpr c35
                  by_cases c38 : a0 = 25
                  · rw [if_pos c38] at H
                    have c38b0 : (a0 == 25) = true := beq_iff_eq.mpr c38
                    have c38b1 : (a0 != 25) = false := bne_eq_false_iff_eq.mpr c38
                    clear c38
                    obtain rfl := Option.some.inj H
                    go_enter Tryd.func46, Tryd.ntmps46
                    go_wp2
                    go_ret
                    exact ⟨by first | rfl | (simp; done) | (simp [*]; done), by repeat (first | exact Drawn0.refl _ | apply Drawn0.step)⟩
                  · rw [if_neg c38] at H
                    have c38b0 : (a0 == 25) = false := beq_eq_false_iff_ne.mpr c38
                    have c38b1 : (a0 != 25) = true := bne_iff_ne.mpr c38
                    obtain rfl := Option.some.inj H
                    go_enter Tryd.func46, Tryd.ntmps46
                    go_wp2
                    go_ret
                    exact ⟨by first | rfl | (simp; done) | (simp [*]; done), by repeat (first | exact Drawn0.refl _ | apply Drawn0.step)⟩
            · rw [if_neg c33] at H
              have c33b0 : (a0 == 23) = false := beq_eq_false_iff_ne.mpr c33
              have c33b1 : (a0 != 23) = true := bne_iff_ne.mpr c33
              by_cases c39 : a0 = 24
              · rw [if_pos c39] at H
                have c39b0 : (a0 == 24) = true := beq_iff_eq.mpr c39
                have c39b1 : (a0 != 24) = false := bne_eq_false_iff_eq.mpr c39
                clear c39
                by_cases c40 : a1 > a2
                · rw [if_pos c40] at H
                  have c40b0 : decide (a2 < a1) = true := decide_eq_true c40
                  clear c40
                  obtain rfl := Option.some.inj H
                  go_enter Tryd.func46, Tryd.ntmps46
                  go_wp2
                  go_ret
                  exact ⟨by first | rfl | (simp; done) | (simp [*]; done), by repeat (first | exact Drawn0.refl _ | apply Drawn0.step)⟩
                · rw [if_neg c40] at H
                  have c40b0 : decide (a2 < a1) = false := decide_eq_false c40
                  clear c40
                  by_cases c41 : a0 = 25
                  · rw [if_pos c41] at H
                    have c41b0 : (a0 == 25) = true := beq_iff_eq.mpr c41
                    have c41b1 : (a0 != 25) = false := bne_eq_false_iff_eq.mpr c41
                    clear c41
                    obtain rfl := Option.some.inj H
                    go_enter Tryd.func46, Tryd.ntmps46
                    go_wp2
                    go_ret
                    exact ⟨by first | rfl | (simp; done) | (simp [*]; done), by repeat (first | exact Drawn0.refl _ | apply Drawn0.step)⟩
                  · rw [if_neg c41] at H
                    have c41b0 : (a0 == 25) = false := beq_eq_false_iff_ne.mpr c41
                    have c41b1 : (a0 != 25) = true := bne_iff_ne.mpr c41
                    obtain rfl := Option.some.inj H
                    go_enter Tryd.func46, Tryd.ntmps46
                    go_wp2
                    go_ret
                    exact ⟨by first | rfl | (simp; done) | (simp [*]; done), by repeat (first | exact Drawn0.refl _ | apply Drawn0.step)⟩
              · rw [if_neg c39] at H
                have c39b0 : (a0 == 24) = false := beq_eq_false_iff_ne.mpr c39
                have c39b1 : (a0 != 24) = true := bne_iff_ne.mpr c39
                by_cases c42 : a0 = 25
                · rw [if_pos c42] at H
                  have c42b0 : (a0 == 25) = true := beq_iff_eq.mpr c42
                  have c42b1 : (a0 != 25) = false := bne_eq_false_iff_eq.mpr c42
                  clear c42
                  obtain rfl := Option.some.inj H
                  go_enter Tryd.func46, Tryd.ntmps46
                  go_wp2
                  go_ret
                  exact ⟨by first | rfl | (simp; done) | (simp [*]; done), by repeat (first | exact Drawn0.refl _ | apply Drawn0.step)⟩
                · rw [if_neg c42] at H
                  have c42b0 : (a0 == 25) = false := beq_eq_false_iff_ne.mpr c42
                  have c42b1 : (a0 != 25) = true := bne_iff_ne.mpr c42
                  obtain rfl := Option.some.inj H
                  go_enter Tryd.func46, Tryd.ntmps46
                  go_wp2
                  go_ret
                  exact ⟨by first | rfl | (simp; done) | (simp [*]; done), by repeat (first | exact Drawn0.refl _ | apply Drawn0.step)⟩
        · rw [if_neg c31] at H
          have c31b0 : (a0 == 22) = false := beq_eq_false_iff_ne.mpr c31
          have c31b1 : (a0 != 22) = true := bne_iff_ne.mpr c31
          by_cases c43 : a0 = 23
          · rw [if_pos c43] at H
            have c43b0 : (a0 == 23) = true := beq_iff_eq.mpr c43
            have c43b1 : (a0 != 23) = false := bne_eq_false_iff_eq.mpr c43
            clear c43
            by_cases c44 : a1 ≤ a2
            · rw [if_pos c44] at H
              have c44b0 : decide (a1 ≤ a2) = true := decide_eq_true c44
              clear c44
              obtain rfl := Option.some.inj H
              go_enter Tryd.func46, Tryd.ntmps46
              go_wp2
              go_ret
              exact ⟨by first | rfl | (simp; done) | (simp [*]; done), by repeat (first | exact Drawn0.refl _ | apply Drawn0.step)⟩
            · rw [if_neg c44] at H
              have c44b0 : decide (a1 ≤ a2) = false := decide_eq_false c44
              clear c44
              by_cases c45 : a0 = 24
              · rw [if_pos c45] at H
                have c45b0 : (a0 == 24) = true := beq_iff_eq.mpr c45
                have c45b1 : (a0 != 24) = false := bne_eq_false_iff_eq.mpr c45
                clear c45
                by_cases c46 : a1 > a2
                · rw [if_pos c46] at H
                  have c46b0 : decide (a2 < a1) = true := decide_eq_true c46
                  clear c46
                  obtain rfl := Option.some.inj H
                  go_enter Tryd.func46, Tryd.ntmps46
                  go_wp2
                  go_ret
                  exact ⟨by first | rfl | (simp; done) | (simp [*]; done), by repeat (first | exact Drawn0.refl _ | apply Drawn0.step)⟩
                · rw [if_neg c46] at H
                  have c46b0 : decide (a2 < a1) = false := decide_eq_false c46
                  clear c46
                  by_cases c47 : a0 = 25
                  · rw [if_pos c47] at H
                    have c47b0 : (a0 == 25) = true := beq_iff_eq.mpr c47
                    have c47b1 : (a0 != 25) = false := bne_eq_false_iff_eq.mpr c47
                    clear c47
                    obtain rfl := Option.some.inj H
                    go_enter Tryd.func46, Tryd.ntmps46
                    go_wp2
                    go_ret
                    exact ⟨by first | rfl | (simp; done) | (simp [*]; done), by repeat (first | exact Drawn0.refl _ | apply Drawn0.step)⟩
                  · rw [if_neg c47] at H
                    have c47b0 : (a0 == 25) = false := beq_eq_false_iff_ne.mpr c47
                    have c47b1 : (a0 != 25) = true := bne_iff_ne.mpr c47
                    obtain rfl := Option.some.inj H
                    go_enter Tryd.func46, Tryd.ntmps46
                    go_wp2
                    go_ret
                    exact ⟨by first | rfl | (simp; done) | (simp [*]; done), by repeat (first | exact Drawn0.refl _ | apply Drawn0.step)⟩
              · rw [if_neg c45] at H
                have c45b0 : (a0 == 24) = false := beq_eq_false_iff_ne.mpr c45
                have c45b1 : (a0 != 24) = true := bne_iff_ne.mpr c45
                by_cases c48 : a0 = 25
                · rw [if_pos c48] at H
                  have c48b0 : (a0 == 25) = true := beq_iff_eq.mpr c48
                  have c48b1 : (a0 != 25) = false := bne_eq_false_iff_eq.mpr c48
                  clear c48
                  obtain rfl := Option.some.inj H
                  go_enter Tryd.func46, Tryd.ntmps46
                  go_wp2
                  go_ret
                  exact ⟨by first | rfl | (simp; done) | (simp [*]; done), by repeat (first | exact Drawn0.refl _ | apply Drawn0.step)⟩
                · rw [if_neg c48] at H
                  have c48b0 : (a0 == 25) = false := beq_eq_false_iff_ne.mpr c48
                  have c48b1 : (a0 != 25) = true := bne_iff_ne.mpr c48
                  obtain rfl := Option.some.inj H
                  go_enter Tryd.func46, Tryd.ntmps46
                  go_wp2
                  go_ret
                  exact ⟨by first | rfl | (simp; done) | (simp [*]; done), by repeat (first | exact Drawn0.refl _ | apply Drawn0.step)⟩
          · rw [if_neg c43] at H
            have c43b0 : (a0 == 23) = false := beq_eq_false_iff_ne.mpr c43
            have c43b1 : (a0 != 23) = true := bne_iff_ne.mpr c43
            by_cases c49 : a0 = 24
            · rw [if_pos c49] at H
              have c49b0 : (a0 == 24) = true := beq_iff_eq.mpr c49
              have c49b1 : (a0 != 24) = false := bne_eq_false_iff_eq.mpr c49
              clear c49
              by_cases c50 : a1 > a2
              · rw [if_pos c50] at H
                have c50b0 : decide (a2 < a1) = true := decide_eq_true c50
                clear c50
                obtain rfl := Option.some.inj H
                go_enter Tryd.func46, Tryd.ntmps46
                go_wp2
                go_ret
                exact ⟨by first | rfl | (simp; done) | (simp [*]; done), by repeat (first | exact Drawn0.refl _ | apply Drawn0.step)⟩
              · rw [if_neg c50] at H
                have c50b0 : decide (a2 < a1) = false := decide_eq_false c50
                clear c50
                by_cases c51 : a0 = 25
                · rw [if_pos c51] at H
                  have c51b0 : (a0 == 25) = true := beq_iff_eq.mpr c51
                  have c51b1 : (a0 != 25) = false := bne_eq_false_iff_eq.mpr c51
                  clear c51
                  obtain rfl := Option.some.inj H
                  go_enter Tryd.func46, Tryd.ntmps46
                  go_wp2
                  go_ret
                  exact ⟨by first | rfl | (simp; done) | (simp [*]; done), by repeat (first | exact Drawn0.refl _ | apply Drawn0.step)⟩
                · rw [if_neg c51] at H
                  have c51b0 : (a0 == 25) = false := beq_eq_false_iff_ne.mpr c51
                  have c51b1 : (a0 != 25) = true := bne_iff_ne.mpr c51
                  obtain rfl := Option.some.inj H
                  go_enter Tryd.func46, Tryd.ntmps46
                  go_wp2
                  go_ret
                  exact ⟨by first | rfl | (simp; done) | (simp [*]; done), by repeat (first | exact Drawn0.refl _ | apply Drawn0.step)⟩
            · rw [if_neg c49] at H
              have c49b0 : (a0 == 24) = false := beq_eq_false_iff_ne.mpr c49
              have c49b1 : (a0 != 24) = true := bne_iff_ne.mpr c49
              by_cases c52 : a0 = 25
              · rw [if_pos c52] at H
                have c52b0 : (a0 == 25) = true := beq_iff_eq.mpr c52
                have c52b1 : (a0 != 25) = false := bne_eq_false_iff_eq.mpr c52
                clear c52
                obtain rfl := Option.some.inj H
                go_enter Tryd.func46, Tryd.ntmps46
                go_wp2
                go_ret
                exact ⟨by first | rfl | (simp; done) | (simp [*]; done), by repeat (first | exact Drawn0.refl _ | apply Drawn0.step)⟩
              · rw [if_neg c52] at H
                have c52b0 : (a0 == 25) = false := beq_eq_false_iff_ne.mpr c52
                have c52b1 : (a0 != 25) = true := bne_iff_ne.mpr c52
                obtain rfl := Option.some.inj H
                go_enter Tryd.func46, Tryd.ntmps46
                go_wp2
                go_ret
                exact ⟨by first | rfl | (simp; done) | (simp [*]; done), by repeat (first | exact Drawn0.refl _ | apply Drawn0.step)⟩
      · rw [if_neg c30] at H
        have c30b0 : (a1 == a2) = false := beq_eq_false_iff_ne.mpr c30
        have c30b1 : (a1 != a2) = true := bne_iff_ne.mpr c30
        obtain rfl := Option.some.inj H
        go_enter Tryd.func46, Tryd.ntmps46
        go_wp2
        go_ret
        exact ⟨by first | rfl | (simp; done) | (simp [*]; done), by repeat (first | exact Drawn0.refl _ | apply Drawn0.step)⟩
    · rw [if_neg c29] at H
      have c29b0 : (a0 == 21) = false := beq_eq_false_iff_ne.mpr c29
      have c29b1 : (a0 != 21) = true := bne_iff_ne.mpr c29
      by_cases c53 : a0 = 22
      · rw [if_pos c53] at H
        have c53b0 : (a0 == 22) = true := beq_iff_eq.mpr c53
        have c53b1 : (a0 != 22) = false := bne_eq_false_iff_eq.mpr c53
        clear c53
        by_cases c54 : a1 < a2
        · rw [if_pos c54] at H
          have c54b0 : decide (a1 < a2) = true := decide_eq_true c54
          clear c54
          obtain rfl := Option.some.inj H
          go_enter Tryd.func46, Tryd.ntmps46
          go_wp2
          go_ret
          exact ⟨by first | rfl | (simp; done) | (simp [*]; done), by repeat (first | exact Drawn0.refl _ | apply Drawn0.step)⟩
        · rw [if_neg c54] at H
          have c54b0 : decide (a1 < a2) = false := decide_eq_false c54
          clear c54
          by_cases c55 : a0 = 23
          · rw [if_pos c55] at H
            have c55b0 : (a0 == 23) = true := beq_iff_eq.mpr c55
            have c55b1 : (a0 != 23) = false := bne_eq_false_iff_eq.mpr c55
            clear c55
            by_cases c56 : a1 ≤ a2
            · rw [if_pos c56] at H
              have c56b0 : decide (a1 ≤ a2) = true := decide_eq_true c56
              clear c56
              obtain rfl := Option.some.inj H
              go_enter Tryd.func46, Tryd.ntmps46
              go_wp2
              go_ret
              exact ⟨by first | rfl | (simp; done) | (simp [*]; done), by repeat (first | exact Drawn0.refl _ | apply Drawn0.step)⟩
            · rw [if_neg c56] at H
              have c56b0 : decide (a1 ≤ a2) = false := decide_eq_false c56
              clear c56
              by_cases c57 : a0 = 24
              · rw [if_pos c57] at H
                have c57b0 : (a0 == 24) = true := beq_iff_eq.mpr c57
                have c57b1 : (a0 != 24) = false := bne_eq_false_iff_eq.mpr c57
                clear c57
                by_cases c58 : a1 > a2
                · rw [if_pos c58] at H
                  have c58b0 : decide (a2 < a1) = true := decide_eq_true c58
                  clear c58
                  obtain rfl := Option.some.inj H
                  go_enter Tryd.func46, Tryd.ntmps46
                  go_wp2
                  go_ret
                  exact ⟨by first | rfl | (simp; done) | (simp [*]; done), by repeat (first | exact Drawn0.refl _ | apply Drawn0.step)⟩
                · rw [if_neg c58] at H
                  have c58b0 : decide (a2 < a1) = false := decide_eq_false c58
                  clear c58
                  by_cases c59 : a0 = 25
                  · rw [if_pos c59] at H
                    have c59b0 : (a0 == 25) = true := beq_iff_eq.mpr c59
                    have c59b1 : (a0 != 25) = false := bne_eq_false_iff_eq.mpr c59
                    clear c59
                    obtain rfl := Option.some.inj H
                    go_enter Tryd.func46, Tryd.ntmps46
                    go_wp2
                    go_ret
                    exact ⟨by first | rfl | (simp; done) | (simp [*]; done), by repeat (first | exact Drawn0.refl _ | apply Drawn0.step)⟩
                  · rw [if_neg c59] at H
                    have c59b0 : (a0 == 25) = false := beq_eq_false_iff_ne.mpr c59
                    have c59b1 : (a0 != 25) = true := bne_iff_ne.mpr c59
                    obtain rfl := Option.some.inj H
                    go_enter Tryd.func46, Tryd.ntmps46
                    go_wp2
                    go_ret
                    exact ⟨by first | rfl | (simp; done) | (simp [*]; done), by repeat (first | exact Drawn0.refl _ | apply Drawn0.step)⟩
              · rw [if_neg c57] at H
                have c57b0 : (a0 == 24) = false := beq_eq_false_iff_ne.mpr c57
                have c57b1 : (a0 != 24) = true := bne_iff_ne.mpr c57
                by_cases c60 : a0 = 25
                · rw [if_pos c60] at H
                  have c60b0 : (a0 == 25) = true := beq_iff_eq.mpr c60
                  have c60b1 : (a0 != 25) = false := bne_eq_false_iff_eq.mpr c60
                  clear c60
                  obtain rfl := Option.some.inj H
                  go_enter Tryd.func46, Tryd.ntmps46
                  go_wp2
                  go_ret
                  exact ⟨by first | rfl | (simp; done) | (simp [*]; done), by repeat (first | exact Drawn0.refl _ | apply Drawn0.step)⟩
                · rw [if_neg c60] at H
                  have c60b0 : (a0 == 25) = false := beq_eq_false_iff_ne.mpr c60
                  have c60b1 : (a0 != 25) = true := bne_iff_ne.mpr c60
                  obtain rfl := Option.some.inj H
                  go_enter Tryd.func46, Tryd.ntmps46
                  go_wp2
                  go_ret
                  exact ⟨by first | rfl | (simp; done) | (simp [*]; done), by repeat (first | exact Drawn0.refl _ | apply Drawn0.step)⟩
          · rw [if_neg c55] at H
            have c55b0 : (a0 == 23) = false := beq_eq_false_iff_ne.mpr c55
            have c55b1 : (a0 != 23) = true := bne_iff_ne.mpr c55
            by_cases c61 : a0 = 24
            · rw [if_pos c61] at H
              have c61b0 : (a0 == 24) = true := beq_iff_eq.mpr c61
              have c61b1 : (a0 != 24) = false := bne_eq_false_iff_eq.mpr c61
              clear c61
              by_cases c62 : a1 > a2
              · rw [if_pos c62] at H
                have c62b0 : decide (a2 < a1) = true := decide_eq_true c62
                clear c62
                obtain rfl := Option.some.inj H
                go_enter Tryd.func46, Tryd.ntmps46
                go_wp2
                go_ret
                exact ⟨by first | rfl | (simp; done) | (simp [*]; done), by repeat (first | exact Drawn0.refl _ | apply Drawn0.step)⟩
              · rw [if_neg c62] at H
                have c62b0 : decide (a2 < a1) = false := decide_eq_false c62
                clear c62
                by_cases c63 : a0 = 25
                · rw [if_pos c63] at H
                  have c63b0 : (a0 == 25) = true := beq_iff_eq.mpr c63
                  have c63b1 : (a0 != 25) = false := bne_eq_false_iff_eq.mpr c63
                  clear c63
                  obtain rfl := Option.some.inj H
                  go_enter Tryd.func46, Tryd.ntmps46
                  go_wp2
                  go_ret
                  exact ⟨by first | rfl | (simp; done) | (simp [*]; done), by repeat (first | exact Drawn0.refl _ | apply Drawn0.step)⟩
                · rw [if_neg c63] at H
                  have c63b0 : (a0 == 25) = false := beq_eq_false_iff_ne.mpr c63
                  have c63b1 : (a0 != 25) = true := bne_iff_ne.mpr c63
                  obtain rfl := Option.some.inj H
                  go_enter Tryd.func46, Tryd.ntmps46
                  go_wp2
                  go_ret
                  exact ⟨by first | rfl | (simp; done) | (simp [*]; done), by repeat (first | exact Drawn0.refl _ | apply Drawn0.step)⟩
            · rw [if_neg c61] at H
              have c61b0 : (a0 == 24) = false := beq_eq_false_iff_ne.mpr c61
              have c61b1 : (a0 != 24) = true := bne_iff_ne.mpr c61
              by_cases c64 : a0 = 25
              · rw [if_pos c64] at H
                have c64b0 : (a0 == 25) = true := beq_iff_eq.mpr c64
                have c64b1 : (a0 != 25) = false := bne_eq_false_iff_eq.mpr c64
                clear c64
                obtain rfl := Option.some.inj H
                go_enter Tryd.func46, Tryd.ntmps46
                go_wp2
                go_ret
                exact ⟨by first | rfl | (simp; done) | (simp [*]; done), by repeat (first | exact Drawn0.refl _ | apply Drawn0.step)⟩
              · rw [if_neg c64] at H
                have c64b0 : (a0 == 25) = false := beq_eq_false_iff_ne.mpr c64
                have c64b1 : (a0 != 25) = true := bne_iff_ne.mpr c64
                obtain rfl := Option.some.inj H
                go_enter Tryd.func46, Tryd.ntmps46
                go_wp2
                go_ret
                exact ⟨by first | rfl | (simp; done) | (simp [*]; done), by repeat (first | exact Drawn0.refl _ | apply Drawn0.step)⟩
      · rw [if_neg c53] at H
        have c53b0 : (a0 == 22) = false := beq_eq_false_iff_ne.mpr c53
        have c53b1 : (a0 != 22) = true := bne_iff_ne.mpr c53
        by_cases c65 : a0 = 23
        · rw [if_pos c65] at H
          have c65b0 : (a0 == 23) = true := beq_iff_eq.mpr c65
          have c65b1 : (a0 != 23) = false := bne_eq_false_iff_eq.mpr c65
          clear c65
          by_cases c66 : a1 ≤ a2
          · rw [if_pos c66] at H
            have c66b0 : decide (a1 ≤ a2) = true := decide_eq_true c66
            clear c66
            obtain rfl := Option.some.inj H
            go_enter Tryd.func46, Tryd.ntmps46
            go_wp2
            go_ret
            exact ⟨by first | rfl | (simp; done) | (simp [*]; done), by repeat (first | exact Drawn0.refl _ | apply Drawn0.step)⟩
          · rw [if_neg c66] at H
            have c66b0 : decide (a1 ≤ a2) = false := decide_eq_false c66
            clear c66
            by_cases c67 : a0 = 24
            · rw [if_pos c67] at H
              have c67b0 : (a0 == 24) = true := beq_iff_eq.mpr c67
              have c67b1 : (a0 != 24) = false := bne_eq_false_iff_eq.mpr c67
              clear c67
              by_cases c68 : a1 > a2
              · rw [if_pos c68] at H
                have c68b0 : decide (a2 < a1) = true := decide_eq_true c68
                clear c68
                obtain rfl := Option.some.inj H
                go_enter Tryd.func46, Tryd.ntmps46
                go_wp2
                go_ret
                exact ⟨by first | rfl | (simp; done) | (simp [*]; done), by repeat (first | exact Drawn0.refl _ | apply Drawn0.step)⟩
              · rw [if_neg c68] at H
                have c68b0 : decide (a2 < a1) = false := decide_eq_false c68
                clear c68
                by_cases c69 : a0 = 25
                · rw [if_pos c69] at H
                  have c69b0 : (a0 == 25) = true := beq_iff_eq.mpr c69
                  have c69b1 : (a0 != 25) = false := bne_eq_false_iff_eq.mpr c69
                  clear c69
                  obtain rfl := Option.some.inj H
                  go_enter Tryd.func46, Tryd.ntmps46
                  go_wp2
                  go_ret
                  exact ⟨by first | rfl | (simp; done) | (simp [*]; done), by repeat (first | exact Drawn0.refl _ | apply Drawn0.step)⟩
                · rw [if_neg c69] at H
                  have c69b0 : (a0 == 25) = false := beq_eq_false_iff_ne.mpr c69
                  have c69b1 : (a0 != 25) = true := bne_iff_ne.mpr c69
                  obtain rfl := Option.some.inj H
                  go_enter Tryd.func46, Tryd.ntmps46
                  go_wp2
                  go_ret
                  exact ⟨by first | rfl | (simp; done) | (simp [*]; done), by repeat (first | exact Drawn0.refl _ | apply Drawn0.step)⟩
            · rw [if_neg c67] at H
              have c67b0 : (a0 == 24) = false := beq_eq_false_iff_ne.mpr c67
              have c67b1 : (a0 != 24) = true := bne_iff_ne.mpr c67
              by_cases c70 : a0 = 25
              · rw [if_pos c70] at H
                have c70b0 : (a0 == 25) = true := beq_iff_eq.mpr c70
                have c70b1 : (a0 != 25) = false := bne_eq_false_iff_eq.mpr c70
                clear c70
                obtain rfl := Option.some.inj H
                go_enter Tryd.func46, Tryd.ntmps46
                go_wp2
                go_ret
                exact ⟨by first | rfl | (simp; done) | (simp [*]; done), by repeat (first | exact Drawn0.refl _ | apply Drawn0.step)⟩
              · rw [if_neg c70] at H
                have c70b0 : (a0 == 25) = false := beq_eq_false_iff_ne.mpr c70
                have c70b1 : (a0 != 25) = true := bne_iff_ne.mpr c70
                obtain rfl := Option.some.inj H
                go_enter Tryd.func46, Tryd.ntmps46
                go_wp2
                go_ret
                exact ⟨by first | rfl | (simp; done) | (simp [*]; done), by repeat (first | exact Drawn0.refl _ | apply Drawn0.step)⟩
        · rw [if_neg c65] at H
          have c65b0 : (a0 == 23) = false := beq_eq_false_iff_ne.mpr c65
          have c65b1 : (a0 != 23) = true := bne_iff_ne.mpr c65
          by_cases c71 : a0 = 24
          · rw [if_pos c71] at H
            have c71b0 : (a0 == 24) = true := beq_iff_eq.mpr c71
            have c71b1 : (a0 != 24) = false := bne_eq_false_iff_eq.mpr c71
            clear c71
            by_cases c72 : a1 > a2
            · rw [if_pos c72] at H
              have c72b0 : decide (a2 < a1) = true := decide_eq_true c72
              clear c72
              obtain rfl := Option.some.inj H
              go_enter Tryd.func46, Tryd.ntmps46
              go_wp2
              go_ret
              exact ⟨by first | rfl | (simp; done) | (simp [*]; done), by repeat (first | exact Drawn0.refl _ | apply Drawn0.step)⟩
            · rw [if_neg c72] at H
              have c72b0 : decide (a2 < a1) = false := decide_eq_false c72
              clear c72
              by_cases c73 : a0 = 25
              · rw [if_pos c73] at H
                have c73b0 : (a0 == 25) = true := beq_iff_eq.mpr c73
                have c73b1 : (a0 != 25) = false := bne_eq_false_iff_eq.mpr c73
                clear c73
                obtain rfl := Option.some.inj H
                go_enter Tryd.func46, Tryd.ntmps46
                go_wp2
                go_ret
                exact ⟨by first | rfl | (simp; done) | (simp [*]; done), by repeat (first | exact Drawn0.refl _ | apply Drawn0.step)⟩
              · rw [if_neg c73] at H
                have c73b0 : (a0 == 25) = false := beq_eq_false_iff_ne.mpr c73
                have c73b1 : (a0 != 25) = true := bne_iff_ne.mpr c73
                obtain rfl := Option.some.inj H
                go_enter Tryd.func46, Tryd.ntmps46
                go_wp2
                go_ret
                exact ⟨by first | rfl | (simp; done) | (simp [*]; done), by repeat (first | exact Drawn0.refl _ | apply Drawn0.step)⟩
          · rw [if_neg c71] at H
            have c71b0 : (a0 == 24) = false := beq_eq_false_iff_ne.mpr c71
            have c71b1 : (a0 != 24) = true := bne_iff_ne.mpr c71
            by_cases c74 : a0 = 25
            · rw [if_pos c74] at H
              have c74b0 : (a0 == 25) = true := beq_iff_eq.mpr c74
              have c74b1 : (a0 != 25) = false := bne_eq_false_iff_eq.mpr c74
              clear c74
              obtain rfl := Option.some.inj H
              go_enter Tryd.func46, Tryd.ntmps46
              go_wp2
              go_ret
              exact ⟨by first | rfl | (simp; done) | (simp [*]; done), by repeat (first | exact Drawn0.refl _ | apply Drawn0.step)⟩
            · rw [if_neg c74] at H
              have c74b0 : (a0 == 25) = false := beq_eq_false_iff_ne.mpr c74
              have c74b1 : (a0 != 25) = true := bne_iff_ne.mpr c74
              obtain rfl := Option.some.inj H
              go_enter Tryd.func46, Tryd.ntmps46
              go_wp2
              go_ret
              exact ⟨by first | rfl | (simp; done) | (simp [*]; done), by repeat (first | exact Drawn0.refl _ | apply Drawn0.step)⟩

end Go.Proofs.YtohdabkhafcdkaaDoor.PAlu
