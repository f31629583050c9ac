/- Printed by a program of this session (wip/pg.py, over the print of the kit): functions, their Lean twins, and the proofs that the calls come to them; each under the conditions that it names. -/
import Derived.Test.YtohdabkhafcdkaaDoorPKindx0
namespace Go.Proofs.YtohdabkhafcdkaaDoor.PKind
open Go.Proofs.YtohdabkhafcdkaaDoor.Given
open Go.RowKit Go.Proofs.YtohdabkhafcdkaaDoorW.PrintWords Go.Proofs.YtohdabkhafcdkaaDoorW.PrintLast Go.Proofs.YtohdabkhafcdkaaDoorW.PrintMore
attribute [local go_sem] max2_int min2_int max_two min_two max_three min_three max_four min_four   -- for this text's walks alone
set_option linter.unusedVariables false
set_option linter.unusedSimpArgs false

/-! ### kind_Wrap: function 9 -/
def kind_Wrap.f (a0 : Int) (a1 : Int) : Option (Int) := if a0 = 1 then (if a1 = 0 then (some 0) else (some 1)) else (if a0 = 2 then (some (wrap64 (IntKind.i16.wrap (a1)))) else (if a0 = 3 then (some (wrap64 (wrap32 (a1)))) else (if a0 = 4 then (some (wrap64 (IntKind.u16.wrap (a1)))) else (if a0 = 5 then (some ((a1) % 4294967296)) else (if a0 = 6 then (some a1) else (some 0))))))
set_option maxHeartbeats 8000000 in
set_option maxRecDepth 100000 in
theorem kind_Wrap.calls (a0 : Int) (a1 : Int) (r : Int) (w : World) (h : kind_Wrap.f a0 a1 = some r) :
    Calls Tryd.prog 9 #[.int .i64 a0, .int .i64 a1] w fun e w' => e = .returned (.int .i64 r) ∧ Drawn0 w w' := by
  have H : (if a0 = 1 then (if a1 = 0 then (some 0) else (some 1)) else (if a0 = 2 then (some (wrap64 (IntKind.i16.wrap (a1)))) else (if a0 = 3 then (some (wrap64 (wrap32 (a1)))) else (if a0 = 4 then (some (wrap64 (IntKind.u16.wrap (a1)))) else (if a0 = 5 then (some ((a1) % 4294967296)) else (if a0 = 6 then (some a1) else (some 0))))))) = some r := h
  clear h
  by_cases c3 : a0 = 1
  · rw [if_pos c3] at H
    have c3b0 : (a0 == 1) = true := beq_iff_eq.mpr c3
    have c3b1 : (a0 != 1) = false := bne_eq_false_iff_eq.mpr c3
    clear c3
    by_cases c4 : a1 = 0
    · rw [if_pos c4] at H
      have c4b0 : (a1 == 0) = true := beq_iff_eq.mpr c4
      have c4b1 : (a1 != 0) = false := bne_eq_false_iff_eq.mpr c4
      clear c4
      obtain rfl := Option.some.inj H
      go_enter Tryd.func9, Tryd.ntmps9
      go_wp2
      go_ret
      exact ⟨by first | rfl | (simp; done) | (simp [*]; done), by repeat (first | exact Drawn0.refl _ | apply Drawn0.step)⟩
    · rw [if_neg c4] at H
      have c4b0 : (a1 == 0) = false := beq_eq_false_iff_ne.mpr c4
      have c4b1 : (a1 != 0) = true := bne_iff_ne.mpr c4
      obtain rfl := Option.some.inj H
      go_enter Tryd.func9, Tryd.ntmps9
      go_wp2
      go_ret
      exact ⟨by first | rfl | (simp; done) | (simp [*]; done), by repeat (first | exact Drawn0.refl _ | apply Drawn0.step)⟩
  · rw [if_neg c3] at H
    have c3b0 : (a0 == 1) = false := beq_eq_false_iff_ne.mpr c3
    have c3b1 : (a0 != 1) = true := bne_iff_ne.mpr c3
    by_cases c5 : a0 = 2
    · rw [if_pos c5] at H
      have c5b0 : (a0 == 2) = true := beq_iff_eq.mpr c5
      have c5b1 : (a0 != 2) = false := bne_eq_false_iff_eq.mpr c5
      clear c5
      obtain rfl := Option.some.inj H
      go_enter Tryd.func9, Tryd.ntmps9
      go_wp2
      go_ret
      exact ⟨by first | rfl | (simp; done) | (simp [*]; done), by repeat (first | exact Drawn0.refl _ | apply Drawn0.step)⟩
    · rw [if_neg c5] at H
      have c5b0 : (a0 == 2) = false := beq_eq_false_iff_ne.mpr c5
      have c5b1 : (a0 != 2) = true := bne_iff_ne.mpr c5
      by_cases c6 : a0 = 3
      · rw [if_pos c6] at H
        have c6b0 : (a0 == 3) = true := beq_iff_eq.mpr c6
        have c6b1 : (a0 != 3) = false := bne_eq_false_iff_eq.mpr c6
        clear c6
        obtain rfl := Option.some.inj H
        go_enter Tryd.func9, Tryd.ntmps9
        go_wp2
        go_ret
        exact ⟨by first | rfl | (simp; done) | (simp [*]; done), by repeat (first | exact Drawn0.refl _ | apply Drawn0.step)⟩
      · rw [if_neg c6] at H
        have c6b0 : (a0 == 3) = false := beq_eq_false_iff_ne.mpr c6
        have c6b1 : (a0 != 3) = true := bne_iff_ne.mpr c6
        by_cases c7 : a0 = 4
        · rw [if_pos c7] at H
          have c7b0 : (a0 == 4) = true := beq_iff_eq.mpr c7
          have c7b1 : (a0 != 4) = false := bne_eq_false_iff_eq.mpr c7
          clear c7
          obtain rfl := Option.some.inj H
          go_enter Tryd.func9, Tryd.ntmps9
          go_wp2
          go_ret
          exact ⟨by first | rfl | (simp; done) | (simp [*]; done), by repeat (first | exact Drawn0.refl _ | apply Drawn0.step)⟩
        · rw [if_neg c7] at H
          have c7b0 : (a0 == 4) = false := beq_eq_false_iff_ne.mpr c7
          have c7b1 : (a0 != 4) = true := bne_iff_ne.mpr c7
          by_cases c8 : a0 = 5
          · rw [if_pos c8] at H
            have c8b0 : (a0 == 5) = true := beq_iff_eq.mpr c8
            have c8b1 : (a0 != 5) = false := bne_eq_false_iff_eq.mpr c8
            clear c8
            obtain rfl := Option.some.inj H
            go_enter Tryd.func9, Tryd.ntmps9
            go_wp2
            go_ret
            exact ⟨by first | rfl | (simp; done) | (simp [*]; done), by repeat (first | exact Drawn0.refl _ | apply Drawn0.step)⟩
          · rw [if_neg c8] at H
            have c8b0 : (a0 == 5) = false := beq_eq_false_iff_ne.mpr c8
            have c8b1 : (a0 != 5) = true := bne_iff_ne.mpr c8
            by_cases c9 : a0 = 6
            · rw [if_pos c9] at H
              have c9b0 : (a0 == 6) = true := beq_iff_eq.mpr c9
              have c9b1 : (a0 != 6) = false := bne_eq_false_iff_eq.mpr c9
              clear c9
              obtain rfl := Option.some.inj H
              go_enter Tryd.func9, Tryd.ntmps9
              go_wp2
              go_ret
              exact ⟨by first | rfl | (simp; done) | (simp [*]; done), by repeat (first | exact Drawn0.refl _ | apply Drawn0.step)⟩
            · rw [if_neg c9] at H
              have c9b0 : (a0 == 6) = false := beq_eq_false_iff_ne.mpr c9
              have c9b1 : (a0 != 6) = true := bne_iff_ne.mpr c9
              obtain rfl := Option.some.inj H
              go_enter Tryd.func9, Tryd.ntmps9
              go_wp2
              go_ret
              exact ⟨by first | rfl | (simp; done) | (simp [*]; done), by repeat (first | exact Drawn0.refl _ | apply Drawn0.step)⟩

/-! ### ladderbackref01_Right: function 15 -/
def ladderbackref01_Right.f (a0 : Int) : Option (Bool) := if a0 > 0 then (some (decide (a0 < 7))) else (some false)
set_option maxHeartbeats 8000000 in
set_option maxRecDepth 100000 in
theorem ladderbackref01_Right.calls (a0 : Int) (r : Bool) (w : World) (h : ladderbackref01_Right.f a0 = some r) :
    Calls Tryd.prog 15 #[.int .i64 a0] w fun e w' => e = .returned (.bool r) ∧ Drawn0 w w' := by
  have H : (if a0 > 0 then (some (decide (a0 < 7))) else (some false)) = some r := h
  clear h
  by_cases c2 : a0 > 0
  · rw [if_pos c2] at H
    have c2b0 : decide (0 < a0) = true := decide_eq_true c2
    clear c2
    obtain rfl := Option.some.inj H
    go_enter Tryd.func15, Tryd.ntmps15
    go_wp2
    go_ret
    exact ⟨by first | rfl | (simp; done) | (simp [*]; done), by repeat (first | exact Drawn0.refl _ | apply Drawn0.step)⟩
  · rw [if_neg c2] at H
    have c2b0 : decide (0 < a0) = false := decide_eq_false c2
    clear c2
    obtain rfl := Option.some.inj H
    go_enter Tryd.func15, Tryd.ntmps15
    go_wp2
    go_ret
    exact ⟨by first | rfl | (simp; done) | (simp [*]; done), by repeat (first | exact Drawn0.refl _ | apply Drawn0.step)⟩

/-! ### ladderbackref01_High: function 37 -/
def ladderbackref01_High.f (a0 : Int) : Option (Int) := if a0 = 1 then (some 1) else (if a0 = 2 then (some 32767) else (if a0 = 3 then (some 2147483647) else (if a0 = 4 then (some 65535) else (some 4294967295))))
set_option maxHeartbeats 8000000 in
set_option maxRecDepth 100000 in
theorem ladderbackref01_High.calls (a0 : Int) (r : Int) (w : World) (h : ladderbackref01_High.f a0 = some r) :
    Calls Tryd.prog 37 #[.int .i64 a0] w fun e w' => e = .returned (.int .i64 r) ∧ Drawn0 w w' := by
  have H : (if a0 = 1 then (some 1) else (if a0 = 2 then (some 32767) else (if a0 = 3 then (some 2147483647) else (if a0 = 4 then (some 65535) else (some 4294967295))))) = some r := h
  clear h
  by_cases c2 : a0 = 1
  · rw [if_pos c2] at H
    have c2b0 : (a0 == 1) = true := beq_iff_eq.mpr c2
    have c2b1 : (a0 != 1) = false := bne_eq_false_iff_eq.mpr c2
    clear c2
    obtain rfl := Option.some.inj H
    go_enter Tryd.func37, Tryd.ntmps37
    go_wp2
    go_ret
    exact ⟨by first | rfl | (simp; done) | (simp [*]; done), by repeat (first | exact Drawn0.refl _ | apply Drawn0.step)⟩
  · rw [if_neg c2] at H
    have c2b0 : (a0 == 1) = false := beq_eq_false_iff_ne.mpr c2
    have c2b1 : (a0 != 1) = true := bne_iff_ne.mpr c2
    by_cases c3 : a0 = 2
    · rw [if_pos c3] at H
      have c3b0 : (a0 == 2) = true := beq_iff_eq.mpr c3
      have c3b1 : (a0 != 2) = false := bne_eq_false_iff_eq.mpr c3
      clear c3
      obtain rfl := Option.some.inj H
      go_enter Tryd.func37, Tryd.ntmps37
      go_wp2
      go_ret
      exact ⟨by first | rfl | (simp; done) | (simp [*]; done), by repeat (first | exact Drawn0.refl _ | apply Drawn0.step)⟩
    · rw [if_neg c3] at H
      have c3b0 : (a0 == 2) = false := beq_eq_false_iff_ne.mpr c3
      have c3b1 : (a0 != 2) = true := bne_iff_ne.mpr c3
      by_cases c4 : a0 = 3
      · rw [if_pos c4] at H
        have c4b0 : (a0 == 3) = true := beq_iff_eq.mpr c4
        have c4b1 : (a0 != 3) = false := bne_eq_false_iff_eq.mpr c4
        clear c4
        obtain rfl := Option.some.inj H
        go_enter Tryd.func37, Tryd.ntmps37
        go_wp2
        go_ret
        exact ⟨by first | rfl | (simp; done) | (simp [*]; done), by repeat (first | exact Drawn0.refl _ | apply Drawn0.step)⟩
      · rw [if_neg c4] at H
        have c4b0 : (a0 == 3) = false := beq_eq_false_iff_ne.mpr c4
        have c4b1 : (a0 != 3) = true := bne_iff_ne.mpr c4
        by_cases c5 : a0 = 4
        · rw [if_pos c5] at H
          have c5b0 : (a0 == 4) = true := beq_iff_eq.mpr c5
          have c5b1 : (a0 != 4) = false := bne_eq_false_iff_eq.mpr c5
          clear c5
          obtain rfl := Option.some.inj H
          go_enter Tryd.func37, Tryd.ntmps37
          go_wp2
          go_ret
          exact ⟨by first | rfl | (simp; done) | (simp [*]; done), by repeat (first | exact Drawn0.refl _ | apply Drawn0.step)⟩
        · rw [if_neg c5] at H
          have c5b0 : (a0 == 4) = false := beq_eq_false_iff_ne.mpr c5
          have c5b1 : (a0 != 4) = true := bne_iff_ne.mpr c5
          obtain rfl := Option.some.inj H
          go_enter Tryd.func37, Tryd.ntmps37
          go_wp2
          go_ret
          exact ⟨by first | rfl | (simp; done) | (simp [*]; done), by repeat (first | exact Drawn0.refl _ | apply Drawn0.step)⟩

/-! ### ladderbackref01_Low: function 38 -/
def ladderbackref01_Low.f (a0 : Int) : Option (Int) := if a0 = 2 then (some (-32768)) else (if a0 = 3 then (some (-2147483648)) else (some 0))
set_option maxHeartbeats 8000000 in
set_option maxRecDepth 100000 in
theorem ladderbackref01_Low.calls (a0 : Int) (r : Int) (w : World) (h : ladderbackref01_Low.f a0 = some r) :
    Calls Tryd.prog 38 #[.int .i64 a0] w fun e w' => e = .returned (.int .i64 r) ∧ Drawn0 w w' := by
  have H : (if a0 = 2 then (some (-32768)) else (if a0 = 3 then (some (-2147483648)) else (some 0))) = some r := h
  clear h
  by_cases c2 : a0 = 2
  · rw [if_pos c2] at H
    have c2b0 : (a0 == 2) = true := beq_iff_eq.mpr c2
    have c2b1 : (a0 != 2) = false := bne_eq_false_iff_eq.mpr c2
    clear c2
    obtain rfl := Option.some.inj H
    go_enter Tryd.func38, Tryd.ntmps38
    go_wp2
    go_ret
    exact ⟨by first | rfl | (simp; done) | (simp [*]; done), by repeat (first | exact Drawn0.refl _ | apply Drawn0.step)⟩
  · rw [if_neg c2] at H
    have c2b0 : (a0 == 2) = false := beq_eq_false_iff_ne.mpr c2
    have c2b1 : (a0 != 2) = true := bne_iff_ne.mpr c2
    by_cases c3 : a0 = 3
    · rw [if_pos c3] at H
      have c3b0 : (a0 == 3) = true := beq_iff_eq.mpr c3
      have c3b1 : (a0 != 3) = false := bne_eq_false_iff_eq.mpr c3
      clear c3
      obtain rfl := Option.some.inj H
      go_enter Tryd.func38, Tryd.ntmps38
      go_wp2
      go_ret
      exact ⟨by first | rfl | (simp; done) | (simp [*]; done), by repeat (first | exact Drawn0.refl _ | apply Drawn0.step)⟩
    · rw [if_neg c3] at H
      have c3b0 : (a0 == 3) = false := beq_eq_false_iff_ne.mpr c3
      have c3b1 : (a0 != 3) = true := bne_iff_ne.mpr c3
      obtain rfl := Option.some.inj H
      go_enter Tryd.func38, Tryd.ntmps38
      go_wp2
      go_ret
      exact ⟨by first | rfl | (simp; done) | (simp [*]; done), by repeat (first | exact Drawn0.refl _ | apply Drawn0.step)⟩

/-! ### ladderbackref01_Wrap: function 10 -/
def ladderbackref01_Wrap.f (a0 : Int) (a1 : Int) : Option (Int) := (ladderbackref01_Right.f a0).bind fun t101 => (if t101 = true then (if a0 = 6 then (some a1) else (if a0 = 1 then (if a1 = 0 then (some 0) else (some 1)) else ((ladderbackref01_High.f a0).bind fun t102 => ((ladderbackref01_Low.f a0).bind fun t103 => (if (wrap64 ((wrap64 (t102 - t103)) + 1)) = 0 then (none) else ((ladderbackref01_Low.f a0).bind fun t104 => (if (Int.tmod a1 (wrap64 ((wrap64 (t102 - t103)) + 1))) < t104 then ((ladderbackref01_High.f a0).bind fun t105 => (if (wrap64 ((Int.tmod a1 (wrap64 ((wrap64 (t102 - t103)) + 1))) + (wrap64 ((wrap64 (t102 - t103)) + 1)))) > t105 then (some (wrap64 ((wrap64 ((Int.tmod a1 (wrap64 ((wrap64 (t102 - t103)) + 1))) + (wrap64 ((wrap64 (t102 - t103)) + 1)))) - (wrap64 ((wrap64 (t102 - t103)) + 1))))) else (some (wrap64 ((Int.tmod a1 (wrap64 ((wrap64 (t102 - t103)) + 1))) + (wrap64 ((wrap64 (t102 - t103)) + 1))))))) else ((ladderbackref01_High.f a0).bind fun t106 => (if (Int.tmod a1 (wrap64 ((wrap64 (t102 - t103)) + 1))) > t106 then (some (wrap64 ((Int.tmod a1 (wrap64 ((wrap64 (t102 - t103)) + 1))) - (wrap64 ((wrap64 (t102 - t103)) + 1))))) else (some (Int.tmod a1 (wrap64 ((wrap64 (t102 - t103)) + 1))))))))))))) else (some 0))
set_option maxHeartbeats 8000000 in
set_option maxRecDepth 100000 in
theorem ladderbackref01_Wrap.calls (a0 : Int) (a1 : Int) (r : Int) (w : World) (h : ladderbackref01_Wrap.f a0 a1 = some r) :
    Calls Tryd.prog 10 #[.int .i64 a0, .int .i64 a1] w fun e w' => e = .returned (.int .i64 r) ∧ Drawn0 w w' := by
  have H : ((ladderbackref01_Right.f a0).bind fun t101 => (if t101 = true then (if a0 = 6 then (some a1) else (if a0 = 1 then (if a1 = 0 then (some 0) else (some 1)) else ((ladderbackref01_High.f a0).bind fun t102 => ((ladderbackref01_Low.f a0).bind fun t103 => (if (wrap64 ((wrap64 (t102 - t103)) + 1)) = 0 then (none) else ((ladderbackref01_Low.f a0).bind fun t104 => (if (Int.tmod a1 (wrap64 ((wrap64 (t102 - t103)) + 1))) < t104 then ((ladderbackref01_High.f a0).bind fun t105 => (if (wrap64 ((Int.tmod a1 (wrap64 ((wrap64 (t102 - t103)) + 1))) + (wrap64 ((wrap64 (t102 - t103)) + 1)))) > t105 then (some (wrap64 ((wrap64 ((Int.tmod a1 (wrap64 ((wrap64 (t102 - t103)) + 1))) + (wrap64 ((wrap64 (t102 - t103)) + 1)))) - (wrap64 ((wrap64 (t102 - t103)) + 1))))) else (some (wrap64 ((Int.tmod a1 (wrap64 ((wrap64 (t102 - t103)) + 1))) + (wrap64 ((wrap64 (t102 - t103)) + 1))))))) else ((ladderbackref01_High.f a0).bind fun t106 => (if (Int.tmod a1 (wrap64 ((wrap64 (t102 - t103)) + 1))) > t106 then (some (wrap64 ((Int.tmod a1 (wrap64 ((wrap64 (t102 - t103)) + 1))) - (wrap64 ((wrap64 (t102 - t103)) + 1))))) else (some (Int.tmod a1 (wrap64 ((wrap64 (t102 - t103)) + 1))))))))))))) else (some 0))) = some r := h
  clear h
  replace H := Option.bind_eq_some_iff.mp H
  obtain ⟨t101, A30, H⟩ := H
  replace H : (if t101 = true then (if a0 = 6 then (some a1) else (if a0 = 1 then (if a1 = 0 then (some 0) else (some 1)) else ((ladderbackref01_High.f a0).bind fun t102 => ((ladderbackref01_Low.f a0).bind fun t103 => (if (wrap64 ((wrap64 (t102 - t103)) + 1)) = 0 then (none) else ((ladderbackref01_Low.f a0).bind fun t104 => (if (Int.tmod a1 (wrap64 ((wrap64 (t102 - t103)) + 1))) < t104 then ((ladderbackref01_High.f a0).bind fun t105 => (if (wrap64 ((Int.tmod a1 (wrap64 ((wrap64 (t102 - t103)) + 1))) + (wrap64 ((wrap64 (t102 - t103)) + 1)))) > t105 then (some (wrap64 ((wrap64 ((Int.tmod a1 (wrap64 ((wrap64 (t102 - t103)) + 1))) + (wrap64 ((wrap64 (t102 - t103)) + 1)))) - (wrap64 ((wrap64 (t102 - t103)) + 1))))) else (some (wrap64 ((Int.tmod a1 (wrap64 ((wrap64 (t102 - t103)) + 1))) + (wrap64 ((wrap64 (t102 - t103)) + 1))))))) else ((ladderbackref01_High.f a0).bind fun t106 => (if (Int.tmod a1 (wrap64 ((wrap64 (t102 - t103)) + 1))) > t106 then (some (wrap64 ((Int.tmod a1 (wrap64 ((wrap64 (t102 - t103)) + 1))) - (wrap64 ((wrap64 (t102 - t103)) + 1))))) else (some (Int.tmod a1 (wrap64 ((wrap64 (t102 - t103)) + 1))))))))))))) else (some 0)) = some r := H
  have A3 := Aside0.mk A30
  clear A30
  by_cases c4 : t101 = true
  · subst c4
    have H1 : (if a0 = 6 then (some a1) else (if a0 = 1 then (if a1 = 0 then (some 0) else (some 1)) else ((ladderbackref01_High.f a0).bind fun t102 => ((ladderbackref01_Low.f a0).bind fun t103 => (if (wrap64 ((wrap64 (t102 - t103)) + 1)) = 0 then (none) else ((ladderbackref01_Low.f a0).bind fun t104 => (if (Int.tmod a1 (wrap64 ((wrap64 (t102 - t103)) + 1))) < t104 then ((ladderbackref01_High.f a0).bind fun t105 => (if (wrap64 ((Int.tmod a1 (wrap64 ((wrap64 (t102 - t103)) + 1))) + (wrap64 ((wrap64 (t102 - t103)) + 1)))) > t105 then (some (wrap64 ((wrap64 ((Int.tmod a1 (wrap64 ((wrap64 (t102 - t103)) + 1))) + (wrap64 ((wrap64 (t102 - t103)) + 1)))) - (wrap64 ((wrap64 (t102 - t103)) + 1))))) else (some (wrap64 ((Int.tmod a1 (wrap64 ((wrap64 (t102 - t103)) + 1))) + (wrap64 ((wrap64 (t102 - t103)) + 1))))))) else ((ladderbackref01_High.f a0).bind fun t106 => (if (Int.tmod a1 (wrap64 ((wrap64 (t102 - t103)) + 1))) > t106 then (some (wrap64 ((Int.tmod a1 (wrap64 ((wrap64 (t102 - t103)) + 1))) - (wrap64 ((wrap64 (t102 - t103)) + 1))))) else (some (Int.tmod a1 (wrap64 ((wrap64 (t102 - t103)) + 1))))))))))))) = some r := by rw [if_pos rfl] at H; exact H
    clear H
    have H := H1
    clear H1
    by_cases c5 : a0 = 6
    · rw [if_pos c5] at H
      have c5b0 : (a0 == 6) = true := beq_iff_eq.mpr c5
      have c5b1 : (a0 != 6) = false := bne_eq_false_iff_eq.mpr c5
      clear c5
      obtain rfl := Option.some.inj H
      go_enter Tryd.func10, Tryd.ntmps10
      go_wp2_with (first | ((with_reducible refine gate_callee (f := 15) rfl ?_); refine goesL_ (some 7) rfl rfl Tryd.func15 (by kernel_rfl) rfl #[.int .i64 a0] rfl (by (try simp only [List.map_toArray, List.map_cons, List.map_nil]); first | done | rfl | (simp only [List.length_drop, List.length_take]; rfl)) ?_; (with_reducible refine (ladderbackref01_Right.calls a0 true _ A3.out).mono ?_); rintro e w' ⟨rfl, ⟨nd, rfl⟩⟩; refine ⟨_, rfl, ?_⟩))
      go_ret
      exact ⟨by first | rfl | (simp; done) | (simp [*]; done), by repeat (first | exact Drawn0.refl _ | apply Drawn0.step)⟩
    · rw [if_neg c5] at H
      have c5b0 : (a0 == 6) = false := beq_eq_false_iff_ne.mpr c5
      have c5b1 : (a0 != 6) = true := bne_iff_ne.mpr c5
      by_cases c6 : a0 = 1
      · rw [if_pos c6] at H
        have c6b0 : (a0 == 1) = true := beq_iff_eq.mpr c6
        have c6b1 : (a0 != 1) = false := bne_eq_false_iff_eq.mpr c6
        clear c6
        by_cases c7 : a1 = 0
        · rw [if_pos c7] at H
          have c7b0 : (a1 == 0) = true := beq_iff_eq.mpr c7
          have c7b1 : (a1 != 0) = false := bne_eq_false_iff_eq.mpr c7
          clear c7
          obtain rfl := Option.some.inj H
          go_enter Tryd.func10, Tryd.ntmps10
          go_wp2_with (first | ((with_reducible refine gate_callee (f := 15) rfl ?_); refine goesL_ (some 7) rfl rfl Tryd.func15 (by kernel_rfl) rfl #[.int .i64 a0] rfl (by (try simp only [List.map_toArray, List.map_cons, List.map_nil]); first | done | rfl | (simp only [List.length_drop, List.length_take]; rfl)) ?_; (with_reducible refine (ladderbackref01_Right.calls a0 true _ A3.out).mono ?_); rintro e w' ⟨rfl, ⟨nd, rfl⟩⟩; refine ⟨_, rfl, ?_⟩))
          go_ret
          exact ⟨by first | rfl | (simp; done) | (simp [*]; done), by repeat (first | exact Drawn0.refl _ | apply Drawn0.step)⟩
        · rw [if_neg c7] at H
          have c7b0 : (a1 == 0) = false := beq_eq_false_iff_ne.mpr c7
          have c7b1 : (a1 != 0) = true := bne_iff_ne.mpr c7
          obtain rfl := Option.some.inj H
          go_enter Tryd.func10, Tryd.ntmps10
          go_wp2_with (first | ((with_reducible refine gate_callee (f := 15) rfl ?_); refine goesL_ (some 7) rfl rfl Tryd.func15 (by kernel_rfl) rfl #[.int .i64 a0] rfl (by (try simp only [List.map_toArray, List.map_cons, List.map_nil]); first | done | rfl | (simp only [List.length_drop, List.length_take]; rfl)) ?_; (with_reducible refine (ladderbackref01_Right.calls a0 true _ A3.out).mono ?_); rintro e w' ⟨rfl, ⟨nd, rfl⟩⟩; refine ⟨_, rfl, ?_⟩))
          go_ret
          exact ⟨by first | rfl | (simp; done) | (simp [*]; done), by repeat (first | exact Drawn0.refl _ | apply Drawn0.step)⟩
      · rw [if_neg c6] at H
        have c6b0 : (a0 == 1) = false := beq_eq_false_iff_ne.mpr c6
        have c6b1 : (a0 != 1) = true := bne_iff_ne.mpr c6
        replace H := Option.bind_eq_some_iff.mp H
        obtain ⟨t102, A80, H⟩ := H
        replace H : ((ladderbackref01_Low.f a0).bind fun t103 => (if (wrap64 ((wrap64 (t102 - t103)) + 1)) = 0 then (none) else ((ladderbackref01_Low.f a0).bind fun t104 => (if (Int.tmod a1 (wrap64 ((wrap64 (t102 - t103)) + 1))) < t104 then ((ladderbackref01_High.f a0).bind fun t105 => (if (wrap64 ((Int.tmod a1 (wrap64 ((wrap64 (t102 - t103)) + 1))) + (wrap64 ((wrap64 (t102 - t103)) + 1)))) > t105 then (some (wrap64 ((wrap64 ((Int.tmod a1 (wrap64 ((wrap64 (t102 - t103)) + 1))) + (wrap64 ((wrap64 (t102 - t103)) + 1)))) - (wrap64 ((wrap64 (t102 - t103)) + 1))))) else (some (wrap64 ((Int.tmod a1 (wrap64 ((wrap64 (t102 - t103)) + 1))) + (wrap64 ((wrap64 (t102 - t103)) + 1))))))) else ((ladderbackref01_High.f a0).bind fun t106 => (if (Int.tmod a1 (wrap64 ((wrap64 (t102 - t103)) + 1))) > t106 then (some (wrap64 ((Int.tmod a1 (wrap64 ((wrap64 (t102 - t103)) + 1))) - (wrap64 ((wrap64 (t102 - t103)) + 1))))) else (some (Int.tmod a1 (wrap64 ((wrap64 (t102 - t103)) + 1)))))))))) = some r := H
        have A8 := Aside0.mk A80
        clear A80
        replace H := Option.bind_eq_some_iff.mp H
        obtain ⟨t103, A90, H⟩ := H
        replace H : (if (wrap64 ((wrap64 (t102 - t103)) + 1)) = 0 then (none) else ((ladderbackref01_Low.f a0).bind fun t104 => (if (Int.tmod a1 (wrap64 ((wrap64 (t102 - t103)) + 1))) < t104 then ((ladderbackref01_High.f a0).bind fun t105 => (if (wrap64 ((Int.tmod a1 (wrap64 ((wrap64 (t102 - t103)) + 1))) + (wrap64 ((wrap64 (t102 - t103)) + 1)))) > t105 then (some (wrap64 ((wrap64 ((Int.tmod a1 (wrap64 ((wrap64 (t102 - t103)) + 1))) + (wrap64 ((wrap64 (t102 - t103)) + 1)))) - (wrap64 ((wrap64 (t102 - t103)) + 1))))) else (some (wrap64 ((Int.tmod a1 (wrap64 ((wrap64 (t102 - t103)) + 1))) + (wrap64 ((wrap64 (t102 - t103)) + 1))))))) else ((ladderbackref01_High.f a0).bind fun t106 => (if (Int.tmod a1 (wrap64 ((wrap64 (t102 - t103)) + 1))) > t106 then (some (wrap64 ((Int.tmod a1 (wrap64 ((wrap64 (t102 - t103)) + 1))) - (wrap64 ((wrap64 (t102 - t103)) + 1))))) else (some (Int.tmod a1 (wrap64 ((wrap64 (t102 - t103)) + 1))))))))) = some r := H
        have A9 := Aside0.mk A90
        clear A90
        by_cases c10 : (wrap64 ((wrap64 (t102 - t103)) + 1)) = 0
        · rw [if_pos c10] at H
          exact absurd H (by simp)
        · rw [if_neg c10] at H
          have c10b0 : ((wrap64 ((wrap64 (t102 - t103)) + 1)) == 0) = false := beq_eq_false_iff_ne.mpr c10
          have c10b1 : ((wrap64 ((wrap64 (t102 - t103)) + 1)) != 0) = true := bne_iff_ne.mpr c10
          replace H := Option.bind_eq_some_iff.mp H
          obtain ⟨t104, A110, H⟩ := H
          replace H : (if (Int.tmod a1 (wrap64 ((wrap64 (t102 - t103)) + 1))) < t104 then ((ladderbackref01_High.f a0).bind fun t105 => (if (wrap64 ((Int.tmod a1 (wrap64 ((wrap64 (t102 - t103)) + 1))) + (wrap64 ((wrap64 (t102 - t103)) + 1)))) > t105 then (some (wrap64 ((wrap64 ((Int.tmod a1 (wrap64 ((wrap64 (t102 - t103)) + 1))) + (wrap64 ((wrap64 (t102 - t103)) + 1)))) - (wrap64 ((wrap64 (t102 - t103)) + 1))))) else (some (wrap64 ((Int.tmod a1 (wrap64 ((wrap64 (t102 - t103)) + 1))) + (wrap64 ((wrap64 (t102 - t103)) + 1))))))) else ((ladderbackref01_High.f a0).bind fun t106 => (if (Int.tmod a1 (wrap64 ((wrap64 (t102 - t103)) + 1))) > t106 then (some (wrap64 ((Int.tmod a1 (wrap64 ((wrap64 (t102 - t103)) + 1))) - (wrap64 ((wrap64 (t102 - t103)) + 1))))) else (some (Int.tmod a1 (wrap64 ((wrap64 (t102 - t103)) + 1))))))) = some r := H
          have A11 := Aside0.mk A110
          clear A110
          by_cases c12 : (Int.tmod a1 (wrap64 ((wrap64 (t102 - t103)) + 1))) < t104
          · rw [if_pos c12] at H
            have c12b0 : decide ((Int.tmod a1 (wrap64 ((wrap64 (t102 - t103)) + 1))) < t104) = true := decide_eq_true c12
            clear c12
            replace H := Option.bind_eq_some_iff.mp H
            obtain ⟨t105, A130, H⟩ := H
            replace H : (if (wrap64 ((Int.tmod a1 (wrap64 ((wrap64 (t102 - t103)) + 1))) + (wrap64 ((wrap64 (t102 - t103)) + 1)))) > t105 then (some (wrap64 ((wrap64 ((Int.tmod a1 (wrap64 ((wrap64 (t102 - t103)) + 1))) + (wrap64 ((wrap64 (t102 - t103)) + 1)))) - (wrap64 ((wrap64 (t102 - t103)) + 1))))) else (some (wrap64 ((Int.tmod a1 (wrap64 ((wrap64 (t102 - t103)) + 1))) + (wrap64 ((wrap64 (t102 - t103)) + 1)))))) = some r := H
            have A13 := Aside0.mk A130
            clear A130
            by_cases c14 : (wrap64 ((Int.tmod a1 (wrap64 ((wrap64 (t102 - t103)) + 1))) + (wrap64 ((wrap64 (t102 - t103)) + 1)))) > t105
            · rw [if_pos c14] at H
              have c14b0 : decide (t105 < (wrap64 ((Int.tmod a1 (wrap64 ((wrap64 (t102 - t103)) + 1))) + (wrap64 ((wrap64 (t102 - t103)) + 1))))) = true := decide_eq_true c14
              clear c14
              obtain rfl := Option.some.inj H
              go_enter Tryd.func10, Tryd.ntmps10
              go_wp2_with (first | ((with_reducible refine gate_callee (f := 15) rfl ?_); refine goesL_ (some 7) rfl rfl Tryd.func15 (by kernel_rfl) rfl #[.int .i64 a0] rfl (by (try simp only [List.map_toArray, List.map_cons, List.map_nil]); first | done | rfl | (simp only [List.length_drop, List.length_take]; rfl)) ?_; (with_reducible refine (ladderbackref01_Right.calls a0 true _ A3.out).mono ?_); rintro e w' ⟨rfl, ⟨nd, rfl⟩⟩; refine ⟨_, rfl, ?_⟩) | ((with_reducible refine gate_callee (f := 37) rfl ?_); refine goesL_ (some 17) rfl rfl Tryd.func37 (by kernel_rfl) rfl #[.int .i64 a0] rfl (by (try simp only [List.map_toArray, List.map_cons, List.map_nil]); first | done | rfl | (simp only [List.length_drop, List.length_take]; rfl)) ?_; (with_reducible refine (ladderbackref01_High.calls a0 t102 _ A8.out).mono ?_); rintro e w' ⟨rfl, ⟨nd, rfl⟩⟩; refine ⟨_, rfl, ?_⟩) | ((with_reducible refine gate_callee (f := 38) rfl ?_); refine goesL_ (some 19) rfl rfl Tryd.func38 (by kernel_rfl) rfl #[.int .i64 a0] rfl (by (try simp only [List.map_toArray, List.map_cons, List.map_nil]); first | done | rfl | (simp only [List.length_drop, List.length_take]; rfl)) ?_; (with_reducible refine (ladderbackref01_Low.calls a0 t103 _ A9.out).mono ?_); rintro e w' ⟨rfl, ⟨nd, rfl⟩⟩; refine ⟨_, rfl, ?_⟩) | ((with_reducible refine gate_callee (f := 38) rfl ?_); refine goesL_ (some 27) rfl rfl Tryd.func38 (by kernel_rfl) rfl #[.int .i64 a0] rfl (by (try simp only [List.map_toArray, List.map_cons, List.map_nil]); first | done | rfl | (simp only [List.length_drop, List.length_take]; rfl)) ?_; (with_reducible refine (ladderbackref01_Low.calls a0 t104 _ A11.out).mono ?_); rintro e w' ⟨rfl, ⟨nd, rfl⟩⟩; refine ⟨_, rfl, ?_⟩) | ((with_reducible refine gate_callee (f := 37) rfl ?_); refine goesL_ (some 34) rfl rfl Tryd.func37 (by kernel_rfl) rfl #[.int .i64 a0] rfl (by (try simp only [List.map_toArray, List.map_cons, List.map_nil]); first | done | rfl | (simp only [List.length_drop, List.length_take]; rfl)) ?_; (with_reducible refine (ladderbackref01_High.calls a0 t105 _ A13.out).mono ?_); rintro e w' ⟨rfl, ⟨nd, rfl⟩⟩; refine ⟨_, rfl, ?_⟩))
              go_ret
              exact ⟨by first | rfl | (simp; done) | (simp [*]; done), by repeat (first | exact Drawn0.refl _ | apply Drawn0.step)⟩
            · rw [if_neg c14] at H
              have c14b0 : decide (t105 < (wrap64 ((Int.tmod a1 (wrap64 ((wrap64 (t102 - t103)) + 1))) + (wrap64 ((wrap64 (t102 - t103)) + 1))))) = false := decide_eq_false c14
              clear c14
              obtain rfl := Option.some.inj H
              go_enter Tryd.func10, Tryd.ntmps10
              go_wp2_with (first | ((with_reducible refine gate_callee (f := 15) rfl ?_); refine goesL_ (some 7) rfl rfl Tryd.func15 (by kernel_rfl) rfl #[.int .i64 a0] rfl (by (try simp only [List.map_toArray, List.map_cons, List.map_nil]); first | done | rfl | (simp only [List.length_drop, List.length_take]; rfl)) ?_; (with_reducible refine (ladderbackref01_Right.calls a0 true _ A3.out).mono ?_); rintro e w' ⟨rfl, ⟨nd, rfl⟩⟩; refine ⟨_, rfl, ?_⟩) | ((with_reducible refine gate_callee (f := 37) rfl ?_); refine goesL_ (some 17) rfl rfl Tryd.func37 (by kernel_rfl) rfl #[.int .i64 a0] rfl (by (try simp only [List.map_toArray, List.map_cons, List.map_nil]); first | done | rfl | (simp only [List.length_drop, List.length_take]; rfl)) ?_; (with_reducible refine (ladderbackref01_High.calls a0 t102 _ A8.out).mono ?_); rintro e w' ⟨rfl, ⟨nd, rfl⟩⟩; refine ⟨_, rfl, ?_⟩) | ((with_reducible refine gate_callee (f := 38) rfl ?_); refine goesL_ (some 19) rfl rfl Tryd.func38 (by kernel_rfl) rfl #[.int .i64 a0] rfl (by (try simp only [List.map_toArray, List.map_cons, List.map_nil]); first | done | rfl | (simp only [List.length_drop, List.length_take]; rfl)) ?_; (with_reducible refine (ladderbackref01_Low.calls a0 t103 _ A9.out).mono ?_); rintro e w' ⟨rfl, ⟨nd, rfl⟩⟩; refine ⟨_, rfl, ?_⟩) | ((with_reducible refine gate_callee (f := 38) rfl ?_); refine goesL_ (some 27) rfl rfl Tryd.func38 (by kernel_rfl) rfl #[.int .i64 a0] rfl (by (try simp only [List.map_toArray, List.map_cons, List.map_nil]); first | done | rfl | (simp only [List.length_drop, List.length_take]; rfl)) ?_; (with_reducible refine (ladderbackref01_Low.calls a0 t104 _ A11.out).mono ?_); rintro e w' ⟨rfl, ⟨nd, rfl⟩⟩; refine ⟨_, rfl, ?_⟩) | ((with_reducible refine gate_callee (f := 37) rfl ?_); refine goesL_ (some 34) rfl rfl Tryd.func37 (by kernel_rfl) rfl #[.int .i64 a0] rfl (by (try simp only [List.map_toArray, List.map_cons, List.map_nil]); first | done | rfl | (simp only [List.length_drop, List.length_take]; rfl)) ?_; (with_reducible refine (ladderbackref01_High.calls a0 t105 _ A13.out).mono ?_); rintro e w' ⟨rfl, ⟨nd, rfl⟩⟩; refine ⟨_, rfl, ?_⟩))
              go_ret
              exact ⟨by first | rfl | (simp; done) | (simp [*]; done), by repeat (first | exact Drawn0.refl _ | apply Drawn0.step)⟩
          · rw [if_neg c12] at H
            have c12b0 : decide ((Int.tmod a1 (wrap64 ((wrap64 (t102 - t103)) + 1))) < t104) = false := decide_eq_false c12
            clear c12
            replace H := Option.bind_eq_some_iff.mp H
            obtain ⟨t106, A150, H⟩ := H
            replace H : (if (Int.tmod a1 (wrap64 ((wrap64 (t102 - t103)) + 1))) > t106 then (some (wrap64 ((Int.tmod a1 (wrap64 ((wrap64 (t102 - t103)) + 1))) - (wrap64 ((wrap64 (t102 - t103)) + 1))))) else (some (Int.tmod a1 (wrap64 ((wrap64 (t102 - t103)) + 1))))) = some r := H
            have A15 := Aside0.mk A150
            clear A150
            by_cases c16 : (Int.tmod a1 (wrap64 ((wrap64 (t102 - t103)) + 1))) > t106
            · rw [if_pos c16] at H
              have c16b0 : decide (t106 < (Int.tmod a1 (wrap64 ((wrap64 (t102 - t103)) + 1)))) = true := decide_eq_true c16
              clear c16
              obtain rfl := Option.some.inj H
              go_enter Tryd.func10, Tryd.ntmps10
              go_wp2_with (first | ((with_reducible refine gate_callee (f := 15) rfl ?_); refine goesL_ (some 7) rfl rfl Tryd.func15 (by kernel_rfl) rfl #[.int .i64 a0] rfl (by (try simp only [List.map_toArray, List.map_cons, List.map_nil]); first | done | rfl | (simp only [List.length_drop, List.length_take]; rfl)) ?_; (with_reducible refine (ladderbackref01_Right.calls a0 true _ A3.out).mono ?_); rintro e w' ⟨rfl, ⟨nd, rfl⟩⟩; refine ⟨_, rfl, ?_⟩) | ((with_reducible refine gate_callee (f := 37) rfl ?_); refine goesL_ (some 17) rfl rfl Tryd.func37 (by kernel_rfl) rfl #[.int .i64 a0] rfl (by (try simp only [List.map_toArray, List.map_cons, List.map_nil]); first | done | rfl | (simp only [List.length_drop, List.length_take]; rfl)) ?_; (with_reducible refine (ladderbackref01_High.calls a0 t102 _ A8.out).mono ?_); rintro e w' ⟨rfl, ⟨nd, rfl⟩⟩; refine ⟨_, rfl, ?_⟩) | ((with_reducible refine gate_callee (f := 38) rfl ?_); refine goesL_ (some 19) rfl rfl Tryd.func38 (by kernel_rfl) rfl #[.int .i64 a0] rfl (by (try simp only [List.map_toArray, List.map_cons, List.map_nil]); first | done | rfl | (simp only [List.length_drop, List.length_take]; rfl)) ?_; (with_reducible refine (ladderbackref01_Low.calls a0 t103 _ A9.out).mono ?_); rintro e w' ⟨rfl, ⟨nd, rfl⟩⟩; refine ⟨_, rfl, ?_⟩) | ((with_reducible refine gate_callee (f := 38) rfl ?_); refine goesL_ (some 27) rfl rfl Tryd.func38 (by kernel_rfl) rfl #[.int .i64 a0] rfl (by (try simp only [List.map_toArray, List.map_cons, List.map_nil]); first | done | rfl | (simp only [List.length_drop, List.length_take]; rfl)) ?_; (with_reducible refine (ladderbackref01_Low.calls a0 t104 _ A11.out).mono ?_); rintro e w' ⟨rfl, ⟨nd, rfl⟩⟩; refine ⟨_, rfl, ?_⟩) | ((with_reducible refine gate_callee (f := 37) rfl ?_); refine goesL_ (some 34) rfl rfl Tryd.func37 (by kernel_rfl) rfl #[.int .i64 a0] rfl (by (try simp only [List.map_toArray, List.map_cons, List.map_nil]); first | done | rfl | (simp only [List.length_drop, List.length_take]; rfl)) ?_; (with_reducible refine (ladderbackref01_High.calls a0 t106 _ A15.out).mono ?_); rintro e w' ⟨rfl, ⟨nd, rfl⟩⟩; refine ⟨_, rfl, ?_⟩))
              go_ret
              exact ⟨by first | rfl | (simp; done) | (simp [*]; done), by repeat (first | exact Drawn0.refl _ | apply Drawn0.step)⟩
            · rw [if_neg c16] at H
              have c16b0 : decide (t106 < (Int.tmod a1 (wrap64 ((wrap64 (t102 - t103)) + 1)))) = false := decide_eq_false c16
              clear c16
              obtain rfl := Option.some.inj H
              go_enter Tryd.func10, Tryd.ntmps10
              go_wp2_with (first | ((with_reducible refine gate_callee (f := 15) rfl ?_); refine goesL_ (some 7) rfl rfl Tryd.func15 (by kernel_rfl) rfl #[.int .i64 a0] rfl (by (try simp only [List.map_toArray, List.map_cons, List.map_nil]); first | done | rfl | (simp only [List.length_drop, List.length_take]; rfl)) ?_; (with_reducible refine (ladderbackref01_Right.calls a0 true _ A3.out).mono ?_); rintro e w' ⟨rfl, ⟨nd, rfl⟩⟩; refine ⟨_, rfl, ?_⟩) | ((with_reducible refine gate_callee (f := 37) rfl ?_); refine goesL_ (some 17) rfl rfl Tryd.func37 (by kernel_rfl) rfl #[.int .i64 a0] rfl (by (try simp only [List.map_toArray, List.map_cons, List.map_nil]); first | done | rfl | (simp only [List.length_drop, List.length_take]; rfl)) ?_; (with_reducible refine (ladderbackref01_High.calls a0 t102 _ A8.out).mono ?_); rintro e w' ⟨rfl, ⟨nd, rfl⟩⟩; refine ⟨_, rfl, ?_⟩) | ((with_reducible refine gate_callee (f := 38) rfl ?_); refine goesL_ (some 19) rfl rfl Tryd.func38 (by kernel_rfl) rfl #[.int .i64 a0] rfl (by (try simp only [List.map_toArray, List.map_cons, List.map_nil]); first | done | rfl | (simp only [List.length_drop, List.length_take]; rfl)) ?_; (with_reducible refine (ladderbackref01_Low.calls a0 t103 _ A9.out).mono ?_); rintro e w' ⟨rfl, ⟨nd, rfl⟩⟩; refine ⟨_, rfl, ?_⟩) | ((with_reducible refine gate_callee (f := 38) rfl ?_); refine goesL_ (some 27) rfl rfl Tryd.func38 (by kernel_rfl) rfl #[.int .i64 a0] rfl (by (try simp only [List.map_toArray, List.map_cons, List.map_nil]); first | done | rfl | (simp only [List.length_drop, List.length_take]; rfl)) ?_; (with_reducible refine (ladderbackref01_Low.calls a0 t104 _ A11.out).mono ?_); rintro e w' ⟨rfl, ⟨nd, rfl⟩⟩; refine ⟨_, rfl, ?_⟩) | ((with_reducible refine gate_callee (f := 37) rfl ?_); refine goesL_ (some 34) rfl rfl Tryd.func37 (by kernel_rfl) rfl #[.int .i64 a0] rfl (by (try simp only [List.map_toArray, List.map_cons, List.map_nil]); first | done | rfl | (simp only [List.length_drop, List.length_take]; rfl)) ?_; (with_reducible refine (ladderbackref01_High.calls a0 t106 _ A15.out).mono ?_); rintro e w' ⟨rfl, ⟨nd, rfl⟩⟩; refine ⟨_, rfl, ?_⟩))
              go_ret
              exact ⟨by first | rfl | (simp; done) | (simp [*]; done), by repeat (first | exact Drawn0.refl _ | apply Drawn0.step)⟩
  · replace c4 := Bool.eq_false_iff.mpr c4
    subst c4
    have H1 : (some 0) = some r := by rw [if_neg (show ¬ (false = true) by decide)] at H; exact H
    clear H
    have H := H1
    clear H1
    obtain rfl := Option.some.inj H
    go_enter Tryd.func10, Tryd.ntmps10
    go_wp2_with (first | ((with_reducible refine gate_callee (f := 15) rfl ?_); refine goesL_ (some 7) rfl rfl Tryd.func15 (by kernel_rfl) rfl #[.int .i64 a0] rfl (by (try simp only [List.map_toArray, List.map_cons, List.map_nil]); first | done | rfl | (simp only [List.length_drop, List.length_take]; rfl)) ?_; (with_reducible refine (ladderbackref01_Right.calls a0 false _ A3.out).mono ?_); rintro e w' ⟨rfl, ⟨nd, rfl⟩⟩; refine ⟨_, rfl, ?_⟩))
    go_ret
    exact ⟨by first | rfl | (simp; done) | (simp [*]; done), by repeat (first | exact Drawn0.refl _ | apply Drawn0.step)⟩

/-! ### kind_Right: function 14 -/
def kind_Right.f (a0 : Int) : Option (Bool) := if a0 ≥ 1 then (some (decide (a0 ≤ 6))) else (some false)
set_option maxHeartbeats 8000000 in
set_option maxRecDepth 100000 in
theorem kind_Right.calls (a0 : Int) (r : Bool) (w : World) (h : kind_Right.f a0 = some r) :
    Calls Tryd.prog 14 #[.int .i64 a0] w fun e w' => e = .returned (.bool r) ∧ Drawn0 w w' := by
  have H : (if a0 ≥ 1 then (some (decide (a0 ≤ 6))) else (some false)) = some r := h
  clear h
  by_cases c2 : a0 ≥ 1
  · rw [if_pos c2] at H
    have c2b0 : decide (1 ≤ a0) = true := decide_eq_true c2
    clear c2
    obtain rfl := Option.some.inj H
    go_enter Tryd.func14, Tryd.ntmps14
    go_wp2
    go_ret
    exact ⟨by first | rfl | (simp; done) | (simp [*]; done), by repeat (first | exact Drawn0.refl _ | apply Drawn0.step)⟩
  · rw [if_neg c2] at H
    have c2b0 : decide (1 ≤ a0) = false := decide_eq_false c2
    clear c2
    obtain rfl := Option.some.inj H
    go_enter Tryd.func14, Tryd.ntmps14
    go_wp2
    go_ret
    exact ⟨by first | rfl | (simp; done) | (simp [*]; done), by repeat (first | exact Drawn0.refl _ | apply Drawn0.step)⟩

/-! ### kind_In: function 11 -/
def kind_In.f (a0 : Int) (a1 : Int) : Option (Bool) := (kind_Right.f a0).bind fun t107 => (if t107 = true then ((kind_Wrap.f a0 a1).bind fun t108 => (some (t108 == a1))) else (some false))
set_option maxHeartbeats 8000000 in
set_option maxRecDepth 100000 in
theorem kind_In.calls (a0 : Int) (a1 : Int) (r : Bool) (w : World) (h : kind_In.f a0 a1 = some r) :
    Calls Tryd.prog 11 #[.int .i64 a0, .int .i64 a1] w fun e w' => e = .returned (.bool r) ∧ Drawn0 w w' := by
  have H : ((kind_Right.f a0).bind fun t107 => (if t107 = true then ((kind_Wrap.f a0 a1).bind fun t108 => (some (t108 == a1))) else (some false))) = some r := h
  clear h
  replace H := Option.bind_eq_some_iff.mp H
  obtain ⟨t107, A30, H⟩ := H
  replace H : (if t107 = true then ((kind_Wrap.f a0 a1).bind fun t108 => (some (t108 == a1))) else (some false)) = some r := H
  have A3 := Aside0.mk A30
  clear A30
  by_cases c4 : t107 = true
  · subst c4
    have H1 : ((kind_Wrap.f a0 a1).bind fun t108 => (some (t108 == a1))) = some r := by rw [if_pos rfl] at H; exact H
    clear H
    have H := H1
    clear H1
    replace H := Option.bind_eq_some_iff.mp H
    obtain ⟨t108, A50, H⟩ := H
    replace H : (some (t108 == a1)) = some r := H
    have A5 := Aside0.mk A50
    clear A50
    obtain rfl := Option.some.inj H
    go_enter Tryd.func11, Tryd.ntmps11
    go_wp2_with (first | ((with_reducible refine gate_callee (f := 14) rfl ?_); refine goesL_ (some 6) rfl rfl Tryd.func14 (by kernel_rfl) rfl #[.int .i64 a0] rfl (by (try simp only [List.map_toArray, List.map_cons, List.map_nil]); first | done | rfl | (simp only [List.length_drop, List.length_take]; rfl)) ?_; (with_reducible refine (kind_Right.calls a0 true _ A3.out).mono ?_); rintro e w' ⟨rfl, ⟨nd, rfl⟩⟩; refine ⟨_, rfl, ?_⟩) | (go_at_call 9; (with_reducible refine (kind_Wrap.calls a0 a1 t108 _ A5.out).mono ?_); rintro e w' ⟨rfl, ⟨nd, rfl⟩⟩))
    go_ret
    exact ⟨by first | rfl | (simp; done) | (simp [*]; done), by repeat (first | exact Drawn0.refl _ | apply Drawn0.step)⟩
  · replace c4 := Bool.eq_false_iff.mpr c4
    subst c4
    have H1 : (some false) = some r := by rw [if_neg (show ¬ (false = true) by decide)] at H; exact H
    clear H
    have H := H1
    clear H1
    obtain rfl := Option.some.inj H
    go_enter Tryd.func11, Tryd.ntmps11
    go_wp2_with (first | ((with_reducible refine gate_callee (f := 14) rfl ?_); refine goesL_ (some 6) rfl rfl Tryd.func14 (by kernel_rfl) rfl #[.int .i64 a0] rfl (by (try simp only [List.map_toArray, List.map_cons, List.map_nil]); first | done | rfl | (simp only [List.length_drop, List.length_take]; rfl)) ?_; (with_reducible refine (kind_Right.calls a0 false _ A3.out).mono ?_); rintro e w' ⟨rfl, ⟨nd, rfl⟩⟩; refine ⟨_, rfl, ?_⟩))
    go_ret
    exact ⟨by first | rfl | (simp; done) | (simp [*]; done), by repeat (first | exact Drawn0.refl _ | apply Drawn0.step)⟩

/-! ### ladderbackref01_In: function 12 -/
def ladderbackref01_In.f (a0 : Int) (a1 : Int) : Option (Bool) := if a0 = 6 then (some true) else ((ladderbackref01_Right.f a0).bind fun t109 => (if t109 = true then ((ladderbackref01_Low.f a0).bind fun t110 => (if a1 ≥ t110 then ((ladderbackref01_High.f a0).bind fun t111 => (some (decide (a1 ≤ t111)))) else (some false))) else (some false)))
set_option maxHeartbeats 8000000 in
set_option maxRecDepth 100000 in
theorem ladderbackref01_In.calls (a0 : Int) (a1 : Int) (r : Bool) (w : World) (h : ladderbackref01_In.f a0 a1 = some r) :
    Calls Tryd.prog 12 #[.int .i64 a0, .int .i64 a1] w fun e w' => e = .returned (.bool r) ∧ Drawn0 w w' := by
  have H : (if a0 = 6 then (some true) else ((ladderbackref01_Right.f a0).bind fun t109 => (if t109 = true then ((ladderbackref01_Low.f a0).bind fun t110 => (if a1 ≥ t110 then ((ladderbackref01_High.f a0).bind fun t111 => (some (decide (a1 ≤ t111)))) else (some false))) else (some false)))) = some r := h
  clear h
  by_cases c3 : a0 = 6
  · rw [if_pos c3] at H
    have c3b0 : (a0 == 6) = true := beq_iff_eq.mpr c3
    have c3b1 : (a0 != 6) = false := bne_eq_false_iff_eq.mpr c3
    clear c3
    obtain rfl := Option.some.inj H
    go_enter Tryd.func12, Tryd.ntmps12
    go_wp2
    go_ret
    exact ⟨by first | rfl | (simp; done) | (simp [*]; done), by repeat (first | exact Drawn0.refl _ | apply Drawn0.step)⟩
  · rw [if_neg c3] at H
    have c3b0 : (a0 == 6) = false := beq_eq_false_iff_ne.mpr c3
    have c3b1 : (a0 != 6) = true := bne_iff_ne.mpr c3
    replace H := Option.bind_eq_some_iff.mp H
    obtain ⟨t109, A40, H⟩ := H
    replace H : (if t109 = true then ((ladderbackref01_Low.f a0).bind fun t110 => (if a1 ≥ t110 then ((ladderbackref01_High.f a0).bind fun t111 => (some (decide (a1 ≤ t111)))) else (some false))) else (some false)) = some r := H
    have A4 := Aside0.mk A40
    clear A40
    by_cases c5 : t109 = true
    · subst c5
      have H1 : ((ladderbackref01_Low.f a0).bind fun t110 => (if a1 ≥ t110 then ((ladderbackref01_High.f a0).bind fun t111 => (some (decide (a1 ≤ t111)))) else (some false))) = some r := by rw [if_pos rfl] at H; exact H
      clear H
      have H := H1
      clear H1
      replace H := Option.bind_eq_some_iff.mp H
      obtain ⟨t110, A60, H⟩ := H
      replace H : (if a1 ≥ t110 then ((ladderbackref01_High.f a0).bind fun t111 => (some (decide (a1 ≤ t111)))) else (some false)) = some r := H
      have A6 := Aside0.mk A60
      clear A60
      by_cases c7 : a1 ≥ t110
      · rw [if_pos c7] at H
        have c7b0 : decide (t110 ≤ a1) = true := decide_eq_true c7
        clear c7
        replace H := Option.bind_eq_some_iff.mp H
        obtain ⟨t111, A80, H⟩ := H
        replace H : (some (decide (a1 ≤ t111))) = some r := H
        have A8 := Aside0.mk A80
        clear A80
        obtain rfl := Option.some.inj H
        go_enter Tryd.func12, Tryd.ntmps12
        go_wp2_with (first | ((with_reducible refine gate_callee (f := 15) rfl ?_); refine goesL_ (some 8) rfl rfl Tryd.func15 (by kernel_rfl) rfl #[.int .i64 a0] rfl (by (try simp only [List.map_toArray, List.map_cons, List.map_nil]); first | done | rfl | (simp only [List.length_drop, List.length_take]; rfl)) ?_; (with_reducible refine (ladderbackref01_Right.calls a0 true _ A4.out).mono ?_); rintro e w' ⟨rfl, ⟨nd, rfl⟩⟩; refine ⟨_, rfl, ?_⟩) | (go_at_call 38; (with_reducible refine (ladderbackref01_Low.calls a0 t110 _ A6.out).mono ?_); rintro e w' ⟨rfl, ⟨nd, rfl⟩⟩) | (go_at_call 37; (with_reducible refine (ladderbackref01_High.calls a0 t111 _ A8.out).mono ?_); rintro e w' ⟨rfl, ⟨nd, rfl⟩⟩))
        go_ret
        exact ⟨by first | rfl | (simp; done) | (simp [*]; done), by repeat (first | exact Drawn0.refl _ | apply Drawn0.step)⟩
      · rw [if_neg c7] at H
        have c7b0 : decide (t110 ≤ a1) = false := decide_eq_false c7
        clear c7
        obtain rfl := Option.some.inj H
        go_enter Tryd.func12, Tryd.ntmps12
        go_wp2_with (first | ((with_reducible refine gate_callee (f := 15) rfl ?_); refine goesL_ (some 8) rfl rfl Tryd.func15 (by kernel_rfl) rfl #[.int .i64 a0] rfl (by (try simp only [List.map_toArray, List.map_cons, List.map_nil]); first | done | rfl | (simp only [List.length_drop, List.length_take]; rfl)) ?_; (with_reducible refine (ladderbackref01_Right.calls a0 true _ A4.out).mono ?_); rintro e w' ⟨rfl, ⟨nd, rfl⟩⟩; refine ⟨_, rfl, ?_⟩) | (go_at_call 38; (with_reducible refine (ladderbackref01_Low.calls a0 t110 _ A6.out).mono ?_); rintro e w' ⟨rfl, ⟨nd, rfl⟩⟩))
        go_ret
        exact ⟨by first | rfl | (simp; done) | (simp [*]; done), by repeat (first | exact Drawn0.refl _ | apply Drawn0.step)⟩
    · replace c5 := Bool.eq_false_iff.mpr c5
      subst c5
      have H1 : (some false) = some r := by rw [if_neg (show ¬ (false = true) by decide)] at H; exact H
      clear H
      have H := H1
      clear H1
      obtain rfl := Option.some.inj H
      go_enter Tryd.func12, Tryd.ntmps12
      go_wp2_with (first | ((with_reducible refine gate_callee (f := 15) rfl ?_); refine goesL_ (some 8) rfl rfl Tryd.func15 (by kernel_rfl) rfl #[.int .i64 a0] rfl (by (try simp only [List.map_toArray, List.map_cons, List.map_nil]); first | done | rfl | (simp only [List.length_drop, List.length_take]; rfl)) ?_; (with_reducible refine (ladderbackref01_Right.calls a0 false _ A4.out).mono ?_); rintro e w' ⟨rfl, ⟨nd, rfl⟩⟩; refine ⟨_, rfl, ?_⟩))
      go_ret
      exact ⟨by first | rfl | (simp; done) | (simp [*]; done), by repeat (first | exact Drawn0.refl _ | apply Drawn0.step)⟩

-- NOT PRINTED: function 39 (kind_of)

/-! ### ladderbacklaw01_awake: function 13 -/
def ladderbacklaw01_awake.f  : Option (Bool) := (kind_Wrap.f 2 40000).bind fun t114 => (if t114 = (-25536) then ((kind_Name.f 1).bind fun t115 => (some (t115.toList == ([66, 79, 79, 76] : List UInt8)))) else (some false))
set_option maxHeartbeats 8000000 in
set_option maxRecDepth 100000 in
theorem ladderbacklaw01_awake.calls  (r : Bool) (w : World) (h : ladderbacklaw01_awake.f  = some r) (hL_ : LaidRows w) :
    Calls Tryd.prog 13 #[] w fun e w' => e = .returned (.bool r) ∧ Below w.heap.size w w' := by
  have HL_ := Aside0.mk hL_
  clear hL_
  have HB := Aside0.mk (Below.refl w.heap.size w)
  have H : ((kind_Wrap.f 2 40000).bind fun t114 => (if t114 = (-25536) then ((kind_Name.f 1).bind fun t115 => (some (t115.toList == ([66, 79, 79, 76] : List UInt8)))) else (some false))) = some r := h
  clear h
  replace H := Option.bind_eq_some_iff.mp H
  obtain ⟨t114, A10, H⟩ := H
  replace H : (if t114 = (-25536) then ((kind_Name.f 1).bind fun t115 => (some (t115.toList == ([66, 79, 79, 76] : List UInt8)))) else (some false)) = some r := H
  have A1 := Aside0.mk A10
  clear A10
  by_cases c2 : t114 = (-25536)
  · rw [if_pos c2] at H
    have c2b0 : (t114 == (-25536)) = true := beq_iff_eq.mpr c2
    have c2b1 : (t114 != (-25536)) = false := bne_eq_false_iff_eq.mpr c2
    clear c2
    replace H := Option.bind_eq_some_iff.mp H
    obtain ⟨t115, A30, H⟩ := H
    replace H : (some (t115.toList == ([66, 79, 79, 76] : List UInt8))) = some r := H
    have A3 := Aside0.mk A30
    clear A30
    obtain rfl := Option.some.inj H
    go_enter Tryd.func13, Tryd.ntmps13
    go_wp2_with (first | ((with_reducible refine gate_callee (f := 9) rfl ?_); refine goesL_ (some 1) rfl rfl Tryd.func9 (by kernel_rfl) rfl #[.int .i64 2, .int .i64 40000] rfl (by (try simp only [List.map_toArray, List.map_cons, List.map_nil]); first | done | rfl | (simp only [List.length_drop, List.length_take]; rfl)) ?_; (with_reducible refine (kind_Wrap.calls 2 40000 t114 _ A1.out).mono ?_); rintro e w' ⟨rfl, ⟨nd, rfl⟩⟩; refine ⟨_, rfl, ?_⟩) | (go_at_call 16; (with_reducible refine (kind_Name.calls 1 t115 _ A3.out (LaidRows.below HL_.out (by repeat (first | (with_reducible first | exact HB.out | apply below_alloc | apply pw_below_drewN | apply below_drew1) | exact HB.out)))).mono ?_); rintro e w4 ⟨rfl, hb⟩; have n0_ := Aside0.mk (below_step (by repeat (first | (with_reducible first | exact HB.out | apply below_alloc | apply pw_below_drewN | apply below_drew1) | exact HB.out)) hb); clear HB; have HB := n0_; clear n0_; (try clear hb); (try clear hb2); (try clear hk); (try clear hi)))
    go_ret
    exact ⟨by first | rfl | (simp [errW_none, errW_some] <;> rfl) | (simp [*, errW_none, errW_some] <;> rfl), by repeat (first | (with_reducible first | exact HB.out | apply below_alloc | apply pw_below_drewN | apply below_drew1) | exact HB.out)⟩
  · rw [if_neg c2] at H
    have c2b0 : (t114 == (-25536)) = false := beq_eq_false_iff_ne.mpr c2
    have c2b1 : (t114 != (-25536)) = true := bne_iff_ne.mpr c2
    obtain rfl := Option.some.inj H
    go_enter Tryd.func13, Tryd.ntmps13
    go_wp2_with (first | ((with_reducible refine gate_callee (f := 9) rfl ?_); refine goesL_ (some 1) rfl rfl Tryd.func9 (by kernel_rfl) rfl #[.int .i64 2, .int .i64 40000] rfl (by (try simp only [List.map_toArray, List.map_cons, List.map_nil]); first | done | rfl | (simp only [List.length_drop, List.length_take]; rfl)) ?_; (with_reducible refine (kind_Wrap.calls 2 40000 t114 _ A1.out).mono ?_); rintro e w' ⟨rfl, ⟨nd, rfl⟩⟩; refine ⟨_, rfl, ?_⟩))
    go_ret
    exact ⟨by first | rfl | (simp [errW_none, errW_some] <;> rfl) | (simp [*, errW_none, errW_some] <;> rfl), by repeat (first | (with_reducible first | exact HB.out | apply below_alloc | apply pw_below_drewN | apply below_drew1) | exact HB.out)⟩

/-! ### ladderbacklaw01_KindWraps: function 3 -/
def ladderbacklaw01_KindWraps.f (a0 : Int) (a1 : Int) : Option (Bool) := (kind_Wrap.f a0 a1).bind fun t116 => ((ladderbackref01_Wrap.f a0 a1).bind fun t117 => (if t116 = t117 then ((kind_In.f a0 a1).bind fun t118 => ((ladderbackref01_In.f a0 a1).bind fun t119 => (if (t118 == t119) = true then ((ladderbacklaw01_awake.f).bind fun t120 => (some t120)) else (some false)))) else (some false)))
set_option maxHeartbeats 8000000 in
set_option maxRecDepth 100000 in
theorem ladderbacklaw01_KindWraps.calls (a0 : Int) (a1 : Int) (r : Bool) (w : World) (h : ladderbacklaw01_KindWraps.f a0 a1 = some r) (hL_ : LaidRows w) :
    Calls Tryd.prog 3 #[.int .i64 a0, .int .i64 a1] w fun e w' => e = .returned (.bool r) ∧ Below w.heap.size w w' := by
  have HL_ := Aside0.mk hL_
  clear hL_
  have HB := Aside0.mk (Below.refl w.heap.size w)
  have H : ((kind_Wrap.f a0 a1).bind fun t116 => ((ladderbackref01_Wrap.f a0 a1).bind fun t117 => (if t116 = t117 then ((kind_In.f a0 a1).bind fun t118 => ((ladderbackref01_In.f a0 a1).bind fun t119 => (if (t118 == t119) = true then ((ladderbacklaw01_awake.f).bind fun t120 => (some t120)) else (some false)))) else (some false)))) = some r := h
  clear h
  replace H := Option.bind_eq_some_iff.mp H
  obtain ⟨t116, A30, H⟩ := H
  replace H : ((ladderbackref01_Wrap.f a0 a1).bind fun t117 => (if t116 = t117 then ((kind_In.f a0 a1).bind fun t118 => ((ladderbackref01_In.f a0 a1).bind fun t119 => (if (t118 == t119) = true then ((ladderbacklaw01_awake.f).bind fun t120 => (some t120)) else (some false)))) else (some false))) = some r := H
  have A3 := Aside0.mk A30
  clear A30
  replace H := Option.bind_eq_some_iff.mp H
  obtain ⟨t117, A40, H⟩ := H
  replace H : (if t116 = t117 then ((kind_In.f a0 a1).bind fun t118 => ((ladderbackref01_In.f a0 a1).bind fun t119 => (if (t118 == t119) = true then ((ladderbacklaw01_awake.f).bind fun t120 => (some t120)) else (some false)))) else (some false)) = some r := H
  have A4 := Aside0.mk A40
  clear A40
  by_cases c5 : t116 = t117
  · rw [if_pos c5] at H
    have c5b0 : (t116 == t117) = true := beq_iff_eq.mpr c5
    have c5b1 : (t116 != t117) = false := bne_eq_false_iff_eq.mpr c5
    clear c5
    replace H := Option.bind_eq_some_iff.mp H
    obtain ⟨t118, A60, H⟩ := H
    replace H : ((ladderbackref01_In.f a0 a1).bind fun t119 => (if (t118 == t119) = true then ((ladderbacklaw01_awake.f).bind fun t120 => (some t120)) else (some false))) = some r := H
    have A6 := Aside0.mk A60
    clear A60
    replace H := Option.bind_eq_some_iff.mp H
    obtain ⟨t119, A70, H⟩ := H
    replace H : (if (t118 == t119) = true then ((ladderbacklaw01_awake.f).bind fun t120 => (some t120)) else (some false)) = some r := H
    have A7 := Aside0.mk A70
    clear A70
    by_cases c8 : (t118 == t119) = true
    · rw [if_pos c8] at H
      have c8b0 : (t118 == t119) = true := c8
      (try (have c8b1 : decide (t118 = t119) = true := by simpa using c8))
      (try (have c8b2 : (t118 == t119) = true := by simpa using c8))
      clear c8
      replace H := Option.bind_eq_some_iff.mp H
      obtain ⟨t120, A90, H⟩ := H
      replace H : (some t120) = some r := H
      have A9 := Aside0.mk A90
      clear A90
      obtain rfl := Option.some.inj H
      go_enter Tryd.func3, Tryd.ntmps3
      go_wp2_with (first | ((with_reducible refine gate_callee (f := 9) rfl ?_); refine goesL_ (some 7) rfl rfl Tryd.func9 (by kernel_rfl) rfl #[.int .i64 a0, .int .i64 a1] rfl (by (try simp only [List.map_toArray, List.map_cons, List.map_nil]); first | done | rfl | (simp only [List.length_drop, List.length_take]; rfl)) ?_; (with_reducible refine (kind_Wrap.calls a0 a1 t116 _ A3.out).mono ?_); rintro e w' ⟨rfl, ⟨nd, rfl⟩⟩; refine ⟨_, rfl, ?_⟩) | ((with_reducible refine gate_callee (f := 10) rfl ?_); refine goesL_ (some 10) rfl rfl Tryd.func10 (by kernel_rfl) rfl #[.int .i64 a0, .int .i64 a1] rfl (by (try simp only [List.map_toArray, List.map_cons, List.map_nil]); first | done | rfl | (simp only [List.length_drop, List.length_take]; rfl)) ?_; (with_reducible refine (ladderbackref01_Wrap.calls a0 a1 t117 _ A4.out).mono ?_); rintro e w' ⟨rfl, ⟨nd, rfl⟩⟩; refine ⟨_, rfl, ?_⟩) | (go_at_call 11; (with_reducible refine (kind_In.calls a0 a1 t118 _ A6.out).mono ?_); rintro e w' ⟨rfl, ⟨nd, rfl⟩⟩) | (go_at_call 12; (with_reducible refine (ladderbackref01_In.calls a0 a1 t119 _ A7.out).mono ?_); rintro e w' ⟨rfl, ⟨nd, rfl⟩⟩) | (go_at_call 13; (with_reducible refine (ladderbacklaw01_awake.calls  t120 _ A9.out (LaidRows.below HL_.out (by repeat (first | (with_reducible first | exact HB.out | apply below_alloc | apply pw_below_drewN | apply below_drew1) | exact HB.out)))).mono ?_); rintro e w10 ⟨rfl, hb⟩; have n0_ := Aside0.mk (below_step (by repeat (first | (with_reducible first | exact HB.out | apply below_alloc | apply pw_below_drewN | apply below_drew1) | exact HB.out)) hb); clear HB; have HB := n0_; clear n0_; (try clear hb); (try clear hb2); (try clear hk); (try clear hi)))
      go_ret
      exact ⟨by first | rfl | (simp [errW_none, errW_some] <;> rfl) | (simp [*, errW_none, errW_some] <;> rfl), by repeat (first | (with_reducible first | exact HB.out | apply below_alloc | apply pw_below_drewN | apply below_drew1) | exact HB.out)⟩
    · rw [if_neg c8] at H
      have c8b0 : (t118 == t119) = false := by simpa using c8
      (try (have c8b1 : decide (t118 = t119) = false := by simpa using c8))
      (try (have c8b2 : (t118 == t119) = false := by simpa using c8))
      (try (have c8b3 : ¬ (t118 = t119) := by simpa using c8))
      clear c8
      obtain rfl := Option.some.inj H
      go_enter Tryd.func3, Tryd.ntmps3
      go_wp2_with (first | ((with_reducible refine gate_callee (f := 9) rfl ?_); refine goesL_ (some 7) rfl rfl Tryd.func9 (by kernel_rfl) rfl #[.int .i64 a0, .int .i64 a1] rfl (by (try simp only [List.map_toArray, List.map_cons, List.map_nil]); first | done | rfl | (simp only [List.length_drop, List.length_take]; rfl)) ?_; (with_reducible refine (kind_Wrap.calls a0 a1 t116 _ A3.out).mono ?_); rintro e w' ⟨rfl, ⟨nd, rfl⟩⟩; refine ⟨_, rfl, ?_⟩) | ((with_reducible refine gate_callee (f := 10) rfl ?_); refine goesL_ (some 10) rfl rfl Tryd.func10 (by kernel_rfl) rfl #[.int .i64 a0, .int .i64 a1] rfl (by (try simp only [List.map_toArray, List.map_cons, List.map_nil]); first | done | rfl | (simp only [List.length_drop, List.length_take]; rfl)) ?_; (with_reducible refine (ladderbackref01_Wrap.calls a0 a1 t117 _ A4.out).mono ?_); rintro e w' ⟨rfl, ⟨nd, rfl⟩⟩; refine ⟨_, rfl, ?_⟩) | (go_at_call 11; (with_reducible refine (kind_In.calls a0 a1 t118 _ A6.out).mono ?_); rintro e w' ⟨rfl, ⟨nd, rfl⟩⟩) | (go_at_call 12; (with_reducible refine (ladderbackref01_In.calls a0 a1 t119 _ A7.out).mono ?_); rintro e w' ⟨rfl, ⟨nd, rfl⟩⟩))
      go_ret
      exact ⟨by first | rfl | (simp [errW_none, errW_some] <;> rfl) | (simp [*, errW_none, errW_some] <;> rfl), by repeat (first | (with_reducible first | exact HB.out | apply below_alloc | apply pw_below_drewN | apply below_drew1) | exact HB.out)⟩
  · rw [if_neg c5] at H
    have c5b0 : (t116 == t117) = false := beq_eq_false_iff_ne.mpr c5
    have c5b1 : (t116 != t117) = true := bne_iff_ne.mpr c5
    obtain rfl := Option.some.inj H
    go_enter Tryd.func3, Tryd.ntmps3
    go_wp2_with (first | ((with_reducible refine gate_callee (f := 9) rfl ?_); refine goesL_ (some 7) rfl rfl Tryd.func9 (by kernel_rfl) rfl #[.int .i64 a0, .int .i64 a1] rfl (by (try simp only [List.map_toArray, List.map_cons, List.map_nil]); first | done | rfl | (simp only [List.length_drop, List.length_take]; rfl)) ?_; (with_reducible refine (kind_Wrap.calls a0 a1 t116 _ A3.out).mono ?_); rintro e w' ⟨rfl, ⟨nd, rfl⟩⟩; refine ⟨_, rfl, ?_⟩) | ((with_reducible refine gate_callee (f := 10) rfl ?_); refine goesL_ (some 10) rfl rfl Tryd.func10 (by kernel_rfl) rfl #[.int .i64 a0, .int .i64 a1] rfl (by (try simp only [List.map_toArray, List.map_cons, List.map_nil]); first | done | rfl | (simp only [List.length_drop, List.length_take]; rfl)) ?_; (with_reducible refine (ladderbackref01_Wrap.calls a0 a1 t117 _ A4.out).mono ?_); rintro e w' ⟨rfl, ⟨nd, rfl⟩⟩; refine ⟨_, rfl, ?_⟩))
    go_ret
    exact ⟨by first | rfl | (simp [errW_none, errW_some] <;> rfl) | (simp [*, errW_none, errW_some] <;> rfl), by repeat (first | (with_reducible first | exact HB.out | apply below_alloc | apply pw_below_drewN | apply below_drew1) | exact HB.out)⟩

/-- THE ONE PURE STATEMENT of ladderbacklaw01_KindWraps: yours. -/
def ladderbacklaw01_KindWraps.Pure : Prop := ∀ (a0 : Int) (a1 : Int), (Lit.int .i64 a0).wf = true → (Lit.int .i64 a1).wf = true → ladderbacklaw01_KindWraps.f a0 a1 = some true
theorem ladderbacklaw01_KindWraps.walk (P : ladderbacklaw01_KindWraps.Pure) (a0 : Int) (a1 : Int) (w : World) (w0 : (Lit.int .i64 a0).wf = true) (w1 : (Lit.int .i64 a1).wf = true) (hL_ : LaidRows w) :
    Calls Tryd.prog 3 #[.int .i64 a0, .int .i64 a1] w fun e w' => e = .returned (.bool true) ∧ Below w.heap.size w w' := by
  have HL_ := Aside0.mk hL_
  clear hL_
  have h := P a0 a1 w0 w1
  refine (ladderbacklaw01_KindWraps.calls a0 a1 true w h HL_.out).mono ?_
  rintro e w' ⟨rfl, hd⟩
  exact ⟨rfl, hd⟩

/-! ### ladderbacklaw01_KindStays: function 4 -/
def ladderbacklaw01_KindStays.j0 : Nat → Int → Int → Int → Int → Int → Bool → Option (Bool)
  | 0, _, _, _, _, _, _ => none
  | k + 1, x0, x1, x2, x7, x8, x38 => if x38 = true then (some false) else (if x0 = 1 then ((ladderbacklaw01_awake.f).bind fun t127 => (some t127)) else ((kind_Wrap.f x0 (wrap64 (x7 + x8))).bind fun t128 => ((kind_Wrap.f x0 (wrap64 (x1 + x2))).bind fun t129 => (if t128 = t129 then ((kind_Wrap.f x0 (wrap64 (x7 * x8))).bind fun t130 => ((kind_Wrap.f x0 (wrap64 (x1 * x2))).bind fun t131 => (if t130 = t131 then ((ladderbacklaw01_awake.f).bind fun t132 => (some t132)) else (some false)))) else (some false)))))
def ladderbacklaw01_KindStays.f (k : Nat) (a0 : Int) (a1 : Int) (a2 : Int) : Option (Bool) := (kind_Wrap.f a0 a1).bind fun t121 => ((kind_Wrap.f a0 a2).bind fun t122 => ((kind_Right.f a0).bind fun t123 => (if t123 = true then ((kind_In.f a0 t121).bind fun t124 => (if t124 = true then ((kind_Wrap.f a0 t121).bind fun t125 => (if t125 = t121 then ((kind_In.f a0 a1).bind fun t126 => (ladderbacklaw01_KindStays.j0 k a0 a1 a2 t121 t122 (t126 != (t121 == a1)))) else (ladderbacklaw01_KindStays.j0 k a0 a1 a2 t121 t122 true))) else (ladderbacklaw01_KindStays.j0 k a0 a1 a2 t121 t122 true))) else (ladderbacklaw01_KindStays.j0 k a0 a1 a2 t121 t122 false))))
theorem ladderbacklaw01_KindStays.mono_l : ∀ k, (∀ y0 y1 y2 y3 y4 y5, LeO (ladderbacklaw01_KindStays.j0 k y0 y1 y2 y3 y4 y5) (ladderbacklaw01_KindStays.j0 (k + 1) y0 y1 y2 y3 y4 y5))
  | 0 => fun _ _ _ _ _ _ r h => by simp [ladderbacklaw01_KindStays.j0] at h
  | k + 1 => by
    have ih0 := ladderbacklaw01_KindStays.mono_l k
    · intro y0 y1 y2 y3 y4 y5
      unfold ladderbacklaw01_KindStays.j0
      repeat' first
      | (with_reducible exact ih0 _ _ _ _ _ _)
      | (with_reducible exact LeO.refl _)
      | (with_reducible exact LeO.none _)
      | (with_reducible refine LeO.ite ?_ ?_)
      | (with_reducible refine LeO.bind ?_ (fun _ => ?_))
      | exact ih0 _ _ _ _ _ _
      | exact LeO.none _
      | refine LeO.ite ?_ ?_
      | refine LeO.bind ?_ (fun _ => ?_)
theorem ladderbacklaw01_KindStays.mono : ∀ a0 a1 a2 k, LeO (ladderbacklaw01_KindStays.f k a0 a1 a2) (ladderbacklaw01_KindStays.f (k + 1) a0 a1 a2) := by
  intro a0 a1 a2 k
  have ih0 := ladderbacklaw01_KindStays.mono_l k
  unfold ladderbacklaw01_KindStays.f
  repeat' first
      | (with_reducible exact ih0 _ _ _ _ _ _)
      | (with_reducible exact LeO.refl _)
      | (with_reducible exact LeO.none _)
      | (with_reducible refine LeO.ite ?_ ?_)
      | (with_reducible refine LeO.bind ?_ (fun _ => ?_))
      | exact ih0 _ _ _ _ _ _
      | exact LeO.none _
      | refine LeO.ite ?_ ?_
      | refine LeO.bind ?_ (fun _ => ?_)
set_option maxHeartbeats 8000000 in
set_option maxRecDepth 100000 in
theorem ladderbacklaw01_KindStays.calls (k : Nat) (a0 : Int) (a1 : Int) (a2 : Int) (r : Bool) (w : World) (h : ladderbacklaw01_KindStays.f k a0 a1 a2 = some r) (hL_ : LaidRows w) :
    Calls Tryd.prog 4 #[.int .i64 a0, .int .i64 a1, .int .i64 a2] w fun e w' => e = .returned (.bool r) ∧ Below w.heap.size w w' := by
  have HL_ := Aside0.mk hL_
  clear hL_
  have HB := Aside0.mk (Below.refl w.heap.size w)
  have H : ((kind_Wrap.f a0 a1).bind fun t121 => ((kind_Wrap.f a0 a2).bind fun t122 => ((kind_Right.f a0).bind fun t123 => (if t123 = true then ((kind_In.f a0 t121).bind fun t124 => (if t124 = true then ((kind_Wrap.f a0 t121).bind fun t125 => (if t125 = t121 then ((kind_In.f a0 a1).bind fun t126 => (ladderbacklaw01_KindStays.j0 k a0 a1 a2 t121 t122 (t126 != (t121 == a1)))) else (ladderbacklaw01_KindStays.j0 k a0 a1 a2 t121 t122 true))) else (ladderbacklaw01_KindStays.j0 k a0 a1 a2 t121 t122 true))) else (ladderbacklaw01_KindStays.j0 k a0 a1 a2 t121 t122 false))))) = some r := h
  clear h
  replace H := Option.bind_eq_some_iff.mp H
  obtain ⟨t121, A40, H⟩ := H
  replace H : ((kind_Wrap.f a0 a2).bind fun t122 => ((kind_Right.f a0).bind fun t123 => (if t123 = true then ((kind_In.f a0 t121).bind fun t124 => (if t124 = true then ((kind_Wrap.f a0 t121).bind fun t125 => (if t125 = t121 then ((kind_In.f a0 a1).bind fun t126 => (ladderbacklaw01_KindStays.j0 k a0 a1 a2 t121 t122 (t126 != (t121 == a1)))) else (ladderbacklaw01_KindStays.j0 k a0 a1 a2 t121 t122 true))) else (ladderbacklaw01_KindStays.j0 k a0 a1 a2 t121 t122 true))) else (ladderbacklaw01_KindStays.j0 k a0 a1 a2 t121 t122 false)))) = some r := H
  have A4 := Aside0.mk A40
  clear A40
  replace H := Option.bind_eq_some_iff.mp H
  obtain ⟨t122, A50, H⟩ := H
  replace H : ((kind_Right.f a0).bind fun t123 => (if t123 = true then ((kind_In.f a0 t121).bind fun t124 => (if t124 = true then ((kind_Wrap.f a0 t121).bind fun t125 => (if t125 = t121 then ((kind_In.f a0 a1).bind fun t126 => (ladderbacklaw01_KindStays.j0 k a0 a1 a2 t121 t122 (t126 != (t121 == a1)))) else (ladderbacklaw01_KindStays.j0 k a0 a1 a2 t121 t122 true))) else (ladderbacklaw01_KindStays.j0 k a0 a1 a2 t121 t122 true))) else (ladderbacklaw01_KindStays.j0 k a0 a1 a2 t121 t122 false))) = some r := H
  have A5 := Aside0.mk A50
  clear A50
  have HC6 := Aside0.mk H
  clear H
  go_enter Tryd.func4, Tryd.ntmps4
  go_upto_region 2 with (first | ((with_reducible refine gate_callee (f := 9) rfl ?_); refine goesL_ (some 11) rfl rfl Tryd.func9 (by kernel_rfl) rfl #[.int .i64 a0, .int .i64 a1] rfl (by (try simp only [List.map_toArray, List.map_cons, List.map_nil]); first | done | rfl | (simp only [List.length_drop, List.length_take]; rfl)) ?_; (with_reducible refine (kind_Wrap.calls a0 a1 t121 _ A4.out).mono ?_); rintro e w' ⟨rfl, ⟨nd, rfl⟩⟩; refine ⟨_, rfl, ?_⟩) | ((with_reducible refine gate_callee (f := 9) rfl ?_); refine goesL_ (some 14) rfl rfl Tryd.func9 (by kernel_rfl) rfl #[.int .i64 a0, .int .i64 a2] rfl (by (try simp only [List.map_toArray, List.map_cons, List.map_nil]); first | done | rfl | (simp only [List.length_drop, List.length_take]; rfl)) ?_; (with_reducible refine (kind_Wrap.calls a0 a2 t122 _ A5.out).mono ?_); rintro e w' ⟨rfl, ⟨nd, rfl⟩⟩; refine ⟨_, rfl, ?_⟩))
  (try simp only [Act.put, List.setIfInBounds_toArray, List.set_cons_zero, List.set_cons_succ])
  go_cut [38] (fun v38 wc => ∃ (kq : Nat) (x38_5 : Bool), v38 = .bool x38_5 ∧ Aside0 (ladderbacklaw01_KindStays.j0 kq a0 a1 a2 t121 t122 x38_5 = some r) ∧ Aside0 (kq ≤ k) ∧ Aside0 (Below w.heap.size w wc))
  case first =>
    have H := HC6.out
    clear HC6
    replace H := Option.bind_eq_some_iff.mp H
    obtain ⟨t123, A70, H⟩ := H
    replace H : (if t123 = true then ((kind_In.f a0 t121).bind fun t124 => (if t124 = true then ((kind_Wrap.f a0 t121).bind fun t125 => (if t125 = t121 then ((kind_In.f a0 a1).bind fun t126 => (ladderbacklaw01_KindStays.j0 k a0 a1 a2 t121 t122 (t126 != (t121 == a1)))) else (ladderbacklaw01_KindStays.j0 k a0 a1 a2 t121 t122 true))) else (ladderbacklaw01_KindStays.j0 k a0 a1 a2 t121 t122 true))) else (ladderbacklaw01_KindStays.j0 k a0 a1 a2 t121 t122 false)) = some r := H
    have A7 := Aside0.mk A70
    clear A70
    by_cases c8 : t123 = true
    · subst c8
      have H1 : ((kind_In.f a0 t121).bind fun t124 => (if t124 = true then ((kind_Wrap.f a0 t121).bind fun t125 => (if t125 = t121 then ((kind_In.f a0 a1).bind fun t126 => (ladderbacklaw01_KindStays.j0 k a0 a1 a2 t121 t122 (t126 != (t121 == a1)))) else (ladderbacklaw01_KindStays.j0 k a0 a1 a2 t121 t122 true))) else (ladderbacklaw01_KindStays.j0 k a0 a1 a2 t121 t122 true))) = some r := by rw [if_pos rfl] at H; exact H
      clear H
      have H := H1
      clear H1
      replace H := Option.bind_eq_some_iff.mp H
      obtain ⟨t124, A90, H⟩ := H
      replace H : (if t124 = true then ((kind_Wrap.f a0 t121).bind fun t125 => (if t125 = t121 then ((kind_In.f a0 a1).bind fun t126 => (ladderbacklaw01_KindStays.j0 k a0 a1 a2 t121 t122 (t126 != (t121 == a1)))) else (ladderbacklaw01_KindStays.j0 k a0 a1 a2 t121 t122 true))) else (ladderbacklaw01_KindStays.j0 k a0 a1 a2 t121 t122 true)) = some r := H
      have A9 := Aside0.mk A90
      clear A90
      by_cases c10 : t124 = true
      · subst c10
        have H1 : ((kind_Wrap.f a0 t121).bind fun t125 => (if t125 = t121 then ((kind_In.f a0 a1).bind fun t126 => (ladderbacklaw01_KindStays.j0 k a0 a1 a2 t121 t122 (t126 != (t121 == a1)))) else (ladderbacklaw01_KindStays.j0 k a0 a1 a2 t121 t122 true))) = some r := by rw [if_pos rfl] at H; exact H
        clear H
        have H := H1
        clear H1
        replace H := Option.bind_eq_some_iff.mp H
        obtain ⟨t125, A110, H⟩ := H
        replace H : (if t125 = t121 then ((kind_In.f a0 a1).bind fun t126 => (ladderbacklaw01_KindStays.j0 k a0 a1 a2 t121 t122 (t126 != (t121 == a1)))) else (ladderbacklaw01_KindStays.j0 k a0 a1 a2 t121 t122 true)) = some r := H
        have A11 := Aside0.mk A110
        clear A110
        by_cases c12 : t125 = t121
        · rw [if_pos c12] at H
          have c12b0 : (t125 == t121) = true := beq_iff_eq.mpr c12
          have c12b1 : (t125 != t121) = false := bne_eq_false_iff_eq.mpr c12
          clear c12
          (first | rw [c12b0] | (simp only [i64_w, i32_w]; rw [c12b0]) | skip)
          replace H := Option.bind_eq_some_iff.mp H
          obtain ⟨t126, A130, H⟩ := H
          replace H : (ladderbacklaw01_KindStays.j0 k a0 a1 a2 t121 t122 (t126 != (t121 == a1))) = some r := H
          have A13 := Aside0.mk A130
          clear A130
          have H' := Aside0.mk H
          clear H
          go_wp2_with (first | ((with_reducible refine gate_callee (f := 14) rfl ?_); refine goesL_ (some 16) rfl rfl Tryd.func14 (by kernel_rfl) rfl #[.int .i64 a0] rfl (by (try simp only [List.map_toArray, List.map_cons, List.map_nil]); first | done | rfl | (simp only [List.length_drop, List.length_take]; rfl)) ?_; (with_reducible refine (kind_Right.calls a0 true _ A7.out).mono ?_); rintro e w' ⟨rfl, ⟨nd, rfl⟩⟩; refine ⟨_, rfl, ?_⟩) | (go_at_call 11; (with_reducible refine (kind_In.calls a0 t121 true _ A9.out).mono ?_); rintro e w' ⟨rfl, ⟨nd, rfl⟩⟩) | (go_at_call 9; (with_reducible refine (kind_Wrap.calls a0 t121 t125 _ A11.out).mono ?_); rintro e w' ⟨rfl, ⟨nd, rfl⟩⟩) | (go_at_call 11; (with_reducible refine (kind_In.calls a0 a1 t126 _ A13.out).mono ?_); rintro e w' ⟨rfl, ⟨nd, rfl⟩⟩))
          go_meet
          case rel => exact ⟨_, ((t126 != (t121 == a1))), (by first | rfl | (simp; done) | (simp [*]; done)), H', ⟨by first | omega | exact Nat.le_refl _⟩, ⟨by repeat (first | (with_reducible first | exact HB.out | apply below_alloc | apply pw_below_drewN | apply below_drew1) | exact HB.out)⟩⟩
        · rw [if_neg c12] at H
          have c12b0 : (t125 == t121) = false := beq_eq_false_iff_ne.mpr c12
          have c12b1 : (t125 != t121) = true := bne_iff_ne.mpr c12
          (first | rw [c12b0] | (simp only [i64_w, i32_w]; rw [c12b0]) | skip)
          have H' := Aside0.mk H
          clear H
          go_wp2_with (first | ((with_reducible refine gate_callee (f := 14) rfl ?_); refine goesL_ (some 16) rfl rfl Tryd.func14 (by kernel_rfl) rfl #[.int .i64 a0] rfl (by (try simp only [List.map_toArray, List.map_cons, List.map_nil]); first | done | rfl | (simp only [List.length_drop, List.length_take]; rfl)) ?_; (with_reducible refine (kind_Right.calls a0 true _ A7.out).mono ?_); rintro e w' ⟨rfl, ⟨nd, rfl⟩⟩; refine ⟨_, rfl, ?_⟩) | (go_at_call 11; (with_reducible refine (kind_In.calls a0 t121 true _ A9.out).mono ?_); rintro e w' ⟨rfl, ⟨nd, rfl⟩⟩) | (go_at_call 9; (with_reducible refine (kind_Wrap.calls a0 t121 t125 _ A11.out).mono ?_); rintro e w' ⟨rfl, ⟨nd, rfl⟩⟩))
          go_meet
          case rel => exact ⟨_, (true), (by first | rfl | (simp; done) | (simp [*]; done)), H', ⟨by first | omega | exact Nat.le_refl _⟩, ⟨by repeat (first | (with_reducible first | exact HB.out | apply below_alloc | apply pw_below_drewN | apply below_drew1) | exact HB.out)⟩⟩
      · replace c10 := Bool.eq_false_iff.mpr c10
        subst c10
        have H1 : (ladderbacklaw01_KindStays.j0 k a0 a1 a2 t121 t122 true) = some r := by rw [if_neg (show ¬ (false = true) by decide)] at H; exact H
        clear H
        have H := H1
        clear H1
        have H' := Aside0.mk H
        clear H
        go_wp2_with (first | ((with_reducible refine gate_callee (f := 14) rfl ?_); refine goesL_ (some 16) rfl rfl Tryd.func14 (by kernel_rfl) rfl #[.int .i64 a0] rfl (by (try simp only [List.map_toArray, List.map_cons, List.map_nil]); first | done | rfl | (simp only [List.length_drop, List.length_take]; rfl)) ?_; (with_reducible refine (kind_Right.calls a0 true _ A7.out).mono ?_); rintro e w' ⟨rfl, ⟨nd, rfl⟩⟩; refine ⟨_, rfl, ?_⟩) | (go_at_call 11; (with_reducible refine (kind_In.calls a0 t121 false _ A9.out).mono ?_); rintro e w' ⟨rfl, ⟨nd, rfl⟩⟩))
        go_meet
        case rel => exact ⟨_, (true), (by first | rfl | (simp; done) | (simp [*]; done)), H', ⟨by first | omega | exact Nat.le_refl _⟩, ⟨by repeat (first | (with_reducible first | exact HB.out | apply below_alloc | apply pw_below_drewN | apply below_drew1) | exact HB.out)⟩⟩
    · replace c8 := Bool.eq_false_iff.mpr c8
      subst c8
      have H1 : (ladderbacklaw01_KindStays.j0 k a0 a1 a2 t121 t122 false) = some r := by rw [if_neg (show ¬ (false = true) by decide)] at H; exact H
      clear H
      have H := H1
      clear H1
      have H' := Aside0.mk H
      clear H
      go_wp2_with (first | ((with_reducible refine gate_callee (f := 14) rfl ?_); refine goesL_ (some 16) rfl rfl Tryd.func14 (by kernel_rfl) rfl #[.int .i64 a0] rfl (by (try simp only [List.map_toArray, List.map_cons, List.map_nil]); first | done | rfl | (simp only [List.length_drop, List.length_take]; rfl)) ?_; (with_reducible refine (kind_Right.calls a0 false _ A7.out).mono ?_); rintro e w' ⟨rfl, ⟨nd, rfl⟩⟩; refine ⟨_, rfl, ?_⟩))
      go_meet
      case rel => exact ⟨_, (false), (by first | rfl | (simp; done) | (simp [*]; done)), H', ⟨by first | omega | exact Nat.le_refl _⟩, ⟨by repeat (first | (with_reducible first | exact HB.out | apply below_alloc | apply pw_below_drewN | apply below_drew1) | exact HB.out)⟩⟩
  case rest =>
    clear HC6
    try clear c1
    try clear p2
    try clear c4
    try clear c8
    try clear c9
    try clear c10
    try clear c12
    try clear c12b0
    try clear c12b1
    obtain ⟨kq, x38_5, rfl, HA, HJ5, HB⟩ := hcut
    cases kq with
    | zero => exact absurd HA.out (by simp [ladderbacklaw01_KindStays.j0])
    | succ kj5 =>
      have H := HA.out
      clear HA
      simp only [ladderbacklaw01_KindStays.j0] at H
      by_cases c14 : x38_5 = true
      · subst c14
        have H1 : (some false) = some r := by rw [if_pos rfl] at H; exact H
        clear H
        have H := H1
        clear H1
        obtain rfl := Option.some.inj H
        go_wp2
        go_ret
        exact ⟨by first | rfl | (simp [errW_none, errW_some] <;> rfl) | (simp [*, errW_none, errW_some] <;> rfl), by repeat (first | (with_reducible first | exact HB.out | apply below_alloc | apply pw_below_drewN | apply below_drew1) | exact HB.out)⟩
      · replace c14 := Bool.eq_false_iff.mpr c14
        subst c14
        have H1 : (if a0 = 1 then ((ladderbacklaw01_awake.f).bind fun t127 => (some t127)) else ((kind_Wrap.f a0 (wrap64 (t121 + t122))).bind fun t128 => ((kind_Wrap.f a0 (wrap64 (a1 + a2))).bind fun t129 => (if t128 = t129 then ((kind_Wrap.f a0 (wrap64 (t121 * t122))).bind fun t130 => ((kind_Wrap.f a0 (wrap64 (a1 * a2))).bind fun t131 => (if t130 = t131 then ((ladderbacklaw01_awake.f).bind fun t132 => (some t132)) else (some false)))) else (some false))))) = some r := by rw [if_neg (show ¬ (false = true) by decide)] at H; exact H
        clear H
        have H := H1
        clear H1
        by_cases c15 : a0 = 1
        · rw [if_pos c15] at H
          have c15b0 : (a0 == 1) = true := beq_iff_eq.mpr c15
          have c15b1 : (a0 != 1) = false := bne_eq_false_iff_eq.mpr c15
          clear c15
          replace H := Option.bind_eq_some_iff.mp H
          obtain ⟨t127, A160, H⟩ := H
          replace H : (some t127) = some r := H
          have A16 := Aside0.mk A160
          clear A160
          obtain rfl := Option.some.inj H
          go_wp2_with (first | (go_at_call 13; (with_reducible refine (ladderbacklaw01_awake.calls  t127 _ A16.out (LaidRows.below HL_.out (by repeat (first | (with_reducible first | exact HB.out | apply below_alloc | apply pw_below_drewN | apply below_drew1) | exact HB.out)))).mono ?_); rintro e w17 ⟨rfl, hb⟩; have n0_ := Aside0.mk (below_step (by repeat (first | (with_reducible first | exact HB.out | apply below_alloc | apply pw_below_drewN | apply below_drew1) | exact HB.out)) hb); clear HB; have HB := n0_; clear n0_; (try clear hb); (try clear hb2); (try clear hk); (try clear hi)))
          go_ret
          exact ⟨by first | rfl | (simp [errW_none, errW_some] <;> rfl) | (simp [*, errW_none, errW_some] <;> rfl), by repeat (first | (with_reducible first | exact HB.out | apply below_alloc | apply pw_below_drewN | apply below_drew1) | exact HB.out)⟩
        · rw [if_neg c15] at H
          have c15b0 : (a0 == 1) = false := beq_eq_false_iff_ne.mpr c15
          have c15b1 : (a0 != 1) = true := bne_iff_ne.mpr c15
          replace H := Option.bind_eq_some_iff.mp H
          obtain ⟨t128, A180, H⟩ := H
          replace H : ((kind_Wrap.f a0 (wrap64 (a1 + a2))).bind fun t129 => (if t128 = t129 then ((kind_Wrap.f a0 (wrap64 (t121 * t122))).bind fun t130 => ((kind_Wrap.f a0 (wrap64 (a1 * a2))).bind fun t131 => (if t130 = t131 then ((ladderbacklaw01_awake.f).bind fun t132 => (some t132)) else (some false)))) else (some false))) = some r := H
          have A18 := Aside0.mk A180
          clear A180
          replace H := Option.bind_eq_some_iff.mp H
          obtain ⟨t129, A190, H⟩ := H
          replace H : (if t128 = t129 then ((kind_Wrap.f a0 (wrap64 (t121 * t122))).bind fun t130 => ((kind_Wrap.f a0 (wrap64 (a1 * a2))).bind fun t131 => (if t130 = t131 then ((ladderbacklaw01_awake.f).bind fun t132 => (some t132)) else (some false)))) else (some false)) = some r := H
          have A19 := Aside0.mk A190
          clear A190
          by_cases c20 : t128 = t129
          · rw [if_pos c20] at H
            have c20b0 : (t128 == t129) = true := beq_iff_eq.mpr c20
            have c20b1 : (t128 != t129) = false := bne_eq_false_iff_eq.mpr c20
            clear c20
            replace H := Option.bind_eq_some_iff.mp H
            obtain ⟨t130, A210, H⟩ := H
            replace H : ((kind_Wrap.f a0 (wrap64 (a1 * a2))).bind fun t131 => (if t130 = t131 then ((ladderbacklaw01_awake.f).bind fun t132 => (some t132)) else (some false))) = some r := H
            have A21 := Aside0.mk A210
            clear A210
            replace H := Option.bind_eq_some_iff.mp H
            obtain ⟨t131, A220, H⟩ := H
            replace H : (if t130 = t131 then ((ladderbacklaw01_awake.f).bind fun t132 => (some t132)) else (some false)) = some r := H
            have A22 := Aside0.mk A220
            clear A220
            by_cases c23 : t130 = t131
            · rw [if_pos c23] at H
              have c23b0 : (t130 == t131) = true := beq_iff_eq.mpr c23
              have c23b1 : (t130 != t131) = false := bne_eq_false_iff_eq.mpr c23
              clear c23
              replace H := Option.bind_eq_some_iff.mp H
              obtain ⟨t132, A240, H⟩ := H
              replace H : (some t132) = some r := H
              have A24 := Aside0.mk A240
              clear A240
              obtain rfl := Option.some.inj H
              go_wp2_with (first | (go_at_call 9; (with_reducible refine (kind_Wrap.calls a0 (wrap64 (t121 + t122)) t128 _ A18.out).mono ?_); rintro e w' ⟨rfl, ⟨nd, rfl⟩⟩) | (go_at_call 9; (with_reducible refine (kind_Wrap.calls a0 (wrap64 (a1 + a2)) t129 _ A19.out).mono ?_); rintro e w' ⟨rfl, ⟨nd, rfl⟩⟩) | (go_at_call 9; (with_reducible refine (kind_Wrap.calls a0 (wrap64 (t121 * t122)) t130 _ A21.out).mono ?_); rintro e w' ⟨rfl, ⟨nd, rfl⟩⟩) | (go_at_call 9; (with_reducible refine (kind_Wrap.calls a0 (wrap64 (a1 * a2)) t131 _ A22.out).mono ?_); rintro e w' ⟨rfl, ⟨nd, rfl⟩⟩) | (go_at_call 13; (with_reducible refine (ladderbacklaw01_awake.calls  t132 _ A24.out (LaidRows.below HL_.out (by repeat (first | (with_reducible first | exact HB.out | apply below_alloc | apply pw_below_drewN | apply below_drew1) | exact HB.out)))).mono ?_); rintro e w25 ⟨rfl, hb⟩; have n0_ := Aside0.mk (below_step (by repeat (first | (with_reducible first | exact HB.out | apply below_alloc | apply pw_below_drewN | apply below_drew1) | exact HB.out)) hb); clear HB; have HB := n0_; clear n0_; (try clear hb); (try clear hb2); (try clear hk); (try clear hi)))
              go_ret
              exact ⟨by first | rfl | (simp [errW_none, errW_some] <;> rfl) | (simp [*, errW_none, errW_some] <;> rfl), by repeat (first | (with_reducible first | exact HB.out | apply below_alloc | apply pw_below_drewN | apply below_drew1) | exact HB.out)⟩
            · rw [if_neg c23] at H
              have c23b0 : (t130 == t131) = false := beq_eq_false_iff_ne.mpr c23
              have c23b1 : (t130 != t131) = true := bne_iff_ne.mpr c23
              obtain rfl := Option.some.inj H
              go_wp2_with (first | (go_at_call 9; (with_reducible refine (kind_Wrap.calls a0 (wrap64 (t121 + t122)) t128 _ A18.out).mono ?_); rintro e w' ⟨rfl, ⟨nd, rfl⟩⟩) | (go_at_call 9; (with_reducible refine (kind_Wrap.calls a0 (wrap64 (a1 + a2)) t129 _ A19.out).mono ?_); rintro e w' ⟨rfl, ⟨nd, rfl⟩⟩) | (go_at_call 9; (with_reducible refine (kind_Wrap.calls a0 (wrap64 (t121 * t122)) t130 _ A21.out).mono ?_); rintro e w' ⟨rfl, ⟨nd, rfl⟩⟩) | (go_at_call 9; (with_reducible refine (kind_Wrap.calls a0 (wrap64 (a1 * a2)) t131 _ A22.out).mono ?_); rintro e w' ⟨rfl, ⟨nd, rfl⟩⟩))
              go_ret
              exact ⟨by first | rfl | (simp [errW_none, errW_some] <;> rfl) | (simp [*, errW_none, errW_some] <;> rfl), by repeat (first | (with_reducible first | exact HB.out | apply below_alloc | apply pw_below_drewN | apply below_drew1) | exact HB.out)⟩
          · rw [if_neg c20] at H
            have c20b0 : (t128 == t129) = false := beq_eq_false_iff_ne.mpr c20
            have c20b1 : (t128 != t129) = true := bne_iff_ne.mpr c20
            obtain rfl := Option.some.inj H
            go_wp2_with (first | (go_at_call 9; (with_reducible refine (kind_Wrap.calls a0 (wrap64 (t121 + t122)) t128 _ A18.out).mono ?_); rintro e w' ⟨rfl, ⟨nd, rfl⟩⟩) | (go_at_call 9; (with_reducible refine (kind_Wrap.calls a0 (wrap64 (a1 + a2)) t129 _ A19.out).mono ?_); rintro e w' ⟨rfl, ⟨nd, rfl⟩⟩))
            go_ret
            exact ⟨by first | rfl | (simp [errW_none, errW_some] <;> rfl) | (simp [*, errW_none, errW_some] <;> rfl), by repeat (first | (with_reducible first | exact HB.out | apply below_alloc | apply pw_below_drewN | apply below_drew1) | exact HB.out)⟩

/-- THE ONE PURE STATEMENT of ladderbacklaw01_KindStays: yours. -/
def ladderbacklaw01_KindStays.Pure : Prop := ∀ (a0 : Int) (a1 : Int) (a2 : Int), (Lit.int .i64 a0).wf = true → (Lit.int .i64 a1).wf = true → (Lit.int .i64 a2).wf = true → ∃ k, ladderbacklaw01_KindStays.f k a0 a1 a2 = some true
theorem ladderbacklaw01_KindStays.walk (P : ladderbacklaw01_KindStays.Pure) (a0 : Int) (a1 : Int) (a2 : Int) (w : World) (w0 : (Lit.int .i64 a0).wf = true) (w1 : (Lit.int .i64 a1).wf = true) (w2 : (Lit.int .i64 a2).wf = true) (hL_ : LaidRows w) :
    Calls Tryd.prog 4 #[.int .i64 a0, .int .i64 a1, .int .i64 a2] w fun e w' => e = .returned (.bool true) ∧ Below w.heap.size w w' := by
  have HL_ := Aside0.mk hL_
  clear hL_
  obtain ⟨k, h⟩ := P a0 a1 a2 w0 w1 w2
  refine (ladderbacklaw01_KindStays.calls k a0 a1 a2 true w h HL_.out).mono ?_
  rintro e w' ⟨rfl, hd⟩
  exact ⟨rfl, hd⟩

/-! ### ladderbackref01_names: function 40 -/
def ladderbackref01_names.f  : Option (List ByteArray) := some (([(⟨#[]⟩ : ByteArray), (⟨#[66, 79, 79, 76]⟩ : ByteArray), (⟨#[73, 78, 84]⟩ : ByteArray), (⟨#[68, 73, 78, 84]⟩ : ByteArray), (⟨#[87, 79, 82, 68]⟩ : ByteArray), (⟨#[68, 87, 79, 82, 68]⟩ : ByteArray), (⟨#[84, 73, 77, 69]⟩ : ByteArray)] : List ByteArray))
set_option maxHeartbeats 8000000 in
set_option maxRecDepth 100000 in
theorem ladderbackref01_names.calls  (r : List ByteArray) (w : World) (h : ladderbackref01_names.f  = some r) :
    Calls Tryd.prog 40 #[] w fun e w' => ∃ v0_ : Value, e = .returned (v0_) ∧ Kd.R Kd.string 9 w' w.heap.size (fun _ => True) v0_ r ∧ Below w.heap.size w w' := by
  have HB := Aside0.mk (Below.refl w.heap.size w)
  have H : (some (([(⟨#[]⟩ : ByteArray), (⟨#[66, 79, 79, 76]⟩ : ByteArray), (⟨#[73, 78, 84]⟩ : ByteArray), (⟨#[68, 73, 78, 84]⟩ : ByteArray), (⟨#[87, 79, 82, 68]⟩ : ByteArray), (⟨#[68, 87, 79, 82, 68]⟩ : ByteArray), (⟨#[84, 73, 77, 69]⟩ : ByteArray)] : List ByteArray))) = some r := h
  clear h
  obtain ⟨y133, hy133⟩ : ∃ y_ : List ByteArray, y_ = (([(⟨#[]⟩ : ByteArray), (⟨#[66, 79, 79, 76]⟩ : ByteArray), (⟨#[73, 78, 84]⟩ : ByteArray), (⟨#[68, 73, 78, 84]⟩ : ByteArray), (⟨#[87, 79, 82, 68]⟩ : ByteArray), (⟨#[68, 87, 79, 82, 68]⟩ : ByteArray), (⟨#[84, 73, 77, 69]⟩ : ByteArray)] : List ByteArray)) := ⟨_, rfl⟩
  replace H : (some y133) = some r := by first | (rw [hy133]; with_reducible exact H) | (have H2_ := (Option.bind_some _ _).symm.trans H; rw [hy133]; with_reducible exact H2_) | (have H2_ := (Option.bind_some _ _).symm.trans H; with_reducible exact H2_) | with_reducible exact H | (rw [hy133]; exact H) | exact H
  have Ny133 := Aside0.mk hy133
  clear hy133
  obtain rfl := Option.some.inj H
  go_enter Tryd.func40, Tryd.ntmps40
  go_wp2_with (first | ((with_reducible refine gate_dst (N := 1) rfl ?_); refine Kd.R_lit Kd.string _ 9 ?hg (N := 1) ?hd (xs := ([(⟨#[]⟩ : ByteArray), (⟨#[66, 79, 79, 76]⟩ : ByteArray), (⟨#[73, 78, 84]⟩ : ByteArray), (⟨#[68, 73, 78, 84]⟩ : ByteArray), (⟨#[87, 79, 82, 68]⟩ : ByteArray), (⟨#[68, 87, 79, 82, 68]⟩ : ByteArray), (⟨#[84, 73, 77, 69]⟩ : ByteArray)] : List ByteArray)) (inner := [.string (⟨#[]⟩ : ByteArray), .string (⟨#[66, 79, 79, 76]⟩ : ByteArray), .string (⟨#[73, 78, 84]⟩ : ByteArray), .string (⟨#[68, 73, 78, 84]⟩ : ByteArray), .string (⟨#[87, 79, 82, 68]⟩ : ByteArray), .string (⟨#[68, 87, 79, 82, 68]⟩ : ByteArray), .string (⟨#[84, 73, 77, 69]⟩ : ByteArray)]) (ok := fun _ => True) (okp := fun _ => True) ?hr ?hp (fun _ hk => hk) trivial (Below.refl _ _) (Nat.le_refl _) (by simp) ?_; (case hd => rfl); (case hg => rfl); (case hr => first | (go_simp; done) | (go_simp; rfl)); (case hp => exact (Reps.one (show Kd.M Kd.string _ _ _ (⟨#[]⟩ : ByteArray) [.string (⟨#[]⟩ : ByteArray)] from rfl) (Reps.one (show Kd.M Kd.string _ _ _ (⟨#[66, 79, 79, 76]⟩ : ByteArray) [.string (⟨#[66, 79, 79, 76]⟩ : ByteArray)] from rfl) (Reps.one (show Kd.M Kd.string _ _ _ (⟨#[73, 78, 84]⟩ : ByteArray) [.string (⟨#[73, 78, 84]⟩ : ByteArray)] from rfl) (Reps.one (show Kd.M Kd.string _ _ _ (⟨#[68, 73, 78, 84]⟩ : ByteArray) [.string (⟨#[68, 73, 78, 84]⟩ : ByteArray)] from rfl) (Reps.one (show Kd.M Kd.string _ _ _ (⟨#[87, 79, 82, 68]⟩ : ByteArray) [.string (⟨#[87, 79, 82, 68]⟩ : ByteArray)] from rfl) (Reps.one (show Kd.M Kd.string _ _ _ (⟨#[68, 87, 79, 82, 68]⟩ : ByteArray) [.string (⟨#[68, 87, 79, 82, 68]⟩ : ByteArray)] from rfl) (Reps.one (show Kd.M Kd.string _ _ _ (⟨#[84, 73, 77, 69]⟩ : ByteArray) [.string (⟨#[84, 73, 77, 69]⟩ : ByteArray)] from rfl) (Reps.none _ _))))))))); intro v134 w1 ho2 hb hg_ hnew_; clear hg_ hnew_; (first | rw [← Ny133.out] at ho2 | (simp only [Int.reduceToNat] at ho2; rw [← Ny133.out] at ho2)); have n0_ := Aside0.mk (Kd.R_lower ho2 (below_size (by repeat (first | (with_reducible first | exact HB.out | apply below_alloc | apply pw_below_drewN | apply below_drew1) | exact HB.out)))); have n1_ := Aside0.mk (below_step (by repeat (first | (with_reducible first | exact HB.out | apply below_alloc | apply pw_below_drewN | apply below_drew1) | exact HB.out)) hb); clear HB; have HO135 := n0_; have HB := n1_; clear n0_ n1_; clear hb ho2))
  go_ret
  exact ⟨_, by first | rfl | (simp [errW_none, errW_some] <;> rfl) | (simp [*, errW_none, errW_some] <;> rfl), by (with_reducible repeat (first | apply Kd.R_alloc | apply Kd.R_drewN | apply Kd.R_drew)); exact HO135.out, by repeat (first | (with_reducible first | exact HB.out | apply below_alloc | apply pw_below_drewN | apply below_drew1) | exact HB.out)⟩

end Go.Proofs.YtohdabkhafcdkaaDoor.PKind
