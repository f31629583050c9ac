/- Printed by a program of this session (wip/pg.py, over the print of the kit): functions, their Lean twins, and the proofs that the calls come to them; each under the conditions that it names. -/
import Derived.Test.YtohdabkhafcdkaaDoorPAlux0
import Derived.Test.YtohdabkhafcdkaaDoorPAlux3
namespace Go.Proofs.YtohdabkhafcdkaaDoor.PAlu
open Go.Proofs.YtohdabkhafcdkaaDoor.Given
open Go.RowKit Go.Proofs.YtohdabkhafcdkaaDoorW.PrintWords Go.Proofs.YtohdabkhafcdkaaDoorW.PrintLast Go.Proofs.YtohdabkhafcdkaaDoorW.PrintMore
attribute [local go_sem] max2_int min2_int max_two min_two max_three min_three max_four min_four   -- for this text's walks alone
set_option linter.unusedVariables false
set_option linter.unusedSimpArgs false

/-! ### ladderbackref07_Binary: function 29 -/
def ladderbackref07_Binary.f (a0 : Int) : Option (Bool) := if a0 ≥ 8 then (if a0 ≤ 25 then (if a0 = 13 then (some false) else (some (a0 != 17))) else (some false)) else (some false)
set_option maxHeartbeats 8000000 in
set_option maxRecDepth 100000 in
theorem ladderbackref07_Binary.calls (a0 : Int) (r : Bool) (w : World) (h : ladderbackref07_Binary.f a0 = some r) :
    Calls Tryd.prog 29 #[.int .i64 a0] w fun e w' => e = .returned (.bool r) ∧ Drawn0 w w' := by
  have H : (if a0 ≥ 8 then (if a0 ≤ 25 then (if a0 = 13 then (some false) else (some (a0 != 17))) else (some false)) else (some false)) = some r := h
  clear h
  by_cases c2 : a0 ≥ 8
  · rw [if_pos c2] at H
    have c2b0 : decide (8 ≤ a0) = true := decide_eq_true c2
    clear c2
    by_cases c3 : a0 ≤ 25
    · rw [if_pos c3] at H
      have c3b0 : decide (a0 ≤ 25) = true := decide_eq_true c3
      clear c3
      by_cases c4 : a0 = 13
      · rw [if_pos c4] at H
        have c4b0 : (a0 == 13) = true := beq_iff_eq.mpr c4
        have c4b1 : (a0 != 13) = false := bne_eq_false_iff_eq.mpr c4
        clear c4
        obtain rfl := Option.some.inj H
        go_enter Tryd.func29, Tryd.ntmps29
        go_wp2
        go_ret
        exact ⟨by first | rfl | (simp; done) | (simp [*]; done), by repeat (first | exact Drawn0.refl _ | apply Drawn0.step)⟩
      · rw [if_neg c4] at H
        have c4b0 : (a0 == 13) = false := beq_eq_false_iff_ne.mpr c4
        have c4b1 : (a0 != 13) = true := bne_iff_ne.mpr c4
        obtain rfl := Option.some.inj H
        go_enter Tryd.func29, Tryd.ntmps29
        go_wp2
        go_ret
        exact ⟨by first | rfl | (simp; done) | (simp [*]; done), by repeat (first | exact Drawn0.refl _ | apply Drawn0.step)⟩
    · rw [if_neg c3] at H
      have c3b0 : decide (a0 ≤ 25) = false := decide_eq_false c3
      clear c3
      obtain rfl := Option.some.inj H
      go_enter Tryd.func29, Tryd.ntmps29
      go_wp2
      go_ret
      exact ⟨by first | rfl | (simp; done) | (simp [*]; done), by repeat (first | exact Drawn0.refl _ | apply Drawn0.step)⟩
  · rw [if_neg c2] at H
    have c2b0 : decide (8 ≤ a0) = false := decide_eq_false c2
    clear c2
    obtain rfl := Option.some.inj H
    go_enter Tryd.func29, Tryd.ntmps29
    go_wp2
    go_ret
    exact ⟨by first | rfl | (simp; done) | (simp [*]; done), by repeat (first | exact Drawn0.refl _ | apply Drawn0.step)⟩

/-! ### ladderbackref07_bits: function 44 -/
def ladderbackref07_bits.l0 : Nat → Int → Int → Int → Int → Int → Int → Option (Int)
  | 0, _, _, _, _, _, _ => none
  | k + 1, x0, x1, x2, x7, x8, x9 => if x9 < 32 then (if x0 = 14 then (if (wrap64 ((Int.tmod x1 2) + (Int.tmod x2 2))) = 2 then (ladderbackref07_bits.l0 k x0 (wrap64 (Int.tdiv x1 2)) (wrap64 (Int.tdiv x2 2)) (wrap64 (x7 + x8)) (wrap64 (2 * x8)) (wrap64 (x9 + 1))) else (if x0 = 15 then (if (wrap64 ((Int.tmod x1 2) + (Int.tmod x2 2))) > 0 then (ladderbackref07_bits.l0 k x0 (wrap64 (Int.tdiv x1 2)) (wrap64 (Int.tdiv x2 2)) (wrap64 (x7 + x8)) (wrap64 (2 * x8)) (wrap64 (x9 + 1))) else (if x0 = 16 then (if (wrap64 ((Int.tmod x1 2) + (Int.tmod x2 2))) = 1 then (ladderbackref07_bits.l0 k x0 (wrap64 (Int.tdiv x1 2)) (wrap64 (Int.tdiv x2 2)) (wrap64 (x7 + x8)) (wrap64 (2 * x8)) (wrap64 (x9 + 1))) else (ladderbackref07_bits.l0 k x0 (wrap64 (Int.tdiv x1 2)) (wrap64 (Int.tdiv x2 2)) x7 (wrap64 (2 * x8)) (wrap64 (x9 + 1)))) else (ladderbackref07_bits.l0 k x0 (wrap64 (Int.tdiv x1 2)) (wrap64 (Int.tdiv x2 2)) x7 (wrap64 (2 * x8)) (wrap64 (x9 + 1))))) else (if x0 = 16 then (if (wrap64 ((Int.tmod x1 2) + (Int.tmod x2 2))) = 1 then (ladderbackref07_bits.l0 k x0 (wrap64 (Int.tdiv x1 2)) (wrap64 (Int.tdiv x2 2)) (wrap64 (x7 + x8)) (wrap64 (2 * x8)) (wrap64 (x9 + 1))) else (ladderbackref07_bits.l0 k x0 (wrap64 (Int.tdiv x1 2)) (wrap64 (Int.tdiv x2 2)) x7 (wrap64 (2 * x8)) (wrap64 (x9 + 1)))) else (ladderbackref07_bits.l0 k x0 (wrap64 (Int.tdiv x1 2)) (wrap64 (Int.tdiv x2 2)) x7 (wrap64 (2 * x8)) (wrap64 (x9 + 1)))))) else (if x0 = 15 then (if (wrap64 ((Int.tmod x1 2) + (Int.tmod x2 2))) > 0 then (ladderbackref07_bits.l0 k x0 (wrap64 (Int.tdiv x1 2)) (wrap64 (Int.tdiv x2 2)) (wrap64 (x7 + x8)) (wrap64 (2 * x8)) (wrap64 (x9 + 1))) else (if x0 = 16 then (if (wrap64 ((Int.tmod x1 2) + (Int.tmod x2 2))) = 1 then (ladderbackref07_bits.l0 k x0 (wrap64 (Int.tdiv x1 2)) (wrap64 (Int.tdiv x2 2)) (wrap64 (x7 + x8)) (wrap64 (2 * x8)) (wrap64 (x9 + 1))) else (ladderbackref07_bits.l0 k x0 (wrap64 (Int.tdiv x1 2)) (wrap64 (Int.tdiv x2 2)) x7 (wrap64 (2 * x8)) (wrap64 (x9 + 1)))) else (ladderbackref07_bits.l0 k x0 (wrap64 (Int.tdiv x1 2)) (wrap64 (Int.tdiv x2 2)) x7 (wrap64 (2 * x8)) (wrap64 (x9 + 1))))) else (if x0 = 16 then (if (wrap64 ((Int.tmod x1 2) + (Int.tmod x2 2))) = 1 then (ladderbackref07_bits.l0 k x0 (wrap64 (Int.tdiv x1 2)) (wrap64 (Int.tdiv x2 2)) (wrap64 (x7 + x8)) (wrap64 (2 * x8)) (wrap64 (x9 + 1))) else (ladderbackref07_bits.l0 k x0 (wrap64 (Int.tdiv x1 2)) (wrap64 (Int.tdiv x2 2)) x7 (wrap64 (2 * x8)) (wrap64 (x9 + 1)))) else (ladderbackref07_bits.l0 k x0 (wrap64 (Int.tdiv x1 2)) (wrap64 (Int.tdiv x2 2)) x7 (wrap64 (2 * x8)) (wrap64 (x9 + 1)))))) else (some x7)
def ladderbackref07_bits.f (k : Nat) (a0 : Int) (a1 : Int) (a2 : Int) : Option (Int) := ladderbackref07_bits.l0 k a0 a1 a2 0 1 0
theorem ladderbackref07_bits.mono_l : ∀ k, (∀ y0 y1 y2 y3 y4 y5, LeO (ladderbackref07_bits.l0 k y0 y1 y2 y3 y4 y5) (ladderbackref07_bits.l0 (k + 1) y0 y1 y2 y3 y4 y5))
  | 0 => fun _ _ _ _ _ _ r h => by simp [ladderbackref07_bits.l0] at h
  | k + 1 => by
    have ih0 := ladderbackref07_bits.mono_l k
    · intro y0 y1 y2 y3 y4 y5
      unfold ladderbackref07_bits.l0
      repeat' first
      | (with_reducible exact ih0 _ _ _ _ _ _)
      | (with_reducible exact LeO.refl _)
      | (with_reducible exact LeO.none _)
      | (with_reducible refine LeO.ite ?_ ?_)
      | (with_reducible refine LeO.bind ?_ (fun _ => ?_))
      | exact ih0 _ _ _ _ _ _
      | exact LeO.none _
      | refine LeO.ite ?_ ?_
      | refine LeO.bind ?_ (fun _ => ?_)
theorem ladderbackref07_bits.mono : ∀ a0 a1 a2 k, LeO (ladderbackref07_bits.f k a0 a1 a2) (ladderbackref07_bits.f (k + 1) a0 a1 a2) := by
  intro a0 a1 a2 k
  have ih0 := ladderbackref07_bits.mono_l k
  unfold ladderbackref07_bits.f
  repeat' first
      | (with_reducible exact ih0 _ _ _ _ _ _)
      | (with_reducible exact LeO.refl _)
      | (with_reducible exact LeO.none _)
      | (with_reducible refine LeO.ite ?_ ?_)
      | (with_reducible refine LeO.bind ?_ (fun _ => ?_))
      | exact ih0 _ _ _ _ _ _
      | exact LeO.none _
      | refine LeO.ite ?_ ?_
      | refine LeO.bind ?_ (fun _ => ?_)
set_option maxHeartbeats 8000000 in
set_option maxRecDepth 100000 in
theorem ladderbackref07_bits.calls (k : Nat) (a0 : Int) (a1 : Int) (a2 : Int) (r : Int) (w : World) (h : ladderbackref07_bits.f k a0 a1 a2 = some r) :
    Calls Tryd.prog 44 #[.int .i64 a0, .int .i64 a1, .int .i64 a2] w fun e w' => e = .returned (.int .i64 r) ∧ Drawn0 w w' := by
  have H : (ladderbackref07_bits.l0 k a0 a1 a2 0 1 0) = some r := h
  clear h
  have H' := Aside0.mk H
  clear H
  go_enter Tryd.func44, Tryd.ntmps44
  go_wp2
  go_loopg [1, 2, 7, 8, 9] k (fun kq v1 v2 v7 v8 v9 w' => ∃ (x1_1 : Int) (x2_1 : Int) (x7_1 : Int) (x8_1 : Int) (x9_1 : Int), v1 = .int .i64 x1_1 ∧ v2 = .int .i64 x2_1 ∧ v7 = .int .i64 x7_1 ∧ v8 = .int .i64 x8_1 ∧ v9 = .int .i64 x9_1 ∧ Aside0 (ladderbackref07_bits.l0 kq a0 x1_1 x2_1 x7_1 x8_1 x9_1 = some r) ∧ Aside0 (kq ≤ k) ∧ Drawn0 w w')
  case atStart => exact ⟨(a1), (a2), (0), (1), (0), (by first | rfl | (simp; done) | (simp [*]; done)), (by first | rfl | (simp; done) | (simp [*]; done)), (by first | rfl | (simp; done) | (simp [*]; done)), (by first | rfl | (simp; done) | (simp [*]; done)), (by first | rfl | (simp; done) | (simp [*]; done)), H', ⟨Nat.le_refl _⟩, by repeat (first | exact Drawn0.refl _ | apply Drawn0.step)⟩
  case round =>
    clear H'
    try clear p2
    obtain ⟨x1_1, x2_1, x7_1, x8_1, x9_1, rfl, rfl, rfl, rfl, rfl, HA, HK1, ⟨m1, rfl⟩⟩ := hrel
    cases gk with
    | zero => exact absurd HA.out (by simp [ladderbackref07_bits.l0])
    | succ k1 =>
      have H := HA.out
      clear HA
      simp only [ladderbackref07_bits.l0] at H
      by_cases c4 : x9_1 < 32
      · rw [if_pos c4] at H
        have c4b0 : decide (x9_1 < 32) = true := decide_eq_true c4
        clear c4
        by_cases c5 : a0 = 14
        · rw [if_pos c5] at H
          have c5b0 : (a0 == 14) = true := beq_iff_eq.mpr c5
          have c5b1 : (a0 != 14) = false := bne_eq_false_iff_eq.mpr c5
          clear c5
          by_cases c6 : (wrap64 ((Int.tmod x1_1 2) + (Int.tmod x2_1 2))) = 2
          · rw [if_pos c6] at H
            have c6b0 : ((wrap64 ((Int.tmod x1_1 2) + (Int.tmod x2_1 2))) == 2) = true := beq_iff_eq.mpr c6
            have c6b1 : ((wrap64 ((Int.tmod x1_1 2) + (Int.tmod x2_1 2))) != 2) = false := bne_eq_false_iff_eq.mpr c6
            clear c6
            have H' := Aside0.mk H
            clear H
            go_wp2
            go_roundg k1
            case measure => have := HK1.out; omega
            case rel => exact ⟨(wrap64 (Int.tdiv x1_1 2)), (wrap64 (Int.tdiv x2_1 2)), (wrap64 (x7_1 + x8_1)), (wrap64 (2 * x8_1)), (wrap64 (x9_1 + 1)), (by first | rfl | (simp; done) | (simp [*]; done)), (by first | rfl | (simp; done) | (simp [*]; done)), (by first | rfl | (simp; done) | (simp [*]; done)), (by first | rfl | (simp; done) | (simp [*]; done)), (by first | rfl | (simp; done) | (simp [*]; done)), H', ⟨by have := HK1.out; omega⟩, by repeat (first | exact Drawn0.refl _ | apply Drawn0.step)⟩
          · rw [if_neg c6] at H
            have c6b0 : ((wrap64 ((Int.tmod x1_1 2) + (Int.tmod x2_1 2))) == 2) = false := beq_eq_false_iff_ne.mpr c6
            have c6b1 : ((wrap64 ((Int.tmod x1_1 2) + (Int.tmod x2_1 2))) != 2) = true := bne_iff_ne.mpr c6
            by_cases c7 : a0 = 15
            · rw [if_pos c7] at H
              have c7b0 : (a0 == 15) = true := beq_iff_eq.mpr c7
              have c7b1 : (a0 != 15) = false := bne_eq_false_iff_eq.mpr c7
              clear c7
              by_cases c8 : (wrap64 ((Int.tmod x1_1 2) + (Int.tmod x2_1 2))) > 0
              · rw [if_pos c8] at H
                have c8b0 : decide (0 < (wrap64 ((Int.tmod x1_1 2) + (Int.tmod x2_1 2)))) = true := decide_eq_true c8
                clear c8
                have H' := Aside0.mk H
                clear H
                go_wp2
                go_roundg k1
                case measure => have := HK1.out; omega
                case rel => exact ⟨(wrap64 (Int.tdiv x1_1 2)), (wrap64 (Int.tdiv x2_1 2)), (wrap64 (x7_1 + x8_1)), (wrap64 (2 * x8_1)), (wrap64 (x9_1 + 1)), (by first | rfl | (simp; done) | (simp [*]; done)), (by first | rfl | (simp; done) | (simp [*]; done)), (by first | rfl | (simp; done) | (simp [*]; done)), (by first | rfl | (simp; done) | (simp [*]; done)), (by first | rfl | (simp; done) | (simp [*]; done)), H', ⟨by have := HK1.out; omega⟩, by repeat (first | exact Drawn0.refl _ | apply Drawn0.step)⟩
              · rw [if_neg c8] at H
                have c8b0 : decide (0 < (wrap64 ((Int.tmod x1_1 2) + (Int.tmod x2_1 2)))) = false := decide_eq_false c8
                clear c8
                by_cases c9 : a0 = 16
                · rw [if_pos c9] at H
                  have c9b0 : (a0 == 16) = true := beq_iff_eq.mpr c9
                  have c9b1 : (a0 != 16) = false := bne_eq_false_iff_eq.mpr c9
                  clear c9
                  by_cases c10 : (wrap64 ((Int.tmod x1_1 2) + (Int.tmod x2_1 2))) = 1
                  · rw [if_pos c10] at H
                    have c10b0 : ((wrap64 ((Int.tmod x1_1 2) + (Int.tmod x2_1 2))) == 1) = true := beq_iff_eq.mpr c10
                    have c10b1 : ((wrap64 ((Int.tmod x1_1 2) + (Int.tmod x2_1 2))) != 1) = false := bne_eq_false_iff_eq.mpr c10
                    clear c10
                    have H' := Aside0.mk H
                    clear H
                    go_wp2
                    go_roundg k1
                    case measure => have := HK1.out; omega
                    case rel => exact ⟨(wrap64 (Int.tdiv x1_1 2)), (wrap64 (Int.tdiv x2_1 2)), (wrap64 (x7_1 + x8_1)), (wrap64 (2 * x8_1)), (wrap64 (x9_1 + 1)), (by first | rfl | (simp; done) | (simp [*]; done)), (by first | rfl | (simp; done) | (simp [*]; done)), (by first | rfl | (simp; done) | (simp [*]; done)), (by first | rfl | (simp; done) | (simp [*]; done)), (by first | rfl | (simp; done) | (simp [*]; done)), H', ⟨by have := HK1.out; omega⟩, by repeat (first | exact Drawn0.refl _ | apply Drawn0.step)⟩
                  · rw [if_neg c10] at H
                    have c10b0 : ((wrap64 ((Int.tmod x1_1 2) + (Int.tmod x2_1 2))) == 1) = false := beq_eq_false_iff_ne.mpr c10
                    have c10b1 : ((wrap64 ((Int.tmod x1_1 2) + (Int.tmod x2_1 2))) != 1) = true := bne_iff_ne.mpr c10
                    have H' := Aside0.mk H
                    clear H
                    go_wp2
                    go_roundg k1
                    case measure => have := HK1.out; omega
                    case rel => exact ⟨(wrap64 (Int.tdiv x1_1 2)), (wrap64 (Int.tdiv x2_1 2)), (x7_1), (wrap64 (2 * x8_1)), (wrap64 (x9_1 + 1)), (by first | rfl | (simp; done) | (simp [*]; done)), (by first | rfl | (simp; done) | (simp [*]; done)), (by first | rfl | (simp; done) | (simp [*]; done)), (by first | rfl | (simp; done) | (simp [*]; done)), (by first | rfl | (simp; done) | (simp [*]; done)), H', ⟨by have := HK1.out; omega⟩, by repeat (first | exact Drawn0.refl _ | apply Drawn0.step)⟩
                · rw [if_neg c9] at H
                  have c9b0 : (a0 == 16) = false := beq_eq_false_iff_ne.mpr c9
                  have c9b1 : (a0 != 16) = true := bne_iff_ne.mpr c9
                  have H' := Aside0.mk H
                  clear H
                  go_wp2
                  go_roundg k1
                  case measure => have := HK1.out; omega
                  case rel => exact ⟨(wrap64 (Int.tdiv x1_1 2)), (wrap64 (Int.tdiv x2_1 2)), (x7_1), (wrap64 (2 * x8_1)), (wrap64 (x9_1 + 1)), (by first | rfl | (simp; done) | (simp [*]; done)), (by first | rfl | (simp; done) | (simp [*]; done)), (by first | rfl | (simp; done) | (simp [*]; done)), (by first | rfl | (simp; done) | (simp [*]; done)), (by first | rfl | (simp; done) | (simp [*]; done)), H', ⟨by have := HK1.out; omega⟩, by repeat (first | exact Drawn0.refl _ | apply Drawn0.step)⟩
            · rw [if_neg c7] at H
              have c7b0 : (a0 == 15) = false := beq_eq_false_iff_ne.mpr c7
              have c7b1 : (a0 != 15) = true := bne_iff_ne.mpr c7
              by_cases c11 : a0 = 16
              · rw [if_pos c11] at H
                have c11b0 : (a0 == 16) = true := beq_iff_eq.mpr c11
                have c11b1 : (a0 != 16) = false := bne_eq_false_iff_eq.mpr c11
                clear c11
                by_cases c12 : (wrap64 ((Int.tmod x1_1 2) + (Int.tmod x2_1 2))) = 1
                · rw [if_pos c12] at H
                  have c12b0 : ((wrap64 ((Int.tmod x1_1 2) + (Int.tmod x2_1 2))) == 1) = true := beq_iff_eq.mpr c12
                  have c12b1 : ((wrap64 ((Int.tmod x1_1 2) + (Int.tmod x2_1 2))) != 1) = false := bne_eq_false_iff_eq.mpr c12
                  clear c12
                  have H' := Aside0.mk H
                  clear H
                  go_wp2
                  go_roundg k1
                  case measure => have := HK1.out; omega
                  case rel => exact ⟨(wrap64 (Int.tdiv x1_1 2)), (wrap64 (Int.tdiv x2_1 2)), (wrap64 (x7_1 + x8_1)), (wrap64 (2 * x8_1)), (wrap64 (x9_1 + 1)), (by first | rfl | (simp; done) | (simp [*]; done)), (by first | rfl | (simp; done) | (simp [*]; done)), (by first | rfl | (simp; done) | (simp [*]; done)), (by first | rfl | (simp; done) | (simp [*]; done)), (by first | rfl | (simp; done) | (simp [*]; done)), H', ⟨by have := HK1.out; omega⟩, by repeat (first | exact Drawn0.refl _ | apply Drawn0.step)⟩
                · rw [if_neg c12] at H
                  have c12b0 : ((wrap64 ((Int.tmod x1_1 2) + (Int.tmod x2_1 2))) == 1) = false := beq_eq_false_iff_ne.mpr c12
                  have c12b1 : ((wrap64 ((Int.tmod x1_1 2) + (Int.tmod x2_1 2))) != 1) = true := bne_iff_ne.mpr c12
                  have H' := Aside0.mk H
                  clear H
                  go_wp2
                  go_roundg k1
                  case measure => have := HK1.out; omega
                  case rel => exact ⟨(wrap64 (Int.tdiv x1_1 2)), (wrap64 (Int.tdiv x2_1 2)), (x7_1), (wrap64 (2 * x8_1)), (wrap64 (x9_1 + 1)), (by first | rfl | (simp; done) | (simp [*]; done)), (by first | rfl | (simp; done) | (simp [*]; done)), (by first | rfl | (simp; done) | (simp [*]; done)), (by first | rfl | (simp; done) | (simp [*]; done)), (by first | rfl | (simp; done) | (simp [*]; done)), H', ⟨by have := HK1.out; omega⟩, by repeat (first | exact Drawn0.refl _ | apply Drawn0.step)⟩
              · rw [if_neg c11] at H
                have c11b0 : (a0 == 16) = false := beq_eq_false_iff_ne.mpr c11
                have c11b1 : (a0 != 16) = true := bne_iff_ne.mpr c11
                have H' := Aside0.mk H
                clear H
                go_wp2
                go_roundg k1
                case measure => have := HK1.out; omega
                case rel => exact ⟨(wrap64 (Int.tdiv x1_1 2)), (wrap64 (Int.tdiv x2_1 2)), (x7_1), (wrap64 (2 * x8_1)), (wrap64 (x9_1 + 1)), (by first | rfl | (simp; done) | (simp [*]; done)), (by first | rfl | (simp; done) | (simp [*]; done)), (by first | rfl | (simp; done) | (simp [*]; done)), (by first | rfl | (simp; done) | (simp [*]; done)), (by first | rfl | (simp; done) | (simp [*]; done)), H', ⟨by have := HK1.out; omega⟩, by repeat (first | exact Drawn0.refl _ | apply Drawn0.step)⟩
        · rw [if_neg c5] at H
          have c5b0 : (a0 == 14) = false := beq_eq_false_iff_ne.mpr c5
          have c5b1 : (a0 != 14) = true := bne_iff_ne.mpr c5
          by_cases c13 : a0 = 15
          · rw [if_pos c13] at H
            have c13b0 : (a0 == 15) = true := beq_iff_eq.mpr c13
            have c13b1 : (a0 != 15) = false := bne_eq_false_iff_eq.mpr c13
            clear c13
            by_cases c14 : (wrap64 ((Int.tmod x1_1 2) + (Int.tmod x2_1 2))) > 0
            · rw [if_pos c14] at H
              have c14b0 : decide (0 < (wrap64 ((Int.tmod x1_1 2) + (Int.tmod x2_1 2)))) = true := decide_eq_true c14
              clear c14
              have H' := Aside0.mk H
              clear H
              go_wp2
              go_roundg k1
              case measure => have := HK1.out; omega
              case rel => exact ⟨(wrap64 (Int.tdiv x1_1 2)), (wrap64 (Int.tdiv x2_1 2)), (wrap64 (x7_1 + x8_1)), (wrap64 (2 * x8_1)), (wrap64 (x9_1 + 1)), (by first | rfl | (simp; done) | (simp [*]; done)), (by first | rfl | (simp; done) | (simp [*]; done)), (by first | rfl | (simp; done) | (simp [*]; done)), (by first | rfl | (simp; done) | (simp [*]; done)), (by first | rfl | (simp; done) | (simp [*]; done)), H', ⟨by have := HK1.out; omega⟩, by repeat (first | exact Drawn0.refl _ | apply Drawn0.step)⟩
            · rw [if_neg c14] at H
              have c14b0 : decide (0 < (wrap64 ((Int.tmod x1_1 2) + (Int.tmod x2_1 2)))) = false := decide_eq_false c14
              clear c14
              by_cases c15 : a0 = 16
              · rw [if_pos c15] at H
                have c15b0 : (a0 == 16) = true := beq_iff_eq.mpr c15
                have c15b1 : (a0 != 16) = false := bne_eq_false_iff_eq.mpr c15
                clear c15
                by_cases c16 : (wrap64 ((Int.tmod x1_1 2) + (Int.tmod x2_1 2))) = 1
                · rw [if_pos c16] at H
                  have c16b0 : ((wrap64 ((Int.tmod x1_1 2) + (Int.tmod x2_1 2))) == 1) = true := beq_iff_eq.mpr c16
                  have c16b1 : ((wrap64 ((Int.tmod x1_1 2) + (Int.tmod x2_1 2))) != 1) = false := bne_eq_false_iff_eq.mpr c16
                  clear c16
                  have H' := Aside0.mk H
                  clear H
                  go_wp2
                  go_roundg k1
                  case measure => have := HK1.out; omega
                  case rel => exact ⟨(wrap64 (Int.tdiv x1_1 2)), (wrap64 (Int.tdiv x2_1 2)), (wrap64 (x7_1 + x8_1)), (wrap64 (2 * x8_1)), (wrap64 (x9_1 + 1)), (by first | rfl | (simp; done) | (simp [*]; done)), (by first | rfl | (simp; done) | (simp [*]; done)), (by first | rfl | (simp; done) | (simp [*]; done)), (by first | rfl | (simp; done) | (simp [*]; done)), (by first | rfl | (simp; done) | (simp [*]; done)), H', ⟨by have := HK1.out; omega⟩, by repeat (first | exact Drawn0.refl _ | apply Drawn0.step)⟩
                · rw [if_neg c16] at H
                  have c16b0 : ((wrap64 ((Int.tmod x1_1 2) + (Int.tmod x2_1 2))) == 1) = false := beq_eq_false_iff_ne.mpr c16
                  have c16b1 : ((wrap64 ((Int.tmod x1_1 2) + (Int.tmod x2_1 2))) != 1) = true := bne_iff_ne.mpr c16
                  have H' := Aside0.mk H
                  clear H
                  go_wp2
                  go_roundg k1
                  case measure => have := HK1.out; omega
                  case rel => exact ⟨(wrap64 (Int.tdiv x1_1 2)), (wrap64 (Int.tdiv x2_1 2)), (x7_1), (wrap64 (2 * x8_1)), (wrap64 (x9_1 + 1)), (by first | rfl | (simp; done) | (simp [*]; done)), (by first | rfl | (simp; done) | (simp [*]; done)), (by first | rfl | (simp; done) | (simp [*]; done)), (by first | rfl | (simp; done) | (simp [*]; done)), (by first | rfl | (simp; done) | (simp [*]; done)), H', ⟨by have := HK1.out; omega⟩, by repeat (first | exact Drawn0.refl _ | apply Drawn0.step)⟩
              · rw [if_neg c15] at H
                have c15b0 : (a0 == 16) = false := beq_eq_false_iff_ne.mpr c15
                have c15b1 : (a0 != 16) = true := bne_iff_ne.mpr c15
                have H' := Aside0.mk H
                clear H
                go_wp2
                go_roundg k1
                case measure => have := HK1.out; omega
                case rel => exact ⟨(wrap64 (Int.tdiv x1_1 2)), (wrap64 (Int.tdiv x2_1 2)), (x7_1), (wrap64 (2 * x8_1)), (wrap64 (x9_1 + 1)), (by first | rfl | (simp; done) | (simp [*]; done)), (by first | rfl | (simp; done) | (simp [*]; done)), (by first | rfl | (simp; done) | (simp [*]; done)), (by first | rfl | (simp; done) | (simp [*]; done)), (by first | rfl | (simp; done) | (simp [*]; done)), H', ⟨by have := HK1.out; omega⟩, by repeat (first | exact Drawn0.refl _ | apply Drawn0.step)⟩
          · rw [if_neg c13] at H
            have c13b0 : (a0 == 15) = false := beq_eq_false_iff_ne.mpr c13
            have c13b1 : (a0 != 15) = true := bne_iff_ne.mpr c13
            by_cases c17 : a0 = 16
            · rw [if_pos c17] at H
              have c17b0 : (a0 == 16) = true := beq_iff_eq.mpr c17
              have c17b1 : (a0 != 16) = false := bne_eq_false_iff_eq.mpr c17
              clear c17
              by_cases c18 : (wrap64 ((Int.tmod x1_1 2) + (Int.tmod x2_1 2))) = 1
              · rw [if_pos c18] at H
                have c18b0 : ((wrap64 ((Int.tmod x1_1 2) + (Int.tmod x2_1 2))) == 1) = true := beq_iff_eq.mpr c18
                have c18b1 : ((wrap64 ((Int.tmod x1_1 2) + (Int.tmod x2_1 2))) != 1) = false := bne_eq_false_iff_eq.mpr c18
                clear c18
                have H' := Aside0.mk H
                clear H
                go_wp2
                go_roundg k1
                case measure => have := HK1.out; omega
                case rel => exact ⟨(wrap64 (Int.tdiv x1_1 2)), (wrap64 (Int.tdiv x2_1 2)), (wrap64 (x7_1 + x8_1)), (wrap64 (2 * x8_1)), (wrap64 (x9_1 + 1)), (by first | rfl | (simp; done) | (simp [*]; done)), (by first | rfl | (simp; done) | (simp [*]; done)), (by first | rfl | (simp; done) | (simp [*]; done)), (by first | rfl | (simp; done) | (simp [*]; done)), (by first | rfl | (simp; done) | (simp [*]; done)), H', ⟨by have := HK1.out; omega⟩, by repeat (first | exact Drawn0.refl _ | apply Drawn0.step)⟩
              · rw [if_neg c18] at H
                have c18b0 : ((wrap64 ((Int.tmod x1_1 2) + (Int.tmod x2_1 2))) == 1) = false := beq_eq_false_iff_ne.mpr c18
                have c18b1 : ((wrap64 ((Int.tmod x1_1 2) + (Int.tmod x2_1 2))) != 1) = true := bne_iff_ne.mpr c18
                have H' := Aside0.mk H
                clear H
                go_wp2
                go_roundg k1
                case measure => have := HK1.out; omega
                case rel => exact ⟨(wrap64 (Int.tdiv x1_1 2)), (wrap64 (Int.tdiv x2_1 2)), (x7_1), (wrap64 (2 * x8_1)), (wrap64 (x9_1 + 1)), (by first | rfl | (simp; done) | (simp [*]; done)), (by first | rfl | (simp; done) | (simp [*]; done)), (by first | rfl | (simp; done) | (simp [*]; done)), (by first | rfl | (simp; done) | (simp [*]; done)), (by first | rfl | (simp; done) | (simp [*]; done)), H', ⟨by have := HK1.out; omega⟩, by repeat (first | exact Drawn0.refl _ | apply Drawn0.step)⟩
            · rw [if_neg c17] at H
              have c17b0 : (a0 == 16) = false := beq_eq_false_iff_ne.mpr c17
              have c17b1 : (a0 != 16) = true := bne_iff_ne.mpr c17
              have H' := Aside0.mk H
              clear H
              go_wp2
              go_roundg k1
              case measure => have := HK1.out; omega
              case rel => exact ⟨(wrap64 (Int.tdiv x1_1 2)), (wrap64 (Int.tdiv x2_1 2)), (x7_1), (wrap64 (2 * x8_1)), (wrap64 (x9_1 + 1)), (by first | rfl | (simp; done) | (simp [*]; done)), (by first | rfl | (simp; done) | (simp [*]; done)), (by first | rfl | (simp; done) | (simp [*]; done)), (by first | rfl | (simp; done) | (simp [*]; done)), (by first | rfl | (simp; done) | (simp [*]; done)), H', ⟨by have := HK1.out; omega⟩, by repeat (first | exact Drawn0.refl _ | apply Drawn0.step)⟩
      · rw [if_neg c4] at H
        have c4b0 : decide (x9_1 < 32) = false := decide_eq_false c4
        clear c4
        obtain rfl := Option.some.inj H
        go_wp2
        go_ret
        exact ⟨by first | rfl | (simp; done) | (simp [*]; done), by repeat (first | exact Drawn0.refl _ | apply Drawn0.step)⟩

/-! ### ladderbackref07_shift: function 45 -/
mutual
def ladderbackref07_shift.l0 : Nat → Int → Int → Int → Int → Int → Option (Int)
  | 0, _, _, _, _, _ => none
  | k + 1, x0, x1, x2, x3, x9 => if x9 < x3 then (ladderbackref07_shift.j1 k x0 x1 x2 x3 x9 (decide (x9 < 40))) else (ladderbackref07_shift.j1 k x0 x1 x2 x3 x9 false)
def ladderbackref07_shift.j1 : Nat → Int → Int → Int → Int → Int → Bool → Option (Int)
  | 0, _, _, _, _, _, _ => none
  | k + 1, x0, x1, x2, x3, x9, x16 => if x16 = true then (if x0 = 18 then ((ladderbackref01_High.f x1).bind fun t174 => (if (wrap64 (t174 + 1)) = 0 then (none) else (ladderbackref07_shift.l0 k x0 x1 (Int.tmod (wrap64 (2 * x2)) (wrap64 (t174 + 1))) x3 (wrap64 (x9 + 1))))) else (ladderbackref07_shift.l0 k x0 x1 (wrap64 (Int.tdiv x2 2)) x3 (wrap64 (x9 + 1)))) else (some x2)
end
def ladderbackref07_shift.f (k : Nat) (a0 : Int) (a1 : Int) (a2 : Int) (a3 : Int) : Option (Int) := ladderbackref07_shift.l0 k a0 a1 a2 a3 0
theorem ladderbackref07_shift.mono_l : ∀ k, (∀ y0 y1 y2 y3 y4, LeO (ladderbackref07_shift.l0 k y0 y1 y2 y3 y4) (ladderbackref07_shift.l0 (k + 1) y0 y1 y2 y3 y4)) ∧ (∀ y0 y1 y2 y3 y4 y5, LeO (ladderbackref07_shift.j1 k y0 y1 y2 y3 y4 y5) (ladderbackref07_shift.j1 (k + 1) y0 y1 y2 y3 y4 y5))
  | 0 => ⟨fun _ _ _ _ _ r h => by simp [ladderbackref07_shift.l0] at h, fun _ _ _ _ _ _ r h => by simp [ladderbackref07_shift.j1] at h⟩
  | k + 1 => by
    obtain ⟨ih0, ih1⟩ := ladderbackref07_shift.mono_l k
    refine ⟨?_, ?_⟩
    · intro y0 y1 y2 y3 y4
      unfold ladderbackref07_shift.l0
      repeat' first
      | (with_reducible exact ih0 _ _ _ _ _)
      | (with_reducible exact ih1 _ _ _ _ _ _)
      | (with_reducible exact LeO.refl _)
      | (with_reducible exact LeO.none _)
      | (with_reducible refine LeO.ite ?_ ?_)
      | (with_reducible refine LeO.bind ?_ (fun _ => ?_))
      | exact ih0 _ _ _ _ _
      | exact ih1 _ _ _ _ _ _
      | exact LeO.none _
      | refine LeO.ite ?_ ?_
      | refine LeO.bind ?_ (fun _ => ?_)
    · intro y0 y1 y2 y3 y4 y5
      unfold ladderbackref07_shift.j1
      repeat' first
      | (with_reducible exact ih0 _ _ _ _ _)
      | (with_reducible exact ih1 _ _ _ _ _ _)
      | (with_reducible exact LeO.refl _)
      | (with_reducible exact LeO.none _)
      | (with_reducible refine LeO.ite ?_ ?_)
      | (with_reducible refine LeO.bind ?_ (fun _ => ?_))
      | exact ih0 _ _ _ _ _
      | exact ih1 _ _ _ _ _ _
      | exact LeO.none _
      | refine LeO.ite ?_ ?_
      | refine LeO.bind ?_ (fun _ => ?_)
theorem ladderbackref07_shift.mono : ∀ a0 a1 a2 a3 k, LeO (ladderbackref07_shift.f k a0 a1 a2 a3) (ladderbackref07_shift.f (k + 1) a0 a1 a2 a3) := by
  intro a0 a1 a2 a3 k
  obtain ⟨ih0, ih1⟩ := ladderbackref07_shift.mono_l k
  unfold ladderbackref07_shift.f
  repeat' first
      | (with_reducible exact ih0 _ _ _ _ _)
      | (with_reducible exact ih1 _ _ _ _ _ _)
      | (with_reducible exact LeO.refl _)
      | (with_reducible exact LeO.none _)
      | (with_reducible refine LeO.ite ?_ ?_)
      | (with_reducible refine LeO.bind ?_ (fun _ => ?_))
      | exact ih0 _ _ _ _ _
      | exact ih1 _ _ _ _ _ _
      | exact LeO.none _
      | refine LeO.ite ?_ ?_
      | refine LeO.bind ?_ (fun _ => ?_)
set_option maxHeartbeats 8000000 in
set_option maxRecDepth 100000 in
theorem ladderbackref07_shift.calls (k : Nat) (a0 : Int) (a1 : Int) (a2 : Int) (a3 : Int) (r : Int) (w : World) (h : ladderbackref07_shift.f k a0 a1 a2 a3 = some r) :
    Calls Tryd.prog 45 #[.int .i64 a0, .int .i64 a1, .int .i64 a2, .int .i64 a3] w fun e w' => e = .returned (.int .i64 r) ∧ Drawn0 w w' := by
  have H : (ladderbackref07_shift.l0 k a0 a1 a2 a3 0) = some r := h
  clear h
  have H' := Aside0.mk H
  clear H
  go_enter Tryd.func45, Tryd.ntmps45
  go_wp2
  go_loopg [2, 9] k (fun kq v2 v9 w' => ∃ (x2_1 : Int) (x9_1 : Int), v2 = .int .i64 x2_1 ∧ v9 = .int .i64 x9_1 ∧ Aside0 (ladderbackref07_shift.l0 kq a0 a1 x2_1 a3 x9_1 = some r) ∧ Aside0 (kq ≤ k) ∧ Drawn0 w w')
  case atStart => exact ⟨(a2), (0), (by first | rfl | (simp; done) | (simp [*]; done)), (by first | rfl | (simp; done) | (simp [*]; done)), H', ⟨Nat.le_refl _⟩, by repeat (first | exact Drawn0.refl _ | apply Drawn0.step)⟩
  case round =>
    clear H'
    try clear p2
    try clear c4
    obtain ⟨x2_1, x9_1, rfl, rfl, HA, HK1, ⟨m1, rfl⟩⟩ := hrel
    cases gk with
    | zero => exact absurd HA.out (by simp [ladderbackref07_shift.l0])
    | succ k1 =>
      have H := HA.out
      clear HA
      simp only [ladderbackref07_shift.l0] at H
      have HC5 := Aside0.mk H
      clear H
      go_upto_region 2 with (fail)
      go_cut [16] (fun v16 wc => ∃ (kq : Nat) (x16_4 : Bool), v16 = .bool x16_4 ∧ Aside0 (ladderbackref07_shift.j1 kq a0 a1 x2_1 a3 x9_1 x16_4 = some r) ∧ Aside0 (kq ≤ k1) ∧ Drawn0 w wc)
      case first =>
        have H := HC5.out
        clear HC5
        by_cases c6 : x9_1 < a3
        · rw [if_pos c6] at H
          have c6b0 : decide (x9_1 < a3) = true := decide_eq_true c6
          clear c6
          (first | rw [c6b0] | (simp only [i64_w, i32_w]; rw [c6b0]) | skip)
          have H' := Aside0.mk H
          clear H
          go_wp2
          go_meet
          case rel => exact ⟨_, (decide (x9_1 < 40)), (by first | rfl | (simp; done) | (simp [*]; done)), H', ⟨by have := HK1.out; first | omega | exact Nat.le_refl _⟩, by repeat (first | exact Drawn0.refl _ | apply Drawn0.step)⟩
        · rw [if_neg c6] at H
          have c6b0 : decide (x9_1 < a3) = false := decide_eq_false c6
          clear c6
          (first | rw [c6b0] | (simp only [i64_w, i32_w]; rw [c6b0]) | skip)
          have H' := Aside0.mk H
          clear H
          go_wp2
          go_meet
          case rel => exact ⟨_, (false), (by first | rfl | (simp; done) | (simp [*]; done)), H', ⟨by have := HK1.out; first | omega | exact Nat.le_refl _⟩, by repeat (first | exact Drawn0.refl _ | apply Drawn0.step)⟩
      case rest =>
        clear HC5
        try clear p2
        try clear c4
        try clear c6
        try clear c6b0
        try clear p2
        obtain ⟨kq, x16_4, rfl, HA, HJ4, ⟨mc4, rfl⟩⟩ := hcut
        cases kq with
        | zero => exact absurd HA.out (by simp [ladderbackref07_shift.j1])
        | succ kj4 =>
          have H := HA.out
          clear HA
          simp only [ladderbackref07_shift.j1] at H
          by_cases c7 : x16_4 = true
          · subst c7
            have H1 : (if a0 = 18 then ((ladderbackref01_High.f a1).bind fun t174 => (if (wrap64 (t174 + 1)) = 0 then (none) else (ladderbackref07_shift.l0 kj4 a0 a1 (Int.tmod (wrap64 (2 * x2_1)) (wrap64 (t174 + 1))) a3 (wrap64 (x9_1 + 1))))) else (ladderbackref07_shift.l0 kj4 a0 a1 (wrap64 (Int.tdiv x2_1 2)) a3 (wrap64 (x9_1 + 1)))) = some r := by rw [if_pos rfl] at H; exact H
            clear H
            have H := H1
            clear H1
            by_cases c8 : a0 = 18
            · rw [if_pos c8] at H
              have c8b0 : (a0 == 18) = true := beq_iff_eq.mpr c8
              have c8b1 : (a0 != 18) = false := bne_eq_false_iff_eq.mpr c8
              clear c8
              replace H := Option.bind_eq_some_iff.mp H
              obtain ⟨t174, A90, H⟩ := H
              replace H : (if (wrap64 (t174 + 1)) = 0 then (none) else (ladderbackref07_shift.l0 kj4 a0 a1 (Int.tmod (wrap64 (2 * x2_1)) (wrap64 (t174 + 1))) a3 (wrap64 (x9_1 + 1)))) = some r := H
              have A9 := Aside0.mk A90
              clear A90
              by_cases c10 : (wrap64 (t174 + 1)) = 0
              · rw [if_pos c10] at H
                exact absurd H (by simp)
              · rw [if_neg c10] at H
                have c10b0 : ((wrap64 (t174 + 1)) == 0) = false := beq_eq_false_iff_ne.mpr c10
                have c10b1 : ((wrap64 (t174 + 1)) != 0) = true := bne_iff_ne.mpr c10
                have H' := Aside0.mk H
                clear H
                go_wp2_with (first | ((with_reducible refine gate_callee (f := 37) rfl ?_); refine goesL_ (some 24) rfl rfl Tryd.func37 (by kernel_rfl) rfl #[.int .i64 a1] rfl (by (try simp only [List.map_toArray, List.map_cons, List.map_nil]); first | done | rfl | (simp only [List.length_drop, List.length_take]; rfl)) ?_; (with_reducible refine (ladderbackref01_High.calls a1 t174 _ A9.out).mono ?_); rintro e w' ⟨rfl, ⟨nd, rfl⟩⟩; refine ⟨_, rfl, ?_⟩))
                go_roundg kj4
                case measure => have := HK1.out; have := HJ4.out; omega
                case rel => exact ⟨(Int.tmod (wrap64 (2 * x2_1)) (wrap64 (t174 + 1))), (wrap64 (x9_1 + 1)), (by first | rfl | (simp; done) | (simp [*]; done)), (by first | rfl | (simp; done) | (simp [*]; done)), H', ⟨by have := HK1.out; have := HJ4.out; omega⟩, by repeat (first | exact Drawn0.refl _ | apply Drawn0.step)⟩
            · rw [if_neg c8] at H
              have c8b0 : (a0 == 18) = false := beq_eq_false_iff_ne.mpr c8
              have c8b1 : (a0 != 18) = true := bne_iff_ne.mpr c8
              have H' := Aside0.mk H
              clear H
              go_wp2
              go_roundg kj4
              case measure => have := HK1.out; have := HJ4.out; omega
              case rel => exact ⟨(wrap64 (Int.tdiv x2_1 2)), (wrap64 (x9_1 + 1)), (by first | rfl | (simp; done) | (simp [*]; done)), (by first | rfl | (simp; done) | (simp [*]; done)), H', ⟨by have := HK1.out; have := HJ4.out; omega⟩, by repeat (first | exact Drawn0.refl _ | apply Drawn0.step)⟩
          · replace c7 := Bool.eq_false_iff.mpr c7
            subst c7
            have H1 : (some x2_1) = some r := by rw [if_neg (show ¬ (false = true) by decide)] at H; exact H
            clear H
            have H := H1
            clear H1
            obtain rfl := Option.some.inj H
            go_wp2
            go_ret
            exact ⟨by first | rfl | (simp; done) | (simp [*]; done), by repeat (first | exact Drawn0.refl _ | apply Drawn0.step)⟩

end Go.Proofs.YtohdabkhafcdkaaDoor.PAlu
