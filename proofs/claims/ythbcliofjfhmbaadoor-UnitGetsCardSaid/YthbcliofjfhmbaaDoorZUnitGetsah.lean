/- What the calls of UnitBack tell; any unit of few parts and any bytes, the operations' table as the program lays it. -/
import Derived.Test.YthbcliofjfhmbaaDoorZUnitGetsaf
import Derived.Test.YthbcliofjfhmbaaDoorZUnitGetsag
section
/- Printed by a program of this session (wip/pg.py, over the print of the kit): functions, their Lean twins, and the proofs that the calls come to them; each under the conditions that it names. -/
namespace Go.Proofs.YthbcliofjfhmbaaDoor.PCod
open Go.Proofs.YthbcliofjfhmbaaDoor.Given
open Go.RowKit Go.Proofs.YthbcliofjfhmbaaDoorW.PrintWords Go.Proofs.YthbcliofjfhmbaaDoorW.PrintLast Go.Proofs.YthbcliofjfhmbaaDoorW.PrintMore
attribute [local go_sem] max2_int min2_int max_two min_two max_three min_three max_four min_four   -- for this text's walks alone
set_option linter.unusedVariables false
set_option linter.unusedSimpArgs false

theorem eqA47 (d : Nat) (w : World) (x0 y0 : Int) (x1 y1 : Int) (x2 y2 : Int) :
    (Op.equalIn (d + 2) 47 (.agg #[.int .i64 x0, .int .i64 x1, .int .i64 x2]) (.agg #[.int .i64 y0, .int .i64 y1, .int .i64 y2])).run Tryd.prog w = .ok (x0 == y0 && (x1 == y1 && (x2 == y2))) w := by
  refine eqA_of Tryd.underlying47 (by kernel_rfl) ?_
  refine eqf_cons (by rfl) (by go_simp; rfl) (by go_simp; rfl) (by go_simp) ?_
  refine eqf_cons (by rfl) (by go_simp; rfl) (by go_simp; rfl) (by go_simp) ?_
  exact eqf_last (by rfl) (by go_simp; rfl) (by go_simp; rfl) (by go_simp)
end Go.Proofs.YthbcliofjfhmbaaDoor.PCod
end

section
/- Printed by a program of this session (wip/pg.py, over the print of the kit): functions, their Lean twins, and the proofs that the calls come to them; each under the conditions that it names. -/
namespace Go.Proofs.YthbcliofjfhmbaaDoor.PCod
open Go.Proofs.YthbcliofjfhmbaaDoor.Given
open Go.RowKit Go.Proofs.YthbcliofjfhmbaaDoorW.PrintWords Go.Proofs.YthbcliofjfhmbaaDoorW.PrintLast Go.Proofs.YthbcliofjfhmbaaDoorW.PrintMore
attribute [local go_sem] max2_int min2_int max_two min_two max_three min_three max_four min_four   -- for this text's walks alone
set_option linter.unusedVariables false
set_option linter.unusedSimpArgs false

attribute [local go_sem high] eqA47
/-! ### ladderbackref13_Decode: function 11 -/
mutual
def ladderbackref13_Decode.l0 : Nat → List Int → List (S47) → Int → Option ((List (S47)) × Int × Int)
  | 0, _, _, _ => none
  | k + 1, x0, x5, x6 => if x6 < (x0.length : Int) then (if (wrap64 ((x0.length : Int) - x6)) < 5 then (some (([] : List (S47)), wrap64 (Int.tdiv x6 5), 1)) else (if 0 ≤ x6 then (if 0 ≤ (wrap64 (x6 + 1)) then (if (wrap64 (x6 + 1)) < (x0.length : Int) then (if 0 ≤ (wrap64 (x6 + 2)) then (if (wrap64 (x6 + 2)) < (x0.length : Int) then (if 0 ≤ (wrap64 (x6 + 3)) then (if (wrap64 (x6 + 3)) < (x0.length : Int) then (if 0 ≤ (wrap64 (x6 + 4)) then (if (wrap64 (x6 + 4)) < (x0.length : Int) then (if (wrap64 (rd x0 x6)) ≥ 48 then (ladderbackref13_Decode.j1 k x0 x5 x6 (decide ((wrap64 (rd x0 x6)) ≤ 55)) (wrap64 (rd x0 x6)) (wrap64 ((wrap64 (rd x0 (wrap64 (x6 + 1)))) + (wrap64 (256 * (wrap64 (rd x0 (wrap64 (x6 + 2)))))))) (wrap64 ((wrap64 (rd x0 (wrap64 (x6 + 3)))) + (wrap64 (256 * (wrap64 (rd x0 (wrap64 (x6 + 4))))))))) else (ladderbackref13_Decode.j1 k x0 x5 x6 false (wrap64 (rd x0 x6)) (wrap64 ((wrap64 (rd x0 (wrap64 (x6 + 1)))) + (wrap64 (256 * (wrap64 (rd x0 (wrap64 (x6 + 2)))))))) (wrap64 ((wrap64 (rd x0 (wrap64 (x6 + 3)))) + (wrap64 (256 * (wrap64 (rd x0 (wrap64 (x6 + 4)))))))))) else (none)) else (none)) else (none)) else (none)) else (none)) else (none)) else (none)) else (none)) else (none))) else (some (x5, 0, 0))
def ladderbackref13_Decode.j1 : Nat → List Int → List (S47) → Int → Bool → Int → Int → Int → Option ((List (S47)) × Int × Int)
  | 0, _, _, _, _, _, _, _ => none
  | k + 1, x0, x5, x6, x62, x142000, x142001, x142002 => if x62 = true then (some (([] : List (S47)), wrap64 (Int.tdiv x6 5), 6)) else ((ladderbackref12_Right.f k x142000 x142001 x142002).bind fun t142 => (if t142 = true then (if x5.length < 5864062014805 then (ladderbackref13_Decode.l0 k x0 (x5 ++ [(⟨x142000, x142001, x142002⟩ : S47)]) (wrap64 (x6 + 5))) else (none)) else (some (([] : List (S47)), wrap64 (Int.tdiv x6 5), 7))))
end
def ladderbackref13_Decode.f (k : Nat) (l0 : List Int) : Option ((List (S47)) × Int × Int) := ladderbackref13_Decode.l0 k l0 ([] : List (S47)) 0
def ladderbackref13_Decode.T7 : Bool × List (List Nat × List Nat) := (true, [([], []), ([], []), ([0, 1], [0, 1]), ([2], [2]), ([3], [3]), ([], []), ([], []), ([6], [6]), ([5, 7], [5, 7]), ([8], [8]), ([9], [9]), ([], []), ([], []), ([12], [12]), ([11, 13], [11, 13]), ([14], [14]), ([15], [15]), ([16], [16]), ([10, 17], [10, 17]), ([], []), ([], []), ([20], [20]), ([19, 21], [19, 21]), ([22], [22]), ([23], [23]), ([], []), ([], []), ([26], [26]), ([25, 27], [25, 27]), ([28], [28]), ([29], [29]), ([30], [30]), ([24, 31], [24, 31]), ([4, 18, 32], [4, 18, 32]), ([], []), ([34, 33, 0, 1, 2, 3, 4, 5, 6, 7, 8, 9, 10, 11, 12, 13, 14, 15, 16, 17, 18, 19, 20, 21, 22, 23, 24, 25, 26, 27, 28, 29, 30, 31, 32, 33, 34], [33, 34])])
def ladderbackref13_Decode.B7 : List Nat := [0, 0, 3, 7, 15, 0, 0, 64, 224, 480, 992, 0, 0, 4096, 14336, 30720, 63488, 129024, 262112, 0, 0, 1048576, 3670016, 7864320, 16252928, 0, 0, 67108864, 234881024, 503316480, 1040187392, 2113929216, 4294443008, 8589934591, 0, 34359738367]
theorem ladderbackref13_Decode.tab7 : rtab .any (opsOf Tryd.f11 7) = ladderbackref13_Decode.T7 := by kernel_rfl
theorem ladderbackref13_Decode.bits7 : waitsOk ladderbackref13_Decode.T7.2 ladderbackref13_Decode.B7 = true := by kernel_rfl
set_option maxHeartbeats 8000000 in
set_option maxRecDepth 100000 in
theorem ladderbackref13_Decode.calls (k : Nat) (A0 : Option Addr) (c0 : Nat) (l0 : List Int) (r1 : List (S47)) (r2 : Int) (r3 : Int) (w : World) (hr0 : Kd.C (Kd.int .u8) w A0 l0.length l0) (hc0 : l0.length ≤ c0) (h : ladderbackref13_Decode.f k l0 = some (r1, r2, r3)) :
    Calls Tryd.prog 11 #[.slice A0 l0.length c0] w fun e w' => ∃ v0_ : Value, e = .returned (.tuple #[v0_, .int .i64 r2, .int .i64 r3]) ∧ Kd.R k47 47 w' w.heap.size (fun _ => True) v0_ r1 ∧ Below w.heap.size w w' := by
  have hu47 := Tryd.underlying47
  have HR0 := Aside0.mk hr0
  have HC0 := Aside0.mk hc0
  clear hr0 hc0
  have HB := Aside0.mk (Below.refl w.heap.size w)
  have H : (ladderbackref13_Decode.l0 k l0 ([] : List (S47)) 0) = some (r1, r2, r3) := h
  clear h
  have H' := Aside0.mk H
  clear H
  go_enter Tryd.func11, Tryd.ntmps11
  go_wp2
  go_loopg [5, 6] k (fun kq v5 v6 w' => ∃ (x5_1 : List (S47)) (x6_1 : Int), v6 = .int .i64 x6_1 ∧ Aside0 (ladderbackref13_Decode.l0 kq l0 x5_1 x6_1 = some (r1, r2, r3)) ∧ Aside0 (kq ≤ k) ∧ Aside0 (Kd.R k47 47 w' w.heap.size (fun _ => True) v5 x5_1) ∧ Aside0 (Below w.heap.size w w'))
  case atStart => exact ⟨(([] : List (S47))), (0), (by first | rfl | (simp; done) | (simp [*]; done)), H', ⟨Nat.le_refl _⟩, ⟨by first | exact Kd.R_nil _ _ _ _ _ | exact Kd.N_nil _ _ _ _ _ | exact Kd.V_nil _ _ _ _ _ | exact Kd.Q_nil _ _ _ _ _ | exact Kd.S_nil _ _ _ _ _⟩, ⟨by repeat (first | (with_reducible first | exact HB.out | apply below_alloc | apply pw_below_drewN | apply below_drew1) | exact HB.out)⟩⟩
  case round =>
    clear H'
    try clear c1
    obtain ⟨x5_1, x6_1, rfl, HA, HK1, HO_5, HB⟩ := hrel
    cases gk with
    | zero => exact absurd HA.out (by simp [ladderbackref13_Decode.l0])
    | succ k1 =>
      have H := HA.out
      clear HA
      simp only [ladderbackref13_Decode.l0] at H
      by_cases c2 : x6_1 < (l0.length : Int)
      · rw [if_pos c2] at H
        have c2b0 : decide (x6_1 < (l0.length : Int)) = true := decide_eq_true c2
        clear c2
        by_cases c3 : (wrap64 ((l0.length : Int) - x6_1)) < 5
        · rw [if_pos c3] at H
          have c3b0 : decide ((wrap64 ((l0.length : Int) - x6_1)) < 5) = true := decide_eq_true c3
          clear c3
          simp only [Option.some.injEq, Prod.mk.injEq] at H
          obtain ⟨rfl, rfl, rfl⟩ := H
          go_wp2
          go_ret3
          exact ⟨_, by first | rfl | (simp [errW_none, errW_some] <;> rfl) | (simp [*, errW_none, errW_some] <;> rfl), by first | exact Kd.R_nil _ _ _ _ _ | exact Kd.N_nil _ _ _ _ _ | exact Kd.V_nil _ _ _ _ _ | exact Kd.Q_nil _ _ _ _ _ | exact Kd.S_nil _ _ _ _ _, by repeat (first | (with_reducible first | exact HB.out | apply below_alloc | apply pw_below_drewN | apply below_drew1) | exact HB.out)⟩
        · rw [if_neg c3] at H
          have c3b0 : decide ((wrap64 ((l0.length : Int) - x6_1)) < 5) = false := decide_eq_false c3
          clear c3
          by_cases c4 : 0 ≤ x6_1
          · rw [if_pos c4] at H
            have c4b0 : decide (0 ≤ x6_1) = true := decide_eq_true c4
            clear c4
            obtain ⟨ji5, hji5⟩ : ∃ j_ : Int, (wrap64 (x6_1 + 1)) = j_ := ⟨_, rfl⟩
            replace H : (if 0 ≤ (ji5) then (if (ji5) < (l0.length : Int) then (if 0 ≤ (wrap64 (x6_1 + 2)) then (if (wrap64 (x6_1 + 2)) < (l0.length : Int) then (if 0 ≤ (wrap64 (x6_1 + 3)) then (if (wrap64 (x6_1 + 3)) < (l0.length : Int) then (if 0 ≤ (wrap64 (x6_1 + 4)) then (if (wrap64 (x6_1 + 4)) < (l0.length : Int) then (if (wrap64 (rd l0 x6_1)) ≥ 48 then (ladderbackref13_Decode.j1 k1 l0 x5_1 x6_1 (decide ((wrap64 (rd l0 x6_1)) ≤ 55)) (wrap64 (rd l0 x6_1)) (wrap64 ((wrap64 (rd l0 (ji5))) + (wrap64 (256 * (wrap64 (rd l0 (wrap64 (x6_1 + 2)))))))) (wrap64 ((wrap64 (rd l0 (wrap64 (x6_1 + 3)))) + (wrap64 (256 * (wrap64 (rd l0 (wrap64 (x6_1 + 4))))))))) else (ladderbackref13_Decode.j1 k1 l0 x5_1 x6_1 false (wrap64 (rd l0 x6_1)) (wrap64 ((wrap64 (rd l0 (ji5))) + (wrap64 (256 * (wrap64 (rd l0 (wrap64 (x6_1 + 2)))))))) (wrap64 ((wrap64 (rd l0 (wrap64 (x6_1 + 3)))) + (wrap64 (256 * (wrap64 (rd l0 (wrap64 (x6_1 + 4)))))))))) else (none)) else (none)) else (none)) else (none)) else (none)) else (none)) else (none)) else (none)) = some (r1, r2, r3) := by first | (rw [hji5] at H; exact H) | (simp only [hji5] at H ⊢; exact H)
            have hji5w : (IntKind.i64.wrap (x6_1 + 1)) = ji5 := (i64_w _).trans hji5
            by_cases c6 : 0 ≤ (ji5)
            · rw [if_pos c6] at H
              have c6b0 : decide (0 ≤ (ji5)) = true := decide_eq_true c6
              clear c6
              by_cases c7 : (ji5) < (l0.length : Int)
              · rw [if_pos c7] at H
                have c7b0 : decide ((ji5) < (l0.length : Int)) = true := decide_eq_true c7
                clear c7
                obtain ⟨ji8, hji8⟩ : ∃ j_ : Int, (wrap64 (x6_1 + 2)) = j_ := ⟨_, rfl⟩
                replace H : (if 0 ≤ (ji8) then (if (ji8) < (l0.length : Int) then (if 0 ≤ (wrap64 (x6_1 + 3)) then (if (wrap64 (x6_1 + 3)) < (l0.length : Int) then (if 0 ≤ (wrap64 (x6_1 + 4)) then (if (wrap64 (x6_1 + 4)) < (l0.length : Int) then (if (wrap64 (rd l0 x6_1)) ≥ 48 then (ladderbackref13_Decode.j1 k1 l0 x5_1 x6_1 (decide ((wrap64 (rd l0 x6_1)) ≤ 55)) (wrap64 (rd l0 x6_1)) (wrap64 ((wrap64 (rd l0 (ji5))) + (wrap64 (256 * (wrap64 (rd l0 (ji8))))))) (wrap64 ((wrap64 (rd l0 (wrap64 (x6_1 + 3)))) + (wrap64 (256 * (wrap64 (rd l0 (wrap64 (x6_1 + 4))))))))) else (ladderbackref13_Decode.j1 k1 l0 x5_1 x6_1 false (wrap64 (rd l0 x6_1)) (wrap64 ((wrap64 (rd l0 (ji5))) + (wrap64 (256 * (wrap64 (rd l0 (ji8))))))) (wrap64 ((wrap64 (rd l0 (wrap64 (x6_1 + 3)))) + (wrap64 (256 * (wrap64 (rd l0 (wrap64 (x6_1 + 4)))))))))) else (none)) else (none)) else (none)) else (none)) else (none)) else (none)) = some (r1, r2, r3) := by first | (rw [hji8] at H; exact H) | (simp only [hji8] at H ⊢; exact H)
                have hji8w : (IntKind.i64.wrap (x6_1 + 2)) = ji8 := (i64_w _).trans hji8
                by_cases c9 : 0 ≤ (ji8)
                · rw [if_pos c9] at H
                  have c9b0 : decide (0 ≤ (ji8)) = true := decide_eq_true c9
                  clear c9
                  by_cases c10 : (ji8) < (l0.length : Int)
                  · rw [if_pos c10] at H
                    have c10b0 : decide ((ji8) < (l0.length : Int)) = true := decide_eq_true c10
                    clear c10
                    obtain ⟨ji11, hji11⟩ : ∃ j_ : Int, (wrap64 (x6_1 + 3)) = j_ := ⟨_, rfl⟩
                    replace H : (if 0 ≤ (ji11) then (if (ji11) < (l0.length : Int) then (if 0 ≤ (wrap64 (x6_1 + 4)) then (if (wrap64 (x6_1 + 4)) < (l0.length : Int) then (if (wrap64 (rd l0 x6_1)) ≥ 48 then (ladderbackref13_Decode.j1 k1 l0 x5_1 x6_1 (decide ((wrap64 (rd l0 x6_1)) ≤ 55)) (wrap64 (rd l0 x6_1)) (wrap64 ((wrap64 (rd l0 (ji5))) + (wrap64 (256 * (wrap64 (rd l0 (ji8))))))) (wrap64 ((wrap64 (rd l0 (ji11))) + (wrap64 (256 * (wrap64 (rd l0 (wrap64 (x6_1 + 4))))))))) else (ladderbackref13_Decode.j1 k1 l0 x5_1 x6_1 false (wrap64 (rd l0 x6_1)) (wrap64 ((wrap64 (rd l0 (ji5))) + (wrap64 (256 * (wrap64 (rd l0 (ji8))))))) (wrap64 ((wrap64 (rd l0 (ji11))) + (wrap64 (256 * (wrap64 (rd l0 (wrap64 (x6_1 + 4)))))))))) else (none)) else (none)) else (none)) else (none)) = some (r1, r2, r3) := by first | (rw [hji11] at H; exact H) | (simp only [hji11] at H ⊢; exact H)
                    have hji11w : (IntKind.i64.wrap (x6_1 + 3)) = ji11 := (i64_w _).trans hji11
                    by_cases c12 : 0 ≤ (ji11)
                    · rw [if_pos c12] at H
                      have c12b0 : decide (0 ≤ (ji11)) = true := decide_eq_true c12
                      clear c12
                      by_cases c13 : (ji11) < (l0.length : Int)
                      · rw [if_pos c13] at H
                        have c13b0 : decide ((ji11) < (l0.length : Int)) = true := decide_eq_true c13
                        clear c13
                        obtain ⟨ji14, hji14⟩ : ∃ j_ : Int, (wrap64 (x6_1 + 4)) = j_ := ⟨_, rfl⟩
                        replace H : (if 0 ≤ (ji14) then (if (ji14) < (l0.length : Int) then (if (wrap64 (rd l0 x6_1)) ≥ 48 then (ladderbackref13_Decode.j1 k1 l0 x5_1 x6_1 (decide ((wrap64 (rd l0 x6_1)) ≤ 55)) (wrap64 (rd l0 x6_1)) (wrap64 ((wrap64 (rd l0 (ji5))) + (wrap64 (256 * (wrap64 (rd l0 (ji8))))))) (wrap64 ((wrap64 (rd l0 (ji11))) + (wrap64 (256 * (wrap64 (rd l0 (ji14)))))))) else (ladderbackref13_Decode.j1 k1 l0 x5_1 x6_1 false (wrap64 (rd l0 x6_1)) (wrap64 ((wrap64 (rd l0 (ji5))) + (wrap64 (256 * (wrap64 (rd l0 (ji8))))))) (wrap64 ((wrap64 (rd l0 (ji11))) + (wrap64 (256 * (wrap64 (rd l0 (ji14))))))))) else (none)) else (none)) = some (r1, r2, r3) := by first | (rw [hji14] at H; exact H) | (simp only [hji14] at H ⊢; exact H)
                        have hji14w : (IntKind.i64.wrap (x6_1 + 4)) = ji14 := (i64_w _).trans hji14
                        by_cases c15 : 0 ≤ (ji14)
                        · rw [if_pos c15] at H
                          have c15b0 : decide (0 ≤ (ji14)) = true := decide_eq_true c15
                          clear c15
                          by_cases c16 : (ji14) < (l0.length : Int)
                          · rw [if_pos c16] at H
                            have c16b0 : decide ((ji14) < (l0.length : Int)) = true := decide_eq_true c16
                            clear c16
                            have HC17 := Aside0.mk H
                            clear H
                            try go_wp2
                            have n0_ := Aside0.mk (Kd.R_drew HO_5.out)
                            have n1_ := Aside0.mk (below_drew1 HB.out)
                            clear HO_5
                            clear HB
                            have HO_5 := n0_
                            have HB := n1_
                            clear n0_ n1_
                            have p136 : 0 ≤ (x6_1 : Int) := of_decide_eq_true (by first | (with_reducible assumption) | assumption)
                            have q136 : x6_1 < (l0.length : Int) := of_decide_eq_true (by first | (with_reducible assumption) | assumption)
                            obtain ⟨ad136, e136, hx136_0⟩ := Kd.at_int HR0.out x6_1 p136 q136
                            have hw136_0 := hx136_0
                            cases e136
                            replace hx136_0 := (HB.out.cell (World.block_lt_of_cell? w _ hx136_0)).trans hx136_0
                            replace p136 := eq_true p136
                            replace q136 := eq_true q136
                            have p137 : 0 ≤ ((ji5) : Int) := of_decide_eq_true (by first | (with_reducible assumption) | assumption)
                            have q137 : (ji5) < (l0.length : Int) := of_decide_eq_true (by first | (with_reducible assumption) | assumption)
                            obtain ⟨ad137, e137, hx137_0⟩ := Kd.at_int HR0.out (ji5) p137 q137
                            have hw137_0 := hx137_0
                            obtain rfl : ad136 = ad137 := (by injection e137)
                            replace hx137_0 := (HB.out.cell (World.block_lt_of_cell? w _ hx137_0)).trans hx137_0
                            replace p137 := eq_true p137
                            replace q137 := eq_true q137
                            have p138 : 0 ≤ ((ji8) : Int) := of_decide_eq_true (by first | (with_reducible assumption) | assumption)
                            have q138 : (ji8) < (l0.length : Int) := of_decide_eq_true (by first | (with_reducible assumption) | assumption)
                            obtain ⟨ad138, e138, hx138_0⟩ := Kd.at_int HR0.out (ji8) p138 q138
                            have hw138_0 := hx138_0
                            obtain rfl : ad136 = ad138 := (by injection e138)
                            replace hx138_0 := (HB.out.cell (World.block_lt_of_cell? w _ hx138_0)).trans hx138_0
                            replace p138 := eq_true p138
                            replace q138 := eq_true q138
                            have p139 : 0 ≤ ((ji11) : Int) := of_decide_eq_true (by first | (with_reducible assumption) | assumption)
                            have q139 : (ji11) < (l0.length : Int) := of_decide_eq_true (by first | (with_reducible assumption) | assumption)
                            obtain ⟨ad139, e139, hx139_0⟩ := Kd.at_int HR0.out (ji11) p139 q139
                            have hw139_0 := hx139_0
                            obtain rfl : ad136 = ad139 := (by injection e139)
                            replace hx139_0 := (HB.out.cell (World.block_lt_of_cell? w _ hx139_0)).trans hx139_0
                            replace p139 := eq_true p139
                            replace q139 := eq_true q139
                            have p140 : 0 ≤ ((ji14) : Int) := of_decide_eq_true (by first | (with_reducible assumption) | assumption)
                            have q140 : (ji14) < (l0.length : Int) := of_decide_eq_true (by first | (with_reducible assumption) | assumption)
                            obtain ⟨ad140, e140, hx140_0⟩ := Kd.at_int HR0.out (ji14) p140 q140
                            have hw140_0 := hx140_0
                            obtain rfl : ad136 = ad140 := (by injection e140)
                            replace hx140_0 := (HB.out.cell (World.block_lt_of_cell? w _ hx140_0)).trans hx140_0
                            replace p140 := eq_true p140
                            replace q140 := eq_true q140
                            refine start_ (n := 36) (S := fun w' => w'.cell? (ad136.add (x6_1).toNat) = some (.int .u8 (rd l0 x6_1)) ∧ w'.cell? (ad136.add ((ji5)).toNat) = some (.int .u8 (rd l0 (ji5))) ∧ w'.cell? (ad136.add ((ji8)).toNat) = some (.int .u8 (rd l0 (ji8))) ∧ w'.cell? (ad136.add ((ji11)).toNat) = some (.int .u8 (rd l0 (ji11))) ∧ w'.cell? (ad136.add ((ji14)).toNat) = some (.int .u8 (rd l0 (ji14)))) (ds := []) #[false, false, false, false, false, false, false, false, false, false, false, false, false, false, false, false, false, false, false, false, false, false, false, false, false, false, false, false, false, false, false, false, false, false, false, false] (by kernel_rfl) rfl rfl ⟨((HB.out.cell (World.block_lt_of_cell? w _ hw136_0)).trans hw136_0), ((HB.out.cell (World.block_lt_of_cell? w _ hw137_0)).trans hw137_0), ((HB.out.cell (World.block_lt_of_cell? w _ hw138_0)).trans hw138_0), ((HB.out.cell (World.block_lt_of_cell? w _ hw139_0)).trans hw139_0), ((HB.out.cell (World.block_lt_of_cell? w _ hw140_0)).trans hw140_0)⟩ (fun hHeld => ?_); refine with_tabW ladderbackref13_Decode.tab7 ladderbackref13_Decode.bits7 (fun HT_ HW_ => ?_)
                            generalize wr.drew = w18 at HO_5 HB hx136_0 hx137_0 hx138_0 hx139_0 hx140_0 hHeld ⊢
                            refine pure_ (i := 0) (N := some 21) (v := ?_) (a' := ?_) #[true, false, false, false, false, false, false, false, false, false, false, false, false, false, false, false, false, false, false, false, false, false, false, false, false, false, false, false, false, false, false, false, false, false, false, false] rfl rfl (any_of HT_.out (by kernel_rfl)) (fun _ _ _ h => h) (Or.inl ⟨by rfl, ?_⟩) ?_ ?_
                            rotate_left
                            · intro w'
                              go_simp
                              with_reducible rfl
                            rotate_left
                            · simp only [Act.put, List.setIfInBounds_toArray, List.set_cons_zero, List.set_cons_succ, i64_w, i32_w]
                              rfl
                            refine pure_ (i := 1) (N := some 22) (v := ?_) (a' := ?_) #[true, true, false, false, false, false, false, false, false, false, false, false, false, false, false, false, false, false, false, false, false, false, false, false, false, false, false, false, false, false, false, false, false, false, false, false] rfl rfl (any_of HT_.out (by kernel_rfl)) (fun _ _ _ h => h) (Or.inl ⟨by rfl, ?_⟩) ?_ ?_
                            rotate_left
                            · intro w'
                              go_simp
                              with_reducible rfl
                            rotate_left
                            · simp only [Act.put, List.setIfInBounds_toArray, List.set_cons_zero, List.set_cons_succ, i64_w, i32_w]
                              rfl
                            refine pure_ (i := 2) (N := some 23) (v := ?_) (a' := ?_) #[true, true, true, false, false, false, false, false, false, false, false, false, false, false, false, false, false, false, false, false, false, false, false, false, false, false, false, false, false, false, false, false, false, false, false, false] rfl rfl (any_of HT_.out (by kernel_rfl)) (fun _ _ _ h => h) (Or.inl ⟨by rfl, ?_⟩) ?_ ?_
                            rotate_left
                            · intro w'
                              go_simp
                              with_reducible rfl
                            rotate_left
                            · simp only [Act.put, List.setIfInBounds_toArray, List.set_cons_zero, List.set_cons_succ, i64_w, i32_w]
                              rfl
                            refine pure_ (i := 5) (N := some 26) (v := ?_) (a' := ?_) #[true, true, true, false, false, true, false, false, false, false, false, false, false, false, false, false, false, false, false, false, false, false, false, false, false, false, false, false, false, false, false, false, false, false, false, false] rfl rfl (any_of HT_.out (by kernel_rfl)) (fun _ _ _ h => h) (Or.inl ⟨by rfl, ?_⟩) ?_ ?_
                            rotate_left
                            · intro w'
                              go_simp
                              with_reducible rfl
                            rotate_left
                            · simp only [Act.put, List.setIfInBounds_toArray, List.set_cons_zero, List.set_cons_succ, i64_w, i32_w]
                              rfl
                            refine pure_ (i := 6) (N := some 27) (v := ?_) (a' := ?_) #[true, true, true, false, false, true, true, false, false, false, false, false, false, false, false, false, false, false, false, false, false, false, false, false, false, false, false, false, false, false, false, false, false, false, false, false] rfl rfl (any_of HT_.out (by kernel_rfl)) (fun _ _ _ h => h) (Or.inl ⟨by rfl, ?_⟩) ?_ ?_
                            rotate_left
                            · intro w'
                              go_simp
                              with_reducible rfl
                            rotate_left
                            · simp only [Act.put, List.setIfInBounds_toArray, List.set_cons_zero, List.set_cons_succ, i64_w, i32_w]
                              rfl
                            refine pure_ (i := 7) (N := some 28) (v := ?_) (a' := ?_) #[true, true, true, false, false, true, true, true, false, false, false, false, false, false, false, false, false, false, false, false, false, false, false, false, false, false, false, false, false, false, false, false, false, false, false, false] rfl rfl (any_of HT_.out (by kernel_rfl)) (fun _ _ _ h => h) (Or.inl ⟨by rfl, ?_⟩) ?_ ?_
                            rotate_left
                            · intro w'
                              go_simp
                              with_reducible rfl
                            rotate_left
                            · simp only [Act.put, List.setIfInBounds_toArray, List.set_cons_zero, List.set_cons_succ, i64_w, i32_w]
                              rfl
                            refine pure_ (i := 8) (N := some 29) (v := ?_) (a' := ?_) #[true, true, true, false, false, true, true, true, true, false, false, false, false, false, false, false, false, false, false, false, false, false, false, false, false, false, false, false, false, false, false, false, false, false, false, false] rfl rfl (any_of HT_.out (by kernel_rfl)) (fun _ _ _ h => h) (Or.inl ⟨by rfl, ?_⟩) ?_ ?_
                            rotate_left
                            · intro w'
                              go_simp
                              with_reducible rfl
                            rotate_left
                            · simp only [Act.put, List.setIfInBounds_toArray, List.set_cons_zero, List.set_cons_succ, i64_w, i32_w]
                              rfl
                            refine pure_ (i := 11) (N := some 32) (v := ?_) (a' := ?_) #[true, true, true, false, false, true, true, true, true, false, false, true, false, false, false, false, false, false, false, false, false, false, false, false, false, false, false, false, false, false, false, false, false, false, false, false] rfl rfl (any_of HT_.out (by kernel_rfl)) (fun _ _ _ h => h) (Or.inl ⟨by rfl, ?_⟩) ?_ ?_
                            rotate_left
                            · intro w'
                              go_simp
                              with_reducible rfl
                            rotate_left
                            · simp only [Act.put, List.setIfInBounds_toArray, List.set_cons_zero, List.set_cons_succ, i64_w, i32_w]
                              rfl
                            refine pure_ (i := 12) (N := some 33) (v := ?_) (a' := ?_) #[true, true, true, false, false, true, true, true, true, false, false, true, true, false, false, false, false, false, false, false, false, false, false, false, false, false, false, false, false, false, false, false, false, false, false, false] rfl rfl (any_of HT_.out (by kernel_rfl)) (fun _ _ _ h => h) (Or.inl ⟨by rfl, ?_⟩) ?_ ?_
                            rotate_left
                            · intro w'
                              go_simp
                              with_reducible rfl
                            rotate_left
                            · simp only [Act.put, List.setIfInBounds_toArray, List.set_cons_zero, List.set_cons_succ, i64_w, i32_w]
                              rfl
                            refine pure_ (i := 13) (N := some 34) (v := ?_) (a' := ?_) #[true, true, true, false, false, true, true, true, true, false, false, true, true, true, false, false, false, false, false, false, false, false, false, false, false, false, false, false, false, false, false, false, false, false, false, false] rfl rfl (any_of HT_.out (by kernel_rfl)) (fun _ _ _ h => h) (Or.inl ⟨by rfl, ?_⟩) ?_ ?_
                            rotate_left
                            · intro w'
                              go_simp
                              with_reducible rfl
                            rotate_left
                            · simp only [Act.put, List.setIfInBounds_toArray, List.set_cons_zero, List.set_cons_succ, i64_w, i32_w]
                              rfl
                            refine pure_ (i := 14) (N := some 35) (v := ?_) (a' := ?_) #[true, true, true, false, false, true, true, true, true, false, false, true, true, true, true, false, false, false, false, false, false, false, false, false, false, false, false, false, false, false, false, false, false, false, false, false] rfl rfl (any_of HT_.out (by kernel_rfl)) (fun _ _ _ h => h) (Or.inl ⟨by rfl, ?_⟩) ?_ ?_
                            rotate_left
                            · intro w'
                              go_simp
                              with_reducible rfl
                            rotate_left
                            · simp only [Act.put, List.setIfInBounds_toArray, List.set_cons_zero, List.set_cons_succ, i64_w, i32_w]
                              rfl
                            refine pure_ (i := 19) (N := some 40) (v := ?_) (a' := ?_) #[true, true, true, false, false, true, true, true, true, false, false, true, true, true, true, false, false, false, false, true, false, false, false, false, false, false, false, false, false, false, false, false, false, false, false, false] rfl rfl (any_of HT_.out (by kernel_rfl)) (fun _ _ _ h => h) (Or.inl ⟨by rfl, ?_⟩) ?_ ?_
                            rotate_left
                            · intro w'
                              go_simp
                              with_reducible rfl
                            rotate_left
                            · simp only [Act.put, List.setIfInBounds_toArray, List.set_cons_zero, List.set_cons_succ, i64_w, i32_w]
                              rfl
                            refine pure_ (i := 20) (N := some 41) (v := ?_) (a' := ?_) #[true, true, true, false, false, true, true, true, true, false, false, true, true, true, true, false, false, false, false, true, true, false, false, false, false, false, false, false, false, false, false, false, false, false, false, false] rfl rfl (any_of HT_.out (by kernel_rfl)) (fun _ _ _ h => h) (Or.inl ⟨by rfl, ?_⟩) ?_ ?_
                            rotate_left
                            · intro w'
                              go_simp
                              with_reducible rfl
                            rotate_left
                            · simp only [Act.put, List.setIfInBounds_toArray, List.set_cons_zero, List.set_cons_succ, i64_w, i32_w]
                              rfl
                            refine pure_ (i := 21) (N := some 42) (v := ?_) (a' := ?_) #[true, true, true, false, false, true, true, true, true, false, false, true, true, true, true, false, false, false, false, true, true, true, false, false, false, false, false, false, false, false, false, false, false, false, false, false] rfl rfl (any_of HT_.out (by kernel_rfl)) (fun _ _ _ h => h) (Or.inl ⟨by rfl, ?_⟩) ?_ ?_
                            rotate_left
                            · intro w'
                              go_simp
                              with_reducible rfl
                            rotate_left
                            · simp only [Act.put, List.setIfInBounds_toArray, List.set_cons_zero, List.set_cons_succ, i64_w, i32_w]
                              rfl
                            refine pure_ (i := 22) (N := some 43) (v := ?_) (a' := ?_) #[true, true, true, false, false, true, true, true, true, false, false, true, true, true, true, false, false, false, false, true, true, true, true, false, false, false, false, false, false, false, false, false, false, false, false, false] rfl rfl (any_of HT_.out (by kernel_rfl)) (fun _ _ _ h => h) (Or.inl ⟨by rfl, ?_⟩) ?_ ?_
                            rotate_left
                            · intro w'
                              go_simp
                              with_reducible rfl
                            rotate_left
                            · simp only [Act.put, List.setIfInBounds_toArray, List.set_cons_zero, List.set_cons_succ, i64_w, i32_w]
                              rfl
                            refine pure_ (i := 25) (N := some 46) (v := ?_) (a' := ?_) #[true, true, true, false, false, true, true, true, true, false, false, true, true, true, true, false, false, false, false, true, true, true, true, false, false, true, false, false, false, false, false, false, false, false, false, false] rfl rfl (any_of HT_.out (by kernel_rfl)) (fun _ _ _ h => h) (Or.inl ⟨by rfl, ?_⟩) ?_ ?_
                            rotate_left
                            · intro w'
                              go_simp
                              with_reducible rfl
                            rotate_left
                            · simp only [Act.put, List.setIfInBounds_toArray, List.set_cons_zero, List.set_cons_succ, i64_w, i32_w]
                              rfl
                            refine pure_ (i := 26) (N := some 47) (v := ?_) (a' := ?_) #[true, true, true, false, false, true, true, true, true, false, false, true, true, true, true, false, false, false, false, true, true, true, true, false, false, true, true, false, false, false, false, false, false, false, false, false] rfl rfl (any_of HT_.out (by kernel_rfl)) (fun _ _ _ h => h) (Or.inl ⟨by rfl, ?_⟩) ?_ ?_
                            rotate_left
                            · intro w'
                              go_simp
                              with_reducible rfl
                            rotate_left
                            · simp only [Act.put, List.setIfInBounds_toArray, List.set_cons_zero, List.set_cons_succ, i64_w, i32_w]
                              rfl
                            refine pure_ (i := 27) (N := some 48) (v := ?_) (a' := ?_) #[true, true, true, false, false, true, true, true, true, false, false, true, true, true, true, false, false, false, false, true, true, true, true, false, false, true, true, true, false, false, false, false, false, false, false, false] rfl rfl (any_of HT_.out (by kernel_rfl)) (fun _ _ _ h => h) (Or.inl ⟨by rfl, ?_⟩) ?_ ?_
                            rotate_left
                            · intro w'
                              go_simp
                              with_reducible rfl
                            rotate_left
                            · simp only [Act.put, List.setIfInBounds_toArray, List.set_cons_zero, List.set_cons_succ, i64_w, i32_w]
                              rfl
                            refine pure_ (i := 28) (N := some 49) (v := ?_) (a' := ?_) #[true, true, true, false, false, true, true, true, true, false, false, true, true, true, true, false, false, false, false, true, true, true, true, false, false, true, true, true, true, false, false, false, false, false, false, false] rfl rfl (any_of HT_.out (by kernel_rfl)) (fun _ _ _ h => h) (Or.inl ⟨by rfl, ?_⟩) ?_ ?_
                            rotate_left
                            · intro w'
                              go_simp
                              with_reducible rfl
                            rotate_left
                            · simp only [Act.put, List.setIfInBounds_toArray, List.set_cons_zero, List.set_cons_succ, i64_w, i32_w]
                              rfl
                            refine take_ (i := 3) (N := some 24) (v := ?_) (a' := ?_) #[true, true, true, true, false, true, true, true, true, false, false, true, true, true, true, false, false, false, false, true, true, true, true, false, false, true, true, true, true, false, false, false, false, false, false, false] rfl rfl (take_ofW HT_.out HW_.out (by kernel_rfl)) (fun _ _ _ h => h) (Or.inl ⟨by rfl, ?_⟩) hHeld ?_ ?_
                            rotate_left
                            · rintro w' ⟨s0, s1, s2, s3, s4⟩
                              go_simp
                              with_reducible rfl
                            rotate_left
                            · simp only [Act.put, List.setIfInBounds_toArray, List.set_cons_zero, List.set_cons_succ, i64_w, i32_w]
                              rfl
                            refine pure_ (i := 4) (N := some 25) (v := ?_) (a' := ?_) #[true, true, true, true, true, true, true, true, true, false, false, true, true, true, true, false, false, false, false, true, true, true, true, false, false, true, true, true, true, false, false, false, false, false, false, false] rfl rfl (any_of HT_.out (by kernel_rfl)) (fun _ _ _ h => h) (Or.inl ⟨by rfl, ?_⟩) ?_ ?_
                            rotate_left
                            · intro w'
                              go_simp
                              with_reducible rfl
                            rotate_left
                            · simp only [Act.put, List.setIfInBounds_toArray, List.set_cons_zero, List.set_cons_succ, i64_w, i32_w]
                              rfl
                            refine take_ (i := 9) (N := some 30) (v := ?_) (a' := ?_) #[true, true, true, true, true, true, true, true, true, true, false, true, true, true, true, false, false, false, false, true, true, true, true, false, false, true, true, true, true, false, false, false, false, false, false, false] rfl rfl (take_ofW HT_.out HW_.out (by kernel_rfl)) (fun _ _ _ h => h) (Or.inl ⟨by rfl, ?_⟩) hHeld ?_ ?_
                            rotate_left
                            · rintro w' ⟨s0, s1, s2, s3, s4⟩
                              go_simp
                              with_reducible rfl
                            rotate_left
                            · simp only [Act.put, List.setIfInBounds_toArray, List.set_cons_zero, List.set_cons_succ, i64_w, i32_w]
                              rfl
                            refine pure_ (i := 10) (N := some 31) (v := ?_) (a' := ?_) #[true, true, true, true, true, true, true, true, true, true, true, true, true, true, true, false, false, false, false, true, true, true, true, false, false, true, true, true, true, false, false, false, false, false, false, false] rfl rfl (any_of HT_.out (by kernel_rfl)) (fun _ _ _ h => h) (Or.inl ⟨by rfl, ?_⟩) ?_ ?_
                            rotate_left
                            · intro w'
                              go_simp
                              with_reducible rfl
                            rotate_left
                            · simp only [Act.put, List.setIfInBounds_toArray, List.set_cons_zero, List.set_cons_succ, i64_w, i32_w]
                              rfl
                            refine take_ (i := 15) (N := some 36) (v := ?_) (a' := ?_) #[true, true, true, true, true, true, true, true, true, true, true, true, true, true, true, true, false, false, false, true, true, true, true, false, false, true, true, true, true, false, false, false, false, false, false, false] rfl rfl (take_ofW HT_.out HW_.out (by kernel_rfl)) (fun _ _ _ h => h) (Or.inl ⟨by rfl, ?_⟩) hHeld ?_ ?_
                            rotate_left
                            · rintro w' ⟨s0, s1, s2, s3, s4⟩
                              go_simp
                              with_reducible rfl
                            rotate_left
                            · simp only [Act.put, List.setIfInBounds_toArray, List.set_cons_zero, List.set_cons_succ, i64_w, i32_w]
                              rfl
                            refine pure_ (i := 16) (N := some 37) (v := ?_) (a' := ?_) #[true, true, true, true, true, true, true, true, true, true, true, true, true, true, true, true, true, false, false, true, true, true, true, false, false, true, true, true, true, false, false, false, false, false, false, false] rfl rfl (any_of HT_.out (by kernel_rfl)) (fun _ _ _ h => h) (Or.inl ⟨by rfl, ?_⟩) ?_ ?_
                            rotate_left
                            · intro w'
                              go_simp
                              with_reducible rfl
                            rotate_left
                            · simp only [Act.put, List.setIfInBounds_toArray, List.set_cons_zero, List.set_cons_succ, i64_w, i32_w]
                              rfl
                            refine pure_ (i := 17) (N := some 38) (v := ?_) (a' := ?_) #[true, true, true, true, true, true, true, true, true, true, true, true, true, true, true, true, true, true, false, true, true, true, true, false, false, true, true, true, true, false, false, false, false, false, false, false] rfl rfl (any_of HT_.out (by kernel_rfl)) (fun _ _ _ h => h) (Or.inl ⟨by rfl, ?_⟩) ?_ ?_
                            rotate_left
                            · intro w'
                              go_simp
                              with_reducible rfl
                            rotate_left
                            · simp only [Act.put, List.setIfInBounds_toArray, List.set_cons_zero, List.set_cons_succ, i64_w, i32_w]
                              rfl
                            refine pure_ (i := 18) (N := some 39) (v := ?_) (a' := ?_) #[true, true, true, true, true, true, true, true, true, true, true, true, true, true, true, true, true, true, true, true, true, true, true, false, false, true, true, true, true, false, false, false, false, false, false, false] rfl rfl (any_of HT_.out (by kernel_rfl)) (fun _ _ _ h => h) (Or.inl ⟨by rfl, ?_⟩) ?_ ?_
                            rotate_left
                            · intro w'
                              go_simp
                              with_reducible rfl
                            rotate_left
                            · simp only [Act.put, List.setIfInBounds_toArray, List.set_cons_zero, List.set_cons_succ, i64_w, i32_w]
                              rfl
                            refine take_ (i := 23) (N := some 44) (v := ?_) (a' := ?_) #[true, true, true, true, true, true, true, true, true, true, true, true, true, true, true, true, true, true, true, true, true, true, true, true, false, true, true, true, true, false, false, false, false, false, false, false] rfl rfl (take_ofW HT_.out HW_.out (by kernel_rfl)) (fun _ _ _ h => h) (Or.inl ⟨by rfl, ?_⟩) hHeld ?_ ?_
                            rotate_left
                            · rintro w' ⟨s0, s1, s2, s3, s4⟩
                              go_simp
                              with_reducible rfl
                            rotate_left
                            · simp only [Act.put, List.setIfInBounds_toArray, List.set_cons_zero, List.set_cons_succ, i64_w, i32_w]
                              rfl
                            refine pure_ (i := 24) (N := some 45) (v := ?_) (a' := ?_) #[true, true, true, true, true, true, true, true, true, true, true, true, true, true, true, true, true, true, true, true, true, true, true, true, true, true, true, true, true, false, false, false, false, false, false, false] rfl rfl (any_of HT_.out (by kernel_rfl)) (fun _ _ _ h => h) (Or.inl ⟨by rfl, ?_⟩) ?_ ?_
                            rotate_left
                            · intro w'
                              go_simp
                              with_reducible rfl
                            rotate_left
                            · simp only [Act.put, List.setIfInBounds_toArray, List.set_cons_zero, List.set_cons_succ, i64_w, i32_w]
                              rfl
                            refine take_ (i := 29) (N := some 50) (v := ?_) (a' := ?_) #[true, true, true, true, true, true, true, true, true, true, true, true, true, true, true, true, true, true, true, true, true, true, true, true, true, true, true, true, true, true, false, false, false, false, false, false] rfl rfl (take_ofW HT_.out HW_.out (by kernel_rfl)) (fun _ _ _ h => h) (Or.inl ⟨by rfl, ?_⟩) hHeld ?_ ?_
                            rotate_left
                            · rintro w' ⟨s0, s1, s2, s3, s4⟩
                              go_simp
                              with_reducible rfl
                            rotate_left
                            · simp only [Act.put, List.setIfInBounds_toArray, List.set_cons_zero, List.set_cons_succ, i64_w, i32_w]
                              rfl
                            refine pure_ (i := 30) (N := some 51) (v := ?_) (a' := ?_) #[true, true, true, true, true, true, true, true, true, true, true, true, true, true, true, true, true, true, true, true, true, true, true, true, true, true, true, true, true, true, true, false, false, false, false, false] rfl rfl (any_of HT_.out (by kernel_rfl)) (fun _ _ _ h => h) (Or.inl ⟨by rfl, ?_⟩) ?_ ?_
                            rotate_left
                            · intro w'
                              go_simp
                              with_reducible rfl
                            rotate_left
                            · simp only [Act.put, List.setIfInBounds_toArray, List.set_cons_zero, List.set_cons_succ, i64_w, i32_w]
                              rfl
                            refine pure_ (i := 31) (N := some 52) (v := ?_) (a' := ?_) #[true, true, true, true, true, true, true, true, true, true, true, true, true, true, true, true, true, true, true, true, true, true, true, true, true, true, true, true, true, true, true, true, false, false, false, false] rfl rfl (any_of HT_.out (by kernel_rfl)) (fun _ _ _ h => h) (Or.inl ⟨by rfl, ?_⟩) ?_ ?_
                            rotate_left
                            · intro w'
                              go_simp
                              with_reducible rfl
                            rotate_left
                            · simp only [Act.put, List.setIfInBounds_toArray, List.set_cons_zero, List.set_cons_succ, i64_w, i32_w]
                              rfl
                            refine pure_ (i := 32) (N := some 53) (v := ?_) (a' := ?_) #[true, true, true, true, true, true, true, true, true, true, true, true, true, true, true, true, true, true, true, true, true, true, true, true, true, true, true, true, true, true, true, true, true, false, false, false] rfl rfl (any_of HT_.out (by kernel_rfl)) (fun _ _ _ h => h) (Or.inl ⟨by rfl, ?_⟩) ?_ ?_
                            rotate_left
                            · intro w'
                              go_simp
                              with_reducible rfl
                            rotate_left
                            · simp only [Act.put, List.setIfInBounds_toArray, List.set_cons_zero, List.set_cons_succ, i64_w, i32_w]
                              rfl
                            refine pure_ (i := 33) (N := some 54) (v := ?_) (a' := ?_) #[true, true, true, true, true, true, true, true, true, true, true, true, true, true, true, true, true, true, true, true, true, true, true, true, true, true, true, true, true, true, true, true, true, true, false, false] rfl rfl (any_of HT_.out (by kernel_rfl)) (fun _ _ _ h => h) (Or.inl ⟨by rfl, ?_⟩) ?_ ?_
                            rotate_left
                            · intro w'
                              go_simp
                              with_reducible rfl
                            rotate_left
                            · simp only [Act.put, List.setIfInBounds_toArray, List.set_cons_zero, List.set_cons_succ, i64_w, i32_w]
                              rfl
                            refine one_ (i := 34) (N := some 7) #[true, true, true, true, true, true, true, true, true, true, true, true, true, true, true, true, true, true, true, true, true, true, true, true, true, true, true, true, true, true, true, true, true, true, true, false] rfl rfl (one_of HT_.out (by kernel_rfl)) (by decide) (fun K hK => ?_)
                            refine box_step ?hg (N := 7) ?hd (cs := #[.int .i64 0, .int .i64 0, .int .i64 0]) (t := 47) ?hr ?_; (case hd => rfl); (case hg => rfl); (case hr => first | (go_simp; done) | (go_simp; rfl))
                            intro gb141 hg w19 hbox hb
                            have n0_ := Aside0.mk (Kd.R_below (Kd.R_elderB (by (with_reducible repeat (first | apply Kd.R_alloc | apply Kd.R_drewN | apply Kd.R_drew)); exact HO_5.out) gb141 (Nat.le_of_eq hg.symm)) hb)
                            have n1_ := Aside0.mk (below_step (by repeat (first | (with_reducible first | exact HB.out | apply below_alloc | apply pw_below_drewN | apply below_drew1) | exact HB.out)) hb)
                            have n2_ := Aside0.mk (hbox)
                            have n3_ := Aside0.mk ((by rw [hg]; exact (below_size (by repeat (first | (with_reducible first | exact HB.out | apply below_alloc | apply pw_below_drewN | apply below_drew1) | exact HB.out))) : w.heap.size ≤ gb141))
                            have n4_ := Aside0.mk ((by rw [hg]; exact (below_size (by repeat (first | (with_reducible first | exact HB.out | apply below_alloc | apply pw_below_drewN | apply below_drew1) | exact HB.out))) : w.heap.size ≤ gb141))
                            clear HO_5
                            clear HB
                            have HO_5 := n0_
                            have HB := n1_
                            have BK141 := n2_
                            have GW141 := n3_
                            have GE141 := n4_
                            clear n0_ n1_ n2_ n3_ n4_
                            clear hb hbox hg
                            refine hK.out _ _ ⟨((HB.out.cell (World.block_lt_of_cell? w _ hw136_0)).trans hw136_0), ((HB.out.cell (World.block_lt_of_cell? w _ hw137_0)).trans hw137_0), ((HB.out.cell (World.block_lt_of_cell? w _ hw138_0)).trans hw138_0), ((HB.out.cell (World.block_lt_of_cell? w _ hw139_0)).trans hw139_0), ((HB.out.cell (World.block_lt_of_cell? w _ hw140_0)).trans hw140_0)⟩ (fun hHeld => ?_)
                            clear hK K
                            refine norm_ (a' := ?_) ?_ ?_
                            rotate_left
                            · show Act.put _ (some 7) _ = _
                              simp only [Act.put, List.setIfInBounds_toArray, List.set_cons_zero, List.set_cons_succ, i64_w, i32_w]
                              rfl
                            refine one_ (i := 35) (N := none) #[true, true, true, true, true, true, true, true, true, true, true, true, true, true, true, true, true, true, true, true, true, true, true, true, true, true, true, true, true, true, true, true, true, true, true, true] rfl rfl (one_of HT_.out (by kernel_rfl)) (by decide) (fun K hK => ?_)
                            have hs20 : w19.cell? ⟨gb141, 0, none⟩ = some (.int .i64 0) := (blk_cell BK141.out 0).trans rfl
                            have hfs20 := blk_frozen BK141.out 0
                            have hs21 : w19.cell? ⟨gb141, 1, none⟩ = some (.int .i64 0) := (blk_cell BK141.out 1).trans rfl
                            have hfs21 := blk_frozen BK141.out 1
                            have hs22 : w19.cell? ⟨gb141, 2, none⟩ = some (.int .i64 0) := (blk_cell BK141.out 2).trans rfl
                            have hfs22 := blk_frozen BK141.out 2
                            refine skip_ (w1 := ?_) (by rfl) rfl ?_ ?_
                            rotate_left
                            · go_simp
                              rfl
                            refine hK.out _ _ ⟨((cell_far (p := ⟨gb141, _, none⟩) (by first | exact Nat.ne_of_lt (Nat.lt_of_lt_of_le (by have := World.block_lt_of_cell? _ _ hw136_0; first | rwa [add_block] at this | exact this) GW141.out) | (rw [add_block]; exact Nat.ne_of_lt (Nat.lt_of_lt_of_le (by have := World.block_lt_of_cell? _ _ hw136_0; first | rwa [add_block] at this | exact this) GW141.out)) | (show (Addr.add _ _).block ≠ _; rw [add_block]; exact Nat.ne_of_lt (Nat.lt_of_lt_of_le (by have := World.block_lt_of_cell? _ _ hw136_0; first | rwa [add_block] at this | exact this) GW141.out)) | (dsimp only; exact Nat.ne_of_lt (Nat.lt_of_lt_of_le (by have := World.block_lt_of_cell? _ _ hw136_0; first | rwa [add_block] at this | exact this) GW141.out))) _).trans (((cell_far (p := ⟨gb141, _, none⟩) (by first | exact Nat.ne_of_lt (Nat.lt_of_lt_of_le (by have := World.block_lt_of_cell? _ _ hw136_0; first | rwa [add_block] at this | exact this) GW141.out) | (rw [add_block]; exact Nat.ne_of_lt (Nat.lt_of_lt_of_le (by have := World.block_lt_of_cell? _ _ hw136_0; first | rwa [add_block] at this | exact this) GW141.out)) | (show (Addr.add _ _).block ≠ _; rw [add_block]; exact Nat.ne_of_lt (Nat.lt_of_lt_of_le (by have := World.block_lt_of_cell? _ _ hw136_0; first | rwa [add_block] at this | exact this) GW141.out)) | (dsimp only; exact Nat.ne_of_lt (Nat.lt_of_lt_of_le (by have := World.block_lt_of_cell? _ _ hw136_0; first | rwa [add_block] at this | exact this) GW141.out))) _).trans (((cell_far (p := ⟨gb141, _, none⟩) (by first | exact Nat.ne_of_lt (Nat.lt_of_lt_of_le (by have := World.block_lt_of_cell? _ _ hw136_0; first | rwa [add_block] at this | exact this) GW141.out) | (rw [add_block]; exact Nat.ne_of_lt (Nat.lt_of_lt_of_le (by have := World.block_lt_of_cell? _ _ hw136_0; first | rwa [add_block] at this | exact this) GW141.out)) | (show (Addr.add _ _).block ≠ _; rw [add_block]; exact Nat.ne_of_lt (Nat.lt_of_lt_of_le (by have := World.block_lt_of_cell? _ _ hw136_0; first | rwa [add_block] at this | exact this) GW141.out)) | (dsimp only; exact Nat.ne_of_lt (Nat.lt_of_lt_of_le (by have := World.block_lt_of_cell? _ _ hw136_0; first | rwa [add_block] at this | exact this) GW141.out))) _).trans (hHeld.1)))))), ((cell_far (p := ⟨gb141, _, none⟩) (by first | exact Nat.ne_of_lt (Nat.lt_of_lt_of_le (by have := World.block_lt_of_cell? _ _ hw137_0; first | rwa [add_block] at this | exact this) GW141.out) | (rw [add_block]; exact Nat.ne_of_lt (Nat.lt_of_lt_of_le (by have := World.block_lt_of_cell? _ _ hw137_0; first | rwa [add_block] at this | exact this) GW141.out)) | (show (Addr.add _ _).block ≠ _; rw [add_block]; exact Nat.ne_of_lt (Nat.lt_of_lt_of_le (by have := World.block_lt_of_cell? _ _ hw137_0; first | rwa [add_block] at this | exact this) GW141.out)) | (dsimp only; exact Nat.ne_of_lt (Nat.lt_of_lt_of_le (by have := World.block_lt_of_cell? _ _ hw137_0; first | rwa [add_block] at this | exact this) GW141.out))) _).trans (((cell_far (p := ⟨gb141, _, none⟩) (by first | exact Nat.ne_of_lt (Nat.lt_of_lt_of_le (by have := World.block_lt_of_cell? _ _ hw137_0; first | rwa [add_block] at this | exact this) GW141.out) | (rw [add_block]; exact Nat.ne_of_lt (Nat.lt_of_lt_of_le (by have := World.block_lt_of_cell? _ _ hw137_0; first | rwa [add_block] at this | exact this) GW141.out)) | (show (Addr.add _ _).block ≠ _; rw [add_block]; exact Nat.ne_of_lt (Nat.lt_of_lt_of_le (by have := World.block_lt_of_cell? _ _ hw137_0; first | rwa [add_block] at this | exact this) GW141.out)) | (dsimp only; exact Nat.ne_of_lt (Nat.lt_of_lt_of_le (by have := World.block_lt_of_cell? _ _ hw137_0; first | rwa [add_block] at this | exact this) GW141.out))) _).trans (((cell_far (p := ⟨gb141, _, none⟩) (by first | exact Nat.ne_of_lt (Nat.lt_of_lt_of_le (by have := World.block_lt_of_cell? _ _ hw137_0; first | rwa [add_block] at this | exact this) GW141.out) | (rw [add_block]; exact Nat.ne_of_lt (Nat.lt_of_lt_of_le (by have := World.block_lt_of_cell? _ _ hw137_0; first | rwa [add_block] at this | exact this) GW141.out)) | (show (Addr.add _ _).block ≠ _; rw [add_block]; exact Nat.ne_of_lt (Nat.lt_of_lt_of_le (by have := World.block_lt_of_cell? _ _ hw137_0; first | rwa [add_block] at this | exact this) GW141.out)) | (dsimp only; exact Nat.ne_of_lt (Nat.lt_of_lt_of_le (by have := World.block_lt_of_cell? _ _ hw137_0; first | rwa [add_block] at this | exact this) GW141.out))) _).trans (hHeld.2.1)))))), ((cell_far (p := ⟨gb141, _, none⟩) (by first | exact Nat.ne_of_lt (Nat.lt_of_lt_of_le (by have := World.block_lt_of_cell? _ _ hw138_0; first | rwa [add_block] at this | exact this) GW141.out) | (rw [add_block]; exact Nat.ne_of_lt (Nat.lt_of_lt_of_le (by have := World.block_lt_of_cell? _ _ hw138_0; first | rwa [add_block] at this | exact this) GW141.out)) | (show (Addr.add _ _).block ≠ _; rw [add_block]; exact Nat.ne_of_lt (Nat.lt_of_lt_of_le (by have := World.block_lt_of_cell? _ _ hw138_0; first | rwa [add_block] at this | exact this) GW141.out)) | (dsimp only; exact Nat.ne_of_lt (Nat.lt_of_lt_of_le (by have := World.block_lt_of_cell? _ _ hw138_0; first | rwa [add_block] at this | exact this) GW141.out))) _).trans (((cell_far (p := ⟨gb141, _, none⟩) (by first | exact Nat.ne_of_lt (Nat.lt_of_lt_of_le (by have := World.block_lt_of_cell? _ _ hw138_0; first | rwa [add_block] at this | exact this) GW141.out) | (rw [add_block]; exact Nat.ne_of_lt (Nat.lt_of_lt_of_le (by have := World.block_lt_of_cell? _ _ hw138_0; first | rwa [add_block] at this | exact this) GW141.out)) | (show (Addr.add _ _).block ≠ _; rw [add_block]; exact Nat.ne_of_lt (Nat.lt_of_lt_of_le (by have := World.block_lt_of_cell? _ _ hw138_0; first | rwa [add_block] at this | exact this) GW141.out)) | (dsimp only; exact Nat.ne_of_lt (Nat.lt_of_lt_of_le (by have := World.block_lt_of_cell? _ _ hw138_0; first | rwa [add_block] at this | exact this) GW141.out))) _).trans (((cell_far (p := ⟨gb141, _, none⟩) (by first | exact Nat.ne_of_lt (Nat.lt_of_lt_of_le (by have := World.block_lt_of_cell? _ _ hw138_0; first | rwa [add_block] at this | exact this) GW141.out) | (rw [add_block]; exact Nat.ne_of_lt (Nat.lt_of_lt_of_le (by have := World.block_lt_of_cell? _ _ hw138_0; first | rwa [add_block] at this | exact this) GW141.out)) | (show (Addr.add _ _).block ≠ _; rw [add_block]; exact Nat.ne_of_lt (Nat.lt_of_lt_of_le (by have := World.block_lt_of_cell? _ _ hw138_0; first | rwa [add_block] at this | exact this) GW141.out)) | (dsimp only; exact Nat.ne_of_lt (Nat.lt_of_lt_of_le (by have := World.block_lt_of_cell? _ _ hw138_0; first | rwa [add_block] at this | exact this) GW141.out))) _).trans (hHeld.2.2.1)))))), ((cell_far (p := ⟨gb141, _, none⟩) (by first | exact Nat.ne_of_lt (Nat.lt_of_lt_of_le (by have := World.block_lt_of_cell? _ _ hw139_0; first | rwa [add_block] at this | exact this) GW141.out) | (rw [add_block]; exact Nat.ne_of_lt (Nat.lt_of_lt_of_le (by have := World.block_lt_of_cell? _ _ hw139_0; first | rwa [add_block] at this | exact this) GW141.out)) | (show (Addr.add _ _).block ≠ _; rw [add_block]; exact Nat.ne_of_lt (Nat.lt_of_lt_of_le (by have := World.block_lt_of_cell? _ _ hw139_0; first | rwa [add_block] at this | exact this) GW141.out)) | (dsimp only; exact Nat.ne_of_lt (Nat.lt_of_lt_of_le (by have := World.block_lt_of_cell? _ _ hw139_0; first | rwa [add_block] at this | exact this) GW141.out))) _).trans (((cell_far (p := ⟨gb141, _, none⟩) (by first | exact Nat.ne_of_lt (Nat.lt_of_lt_of_le (by have := World.block_lt_of_cell? _ _ hw139_0; first | rwa [add_block] at this | exact this) GW141.out) | (rw [add_block]; exact Nat.ne_of_lt (Nat.lt_of_lt_of_le (by have := World.block_lt_of_cell? _ _ hw139_0; first | rwa [add_block] at this | exact this) GW141.out)) | (show (Addr.add _ _).block ≠ _; rw [add_block]; exact Nat.ne_of_lt (Nat.lt_of_lt_of_le (by have := World.block_lt_of_cell? _ _ hw139_0; first | rwa [add_block] at this | exact this) GW141.out)) | (dsimp only; exact Nat.ne_of_lt (Nat.lt_of_lt_of_le (by have := World.block_lt_of_cell? _ _ hw139_0; first | rwa [add_block] at this | exact this) GW141.out))) _).trans (((cell_far (p := ⟨gb141, _, none⟩) (by first | exact Nat.ne_of_lt (Nat.lt_of_lt_of_le (by have := World.block_lt_of_cell? _ _ hw139_0; first | rwa [add_block] at this | exact this) GW141.out) | (rw [add_block]; exact Nat.ne_of_lt (Nat.lt_of_lt_of_le (by have := World.block_lt_of_cell? _ _ hw139_0; first | rwa [add_block] at this | exact this) GW141.out)) | (show (Addr.add _ _).block ≠ _; rw [add_block]; exact Nat.ne_of_lt (Nat.lt_of_lt_of_le (by have := World.block_lt_of_cell? _ _ hw139_0; first | rwa [add_block] at this | exact this) GW141.out)) | (dsimp only; exact Nat.ne_of_lt (Nat.lt_of_lt_of_le (by have := World.block_lt_of_cell? _ _ hw139_0; first | rwa [add_block] at this | exact this) GW141.out))) _).trans (hHeld.2.2.2.1)))))), ((cell_far (p := ⟨gb141, _, none⟩) (by first | exact Nat.ne_of_lt (Nat.lt_of_lt_of_le (by have := World.block_lt_of_cell? _ _ hw140_0; first | rwa [add_block] at this | exact this) GW141.out) | (rw [add_block]; exact Nat.ne_of_lt (Nat.lt_of_lt_of_le (by have := World.block_lt_of_cell? _ _ hw140_0; first | rwa [add_block] at this | exact this) GW141.out)) | (show (Addr.add _ _).block ≠ _; rw [add_block]; exact Nat.ne_of_lt (Nat.lt_of_lt_of_le (by have := World.block_lt_of_cell? _ _ hw140_0; first | rwa [add_block] at this | exact this) GW141.out)) | (dsimp only; exact Nat.ne_of_lt (Nat.lt_of_lt_of_le (by have := World.block_lt_of_cell? _ _ hw140_0; first | rwa [add_block] at this | exact this) GW141.out))) _).trans (((cell_far (p := ⟨gb141, _, none⟩) (by first | exact Nat.ne_of_lt (Nat.lt_of_lt_of_le (by have := World.block_lt_of_cell? _ _ hw140_0; first | rwa [add_block] at this | exact this) GW141.out) | (rw [add_block]; exact Nat.ne_of_lt (Nat.lt_of_lt_of_le (by have := World.block_lt_of_cell? _ _ hw140_0; first | rwa [add_block] at this | exact this) GW141.out)) | (show (Addr.add _ _).block ≠ _; rw [add_block]; exact Nat.ne_of_lt (Nat.lt_of_lt_of_le (by have := World.block_lt_of_cell? _ _ hw140_0; first | rwa [add_block] at this | exact this) GW141.out)) | (dsimp only; exact Nat.ne_of_lt (Nat.lt_of_lt_of_le (by have := World.block_lt_of_cell? _ _ hw140_0; first | rwa [add_block] at this | exact this) GW141.out))) _).trans (((cell_far (p := ⟨gb141, _, none⟩) (by first | exact Nat.ne_of_lt (Nat.lt_of_lt_of_le (by have := World.block_lt_of_cell? _ _ hw140_0; first | rwa [add_block] at this | exact this) GW141.out) | (rw [add_block]; exact Nat.ne_of_lt (Nat.lt_of_lt_of_le (by have := World.block_lt_of_cell? _ _ hw140_0; first | rwa [add_block] at this | exact this) GW141.out)) | (show (Addr.add _ _).block ≠ _; rw [add_block]; exact Nat.ne_of_lt (Nat.lt_of_lt_of_le (by have := World.block_lt_of_cell? _ _ hw140_0; first | rwa [add_block] at this | exact this) GW141.out)) | (dsimp only; exact Nat.ne_of_lt (Nat.lt_of_lt_of_le (by have := World.block_lt_of_cell? _ _ hw140_0; first | rwa [add_block] at this | exact this) GW141.out))) _).trans (hHeld.2.2.2.2))))))⟩ (fun hHeld => ?_)
                            clear hK K
                            refine done_ (done_of HT_.out (by kernel_rfl)) ?_
                            go_upto_region 8 with (fail)
                            go_cut [62] (fun v62 wc => ∃ (kq : Nat) (x62_16 : Bool), v62 = .bool x62_16 ∧ Aside0 (ladderbackref13_Decode.j1 kq l0 x5_1 x6_1 x62_16 (wrap64 (rd l0 x6_1)) (wrap64 ((wrap64 (rd l0 (ji5))) + (wrap64 (256 * (wrap64 (rd l0 (ji8))))))) (wrap64 ((wrap64 (rd l0 (ji11))) + (wrap64 (256 * (wrap64 (rd l0 (ji14))))))) = some (r1, r2, r3)) ∧ Aside0 (kq ≤ k1) ∧ Aside0 (Kd.R k47 47 wc w.heap.size (fun k_ => k_ ≠ gb141) u5 x5_1) ∧ Aside0 (wc.heap[gb141]? = some (.cells #[.int .i64 (wrap64 (rd l0 x6_1)), .int .i64 (wrap64 ((wrap64 (rd l0 (ji5))) + (wrap64 (256 * (wrap64 (rd l0 (ji8))))))), .int .i64 (wrap64 ((wrap64 (rd l0 (ji11))) + (wrap64 (256 * (wrap64 (rd l0 (ji14)))))))] 47 (0, 0))) ∧ Aside0 (Below w.heap.size w wc))
                            case first =>
                              have H := HC17.out
                              clear HC17
                              by_cases c23 : (wrap64 (rd l0 x6_1)) ≥ 48
                              · rw [if_pos c23] at H
                                have c23b0 : decide (48 ≤ (wrap64 (rd l0 x6_1))) = true := decide_eq_true c23
                                clear c23
                                (first | rw [c23b0] | (simp only [i64_w, i32_w]; rw [c23b0]) | skip)
                                have H' := Aside0.mk H
                                clear H
                                have hcz24_0 : w19.cell? ⟨gb141, 0, none⟩ = some (.int .i64 0) := (blk_cell BK141.out 0).trans rfl
                                have hcz24_1 : w19.cell? ⟨gb141, 1, none⟩ = some (.int .i64 0) := (blk_cell BK141.out 1).trans rfl
                                have hcz24_2 : w19.cell? ⟨gb141, 2, none⟩ = some (.int .i64 0) := (blk_cell BK141.out 2).trans rfl
                                have hfz24_0 := blk_frozen BK141.out 0
                                have hfz24_1 := blk_frozen BK141.out 1
                                have hfz24_2 := blk_frozen BK141.out 2
                                go_wp2
                                go_meet
                                case rel => exact ⟨_, (decide ((wrap64 (rd l0 x6_1)) ≤ 55)), (by first | rfl | (simp; done) | (simp [*]; done)), H', ⟨by have := HK1.out; first | omega | exact Nat.le_refl _⟩, ⟨by (with_reducible repeat (first | apply Kd.R_alloc | apply Kd.R_drewN | apply Kd.R_drew)); exact Kd.R_mono (Kd.R_far (p := ⟨gb141, 2, none⟩) (Kd.R_far (p := ⟨gb141, 1, none⟩) (Kd.R_far (p := ⟨gb141, 0, none⟩) (Kd.R_mono HO_5.out (fun k_ hk => (⟨hk, hk.2⟩ : _ ∧ k_ ≠ gb141))) (fun _ hk => hk.2) (.int .i64 (wrap64 (rd l0 x6_1)))) (fun _ hk => hk.2) (.int .i64 (wrap64 ((wrap64 (rd l0 (ji5))) + (wrap64 (256 * (wrap64 (rd l0 (ji8))))))))) (fun _ hk => hk.2) (.int .i64 (wrap64 ((wrap64 (rd l0 (ji11))) + (wrap64 (256 * (wrap64 (rd l0 (ji14))))))))) (fun _ hk => hk.1.2)⟩, ⟨by (with_reducible repeat (first | refine blk_drewN ?_ _ | refine blk_drew ?_ | refine blk_alloc ?_ _)); refine blk_put (cs := #[.int .i64 (wrap64 (rd l0 x6_1)), .int .i64 (wrap64 ((wrap64 (rd l0 (ji5))) + (wrap64 (256 * (wrap64 (rd l0 (ji8))))))), .int .i64 0]) ?_ 2 _ rfl; (with_reducible repeat (first | refine blk_drewN ?_ _ | refine blk_drew ?_ | refine blk_alloc ?_ _)); refine blk_put (cs := #[.int .i64 (wrap64 (rd l0 x6_1)), .int .i64 0, .int .i64 0]) ?_ 1 _ rfl; (with_reducible repeat (first | refine blk_drewN ?_ _ | refine blk_drew ?_ | refine blk_alloc ?_ _)); refine blk_put (cs := #[.int .i64 0, .int .i64 0, .int .i64 0]) ?_ 0 _ rfl; (with_reducible repeat (first | refine blk_drewN ?_ _ | refine blk_drew ?_ | refine blk_alloc ?_ _)); exact BK141.out⟩, ⟨by repeat (first | (with_reducible first | exact HB.out | apply below_alloc | apply pw_below_drewN | apply below_drew1 | refine below_set ?_ GE141.out) | exact HB.out)⟩⟩
                              · rw [if_neg c23] at H
                                have c23b0 : decide (48 ≤ (wrap64 (rd l0 x6_1))) = false := decide_eq_false c23
                                clear c23
                                (first | rw [c23b0] | (simp only [i64_w, i32_w]; rw [c23b0]) | skip)
                                have H' := Aside0.mk H
                                clear H
                                have hcz25_0 : w19.cell? ⟨gb141, 0, none⟩ = some (.int .i64 0) := (blk_cell BK141.out 0).trans rfl
                                have hcz25_1 : w19.cell? ⟨gb141, 1, none⟩ = some (.int .i64 0) := (blk_cell BK141.out 1).trans rfl
                                have hcz25_2 : w19.cell? ⟨gb141, 2, none⟩ = some (.int .i64 0) := (blk_cell BK141.out 2).trans rfl
                                have hfz25_0 := blk_frozen BK141.out 0
                                have hfz25_1 := blk_frozen BK141.out 1
                                have hfz25_2 := blk_frozen BK141.out 2
                                go_wp2
                                go_meet
                                case rel => exact ⟨_, (false), (by first | rfl | (simp; done) | (simp [*]; done)), H', ⟨by have := HK1.out; first | omega | exact Nat.le_refl _⟩, ⟨by (with_reducible repeat (first | apply Kd.R_alloc | apply Kd.R_drewN | apply Kd.R_drew)); exact Kd.R_mono (Kd.R_far (p := ⟨gb141, 2, none⟩) (Kd.R_far (p := ⟨gb141, 1, none⟩) (Kd.R_far (p := ⟨gb141, 0, none⟩) (Kd.R_mono HO_5.out (fun k_ hk => (⟨hk, hk.2⟩ : _ ∧ k_ ≠ gb141))) (fun _ hk => hk.2) (.int .i64 (wrap64 (rd l0 x6_1)))) (fun _ hk => hk.2) (.int .i64 (wrap64 ((wrap64 (rd l0 (ji5))) + (wrap64 (256 * (wrap64 (rd l0 (ji8))))))))) (fun _ hk => hk.2) (.int .i64 (wrap64 ((wrap64 (rd l0 (ji11))) + (wrap64 (256 * (wrap64 (rd l0 (ji14))))))))) (fun _ hk => hk.1.2)⟩, ⟨by (with_reducible repeat (first | refine blk_drewN ?_ _ | refine blk_drew ?_ | refine blk_alloc ?_ _)); refine blk_put (cs := #[.int .i64 (wrap64 (rd l0 x6_1)), .int .i64 (wrap64 ((wrap64 (rd l0 (ji5))) + (wrap64 (256 * (wrap64 (rd l0 (ji8))))))), .int .i64 0]) ?_ 2 _ rfl; (with_reducible repeat (first | refine blk_drewN ?_ _ | refine blk_drew ?_ | refine blk_alloc ?_ _)); refine blk_put (cs := #[.int .i64 (wrap64 (rd l0 x6_1)), .int .i64 0, .int .i64 0]) ?_ 1 _ rfl; (with_reducible repeat (first | refine blk_drewN ?_ _ | refine blk_drew ?_ | refine blk_alloc ?_ _)); refine blk_put (cs := #[.int .i64 0, .int .i64 0, .int .i64 0]) ?_ 0 _ rfl; (with_reducible repeat (first | refine blk_drewN ?_ _ | refine blk_drew ?_ | refine blk_alloc ?_ _)); exact BK141.out⟩, ⟨by repeat (first | (with_reducible first | exact HB.out | apply below_alloc | apply pw_below_drewN | apply below_drew1 | refine below_set ?_ GE141.out) | exact HB.out)⟩⟩
                            case rest =>
                              clear HC17
                              try clear c1
                              try clear p1
                              try clear q1
                              try clear hx1
                              try clear c2
                              try clear c2b0
                              try clear p2
                              try clear c3
                              try clear c3b0
                              try clear c4
                              try clear c4b0
                              try clear c6
                              try clear c6b0
                              try clear p6
                              try clear c7
                              try clear c7b0
                              try clear c9
                              try clear c9b0
                              try clear c10
                              try clear c10b0
                              try clear c11
                              try clear c12
                              try clear c12b0
                              try clear c13
                              try clear c13b0
                              try clear p13
                              try clear q13
                              try clear hx13
                              try clear p14
                              try clear q14
                              try clear hx14
                              try clear c15
                              try clear c15b0
                              try clear c16
                              try clear c16b0
                              try clear c23
                              try clear c23b0
                              try clear hcz24_0
                              try clear hcz24_1
                              try clear hcz24_2
                              try clear hcz25_0
                              try clear hcz25_1
                              try clear hcz25_2
                              try clear hfz24_0
                              try clear hfz24_1
                              try clear hfz24_2
                              try clear hfz25_0
                              try clear hfz25_1
                              try clear hfz25_2
                              try clear hx136_0
                              try clear hx137_0
                              try clear hx138_0
                              try clear hx139_0
                              try clear hx140_0
                              try clear p136
                              try clear p137
                              try clear p138
                              try clear p139
                              try clear p140
                              try clear q136
                              try clear q137
                              try clear q138
                              try clear q139
                              try clear q140
                              obtain ⟨kq, x62_16, rfl, HA, HJ16, HO_5, BK141, HB⟩ := hcut
                              cases kq with
                              | zero => exact absurd HA.out (by simp [ladderbackref13_Decode.j1])
                              | succ kj16 =>
                                have H := HA.out
                                clear HA
                                simp only [ladderbackref13_Decode.j1] at H
                                by_cases c26 : x62_16 = true
                                · subst c26
                                  have H1 : (some (([] : List (S47)), wrap64 (Int.tdiv x6_1 5), 6)) = some (r1, r2, r3) := by rw [if_pos rfl] at H; exact H
                                  clear H
                                  have H := H1
                                  clear H1
                                  simp only [Option.some.injEq, Prod.mk.injEq] at H
                                  obtain ⟨rfl, rfl, rfl⟩ := H
                                  go_wp2
                                  go_ret3
                                  exact ⟨_, by first | rfl | (simp [errW_none, errW_some] <;> rfl) | (simp only [← hji5, ← hji8, ← hji11, ← hji14]; first | rfl | (simp [errW_none, errW_some] <;> rfl)) | (simp [*, errW_none, errW_some] <;> rfl), by first | exact Kd.R_nil _ _ _ _ _ | exact Kd.N_nil _ _ _ _ _ | exact Kd.V_nil _ _ _ _ _ | exact Kd.Q_nil _ _ _ _ _ | exact Kd.S_nil _ _ _ _ _, by repeat (first | (with_reducible first | exact HB.out | apply below_alloc | apply pw_below_drewN | apply below_drew1 | refine below_set ?_ GE141.out) | exact HB.out)⟩
                                · replace c26 := Bool.eq_false_iff.mpr c26
                                  subst c26
                                  have H1 : ((ladderbackref12_Right.f kj16 (wrap64 (rd l0 x6_1)) (wrap64 ((wrap64 (rd l0 (ji5))) + (wrap64 (256 * (wrap64 (rd l0 (ji8))))))) (wrap64 ((wrap64 (rd l0 (ji11))) + (wrap64 (256 * (wrap64 (rd l0 (ji14)))))))).bind fun t142 => (if t142 = true then (if x5_1.length < 5864062014805 then (ladderbackref13_Decode.l0 kj16 l0 (x5_1 ++ [(⟨(wrap64 (rd l0 x6_1)), (wrap64 ((wrap64 (rd l0 (ji5))) + (wrap64 (256 * (wrap64 (rd l0 (ji8))))))), (wrap64 ((wrap64 (rd l0 (ji11))) + (wrap64 (256 * (wrap64 (rd l0 (ji14)))))))⟩ : S47)]) (wrap64 (x6_1 + 5))) else (none)) else (some (([] : List (S47)), wrap64 (Int.tdiv x6_1 5), 7)))) = some (r1, r2, r3) := by rw [if_neg (show ¬ (false = true) by decide)] at H; exact H
                                  clear H
                                  have H := H1
                                  clear H1
                                  replace H := Option.bind_eq_some_iff.mp H
                                  obtain ⟨t142, A270, H⟩ := H
                                  replace H : (if t142 = true then (if x5_1.length < 5864062014805 then (ladderbackref13_Decode.l0 kj16 l0 (x5_1 ++ [(⟨(wrap64 (rd l0 x6_1)), (wrap64 ((wrap64 (rd l0 (ji5))) + (wrap64 (256 * (wrap64 (rd l0 (ji8))))))), (wrap64 ((wrap64 (rd l0 (ji11))) + (wrap64 (256 * (wrap64 (rd l0 (ji14)))))))⟩ : S47)]) (wrap64 (x6_1 + 5))) else (none)) else (some (([] : List (S47)), wrap64 (Int.tdiv x6_1 5), 7))) = some (r1, r2, r3) := H
                                  have A27 := Aside0.mk A270
                                  clear A270
                                  by_cases c28 : t142 = true
                                  · subst c28
                                    have H1 : (if x5_1.length < 5864062014805 then (ladderbackref13_Decode.l0 kj16 l0 (x5_1 ++ [(⟨(wrap64 (rd l0 x6_1)), (wrap64 ((wrap64 (rd l0 (ji5))) + (wrap64 (256 * (wrap64 (rd l0 (ji8))))))), (wrap64 ((wrap64 (rd l0 (ji11))) + (wrap64 (256 * (wrap64 (rd l0 (ji14)))))))⟩ : S47)]) (wrap64 (x6_1 + 5))) else (none)) = some (r1, r2, r3) := by rw [if_pos rfl] at H; exact H
                                    clear H
                                    have H := H1
                                    clear H1
                                    by_cases c29 : x5_1.length < 5864062014805
                                    · rw [if_pos c29] at H
                                      have LMc29 := Aside0.mk c29
                                      clear c29
                                      obtain ⟨y143, hy143⟩ : ∃ y_ : List (S47), y_ = (x5_1 ++ [(⟨(wrap64 (rd l0 x6_1)), (wrap64 ((wrap64 (rd l0 (ji5))) + (wrap64 (256 * (wrap64 (rd l0 (ji8))))))), (wrap64 ((wrap64 (rd l0 (ji11))) + (wrap64 (256 * (wrap64 (rd l0 (ji14)))))))⟩ : S47)]) := ⟨_, rfl⟩
                                      replace H : (ladderbackref13_Decode.l0 kj16 l0 y143 (wrap64 (x6_1 + 5))) = some (r1, r2, r3) := by first | (rw [hy143]; with_reducible exact H) | (have H2_ := (Option.bind_some _ _).symm.trans H; rw [hy143]; with_reducible exact H2_) | (have H2_ := (Option.bind_some _ _).symm.trans H; with_reducible exact H2_) | with_reducible exact H | (rw [hy143]; exact H) | exact H
                                      have Ny143 := Aside0.mk hy143
                                      clear hy143
                                      have H' := Aside0.mk H
                                      clear H
                                      have hcz30_0 : wc.cell? ⟨gb141, 0, none⟩ = some (.int .i64 (wrap64 (rd l0 x6_1))) := (blk_cell BK141.out 0).trans rfl
                                      have hcz30_1 : wc.cell? ⟨gb141, 1, none⟩ = some (.int .i64 (wrap64 ((wrap64 (rd l0 (ji5))) + (wrap64 (256 * (wrap64 (rd l0 (ji8)))))))) := (blk_cell BK141.out 1).trans rfl
                                      have hcz30_2 : wc.cell? ⟨gb141, 2, none⟩ = some (.int .i64 (wrap64 ((wrap64 (rd l0 (ji11))) + (wrap64 (256 * (wrap64 (rd l0 (ji14)))))))) := (blk_cell BK141.out 2).trans rfl
                                      have hfz30_0 := blk_frozen BK141.out 0
                                      have hfz30_1 := blk_frozen BK141.out 1
                                      have hfz30_2 := blk_frozen BK141.out 2
                                      go_wp2_with (first | ((with_reducible refine gate_callee (f := 30) rfl ?_); refine goesL_ (some 66) rfl rfl Tryd.func30 (by kernel_rfl) rfl #[.agg #[.int .i64 (wrap64 (rd l0 x6_1)), .int .i64 (wrap64 ((wrap64 (rd l0 (ji5))) + (wrap64 (256 * (wrap64 (rd l0 (ji8))))))), .int .i64 (wrap64 ((wrap64 (rd l0 (ji11))) + (wrap64 (256 * (wrap64 (rd l0 (ji14)))))))]] rfl (by (try simp only [List.map_toArray, List.map_cons, List.map_nil]); first | done | (simp only [hji11, hji14, hji5, hji8]; rfl) | rfl | (simp only [List.length_drop, List.length_take]; rfl)) ?_; (with_reducible refine (ladderbackref12_Right.calls kj16 (wrap64 (rd l0 x6_1)) (wrap64 ((wrap64 (rd l0 (ji5))) + (wrap64 (256 * (wrap64 (rd l0 (ji8))))))) (wrap64 ((wrap64 (rd l0 (ji11))) + (wrap64 (256 * (wrap64 (rd l0 (ji14))))))) true _ A27.out).mono ?_); rintro e w31 ⟨rfl, hb⟩; refine ⟨_, rfl, ?_⟩; have n0_ := Aside0.mk (Kd.R_below (by (with_reducible repeat (first | apply Kd.R_alloc | apply Kd.R_drewN | apply Kd.R_drew)); exact HO_5.out) hb); have n1_ := Aside0.mk (blk_below (g := gb141) (o := .cells #[.int .i64 (wrap64 (rd l0 x6_1)), .int .i64 (wrap64 ((wrap64 (rd l0 (ji5))) + (wrap64 (256 * (wrap64 (rd l0 (ji8))))))), .int .i64 (wrap64 ((wrap64 (rd l0 (ji11))) + (wrap64 (256 * (wrap64 (rd l0 (ji14)))))))] 47 (0, 0)) (by (with_reducible repeat (first | refine blk_drewN ?_ _ | refine blk_drew ?_ | refine blk_alloc ?_ _)); exact BK141.out) hb); have n2_ := Aside0.mk (below_step (by repeat (first | (with_reducible first | exact HB.out | apply below_alloc | apply pw_below_drewN | apply below_drew1 | refine below_set ?_ GE141.out) | exact HB.out)) hb); clear HO_5; clear BK141; clear HB; have HO_5 := n0_; have BK141 := n1_; have HB := n2_; clear n0_ n1_ n2_; (try clear hb); (try clear hb2); (try clear hk); (try clear hi); have hcz32_0 : w31.cell? ⟨gb141, 0, none⟩ = some (.int .i64 (wrap64 (rd l0 x6_1))) := (blk_cell BK141.out 0).trans rfl; have hcz32_1 : w31.cell? ⟨gb141, 1, none⟩ = some (.int .i64 (wrap64 ((wrap64 (rd l0 (ji5))) + (wrap64 (256 * (wrap64 (rd l0 (ji8)))))))) := (blk_cell BK141.out 1).trans rfl; have hcz32_2 : w31.cell? ⟨gb141, 2, none⟩ = some (.int .i64 (wrap64 ((wrap64 (rd l0 (ji11))) + (wrap64 (256 * (wrap64 (rd l0 (ji14)))))))) := (blk_cell BK141.out 2).trans rfl; have hfz32_0 := blk_frozen BK141.out 0; have hfz32_1 := blk_frozen BK141.out 1; have hfz32_2 := blk_frozen BK141.out 2) | ((with_reducible refine gate_builtin (b := .append) (xs := #[.tmp 70, .tmp 72]) rfl ?_); at_builtin; refine Kd.R_append k47 (w0 := w) w.heap.size rfl (.tmp 70) (.tmp 72) 24 47 (.agg #[(.int .i64 0), (.int .i64 0), (.int .i64 0)]) 24 rfl Tryd.underlying24 info47 rfl (by decide) (by omega) u5 x5_1 (⟨(wrap64 (rd l0 x6_1)), (wrap64 ((wrap64 (rd l0 (ji5))) + (wrap64 (256 * (wrap64 (rd l0 (ji8))))))), (wrap64 ((wrap64 (rd l0 (ji11))) + (wrap64 (256 * (wrap64 (rd l0 (ji14)))))))⟩ : S47) [.int .i64 (wrap64 (rd l0 x6_1)), .int .i64 (wrap64 ((wrap64 (rd l0 (ji5))) + (wrap64 (256 * (wrap64 (rd l0 (ji8))))))), .int .i64 (wrap64 ((wrap64 (rd l0 (ji11))) + (wrap64 (256 * (wrap64 (rd l0 (ji14)))))))] (fun k_ => k_ ≠ gb141) (fun _ => False) rfl rfl ?aP (fun _ hk => hk.elim) ?aF ?aO ?aB ?aS ?aL ?_; (case aP => exact k47_mkM _ _ _ (⟨(wrap64 (rd l0 x6_1)), (wrap64 ((wrap64 (rd l0 (ji5))) + (wrap64 (256 * (wrap64 (rd l0 (ji8))))))), (wrap64 ((wrap64 (rd l0 (ji11))) + (wrap64 (256 * (wrap64 (rd l0 (ji14)))))))⟩ : S47)); (case aB => exact (by repeat (first | (with_reducible first | exact HB.out | apply below_alloc | apply pw_below_drewN | apply below_drew1 | refine below_set ?_ GE141.out) | exact HB.out))); (case aF => exact (fun k_ hk => Kd.freshB (g := gb141) (o := .cells #[.int .i64 (wrap64 (rd l0 x6_1)), .int .i64 (wrap64 ((wrap64 (rd l0 (ji5))) + (wrap64 (256 * (wrap64 (rd l0 (ji8))))))), .int .i64 (wrap64 ((wrap64 (rd l0 (ji11))) + (wrap64 (256 * (wrap64 (rd l0 (ji14)))))))] 47 (0, 0)) (by (with_reducible repeat (first | refine blk_drewN ?_ _ | refine blk_drew ?_ | refine blk_alloc ?_ _)); exact BK141.out) k_ hk)); (case aO => exact (by (with_reducible repeat (first | apply Kd.R_alloc | apply Kd.R_drewN | apply Kd.R_drew)); exact HO_5.out)); (case aS => exact (below_size (by repeat (first | (with_reducible first | exact HB.out | apply below_alloc | apply pw_below_drewN | apply below_drew1 | refine below_set ?_ GE141.out) | exact HB.out)))); (case aL => have := LMc29.out; omega); intro v144 w33 ho hb hg hat; rw [← Ny143.out] at ho; have n0_ := Aside0.mk (blk_grown (g := gb141) (o := .cells #[.int .i64 (wrap64 (rd l0 x6_1)), .int .i64 (wrap64 ((wrap64 (rd l0 (ji5))) + (wrap64 (256 * (wrap64 (rd l0 (ji8))))))), .int .i64 (wrap64 ((wrap64 (rd l0 (ji11))) + (wrap64 (256 * (wrap64 (rd l0 (ji14)))))))] 47 (0, 0)) (by (with_reducible repeat (first | refine blk_drewN ?_ _ | refine blk_drew ?_ | refine blk_alloc ?_ _)); exact BK141.out) hg (Kd.R_away HO_5.out (fun _ hk => hk))); have n1_ := Aside0.mk (hb); have n2_ := Aside0.mk (ho); clear BK141; clear HB; clear HO_5; have BK141 := n0_; have HB := n1_; have HO145 := n2_; clear n0_ n1_ n2_; clear ho hb hg hat))
                                      go_roundg kj16
                                      case measure => have := HK1.out; have := HJ16.out; omega
                                      case rel => exact ⟨(y143), (wrap64 (x6_1 + 5)), (by first | rfl | (simp; done) | (simp [*]; done)), H', ⟨by have := HK1.out; have := HJ16.out; omega⟩, ⟨by (with_reducible repeat (first | apply Kd.R_alloc | apply Kd.R_drewN | apply Kd.R_drew)); exact Kd.R_mono HO145.out (fun _ hk => trivial)⟩, ⟨by repeat (first | (with_reducible first | exact HB.out | apply below_alloc | apply pw_below_drewN | apply below_drew1 | refine below_set ?_ GE141.out) | exact HB.out)⟩⟩
                                    · rw [if_neg c29] at H
                                      exact absurd H (by simp)
                                  · replace c28 := Bool.eq_false_iff.mpr c28
                                    subst c28
                                    have H1 : (some (([] : List (S47)), wrap64 (Int.tdiv x6_1 5), 7)) = some (r1, r2, r3) := by rw [if_neg (show ¬ (false = true) by decide)] at H; exact H
                                    clear H
                                    have H := H1
                                    clear H1
                                    simp only [Option.some.injEq, Prod.mk.injEq] at H
                                    obtain ⟨rfl, rfl, rfl⟩ := H
                                    have hcz34_0 : wc.cell? ⟨gb141, 0, none⟩ = some (.int .i64 (wrap64 (rd l0 x6_1))) := (blk_cell BK141.out 0).trans rfl
                                    have hcz34_1 : wc.cell? ⟨gb141, 1, none⟩ = some (.int .i64 (wrap64 ((wrap64 (rd l0 (ji5))) + (wrap64 (256 * (wrap64 (rd l0 (ji8)))))))) := (blk_cell BK141.out 1).trans rfl
                                    have hcz34_2 : wc.cell? ⟨gb141, 2, none⟩ = some (.int .i64 (wrap64 ((wrap64 (rd l0 (ji11))) + (wrap64 (256 * (wrap64 (rd l0 (ji14)))))))) := (blk_cell BK141.out 2).trans rfl
                                    have hfz34_0 := blk_frozen BK141.out 0
                                    have hfz34_1 := blk_frozen BK141.out 1
                                    have hfz34_2 := blk_frozen BK141.out 2
                                    go_wp2_with (first | ((with_reducible refine gate_callee (f := 30) rfl ?_); refine goesL_ (some 66) rfl rfl Tryd.func30 (by kernel_rfl) rfl #[.agg #[.int .i64 (wrap64 (rd l0 x6_1)), .int .i64 (wrap64 ((wrap64 (rd l0 (ji5))) + (wrap64 (256 * (wrap64 (rd l0 (ji8))))))), .int .i64 (wrap64 ((wrap64 (rd l0 (ji11))) + (wrap64 (256 * (wrap64 (rd l0 (ji14)))))))]] rfl (by (try simp only [List.map_toArray, List.map_cons, List.map_nil]); first | done | (simp only [hji11, hji14, hji5, hji8]; rfl) | rfl | (simp only [List.length_drop, List.length_take]; rfl)) ?_; (with_reducible refine (ladderbackref12_Right.calls kj16 (wrap64 (rd l0 x6_1)) (wrap64 ((wrap64 (rd l0 (ji5))) + (wrap64 (256 * (wrap64 (rd l0 (ji8))))))) (wrap64 ((wrap64 (rd l0 (ji11))) + (wrap64 (256 * (wrap64 (rd l0 (ji14))))))) false _ A27.out).mono ?_); rintro e w35 ⟨rfl, hb⟩; refine ⟨_, rfl, ?_⟩; have n0_ := Aside0.mk (Kd.R_below (by (with_reducible repeat (first | apply Kd.R_alloc | apply Kd.R_drewN | apply Kd.R_drew)); exact HO_5.out) hb); have n1_ := Aside0.mk (blk_below (g := gb141) (o := .cells #[.int .i64 (wrap64 (rd l0 x6_1)), .int .i64 (wrap64 ((wrap64 (rd l0 (ji5))) + (wrap64 (256 * (wrap64 (rd l0 (ji8))))))), .int .i64 (wrap64 ((wrap64 (rd l0 (ji11))) + (wrap64 (256 * (wrap64 (rd l0 (ji14)))))))] 47 (0, 0)) (by (with_reducible repeat (first | refine blk_drewN ?_ _ | refine blk_drew ?_ | refine blk_alloc ?_ _)); exact BK141.out) hb); have n2_ := Aside0.mk (below_step (by repeat (first | (with_reducible first | exact HB.out | apply below_alloc | apply pw_below_drewN | apply below_drew1 | refine below_set ?_ GE141.out) | exact HB.out)) hb); clear HO_5; clear BK141; clear HB; have HO_5 := n0_; have BK141 := n1_; have HB := n2_; clear n0_ n1_ n2_; (try clear hb); (try clear hb2); (try clear hk); (try clear hi)))
                                    go_ret3
                                    exact ⟨_, by first | rfl | (simp [errW_none, errW_some] <;> rfl) | (simp only [← hji5, ← hji8, ← hji11, ← hji14]; first | rfl | (simp [errW_none, errW_some] <;> rfl)) | (simp [*, errW_none, errW_some] <;> rfl), by first | exact Kd.R_nil _ _ _ _ _ | exact Kd.N_nil _ _ _ _ _ | exact Kd.V_nil _ _ _ _ _ | exact Kd.Q_nil _ _ _ _ _ | exact Kd.S_nil _ _ _ _ _, by repeat (first | (with_reducible first | exact HB.out | apply below_alloc | apply pw_below_drewN | apply below_drew1 | refine below_set ?_ GE141.out) | exact HB.out)⟩
                          · rw [if_neg c16] at H
                            exact absurd H (by simp)
                        · rw [if_neg c15] at H
                          exact absurd H (by simp)
                      · rw [if_neg c13] at H
                        exact absurd H (by simp)
                    · rw [if_neg c12] at H
                      exact absurd H (by simp)
                  · rw [if_neg c10] at H
                    exact absurd H (by simp)
                · rw [if_neg c9] at H
                  exact absurd H (by simp)
              · rw [if_neg c7] at H
                exact absurd H (by simp)
            · rw [if_neg c6] at H
              exact absurd H (by simp)
          · rw [if_neg c4] at H
            exact absurd H (by simp)
      · rw [if_neg c2] at H
        have c2b0 : decide (x6_1 < (l0.length : Int)) = false := decide_eq_false c2
        clear c2
        simp only [Option.some.injEq, Prod.mk.injEq] at H
        obtain ⟨rfl, rfl, rfl⟩ := H
        go_wp2
        go_ret3
        exact ⟨_, by first | rfl | (simp [errW_none, errW_some] <;> rfl) | (simp [*, errW_none, errW_some] <;> rfl), by (with_reducible repeat (first | apply Kd.R_alloc | apply Kd.R_drewN | apply Kd.R_drew)); exact HO_5.out, by repeat (first | (with_reducible first | exact HB.out | apply below_alloc | apply pw_below_drewN | apply below_drew1) | exact HB.out)⟩

/-! ### ladderbackref13_Same: function 12 -/
def ladderbackref13_Same.l0 : Nat → List (S47) → List (S47) → Int → Option (Bool)
  | 0, _, _, _ => none
  | k + 1, x0, x1, x5 => if x5 < (x0.length : Int) then (if 0 ≤ x5 then (if x5 < (x1.length : Int) then (if (!(((rd_T47 x0 x5).f0) == ((rd_T47 x1 x5).f0)) || (!(((rd_T47 x0 x5).f1) == ((rd_T47 x1 x5).f1)) || (!(((rd_T47 x0 x5).f2) == ((rd_T47 x1 x5).f2))))) = true then (some false) else (ladderbackref13_Same.l0 k x0 x1 (wrap64 (x5 + 1)))) else (none)) else (none)) else (some true)
def ladderbackref13_Same.f (k : Nat) (l0 : List (S47)) (l1 : List (S47)) : Option (Bool) := if (l0.length : Int) = (l1.length : Int) then (ladderbackref13_Same.l0 k l0 l1 0) else (some false)
set_option maxHeartbeats 8000000 in
set_option maxRecDepth 100000 in
theorem ladderbackref13_Same.calls (k : Nat) (A0 : Option Addr) (c0 : Nat) (l0 : List (S47)) (A1 : Option Addr) (c1 : Nat) (l1 : List (S47)) (r : Bool) (w : World) (hr0 : Kd.C k47 w A0 l0.length l0) (hc0 : l0.length ≤ c0) (hr1 : Kd.C k47 w A1 l1.length l1) (hc1 : l1.length ≤ c1) (h : ladderbackref13_Same.f k l0 l1 = some r) :
    Calls Tryd.prog 12 #[.slice A0 l0.length c0, .slice A1 l1.length c1] w fun e w' => e = .returned (.bool r) ∧ Drawn0 w w' := by
  have hu47 := Tryd.underlying47
  have HR0 := Aside0.mk hr0
  have HC0 := Aside0.mk hc0
  clear hr0 hc0
  have HR1 := Aside0.mk hr1
  have HC1 := Aside0.mk hc1
  clear hr1 hc1
  have H : (if (l0.length : Int) = (l1.length : Int) then (ladderbackref13_Same.l0 k l0 l1 0) else (some false)) = some r := h
  clear h
  by_cases c3 : (l0.length : Int) = (l1.length : Int)
  · rw [if_pos c3] at H
    have c3b0 : ((l0.length : Int) == (l1.length : Int)) = true := beq_iff_eq.mpr c3
    have c3b1 : ((l0.length : Int) != (l1.length : Int)) = false := bne_eq_false_iff_eq.mpr c3
    have c3b2 : (l0.length == l1.length) = true := by first | simpa using c3 | (simp at c3 ⊢; omega)
    clear c3
    have H' := Aside0.mk H
    clear H
    go_enter Tryd.func12, Tryd.ntmps12
    go_wp2
    repeat (go_quiet (fail); try go_wp2)
    go_loopg [5] k (fun kq v5 w' => ∃ (x5_1 : Int), v5 = .int .i64 x5_1 ∧ Aside0 (ladderbackref13_Same.l0 kq l0 l1 x5_1 = some r) ∧ Aside0 (kq ≤ k) ∧ Drawn0 w w')
    case atStart => exact ⟨(0), (by first | rfl | (simp; done) | (simp [*]; done)), H', ⟨Nat.le_refl _⟩, by repeat (first | exact Drawn0.refl _ | apply Drawn0.step)⟩
    case round =>
      clear H'
      try clear c1
      try clear p2
      try clear c3
      try clear c3b0
      try clear c3b1
      try clear c3b2
      obtain ⟨x5_1, rfl, HA, HK1, ⟨m1, rfl⟩⟩ := hrel
      cases gk with
      | zero => exact absurd HA.out (by simp [ladderbackref13_Same.l0])
      | succ k1 =>
        have H := HA.out
        clear HA
        simp only [ladderbackref13_Same.l0] at H
        by_cases c4 : x5_1 < (l0.length : Int)
        · rw [if_pos c4] at H
          have c4b0 : decide (x5_1 < (l0.length : Int)) = true := decide_eq_true c4
          clear c4
          by_cases c5 : 0 ≤ x5_1
          · rw [if_pos c5] at H
            have c5b0 : decide (0 ≤ x5_1) = true := decide_eq_true c5
            clear c5
            by_cases c6 : x5_1 < (l1.length : Int)
            · rw [if_pos c6] at H
              have c6b0 : decide (x5_1 < (l1.length : Int)) = true := decide_eq_true c6
              clear c6
              by_cases c7 : (!(((rd_T47 l0 x5_1).f0) == ((rd_T47 l1 x5_1).f0)) || (!(((rd_T47 l0 x5_1).f1) == ((rd_T47 l1 x5_1).f1)) || (!(((rd_T47 l0 x5_1).f2) == ((rd_T47 l1 x5_1).f2))))) = true
              · rw [if_pos c7] at H
                have c7b0 : (!(((rd_T47 l0 x5_1).f0) == ((rd_T47 l1 x5_1).f0)) || (!(((rd_T47 l0 x5_1).f1) == ((rd_T47 l1 x5_1).f1)) || (!(((rd_T47 l0 x5_1).f2) == ((rd_T47 l1 x5_1).f2))))) = true := c7
                clear c7
                obtain rfl := Option.some.inj H
                have p146 : 0 ≤ (x5_1 : Int) := of_decide_eq_true (by first | (with_reducible assumption) | assumption)
                have q146 : x5_1 < (l0.length : Int) := of_decide_eq_true (by first | (with_reducible assumption) | assumption)
                obtain ⟨ad146, e146, hx146_0, hx146_1, hx146_2⟩ := at_T47 HR0.out x5_1 p146 q146
                cases e146
                replace p146 := eq_true p146
                replace q146 := eq_true q146
                have p147 : 0 ≤ (x5_1 : Int) := of_decide_eq_true (by first | (with_reducible assumption) | assumption)
                have q147 : x5_1 < (l1.length : Int) := of_decide_eq_true (by first | (with_reducible assumption) | assumption)
                obtain ⟨ad147, e147, hx147_0, hx147_1, hx147_2⟩ := at_T47 HR1.out x5_1 p147 q147
                cases e147
                replace p147 := eq_true p147
                replace q147 := eq_true q147
                go_wp2
                repeat (go_quiet (fail); try go_wp2)
                go_ret
                exact ⟨by first | rfl | (simp; done) | (simp [*]; done), by repeat (first | exact Drawn0.refl _ | apply Drawn0.step)⟩
              · rw [if_neg c7] at H
                have c7b0 : (!(((rd_T47 l0 x5_1).f0) == ((rd_T47 l1 x5_1).f0)) || (!(((rd_T47 l0 x5_1).f1) == ((rd_T47 l1 x5_1).f1)) || (!(((rd_T47 l0 x5_1).f2) == ((rd_T47 l1 x5_1).f2))))) = false := by simpa using c7
                clear c7
                have H' := Aside0.mk H
                clear H
                have p146 : 0 ≤ (x5_1 : Int) := of_decide_eq_true (by first | (with_reducible assumption) | assumption)
                have q146 : x5_1 < (l0.length : Int) := of_decide_eq_true (by first | (with_reducible assumption) | assumption)
                obtain ⟨ad146, e146, hx146_0, hx146_1, hx146_2⟩ := at_T47 HR0.out x5_1 p146 q146
                cases e146
                replace p146 := eq_true p146
                replace q146 := eq_true q146
                have p147 : 0 ≤ (x5_1 : Int) := of_decide_eq_true (by first | (with_reducible assumption) | assumption)
                have q147 : x5_1 < (l1.length : Int) := of_decide_eq_true (by first | (with_reducible assumption) | assumption)
                obtain ⟨ad147, e147, hx147_0, hx147_1, hx147_2⟩ := at_T47 HR1.out x5_1 p147 q147
                cases e147
                replace p147 := eq_true p147
                replace q147 := eq_true q147
                go_wp2
                repeat (go_quiet (fail); try go_wp2)
                go_roundg k1
                case measure => have := HK1.out; omega
                case rel => exact ⟨(wrap64 (x5_1 + 1)), (by first | rfl | (simp; done) | (simp [*]; done)), H', ⟨by have := HK1.out; omega⟩, by repeat (first | exact Drawn0.refl _ | apply Drawn0.step)⟩
            · rw [if_neg c6] at H
              exact absurd H (by simp)
          · rw [if_neg c5] at H
            exact absurd H (by simp)
        · rw [if_neg c4] at H
          have c4b0 : decide (x5_1 < (l0.length : Int)) = false := decide_eq_false c4
          clear c4
          obtain rfl := Option.some.inj H
          go_wp2
          repeat (go_quiet (fail); try go_wp2)
          go_ret
          exact ⟨by first | rfl | (simp; done) | (simp [*]; done), by repeat (first | exact Drawn0.refl _ | apply Drawn0.step)⟩
  · rw [if_neg c3] at H
    have c3b0 : ((l0.length : Int) == (l1.length : Int)) = false := beq_eq_false_iff_ne.mpr c3
    have c3b1 : ((l0.length : Int) != (l1.length : Int)) = true := bne_iff_ne.mpr c3
    have c3b2 : (l0.length == l1.length) = false := by first | simpa using c3 | (simp at c3 ⊢; omega)
    obtain rfl := Option.some.inj H
    go_enter Tryd.func12, Tryd.ntmps12
    go_wp2
    repeat (go_quiet (fail); try go_wp2)
    go_ret
    exact ⟨by first | rfl | (simp; done) | (simp [*]; done), by repeat (first | exact Drawn0.refl _ | apply Drawn0.step)⟩

end Go.Proofs.YthbcliofjfhmbaaDoor.PCod
end

section
/- Instructions' bytes, plainly: the document's decoder tells what the program's does. -/
namespace Go.Proofs.YthbcliofjfhmbaaDoor.Pure
open Go.RowKit Go.Proofs.YthbcliofjfhmbaaDoor.PCod Go.Proofs.YthbcliofjfhmbaaDoor.Given Go.Proofs.YthbcliofjfhmbaaDoorW.PrintWords Go.Proofs.YthbcliofjfhmbaaDoorW.PrintLast
set_option linter.unusedVariables false
set_option linter.unusedSimpArgs false
/-! ### Decoding -/
theorem rd_app (p l : List Int) (i : Nat) : rd (p ++ l) ((p.length + i : Nat) : Int) = l.getD i 0 := by
  unfold rd
  rw [Int.toNat_natCast, List.getD_eq_getElem?_getD, List.getD_eq_getElem?_getD, List.getElem?_append_right (by omega), Nat.add_sub_cancel_left]
theorem ref_dec : ∀ (n : Nat) (l p : List Int) (out : List S47) (k : Nat), l.length ≤ n → p.length = 5 * out.length → p.length + l.length ≤ 100000 → (∀ x ∈ l, 0 ≤ x ∧ x < 256) → 2 * n + 10 ≤ k →
    ladderbackref13_Decode.l0 k (p ++ l) out (p.length : Int) = some (decF n l out) := by
  intro n
  induction n with
  | zero =>
    intro l p out k h1 h2 h3 h4 h5
    obtain rfl := List.eq_nil_of_length_eq_zero (by omega : l.length = 0)
    obtain ⟨k, rfl⟩ : ∃ m, k = m + 1 := ⟨k - 1, by omega⟩
    unfold ladderbackref13_Decode.l0 decF
    rw [if_neg (by simp)]
  | succ n ih =>
    intro l p out k h1 h2 h3 h4 h5
    obtain ⟨k, rfl⟩ : ∃ m, k = m + 2 := ⟨k - 2, by omega⟩
    by_cases hl : l.length < 5
    · have hdiv : wrap64 (Int.tdiv (p.length : Int) 5) = (out.length : Int) := by
        rw [h2, Int.natCast_mul, show ((5 : Nat) : Int) = 5 from rfl, Int.mul_tdiv_cancel_left _ (by omega)]
        exact w64 _ (by omega) (by omega)
      unfold ladderbackref13_Decode.l0
      match l, hl with
      | [], _ =>
        rw [if_neg (by simp)]
        rfl
      | x :: t, hl =>
        rw [if_pos (by simp only [List.length_append, List.length_cons]; omega), if_pos (by simp only [List.length_append, List.length_cons] at *; rw [w64 _ (by omega) (by omega)]; omega), hdiv]
        match t, hl with
        | [], _ => rfl
        | [_], _ => rfl
        | [_, _], _ => rfl
        | [_, _, _], _ => rfl
        | _ :: _ :: _ :: _ :: _, h => exact absurd h (by simp only [List.length_cons]; omega)
    · obtain ⟨a, b, c, d, e, t, rfl⟩ : ∃ a b c d e t, l = a :: b :: c :: d :: e :: t := by
        match l, hl with
        | a :: b :: c :: d :: e :: t, _ => exact ⟨a, b, c, d, e, t, rfl⟩
        | [], h => simp at h
        | [_], h => simp at h
        | [_, _], h => simp at h
        | [_, _, _], h => simp at h
        | [_, _, _, _], h => simp at h
      have ha := h4 a (by simp)
      have hb := h4 b (by simp)
      have hc := h4 c (by simp)
      have hd := h4 d (by simp)
      have he := h4 e (by simp)
      simp only [List.length_cons] at h1 h3
      have r0 := rd_app p (a :: b :: c :: d :: e :: t) 0
      have r1 := rd_app p (a :: b :: c :: d :: e :: t) 1
      have r2 := rd_app p (a :: b :: c :: d :: e :: t) 2
      have r3 := rd_app p (a :: b :: c :: d :: e :: t) 3
      have r4 := rd_app p (a :: b :: c :: d :: e :: t) 4
      rw [Nat.add_zero] at r0
      rw [show ((p.length + 1 : Nat) : Int) = (p.length : Int) + 1 by omega] at r1
      rw [show ((p.length + 2 : Nat) : Int) = (p.length : Int) + 2 by omega] at r2
      rw [show ((p.length + 3 : Nat) : Int) = (p.length : Int) + 3 by omega] at r3
      rw [show ((p.length + 4 : Nat) : Int) = (p.length : Int) + 4 by omega] at r4
      simp only [List.getD_cons_zero, List.getD_cons_succ] at r0 r1 r2 r3 r4
      have hlen : ((p ++ a :: b :: c :: d :: e :: t).length : Int) = (p.length : Int) + t.length + 5 := by simp only [List.length_append, List.length_cons]; omega
      have hnext : p ++ a :: b :: c :: d :: e :: t = (p ++ [a, b, c, d, e]) ++ t := by simp
      have step : ladderbackref13_Decode.l0 (k + 2) (p ++ a :: b :: c :: d :: e :: t) out (p.length : Int) = ladderbackref13_Decode.j1 (k + 1) (p ++ a :: b :: c :: d :: e :: t) out (p.length : Int) (isReal a) a (b + 256 * c) (d + 256 * e) := by
        rw [show k + 2 = (k + 1) + 1 from rfl]
        unfold ladderbackref13_Decode.l0
        rw [hlen, w64 ((p.length : Int) + 1) (by omega) (by omega), w64 ((p.length : Int) + 2) (by omega) (by omega), w64 ((p.length : Int) + 3) (by omega) (by omega), w64 ((p.length : Int) + 4) (by omega) (by omega), w64 ((p.length : Int) + t.length + 5 - p.length) (by omega) (by omega), r0, r1, r2, r3, r4]
        rw [w64 a (by omega) (by omega), w64 b (by omega) (by omega), w64 c (by omega) (by omega), w64 d (by omega) (by omega), w64 e (by omega) (by omega), w64 (256 * c) (by omega) (by omega), w64 (256 * e) (by omega) (by omega), w64 (b + 256 * c) (by omega) (by omega), w64 (d + 256 * e) (by omega) (by omega)]
        rw [if_pos (by omega), if_neg (by omega), if_pos (by omega), if_pos (by omega), if_pos (by omega), if_pos (by omega), if_pos (by omega), if_pos (by omega), if_pos (by omega), if_pos (by omega), if_pos (by omega)]
        rw [real_is]
        by_cases h48 : a ≥ 48
        · rw [if_pos h48, decide_eq_true (show 48 ≤ a from h48), Bool.true_and]
        · rw [if_neg h48, decide_eq_false h48, Bool.false_and]
      rw [step]
      clear step r0 r1 r2 r3 r4 hlen
      have hdiv : wrap64 (Int.tdiv (p.length : Int) 5) = (out.length : Int) := by
        rw [h2, Int.natCast_mul, show ((5 : Nat) : Int) = 5 from rfl, Int.mul_tdiv_cancel_left _ (by omega)]
        exact w64 _ (by omega) (by omega)
      unfold ladderbackref13_Decode.j1 decF
      rw [rright _ _ _ k (by omega), hdiv]
      clear hdiv
      unfold errI
      cases hr : isReal a
      · rw [if_neg (by simp)]
        simp only [Option.bind_some, Bool.false_eq_true, if_false]
        cases hq : right3 a (b + 256 * c) (d + 256 * e)
        · simp only [Bool.false_eq_true, if_false]
          rw [if_neg (by decide)]
        · simp only [if_true]
          rw [if_pos (by omega), w64 ((p.length : Int) + 5) (by omega) (by omega)]
          have hp : ((p ++ [a, b, c, d, e]).length : Int) = (p.length : Int) + 5 := by simp
          have := ih t (p ++ [a, b, c, d, e]) (out ++ [⟨a, b + 256 * c, d + 256 * e⟩]) k (by omega) (by simp; omega) (by simp; omega) (fun x hx => h4 x (by simp [hx])) (by omega)
          rw [hp, ← hnext] at this
          exact this
      · simp only [if_true]
        rw [if_neg (by decide)]
end Go.Proofs.YthbcliofjfhmbaaDoor.Pure
end

section
/- Printed by a program of this session (wip/pg.py, over the print of the kit): functions, their Lean twins, and the proofs that the calls come to them; each under the conditions that it names. -/
namespace Go.Proofs.YthbcliofjfhmbaaDoor.PCod
open Go.Proofs.YthbcliofjfhmbaaDoor.Given
open Go.RowKit Go.Proofs.YthbcliofjfhmbaaDoorW.PrintWords Go.Proofs.YthbcliofjfhmbaaDoorW.PrintLast Go.Proofs.YthbcliofjfhmbaaDoorW.PrintMore
attribute [local go_sem] max2_int min2_int max_two min_two max_three min_three max_four min_four   -- for this text's walks alone
set_option linter.unusedVariables false
set_option linter.unusedSimpArgs false

/-! ### ladderbacklaw13_CodeDecodes: function 3 -/
def ladderbacklaw13_CodeDecodes.f (k : Nat) (l0 : List Int) : Option (Bool) := if (l0.length : Int) > 1000 then ((ladderbacklaw13_awake.f k).bind fun t148 => (some t148)) else ((code_Decode.f l0).bind fun bt149 => ((ladderbackref13_Decode.f k l0).bind fun bt154 => ((ladderbackref13_Same.f k bt149.1 bt154.1).bind fun t159 => (if t159 = true then (if bt149.2.1 = bt154.2.1 then (if bt149.2.2 = bt154.2.2 then ((ladderbacklaw13_awake.f k).bind fun t160 => (some t160)) else (some false)) else (some false)) else (some false)))))
/-- THE ONE PURE STATEMENT of ladderbacklaw13_CodeDecodes: yours. -/
def ladderbacklaw13_CodeDecodes.Pure : Prop := ∀ (l0 : List Int), l0.length ≤ maxLen → l0.length * 1 ≤ 140737488351232 → (∀ x ∈ l0, (Lit.int .u8 x).wf = true) → ∃ k, ladderbacklaw13_CodeDecodes.f k l0 = some true
/-! ### ladderbacklaw13_CodeBack: function 4 -/
mutual
def ladderbacklaw13_CodeBack.j0 : Nat → List (S47) → List Int → Bool → Option (Bool)
  | 0, _, _, _ => none
  | k + 1, x0, x1, x22 => if x22 = true then ((ladderbacklaw13_awake.f k).bind fun t161 => (some t161)) else ((code_Encode.f k x0).bind fun bt162 => (if bt162.2 = true then ((code_Decode.f bt162.1).bind fun bt166 => (if bt166.2.2 = 0 then ((ladderbackref13_Same.f k x0 bt166.1).bind fun t171 => (if t171 = true then (ladderbacklaw13_CodeBack.j1 k x1 ((bt162.1.length : Int) != (wrap64 (5 * (x0.length : Int))))) else (ladderbacklaw13_CodeBack.j1 k x1 true))) else (ladderbacklaw13_CodeBack.j1 k x1 true))) else ((code_Decode.f x1).bind fun bt183 => ((code_Encode.f k bt183.1).bind fun bt188 => (if bt183.2.2 = 0 then (if bt188.2 = true then (if (strOfNums bt188.1).toList = (strOfNums x1).toList then ((ladderbacklaw13_awake.f k).bind fun t192 => (some t192)) else (some false)) else (some false)) else (if (bt183.1.length : Int) = 0 then ((ladderbacklaw13_awake.f k).bind fun t193 => (some t193)) else (some false)))))))
def ladderbacklaw13_CodeBack.j1 : Nat → List Int → Bool → Option (Bool)
  | 0, _, _ => none
  | k + 1, x1, x51 => if x51 = true then (some false) else ((code_Decode.f x1).bind fun bt172 => ((code_Encode.f k bt172.1).bind fun bt177 => (if bt172.2.2 = 0 then (if bt177.2 = true then (if (strOfNums bt177.1).toList = (strOfNums x1).toList then ((ladderbacklaw13_awake.f k).bind fun t181 => (some t181)) else (some false)) else (some false)) else (if (bt172.1.length : Int) = 0 then ((ladderbacklaw13_awake.f k).bind fun t182 => (some t182)) else (some false)))))
end
def ladderbacklaw13_CodeBack.f (k : Nat) (l0 : List (S47)) (l1 : List Int) : Option (Bool) := if (l0.length : Int) > 200 then (ladderbacklaw13_CodeBack.j0 k l0 l1 true) else (ladderbacklaw13_CodeBack.j0 k l0 l1 (decide ((l1.length : Int) > 1000)))
end Go.Proofs.YthbcliofjfhmbaaDoor.PCod
end

section
/- CodeDecodes and CodeBack, plainly: bytes of at most 1000 and instructions of at most 200; for others the example is answered. -/
namespace Go.Proofs.YthbcliofjfhmbaaDoor.Pure
open Go.RowKit Go.Proofs.YthbcliofjfhmbaaDoor.PCod Go.Proofs.YthbcliofjfhmbaaDoor.Given Go.Proofs.YthbcliofjfhmbaaDoorW.PrintWords Go.Proofs.YthbcliofjfhmbaaDoorW.PrintLast
set_option linter.unusedVariables false
set_option linter.unusedSimpArgs false
theorem wf8 {a : Int} (h : (Lit.int .u8 a).wf = true) : 0 ≤ a ∧ a < 256 := by
  unfold Lit.wf at h
  simp only [Bool.and_eq_true, decide_eq_true_eq, show IntKind.u8.min = 0 from rfl, show IntKind.u8.max = 255 from rfl] at h
  omega
theorem okB_of (l : List Int) (hz : l.length ≤ 1000000) (h : ∀ x ∈ l, 0 ≤ x ∧ x < 256) : okB l = true := by
  unfold okB
  simp only [Bool.and_eq_true, List.all_eq_true, decide_eq_true_eq]
  exact ⟨h, by omega⟩
theorem same_l0 (l : List S47) : ∀ d i k, i + d = l.length → l.length ≤ 100000 → d < k → ladderbackref13_Same.l0 k l l (i : Int) = some true := by
  intro d
  induction d with
  | zero =>
    intro i k h1 h2 h3
    obtain ⟨k, rfl⟩ : ∃ m, k = m + 1 := ⟨k - 1, by omega⟩
    unfold ladderbackref13_Same.l0
    rw [if_neg (by omega)]
  | succ d ih =>
    intro i k h1 h2 h3
    obtain ⟨k, rfl⟩ : ∃ m, k = m + 1 := ⟨k - 1, by omega⟩
    unfold ladderbackref13_Same.l0
    rw [if_pos (by omega), if_pos (by omega), if_pos (by omega), if_neg (by simp), w64 _ (by omega) (by omega)]
    exact ih (i + 1) k (by omega) h2 (by omega)
theorem same_is (l : List S47) (k : Nat) (h : l.length ≤ 100000) (hk : l.length < k) : ladderbackref13_Same.f k l l = some true := by
  unfold ladderbackref13_Same.f
  rw [if_pos rfl]
  exact same_l0 l l.length 0 k (by omega) h hk
theorem awake13 (k : Nat) (hk : 20 ≤ k) : ladderbacklaw13_awake.f k = some true := by
  have h : ladderbacklaw13_awake.f 20 = some true := by decide +kernel
  have : ∀ d, ladderbacklaw13_awake.f (20 + d) = some true := by
    intro d
    induction d with
    | zero => exact h
    | succ d ih => exact ladderbacklaw13_awake.mono (20 + d) _ ih
  rw [show k = 20 + (k - 20) by omega]
  exact this _
theorem dec_len : ∀ (n : Nat) (l : List Int) (out : List S47), (decF n l out).1.length ≤ out.length + l.length
  | 0, _, out => by unfold decF; simp
  | n + 1, [], out => by unfold decF; simp
  | n + 1, [_], out => by unfold decF; simp
  | n + 1, [_, _], out => by unfold decF; simp
  | n + 1, [_, _, _], out => by unfold decF; simp
  | n + 1, [_, _, _, _], out => by unfold decF; simp
  | n + 1, a :: b :: c :: d :: e :: t, out => by
    unfold decF
    split
    · have := dec_len n t (out ++ [⟨a, b + 256 * c, d + 256 * e⟩])
      simp only [List.length_append, List.length_cons, List.length_nil] at this ⊢
      omega
    · simp
/-! ### Encoding -/
def enc1 (i : S47) : List Int := [i.f0 % 256, i.f1 % 256, i.f1 / 256 % 256, i.f2 % 256, i.f2 / 256 % 256]
def encF : List S47 → List Int
  | [] => []
  | i :: t => enc1 i ++ encF t
def allR : List S47 → Bool
  | [] => true
  | i :: t => right3 i.f0 i.f1 i.f2 && allR t
theorem enc_len : ∀ l : List S47, (encF l).length = 5 * l.length
  | [] => rfl
  | i :: t => by simp only [encF, List.length_append, enc_len t, enc1, List.length_cons, List.length_nil]; omega
theorem enc_byte : ∀ l : List S47, ∀ x ∈ encF l, 0 ≤ x ∧ x < 256
  | [], x, h => by cases h
  | i :: t, x, h => by
    rcases List.mem_append.1 h with h | h
    · unfold enc1 at h
      simp only [List.mem_cons, List.not_mem_nil, or_false] at h
      omega
    · exact enc_byte t x h
theorem rd47_drop (l : List S47) (i : Nat) (h : i < l.length) : l.drop i = rd_T47 l (i : Int) :: l.drop (i + 1) := by
  unfold rd_T47
  rw [Int.toNat_natCast, List.getD_eq_getElem?_getD, List.getElem?_eq_getElem h, Option.getD_some]
  exact List.drop_eq_getElem_cons h
theorem enc_l0 (l : List S47) (hz : l.length ≤ 100000) : ∀ (d i k : Nat) (out : List Int), i + d = l.length → d < k → out.length ≤ 5 * i →
    code_Encode.l0 k out l (l.length : Int) (i : Int) = if allR (l.drop i) = true then some (out ++ encF (l.drop i), true) else some ([], false) := by
  intro d
  induction d with
  | zero =>
    intro i k out h1 h2 h3
    obtain ⟨k, rfl⟩ : ∃ m, k = m + 1 := ⟨k - 1, by omega⟩
    unfold code_Encode.l0
    rw [if_neg (by omega), List.drop_eq_nil_of_le (by omega)]
    simp [allR, encF]
  | succ d ih =>
    intro i k out h1 h2 h3
    obtain ⟨k, rfl⟩ : ∃ m, k = m + 1 := ⟨k - 1, by omega⟩
    unfold code_Encode.l0
    rw [if_pos (by omega), if_pos (by omega), if_pos (by omega), rd47_drop l i (by omega)]
    generalize rd_T47 l (i : Int) = x
    have hr : op_Right.f x.f0 x.f1 x.f2 = some (right3 x.f0 x.f1 x.f2) := right_some x.f0 x.f1 x.f2
    rw [hr]
    simp only [Option.bind_some]
    rw [show encF (x :: l.drop (i + 1)) = enc1 x ++ encF (l.drop (i + 1)) from rfl]
    by_cases hq : right3 x.f0 x.f1 x.f2 = true
    · rw [if_pos hq, show allR (x :: l.drop (i + 1)) = allR (l.drop (i + 1)) by show (right3 x.f0 x.f1 x.f2 && _) = _; rw [hq, Bool.true_and]]
      rw [if_pos (by simp only [List.length_cons, List.length_nil]; omega), w64 _ (by omega) (by omega)]
      have := ih (i + 1) k (out ++ enc1 x) (by omega) (by omega) (by simp only [List.length_append, enc1, List.length_cons, List.length_nil]; omega)
      rw [show ((i + 1 : Nat) : Int) = (i : Int) + 1 by omega] at this
      unfold enc1 at this ⊢
      rw [this, List.append_assoc]
    · rw [if_neg hq, show allR (x :: l.drop (i + 1)) = false by show (right3 x.f0 x.f1 x.f2 && _) = _; simp [hq]]
      simp
theorem enc_is (l : List S47) (k : Nat) (hz : l.length ≤ 100000) (hk : l.length < k) : code_Encode.f k l = if allR l = true then some (encF l, true) else some ([], false) := by
  have := enc_l0 l hz l.length 0 k [] (by omega) hk (by simp)
  rw [List.drop_zero, List.nil_append] at this
  exact this
theorem may_lim {n w : Int} (h : mayF n w = true) : 0 ≤ n ∧ n ≤ 65535 := by
  unfold mayF at h
  split at h
  · have := eq_of_beq h; omega
  · simpa using h
theorem right_lim {x y z : Int} (h : right3 x y z = true) : (0 ≤ x ∧ x < 38) ∧ (0 ≤ y ∧ y ≤ 65535) ∧ (0 ≤ z ∧ z ≤ 65535) := by
  rw [right_is] at h
  simp only [Bool.and_eq_true] at h
  have h0 := h.1.1
  unfold isOp at h0
  exact ⟨by simpa using h0, may_lim h.1.2, may_lim h.2⟩
theorem err_right {x y z : Int} (h : right3 x y z = true) : errI x y z = 0 := by
  have := right_lim h
  unfold errI
  rw [real_is, decide_eq_false (by omega : ¬ 48 ≤ x), h]
  rfl
theorem right_err {x y z : Int} (h : errI x y z = 0) : right3 x y z = true := by
  unfold errI at h
  split at h
  · omega
  · split at h
    · assumption
    · omega
theorem dec_enc : ∀ (l : List S47) (n : Nat) (out : List S47), allR l = true → l.length ≤ n → decF n (encF l) out = (out ++ l, 0, 0)
  | [], n, out, h, hn => by cases n <;> simp [encF, decF]
  | i :: t, 0, out, h, hn => by simp at hn
  | i :: t, n + 1, out, h, hn => by
    unfold allR at h
    simp only [Bool.and_eq_true] at h
    have hl := right_lim h.1
    have e1 : i.f1 % 256 + 256 * (i.f1 / 256 % 256) = i.f1 := by omega
    have e2 : i.f2 % 256 + 256 * (i.f2 / 256 % 256) = i.f2 := by omega
    have e0 : i.f0 % 256 = i.f0 := by omega
    show decF (n + 1) (i.f0 % 256 :: i.f1 % 256 :: (i.f1 / 256 % 256) :: i.f2 % 256 :: (i.f2 / 256 % 256) :: encF t) out = _
    unfold decF
    rw [e0, e1, e2, if_pos (err_right h.1), dec_enc t n _ h.2 (by simp at hn; omega)]
    simp
theorem dec_back : ∀ (n : Nat) (l : List Int) (out : List S47), l.length ≤ n → (∀ x ∈ l, 0 ≤ x ∧ x < 256) →
    ((decF n l out).2.2 ≠ 0 → (decF n l out).1 = []) ∧ ((decF n l out).2.2 = 0 → ∃ m, (decF n l out).1 = out ++ m ∧ allR m = true ∧ encF m = l)
  | 0, l, out, h, hb => by
    obtain rfl := List.eq_nil_of_length_eq_zero (by omega : l.length = 0)
    exact ⟨fun h => absurd rfl h, fun _ => ⟨[], by simp [decF], rfl, rfl⟩⟩
  | n + 1, [], out, h, hb => ⟨fun h => absurd rfl h, fun _ => ⟨[], by simp [decF], rfl, rfl⟩⟩
  | n + 1, [_], out, h, hb => ⟨fun _ => rfl, fun h => by simp [decF] at h⟩
  | n + 1, [_, _], out, h, hb => ⟨fun _ => rfl, fun h => by simp [decF] at h⟩
  | n + 1, [_, _, _], out, h, hb => ⟨fun _ => rfl, fun h => by simp [decF] at h⟩
  | n + 1, [_, _, _, _], out, h, hb => ⟨fun _ => rfl, fun h => by simp [decF] at h⟩
  | n + 1, a :: b :: c :: d :: e :: t, out, h, hb => by
    have ha := hb a (by simp)
    have hb' := hb b (by simp)
    have hc := hb c (by simp)
    have hd := hb d (by simp)
    have he := hb e (by simp)
    unfold decF
    split
    · rename_i h0
      have ih := dec_back n t (out ++ [⟨a, b + 256 * c, d + 256 * e⟩]) (by simp only [List.length_cons] at h; omega) (fun x hx => hb x (by simp [hx]))
      refine ⟨ih.1, fun hz => ?_⟩
      obtain ⟨m, h1, h2, h3⟩ := ih.2 hz
      refine ⟨⟨a, b + 256 * c, d + 256 * e⟩ :: m, by rw [h1]; simp, ?_, ?_⟩
      · unfold allR
        rw [right_err h0, h2]; rfl
      · show [a % 256, (b + 256 * c) % 256, (b + 256 * c) / 256 % 256, (d + 256 * e) % 256, (d + 256 * e) / 256 % 256] ++ encF m = _
        rw [h3, show a % 256 = a by omega, show (b + 256 * c) % 256 = b by omega, show (b + 256 * c) / 256 % 256 = c by omega, show (d + 256 * e) % 256 = d by omega, show (d + 256 * e) / 256 % 256 = e by omega]
        rfl
    · rename_i h0
      exact ⟨fun _ => rfl, fun h => absurd h h0⟩
theorem CodeBack_k (l0 : List S47) (l1 : List Int) (hb : ∀ x ∈ l1, 0 ≤ x ∧ x < 256) (k : Nat) (hk : 1600 ≤ k) : ladderbacklaw13_CodeBack.f (k + 2) l0 l1 = some true := by
  rw [show k + 2 = (k + 1) + 1 from rfl]
  unfold ladderbacklaw13_CodeBack.f
  by_cases h0 : (l0.length : Int) > 200
  · rw [if_pos h0]
    rw [ladderbacklaw13_CodeBack.j0.eq_2]
    rw [if_pos rfl, awake13 (k + 1) (by omega)]; rfl
  · rw [if_neg h0]
    rw [ladderbacklaw13_CodeBack.j0.eq_2]
    rw [awake13 (k + 1) (by omega)]
    by_cases h1 : (l1.length : Int) > 1000
    · rw [if_pos (decide_eq_true h1)]; rfl
    · rw [decide_eq_false h1, if_neg (by simp), enc_is l0 _ (by omega) (by omega)]
      have hd : code_Decode.f l1 = some (decF l1.length l1 []) := by
        unfold code_Decode.f
        rw [if_pos ⟨by omega, okB_of l1 (by omega) hb⟩]
      have hl := dec_len l1.length l1 []
      simp only [List.length_nil] at hl
      have hbk := dec_back l1.length l1 [] (Nat.le_refl _) hb
      rw [hd]
      generalize decF l1.length l1 [] = t at hl hbk hd ⊢
      have fin : ∀ k, 1500 ≤ k → ((code_Encode.f k t.1).bind fun bt177 => (if t.2.2 = 0 then (if bt177.2 = true then (if (strOfNums bt177.1).toList = (strOfNums l1).toList then ((ladderbacklaw13_awake.f k).bind fun t181 => (some t181)) else (some false)) else (some false)) else (if (t.1.length : Int) = 0 then ((ladderbacklaw13_awake.f k).bind fun t182 => (some t182)) else (some false)))) = some true := by
        intro k hk
        rw [awake13 k (by omega)]
        by_cases hz : t.2.2 = 0
        · obtain ⟨m, h1, h2, h3⟩ := hbk.2 hz
          rw [List.nil_append] at h1
          rw [enc_is t.1 k (by omega) (by omega), h1, if_pos h2, h3]
          simp [hz]
        · have hn := hbk.1 hz
          rw [enc_is t.1 k (by omega) (by omega), hn, if_pos (show allR ([] : List S47) = true from rfl)]
          simp [hz]
      by_cases hR : allR l0 = true
      · rw [if_pos hR]
        simp only [Option.bind_some, if_true]
        have hd2 : code_Decode.f (encF l0) = some (l0, 0, 0) := by
          unfold code_Decode.f
          rw [if_pos ⟨by rw [enc_len]; omega, okB_of _ (by rw [enc_len]; omega) (enc_byte l0)⟩, dec_enc l0 _ [] hR (by rw [enc_len]; omega)]
          rfl
        rw [hd2]
        simp only [Option.bind_some, if_true]
        have hsm := same_is l0 (k + 1) (by omega) (by omega)
        rw [hsm]
        clear hsm hd2
        rw [Option.bind_some, if_pos (show (true : Bool) = true from rfl)]
        have hw : wrap64 (5 * (l0.length : Int)) = 5 * (l0.length : Int) := w64 _ (by omega) (by omega)
        rw [hw, enc_len]
        have hne : (((5 * l0.length : Nat) : Int) != 5 * (l0.length : Int)) = false := by
          rw [bne_eq_false_iff_eq]; omega
        rw [hne]
        rw [ladderbacklaw13_CodeBack.j1.eq_2]
        rw [if_neg (by simp), hd]
        rw [Option.bind_some]
        exact fin k (by omega)
      · rw [if_neg hR]
        simp only [Option.bind_some, Bool.false_eq_true, if_false]
        have hf := fin (k + 1) (by omega)
        rw [awake13 (k + 1) (by omega)] at hf
        exact hf
theorem CodeBack (l0 : List S47) (l1 : List Int) (hb : ∀ x ∈ l1, 0 ≤ x ∧ x < 256) : ∃ k, ladderbacklaw13_CodeBack.f k l0 l1 = some true := ⟨1600 + 2, CodeBack_k l0 l1 hb 1600 (Nat.le_refl _)⟩
end Go.Proofs.YthbcliofjfhmbaaDoor.Pure
end

section
/- What a unit that was read says of its bytes: it fits, and they are what is put. -/
namespace Go.Proofs.YthbcliofjfhmbaaDoor.Given
open Go.RowKit Go.Proofs.YthbcliofjfhmbaaDoorW.PrintWords Go.Proofs.YthbcliofjfhmbaaDoorW.PrintLast Go.Proofs.YthbcliofjfhmbaaDoorW.PrintMore Go.Proofs.YthbcliofjfhmbaaDoor.UPure
set_option linter.unusedVariables false
set_option linter.unusedSimpArgs false
theorem numbers_inv {b : List Int} (hb : ∀ x ∈ b, 0 ≤ x ∧ x < 256) {at_ : Int} {bad : Bool} {many most : Int} {m : Nat} (hm : mx 0 (mn many 8) = m) (hm2 : m ≤ 2) (hmost : 0 ≤ most) (h0 : 0 ≤ at_) (h1 : at_ ≤ b.length) (h : (numbersR b at_ bad many most).2.1 = 0) :
    bad = false ∧ (numbersR b at_ bad many most).2.2.2 = false ∧ ((numbersR b at_ bad many most).1.length : Int) ≤ most ∧ (∀ x ∈ (numbersR b at_ bad many most).1, 0 ≤ x ∧ x < 256) ∧ (numbersR b at_ bad many most).2.2.1 = at_ + m + (numbersR b at_ bad many most).1.length ∧ at_ + m + (numbersR b at_ bad many most).1.length ≤ b.length ∧ b.drop at_.toNat = le m ((numbersR b at_ bad many most).1.length : Int) ++ (numbersR b at_ bad many most).1 ++ b.drop (numbersR b at_ bad many most).2.2.1.toNat := by
  unfold numbersR at h ⊢
  dsimp only at h ⊢
  cases bad with
  | true =>
    rw [num_bad_true] at h
    dsimp only at h
    rw [if_neg (by omega), take_bad_true] at h
    cases h
  | false =>
    have hn := num_inv hb (at_ := at_) (many := many) (m := m) hm hm2 h0 h1
    generalize numR b at_ false many = t at h hn ⊢
    by_cases hg : t.1 > most
    · rw [if_pos hg] at h; cases h
    · rw [if_neg hg] at h ⊢
      cases hq : t.2.2 with
      | true =>
        rw [hq, take_bad_true] at h
        cases h
      | false =>
        obtain ⟨e1, e2, e3, e4, e5⟩ := hn hq
        rw [hq, e1] at h
        rw [e1]
        have hmm := take_mem' (b := b) (at_ := at_ + (m : Int)) (bad := false) (n := t.1)
        have hi := take_inv (b := b) (at_ := at_ + (m : Int)) (n := t.1) (by omega) e2
        generalize takeR b (at_ + (m : Int)) false t.1 = u at h hi hmm ⊢
        cases hu : u.2.2 with
        | true => rw [if_pos hu] at h; cases h
        | false =>
          obtain ⟨f1, f2, f3, f4, f5⟩ := hi hu
          rw [if_neg (by simp)]
          refine ⟨rfl, rfl, by dsimp only; omega, fun x hx => hb x (hmm x hx), by dsimp only; omega, by dsimp only; omega, ?_⟩
          dsimp only
          rw [e5, f5, f1, ← f4, ← List.append_assoc]
theorem low_id : ∀ l : List Int, (∀ x ∈ l, 0 ≤ x ∧ x < 256) → low l = l := by
  intro l h
  unfold low
  refine (List.map_congr_left (fun x hx => ?_)).trans (List.map_id _)
  have := h x hx
  show x % 256 = x
  omega
theorem byteL_of : ∀ l : List Int, (∀ x ∈ l, 0 ≤ x ∧ x < 256) → byteL l = true
  | [], _ => rfl
  | x :: t, h => by
    have := h x (by simp)
    rw [byteL_cons (by omega) (by omega)]
    exact byteL_of t (fun y hy => h y (by simp [hy]))
theorem allR_conv : ∀ l : List InS, UPure.allR (l.map conv) = Pure.allR l
  | [] => rfl
  | x :: t => by
    show (right3 _ _ _ && UPure.allR (t.map conv)) = (right3 _ _ _ && Pure.allR t)
    rw [allR_conv t]; rfl
theorem encF_conv : ∀ l : List InS, UPure.encF (l.map conv) = Pure.encF l
  | [] => rfl
  | x :: t => by
    show UPure.enc1 (conv x) ++ UPure.encF (t.map conv) = Pure.enc1 x ++ Pure.encF t
    rw [encF_conv t]; rfl
theorem get_inv (b : List Int) (hb : ∀ x ∈ b, 0 ≤ x ∧ x < 256) (hl : b.length ≤ 1000000) (U : UD) (h : getR b = (U, 0)) : fitsF U.1 U.2.1 U.2.2.1 U.2.2.2.1 U.2.2.2.2 = true ∧ putB U.1 U.2.1 U.2.2.1 U.2.2.2.1 U.2.2.2.2 = b := by
  unfold getR at h
  dsimp only at h
  have ht := text_inv hb (at_ := 0) (by omega) (by omega)
  generalize textR b 0 false = t at h ht
  by_cases h1 : t.2.2 = true
  · rw [if_pos h1] at h; exact absurd (congrArg Prod.snd h) (by simp)
  rw [if_neg h1] at h
  obtain ⟨t1, t2, t3, t4⟩ := ht (by simpa using h1)
  have hp := numbers_inv hb (at_ := t.2.1) (bad := t.2.2) (many := 1) (most := 8) (m := 1) (by decide) (by decide) (by omega) (by omega) (by omega)
  generalize numbersR b t.2.1 t.2.2 1 8 = p at h hp
  by_cases h2 : ¬ p.2.1 = 0
  · rw [if_pos h2] at h; exact absurd (congrArg Prod.snd h) h2
  rw [if_neg h2] at h
  obtain ⟨_, p2, p3, p4, p5, p6, p7⟩ := hp (by simpa using h2)
  have hr := num_inv hb (at_ := p.2.2.1) (many := 1) (m := 1) (by decide) (by decide) (by omega) (by omega)
  rw [p2] at h
  generalize numR b p.2.2.1 false 1 = r at h hr
  by_cases h3 : r.2.2 = true
  · rw [if_pos h3] at h; exact absurd (congrArg Prod.snd h) (by simp)
  rw [if_neg h3] at h
  obtain ⟨r1, r2, r3, r4, r5⟩ := hr (by simpa using h3)
  have hll := numbers_inv hb (at_ := r.2.1) (bad := r.2.2) (many := 2) (most := 1024) (m := 2) (by decide) (by decide) (by omega) (by omega) (by omega)
  generalize numbersR b r.2.1 r.2.2 2 1024 = l at h hll
  by_cases h4 : ¬ l.2.1 = 0
  · rw [if_pos h4] at h; exact absurd (congrArg Prod.snd h) h4
  rw [if_neg h4] at h
  obtain ⟨_, l2, l3, l4, l5, l6, l7⟩ := hll (by simpa using h4)
  have hn := num_inv hb (at_ := l.2.2.1) (many := 2) (m := 2) (by decide) (by decide) (by omega) (by omega)
  rw [l2] at h
  generalize numR b l.2.2.1 false 2 = n at h hn
  by_cases h5 : n.1 > 16384
  · rw [if_pos h5] at h; exact absurd (congrArg Prod.snd h) (by simp)
  rw [if_neg h5] at h
  cases hnb : n.2.2 with
  | true =>
    rw [hnb, take_bad_true] at h
    dsimp only at h
    rw [if_pos rfl] at h
    exact absurd (congrArg Prod.snd h) (by simp)
  | false =>
  obtain ⟨n1, n2, n3, n4, n5⟩ := hn hnb
  have hw : wrap64 (5 * n.1) = 5 * n.1 := by unfold wrap64; omega
  rw [hnb, hw] at h
  have hx := take_inv (b := b) (at_ := n.2.1) (n := 5 * n.1) (by omega) (by omega)
  have hxm := take_mem' (b := b) (at_ := n.2.1) (bad := false) (n := 5 * n.1)
  generalize takeR b n.2.1 false (5 * n.1) = x at h hx hxm
  by_cases h6 : x.2.2 = true
  · rw [if_pos h6] at h; exact absurd (congrArg Prod.snd h) (by simp)
  rw [if_neg h6] at h
  obtain ⟨x1, x2, x3, x4, x5⟩ := hx (by simpa using h6)
  have hd := Pure.dec_back x.1.length x.1 [] (Nat.le_refl _) (fun y hy => hb y (hxm y hy))
  generalize decF x.1.length x.1 [] = c at h hd
  by_cases h7 : ¬ c.2.2 = 0
  · rw [if_pos h7] at h; exact absurd (congrArg Prod.snd h) h7
  rw [if_neg h7, if_neg h6] at h
  obtain ⟨m, c1, c2, c3⟩ := hd.2 (by simpa using h7)
  rw [List.nil_append] at c1
  by_cases h8 : (b.length : Int) - x.2.1 > 0
  · rw [if_pos h8] at h; exact absurd (congrArg Prod.snd h) (by simp)
  rw [if_neg h8] at h
  obtain rfl := (congrArg Prod.fst h).symm
  clear h
  have hml := Pure.enc_len m
  rw [c3] at hml
  have hend : b.drop x.2.1.toNat = [] := List.drop_eq_nil_of_le (by omega)
  have hR : (2 : Int) ^ (8 * 1) = 256 := rfl
  rw [hR] at r4
  dsimp only
  rw [c1]
  constructor
  · unfold fitsF
    rw [decide_eq_true (show t.1.size ≤ 255 from t1), decide_eq_true (show p.1.length ≤ 8 by omega), decide_eq_true (show l.1.length ≤ 1024 by omega), decide_eq_true (show (m.map conv).length ≤ 16384 by rw [List.length_map]; omega), allR_conv, c2, byteL_of _ p4, byteL_of _ l4, decide_eq_true (show 0 ≤ r.1 from r3), decide_eq_true (show r.1 ≤ 255 by omega)]
    rfl
  · unfold putB
    rw [text_all _ t1, Nat.min_eq_left t1, low_id _ p4, low_id _ l4, encF_conv, c3, List.length_map, show ((m.length : Nat) : Int) = n.1 by omega]
    have t4' := t4
    rw [show (0 : Int).toNat = 0 from rfl, List.drop_zero, p7, r5, ← r1, l7, n5, ← n1, x5, ← x1, hend, List.append_nil] at t4'
    rw [t4']
    simp only [List.append_assoc]
end Go.Proofs.YthbcliofjfhmbaaDoor.Given
end

section
/- A unit that fits comes back from its bytes, plainly. -/
namespace Go.Proofs.YthbcliofjfhmbaaDoor.Given
open Go.RowKit Go.Proofs.YthbcliofjfhmbaaDoorW.PrintWords Go.Proofs.YthbcliofjfhmbaaDoorW.PrintLast Go.Proofs.YthbcliofjfhmbaaDoorW.PrintMore Go.Proofs.YthbcliofjfhmbaaDoor.UPure
set_option linter.unusedVariables false
set_option linter.unusedSimpArgs false
theorem zero_ite {p : Prop} [Decidable p] {e : Int} {X : UD × Int} (h : X.2 ≠ 0 → X.1 = zeroU) : (if p then (zeroU, e) else X).2 ≠ 0 → (if p then (zeroU, e) else X).1 = zeroU := by
  by_cases hp : p
  · rw [if_pos hp]; exact fun _ => rfl
  · rw [if_neg hp]; exact h
theorem get_zero (b : List Int) : (getR b).2 ≠ 0 → (getR b).1 = zeroU := by
  unfold getR
  exact zero_ite (zero_ite (zero_ite (zero_ite (zero_ite (zero_ite (zero_ite (zero_ite (fun h => absurd rfl h))))))))
end Go.Proofs.YthbcliofjfhmbaaDoor.Given
end

section
/- What the calls of UnitBack tell; any unit of few parts and any bytes, the operations' table as the program lays it. -/
namespace Go.Proofs.YthbcliofjfhmbaaDoor.UPure
open Go.RowKit Go.Proofs.YthbcliofjfhmbaaDoor.PUni Go.Proofs.YthbcliofjfhmbaaDoor.Given Go.Proofs.YthbcliofjfhmbaaDoorW.PrintWords Go.Proofs.YthbcliofjfhmbaaDoorW.PrintLast
set_option linter.unusedVariables false
set_option linter.unusedSimpArgs false
theorem putB_len (n : ByteArray) (P : List Int) (R : Int) (L : List Int) (C : List S47) (hn : n.size ≤ 255) : (putB n P R L C).length = n.size + P.length + L.length + 5 * C.length + 7 := by
  unfold putB
  simp only [List.length_append, le_length, low_len, enc_len, text_all n hn, bytes_len]
  omega
theorem okB_of {l : List Int} (h : ∀ x ∈ l, 0 ≤ x ∧ x < 256) (hl : l.length ≤ 1000000) : okB l = true := by
  unfold okB
  simp only [Bool.and_eq_true, List.all_eq_true, decide_eq_true_eq]
  exact ⟨h, by omega⟩
end Go.Proofs.YthbcliofjfhmbaaDoor.UPure
end
