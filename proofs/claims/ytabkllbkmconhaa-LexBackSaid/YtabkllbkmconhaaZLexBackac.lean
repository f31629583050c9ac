/- The program's scanner tells what a plain scanner tells; texts of at most 1000 bytes. -/
import Derived.Test.YtabkllbkmconhaaZLexBackab
section
/- Printed by a program of this session (wip/pg.py, over the print of the kit): functions, their Lean twins, and the proofs that the calls come to them; each under the conditions that it names. -/
namespace Go.Proofs.Ytabkllbkmconhaa.PLex
open Go.Proofs.Ytabkllbkmconhaa.Given
open Go.RowKit Go.Proofs.YtabkllbkmconhaaW.PrintWords Go.Proofs.YtabkllbkmconhaaW.PrintLast Go.Proofs.YtabkllbkmconhaaW.PrintMore
attribute [local go_sem] max2_int min2_int max_two min_two max_three min_three max_four min_four   -- for this text's walks alone
set_option linter.unusedVariables false
set_option linter.unusedSimpArgs false

attribute [local go_sem high] eqA27
/-! ### ladderbacklaw47_LexBack: function 3 -/
mutual
def ladderbacklaw47_LexBack.l0 : Nat → List (S27) → ByteArray → Int → Option (Bool)
  | 0, _, _, _ => none
  | k + 1, x3, x5, x6 => if x6 < (x3.length : Int) then (if 0 ≤ x6 then ((lex_Split.f k ((rd_T27 x3 x6).f2)).bind fun bt122 => (if bt122.2 = 0 then (if (bt122.1.length : Int) = 1 then (if 0 < (bt122.1.length : Int) then (if ((rd_T27 bt122.1 0).f2).toList = ((rd_T27 x3 x6).f2).toList then (if ((rd_T27 bt122.1 0).f0) = ((rd_T27 x3 x6).f0) then (if ((rd_T27 x3 x6).f1) < 1 then (ladderbacklaw47_LexBack.j1 k x3 x5 x6 true) else (if x6 > 0 then (if 0 ≤ (wrap64 (x6 - 1)) then (if (wrap64 (x6 - 1)) < (x3.length : Int) then (ladderbacklaw47_LexBack.j1 k x3 x5 x6 (decide (((rd_T27 x3 x6).f1) < ((rd_T27 x3 (wrap64 (x6 - 1))).f1)))) else (none)) else (none)) else (ladderbacklaw47_LexBack.j1 k x3 x5 x6 false))) else (ladderbacklaw47_LexBack.j1 k x3 x5 x6 true)) else (ladderbacklaw47_LexBack.j1 k x3 x5 x6 true)) else (none)) else (ladderbacklaw47_LexBack.j1 k x3 x5 x6 true)) else (ladderbacklaw47_LexBack.j1 k x3 x5 x6 true))) else (none)) else ((lex_Join.f x3).bind fun t135 => (if t135.toList = x5.toList then ((lex_Join.f x3).bind fun t136 => ((lex_Split.f k t136).bind fun bt137 => (ladderbacklaw47_LexBack.l1 k x3 bt137.1 bt137.2 0))) else (some false)))
def ladderbacklaw47_LexBack.j1 : Nat → List (S27) → ByteArray → Int → Bool → Option (Bool)
  | 0, _, _, _, _ => none
  | k + 1, x3, x5, x6, x100 => if x100 = true then (some false) else (if x6 > 0 then (if x5.size + 1 ≤ 9223372036854775807 then (if 0 ≤ x6 then (if x6 < (x3.length : Int) then (if (x5 ++ (⟨#[32]⟩ : ByteArray)).size + ((rd_T27 x3 x6).f2).size ≤ 9223372036854775807 then (ladderbacklaw47_LexBack.l0 k x3 ((x5 ++ (⟨#[32]⟩ : ByteArray)) ++ ((rd_T27 x3 x6).f2)) (wrap64 (x6 + 1))) else (none)) else (none)) else (none)) else (none)) else (if 0 ≤ x6 then (if x6 < (x3.length : Int) then (if x5.size + ((rd_T27 x3 x6).f2).size ≤ 9223372036854775807 then (ladderbacklaw47_LexBack.l0 k x3 (x5 ++ ((rd_T27 x3 x6).f2)) (wrap64 (x6 + 1))) else (none)) else (none)) else (none)))
def ladderbacklaw47_LexBack.l1 : Nat → List (S27) → List (S27) → Int → Int → Option (Bool)
  | 0, _, _, _, _ => none
  | k + 1, x3, x9, x10, x11 => if x11 < (x9.length : Int) then (ladderbacklaw47_LexBack.j3 k x3 x9 x10 x11 (decide (x11 < (x3.length : Int)))) else (ladderbacklaw47_LexBack.j3 k x3 x9 x10 x11 false)
def ladderbacklaw47_LexBack.j3 : Nat → List (S27) → List (S27) → Int → Int → Bool → Option (Bool)
  | 0, _, _, _, _, _ => none
  | k + 1, x3, x9, x10, x11, x131 => if x131 = true then (if 0 ≤ x11 then (if x11 < (x9.length : Int) then (if x11 < (x3.length : Int) then (if (!(((rd_T27 x9 x11).f0) == ((rd_T27 x3 x11).f0)) || (!(((rd_T27 x9 x11).f1) == 1) || (!((((rd_T27 x9 x11).f2).toList) == (((rd_T27 x3 x11).f2).toList))))) = true then (some false) else (ladderbacklaw47_LexBack.l1 k x3 x9 x10 (wrap64 (x11 + 1)))) else (none)) else (none)) else (none)) else (if x10 = 0 then (if (x9.length : Int) = (x3.length : Int) then ((ladderbacklaw47_awake.f k).bind fun t144 => (some t144)) else (some false)) else (some false))
end
def ladderbacklaw47_LexBack.f (k : Nat) (a0 : ByteArray) : Option (Bool) := if (a0.size : Int) > 1000 then ((ladderbacklaw47_awake.f k).bind fun t115 => (some t115)) else ((lex_Split.f k a0).bind fun bt116 => (if bt116.2 = 0 then (ladderbacklaw47_LexBack.l0 k bt116.1 (⟨#[]⟩ : ByteArray) 0) else (if (bt116.1.length : Int) = 0 then ((ladderbacklaw47_awake.f k).bind fun t120 => (some t120)) else (some false))))
set_option maxHeartbeats 8000000 in
set_option maxRecDepth 100000 in
theorem ladderbacklaw47_LexBack.calls (k : Nat) (a0 : ByteArray) (r : Bool) (w : World) (h : ladderbacklaw47_LexBack.f k a0 = some r) :
    Calls Try.prog 3 #[.string a0] w fun e w' => e = .returned (.bool r) ∧ Below w.heap.size w w' := by
  have hu27 := Try.underlying27
  have HB := Aside0.mk (Below.refl w.heap.size w)
  have H : (if (a0.size : Int) > 1000 then ((ladderbacklaw47_awake.f k).bind fun t115 => (some t115)) else ((lex_Split.f k a0).bind fun bt116 => (if bt116.2 = 0 then (ladderbacklaw47_LexBack.l0 k bt116.1 (⟨#[]⟩ : ByteArray) 0) else (if (bt116.1.length : Int) = 0 then ((ladderbacklaw47_awake.f k).bind fun t120 => (some t120)) else (some false))))) = some r := h
  clear h
  by_cases c2 : (a0.size : Int) > 1000
  · rw [if_pos c2] at H
    have c2b0 : decide (1000 < (a0.size : Int)) = true := decide_eq_true c2
    have c2b1 : decide (1000 < a0.size) = true := decide_eq_true (by omega)
    clear c2
    replace H := Option.bind_eq_some_iff.mp H
    obtain ⟨t115, A30, H⟩ := H
    replace H : (some t115) = some r := H
    have A3 := Aside0.mk A30
    clear A30
    as_aux_lemma =>
      obtain rfl := Option.some.inj H
      go_enter Try.func3, Try.ntmps3
      go_wp2_with (first | (go_at_call 4; (with_reducible refine (ladderbacklaw47_awake.calls k  t115 _ A3.out).mono ?_); rintro e w4 ⟨rfl, hb⟩; have n0_ := Aside0.mk (below_step (by repeat (first | (with_reducible first | exact HB.out | apply below_alloc | apply pw_below_drewN | apply below_drew1) | exact HB.out)) hb); clear HB; have HB := n0_; clear n0_; (try clear hb); (try clear hb2); (try clear hk); (try clear hi)))
      repeat (go_quiet (first | (go_at_call 4; (with_reducible refine (ladderbacklaw47_awake.calls k  t115 _ A3.out).mono ?_); rintro e w4 ⟨rfl, hb⟩; have n0_ := Aside0.mk (below_step (by repeat (first | (with_reducible first | exact HB.out | apply below_alloc | apply pw_below_drewN | apply below_drew1) | exact HB.out)) hb); clear HB; have HB := n0_; clear n0_; (try clear hb); (try clear hb2); (try clear hk); (try clear hi))); try go_wp2_with (first | (go_at_call 4; (with_reducible refine (ladderbacklaw47_awake.calls k  t115 _ A3.out).mono ?_); rintro e w4 ⟨rfl, hb⟩; have n0_ := Aside0.mk (below_step (by repeat (first | (with_reducible first | exact HB.out | apply below_alloc | apply pw_below_drewN | apply below_drew1) | exact HB.out)) hb); clear HB; have HB := n0_; clear n0_; (try clear hb); (try clear hb2); (try clear hk); (try clear hi))))
      go_ret
      exact ⟨by first | rfl | (simp [errW_none, errW_some] <;> rfl) | (simp [*, errW_none, errW_some] <;> rfl), by repeat (first | (with_reducible first | exact HB.out | apply below_alloc | apply pw_below_drewN | apply below_drew1) | exact HB.out)⟩
  · rw [if_neg c2] at H
    have c2b0 : decide (1000 < (a0.size : Int)) = false := decide_eq_false c2
    have c2b1 : decide (1000 < a0.size) = false := decide_eq_false (by omega)
    clear c2
    replace H := Option.bind_eq_some_iff.mp H
    obtain ⟨⟨t116, t117⟩, A50, H⟩ := H
    replace H : (if t117 = 0 then (ladderbacklaw47_LexBack.l0 k t116 (⟨#[]⟩ : ByteArray) 0) else (if (t116.length : Int) = 0 then ((ladderbacklaw47_awake.f k).bind fun t120 => (some t120)) else (some false))) = some r := H
    have A5 := Aside0.mk A50
    clear A50
    by_cases c6 : t117 = 0
    · rw [if_pos c6] at H
      have c6b0 : (t117 == 0) = true := beq_iff_eq.mpr c6
      have c6b1 : (t117 != 0) = false := bne_eq_false_iff_eq.mpr c6
      clear c6
      have H' := Aside0.mk H
      clear H
      go_enter Try.func3, Try.ntmps3
      go_wp2_with (first | (go_at_call 5; (with_reducible refine (lex_Split.calls k a0 t116 t117 _ A5.out).mono ?_); rintro e w7 ⟨v118, rfl, ho0, hb⟩; have n0_ := Aside0.mk (Kd.R_lower ho0 (below_size (by repeat (first | (with_reducible first | exact HB.out | apply below_alloc | apply pw_below_drewN | apply below_drew1) | exact HB.out)))); have n1_ := Aside0.mk (below_step (by repeat (first | (with_reducible first | exact HB.out | apply below_alloc | apply pw_below_drewN | apply below_drew1) | exact HB.out)) hb); clear HB; have HO119 := n0_; have HB := n1_; clear n0_ n1_; (try clear hb); (try clear hb2); (try clear hk); (try clear hi); (try clear ho0)))
      repeat (go_quiet (first | (go_at_call 5; (with_reducible refine (lex_Split.calls k a0 t116 t117 _ A5.out).mono ?_); rintro e w7 ⟨v118, rfl, ho0, hb⟩; have n0_ := Aside0.mk (Kd.R_lower ho0 (below_size (by repeat (first | (with_reducible first | exact HB.out | apply below_alloc | apply pw_below_drewN | apply below_drew1) | exact HB.out)))); have n1_ := Aside0.mk (below_step (by repeat (first | (with_reducible first | exact HB.out | apply below_alloc | apply pw_below_drewN | apply below_drew1) | exact HB.out)) hb); clear HB; have HO119 := n0_; have HB := n1_; clear n0_ n1_; (try clear hb); (try clear hb2); (try clear hk); (try clear hi); (try clear ho0))); try go_wp2_with (first | (go_at_call 5; (with_reducible refine (lex_Split.calls k a0 t116 t117 _ A5.out).mono ?_); rintro e w7 ⟨v118, rfl, ho0, hb⟩; have n0_ := Aside0.mk (Kd.R_lower ho0 (below_size (by repeat (first | (with_reducible first | exact HB.out | apply below_alloc | apply pw_below_drewN | apply below_drew1) | exact HB.out)))); have n1_ := Aside0.mk (below_step (by repeat (first | (with_reducible first | exact HB.out | apply below_alloc | apply pw_below_drewN | apply below_drew1) | exact HB.out)) hb); clear HB; have HO119 := n0_; have HB := n1_; clear n0_ n1_; (try clear hb); (try clear hb2); (try clear hk); (try clear hi); (try clear ho0))))
      go_loopg [5, 6] k (fun kq v5 v6 w' => ∃ (x5_1 : ByteArray) (x6_1 : Int), v5 = .string x5_1 ∧ v6 = .int .i64 x6_1 ∧ Aside0 (ladderbacklaw47_LexBack.l0 kq t116 x5_1 x6_1 = some r) ∧ Aside0 (kq ≤ k) ∧ Aside0 (Kd.R k27 27 w' w.heap.size (fun _ => True) v118 t116) ∧ Aside0 (Below w.heap.size w w'))
      case atStart => exact ⟨((⟨#[]⟩ : ByteArray)), (0), (by first | rfl | (simp; done) | (simp [*]; done)), (by first | rfl | (simp; done) | (simp [*]; done)), H', ⟨Nat.le_refl _⟩, ⟨by (with_reducible repeat (first | apply Kd.R_alloc | apply Kd.R_drewN | apply Kd.R_drew)); exact HO119.out⟩, ⟨by repeat (first | (with_reducible first | exact HB.out | apply below_alloc | apply pw_below_drewN | apply below_drew1) | exact HB.out)⟩⟩
      case round =>
        clear H'
        try clear c2
        try clear c2b0
        try clear c2b1
        try clear p2
        try clear c3
        try clear c6
        try clear c6b0
        try clear c6b1
        obtain ⟨x5_1, x6_1, rfl, rfl, HA, HK1, HO_3, HB⟩ := hrel
        cases gk with
        | zero => exact absurd HA.out (by simp [ladderbacklaw47_LexBack.l0])
        | succ k1 =>
          have H := HA.out
          clear HA
          simp only [ladderbacklaw47_LexBack.l0] at H
          by_cases c8 : x6_1 < (t116.length : Int)
          · rw [if_pos c8] at H
            have c8b0 : decide (x6_1 < (t116.length : Int)) = true := decide_eq_true c8
            clear c8
            by_cases c9 : 0 ≤ x6_1
            · rw [if_pos c9] at H
              have c9b0 : decide (0 ≤ x6_1) = true := decide_eq_true c9
              clear c9
              replace H := Option.bind_eq_some_iff.mp H
              obtain ⟨⟨t122, t123⟩, A100, H⟩ := H
              replace H : (if t123 = 0 then (if (t122.length : Int) = 1 then (if 0 < (t122.length : Int) then (if ((rd_T27 t122 0).f2).toList = ((rd_T27 t116 x6_1).f2).toList then (if ((rd_T27 t122 0).f0) = ((rd_T27 t116 x6_1).f0) then (if ((rd_T27 t116 x6_1).f1) < 1 then (ladderbacklaw47_LexBack.j1 k1 t116 x5_1 x6_1 true) else (if x6_1 > 0 then (if 0 ≤ (wrap64 (x6_1 - 1)) then (if (wrap64 (x6_1 - 1)) < (t116.length : Int) then (ladderbacklaw47_LexBack.j1 k1 t116 x5_1 x6_1 (decide (((rd_T27 t116 x6_1).f1) < ((rd_T27 t116 (wrap64 (x6_1 - 1))).f1)))) else (none)) else (none)) else (ladderbacklaw47_LexBack.j1 k1 t116 x5_1 x6_1 false))) else (ladderbacklaw47_LexBack.j1 k1 t116 x5_1 x6_1 true)) else (ladderbacklaw47_LexBack.j1 k1 t116 x5_1 x6_1 true)) else (none)) else (ladderbacklaw47_LexBack.j1 k1 t116 x5_1 x6_1 true)) else (ladderbacklaw47_LexBack.j1 k1 t116 x5_1 x6_1 true)) = some r := H
              have A10 := Aside0.mk A100
              clear A100
              have HC11 := Aside0.mk H
              clear H
              obtain ⟨Ao12, co12, eo12⟩ := Kd.R_slice HO_3.out
              subst eo12
              have p121 : 0 ≤ (x6_1 : Int) := of_decide_eq_true (by first | (with_reducible assumption) | assumption)
              have q121 : x6_1 < (t116.length : Int) := of_decide_eq_true (by first | (with_reducible assumption) | assumption)
              obtain ⟨ad121, e121, hx121_0, hx121_1, hx121_2⟩ := at_T27 (Kd.R_reads' HO_3.out).2.2 x6_1 p121 q121
              cases e121
              replace p121 := eq_true p121
              replace q121 := eq_true q121
              go_upto_region 11 with (first | (go_at_call 5; (with_reducible refine (lex_Split.calls k1 ((rd_T27 t116 x6_1).f2) t122 t123 _ A10.out).mono ?_); rintro e w13 ⟨v124, rfl, ho0, hb⟩; have n0_ := Aside0.mk (Kd.R_elder' (by (with_reducible repeat (first | apply Kd.R_alloc | apply Kd.R_drewN | apply Kd.R_drew)); exact HO_3.out) (Kd.R_base ho0) hb); have n1_ := Aside0.mk (Kd.R_lower (Kd.R_new' ho0 (Kd.R_lt (by (with_reducible repeat (first | apply Kd.R_alloc | apply Kd.R_drewN | apply Kd.R_drew)); exact HO_3.out))) (below_size (by repeat (first | (with_reducible first | exact HB.out | apply below_alloc | apply pw_below_drewN | apply below_drew1) | exact HB.out)))); have n2_ := Aside0.mk (below_step (by repeat (first | (with_reducible first | exact HB.out | apply below_alloc | apply pw_below_drewN | apply below_drew1) | exact HB.out)) hb); clear HO_3; clear HB; have HO_3 := n0_; have HO125 := n1_; have HB := n2_; clear n0_ n1_ n2_; (try clear hb); (try clear hb2); (try clear hk); (try clear hi); (try clear ho0)))
              repeat (go_quiet (first | (go_at_call 5; (with_reducible refine (lex_Split.calls k1 ((rd_T27 t116 x6_1).f2) t122 t123 _ A10.out).mono ?_); rintro e w13 ⟨v124, rfl, ho0, hb⟩; have n0_ := Aside0.mk (Kd.R_elder' (by (with_reducible repeat (first | apply Kd.R_alloc | apply Kd.R_drewN | apply Kd.R_drew)); exact HO_3.out) (Kd.R_base ho0) hb); have n1_ := Aside0.mk (Kd.R_lower (Kd.R_new' ho0 (Kd.R_lt (by (with_reducible repeat (first | apply Kd.R_alloc | apply Kd.R_drewN | apply Kd.R_drew)); exact HO_3.out))) (below_size (by repeat (first | (with_reducible first | exact HB.out | apply below_alloc | apply pw_below_drewN | apply below_drew1) | exact HB.out)))); have n2_ := Aside0.mk (below_step (by repeat (first | (with_reducible first | exact HB.out | apply below_alloc | apply pw_below_drewN | apply below_drew1) | exact HB.out)) hb); clear HO_3; clear HB; have HO_3 := n0_; have HO125 := n1_; have HB := n2_; clear n0_ n1_ n2_; (try clear hb); (try clear hb2); (try clear hk); (try clear hi); (try clear ho0))); go_upto_region 11 with (first | (go_at_call 5; (with_reducible refine (lex_Split.calls k1 ((rd_T27 t116 x6_1).f2) t122 t123 _ A10.out).mono ?_); rintro e w13 ⟨v124, rfl, ho0, hb⟩; have n0_ := Aside0.mk (Kd.R_elder' (by (with_reducible repeat (first | apply Kd.R_alloc | apply Kd.R_drewN | apply Kd.R_drew)); exact HO_3.out) (Kd.R_base ho0) hb); have n1_ := Aside0.mk (Kd.R_lower (Kd.R_new' ho0 (Kd.R_lt (by (with_reducible repeat (first | apply Kd.R_alloc | apply Kd.R_drewN | apply Kd.R_drew)); exact HO_3.out))) (below_size (by repeat (first | (with_reducible first | exact HB.out | apply below_alloc | apply pw_below_drewN | apply below_drew1) | exact HB.out)))); have n2_ := Aside0.mk (below_step (by repeat (first | (with_reducible first | exact HB.out | apply below_alloc | apply pw_below_drewN | apply below_drew1) | exact HB.out)) hb); clear HO_3; clear HB; have HO_3 := n0_; have HO125 := n1_; have HB := n2_; clear n0_ n1_ n2_; (try clear hb); (try clear hb2); (try clear hk); (try clear hi); (try clear ho0))))
              (try simp only [Act.put, List.setIfInBounds_toArray, List.set_cons_zero, List.set_cons_succ])
              go_cut [100] (fun v100 wc => ∃ (kq : Nat) (x100_10 : Bool), v100 = .bool x100_10 ∧ Aside0 (ladderbacklaw47_LexBack.j1 kq t116 x5_1 x6_1 x100_10 = some r) ∧ Aside0 (kq ≤ k1) ∧ Aside0 (Kd.R k27 27 wc w.heap.size (fun _ => True) (.slice (some ad121) t116.length co12) t116) ∧ Aside0 (Below w.heap.size w wc))
              case first =>
                have H := HC11.out
                clear HC11
                by_cases c14 : t123 = 0
                · rw [if_pos c14] at H
                  have c14b0 : (t123 == 0) = true := beq_iff_eq.mpr c14
                  have c14b1 : (t123 != 0) = false := bne_eq_false_iff_eq.mpr c14
                  clear c14
                  (first | rw [c14b0] | (simp only [i64_w, i32_w]; rw [c14b0]) | skip)
                  by_cases c15 : (t122.length : Int) = 1
                  · rw [if_pos c15] at H
                    have c15b0 : ((t122.length : Int) == 1) = true := beq_iff_eq.mpr c15
                    have c15b1 : ((t122.length : Int) != 1) = false := bne_eq_false_iff_eq.mpr c15
                    clear c15
                    by_cases c16 : 0 < (t122.length : Int)
                    · rw [if_pos c16] at H
                      have c16b0 : decide (0 < (t122.length : Int)) = true := decide_eq_true c16
                      have c16b1 : decide (0 < t122.length) = true := decide_eq_true (by omega)
                      clear c16
                      by_cases c17 : ((rd_T27 t122 0).f2).toList = ((rd_T27 t116 x6_1).f2).toList
                      · rw [if_pos c17] at H
                        have c17b0 : (((rd_T27 t122 0).f2).toList == ((rd_T27 t116 x6_1).f2).toList) = true := beq_iff_eq.mpr c17
                        have c17b1 : (((rd_T27 t122 0).f2).toList != ((rd_T27 t116 x6_1).f2).toList) = false := bne_eq_false_iff_eq.mpr c17
                        clear c17
                        by_cases c18 : ((rd_T27 t122 0).f0) = ((rd_T27 t116 x6_1).f0)
                        · rw [if_pos c18] at H
                          have c18b0 : (((rd_T27 t122 0).f0) == ((rd_T27 t116 x6_1).f0)) = true := beq_iff_eq.mpr c18
                          have c18b1 : (((rd_T27 t122 0).f0) != ((rd_T27 t116 x6_1).f0)) = false := bne_eq_false_iff_eq.mpr c18
                          clear c18
                          by_cases c19 : ((rd_T27 t116 x6_1).f1) < 1
                          · rw [if_pos c19] at H
                            have c19b0 : decide (((rd_T27 t116 x6_1).f1) < 1) = true := decide_eq_true c19
                            clear c19
                            as_aux_lemma =>
                              have H' := Aside0.mk H
                              clear H
                              obtain ⟨Ao20, co20, eo20⟩ := Kd.R_slice HO125.out
                              subst eo20
                              have p126 : 0 ≤ (0 : Int) := (by omega)
                              have q126 : 0 < (t122.length : Int) := of_decide_eq_true (by first | (with_reducible assumption) | assumption)
                              obtain ⟨ad126, e126, hx126_0, hx126_1, hx126_2⟩ := at_T27 (Kd.R_reads' HO125.out).2.2 0 p126 q126
                              cases e126
                              have qi126 : (0 < t122.length) = True := eq_true (by omega)
                              (try rw [show ((0 : Int)).toNat = 0 from rfl] at hx126_0)
                              (try rw [show 0 * 3 = 0 from rfl] at hx126_0)
                              (try rw [Addr.add_zero'] at hx126_0)
                              (try rw [show ((0 : Int)).toNat = 0 from rfl] at hx126_1)
                              (try rw [show 0 * 3 = 0 from rfl] at hx126_1)
                              (try rw [Addr.add_zero'] at hx126_1)
                              (try rw [show ((0 : Int)).toNat = 0 from rfl] at hx126_2)
                              (try rw [show 0 * 3 = 0 from rfl] at hx126_2)
                              (try rw [Addr.add_zero'] at hx126_2)
                              replace p126 := eq_true p126
                              replace q126 := eq_true q126
                              have p127 : 0 ≤ (x6_1 : Int) := of_decide_eq_true (by first | (with_reducible assumption) | assumption)
                              have q127 : x6_1 < (t116.length : Int) := of_decide_eq_true (by first | (with_reducible assumption) | assumption)
                              obtain ⟨ad127, e127, hx127_0, hx127_1, hx127_2⟩ := at_T27 (Kd.R_reads' HO_3.out).2.2 x6_1 p127 q127
                              obtain rfl : ad121 = ad127 := (by injection e127)
                              replace p127 := eq_true p127
                              replace q127 := eq_true q127
                              have p128 : 0 ≤ (0 : Int) := (by omega)
                              have q128 : 0 < (t122.length : Int) := of_decide_eq_true (by first | (with_reducible assumption) | assumption)
                              obtain ⟨ad128, e128, hx128_0, hx128_1, hx128_2⟩ := at_T27 (Kd.R_reads' HO125.out).2.2 0 p128 q128
                              obtain rfl : ad126 = ad128 := (by injection e128)
                              have qi128 : (0 < t122.length) = True := eq_true (by omega)
                              (try rw [show ((0 : Int)).toNat = 0 from rfl] at hx128_0)
                              (try rw [show 0 * 3 = 0 from rfl] at hx128_0)
                              (try rw [Addr.add_zero'] at hx128_0)
                              (try rw [show ((0 : Int)).toNat = 0 from rfl] at hx128_1)
                              (try rw [show 0 * 3 = 0 from rfl] at hx128_1)
                              (try rw [Addr.add_zero'] at hx128_1)
                              (try rw [show ((0 : Int)).toNat = 0 from rfl] at hx128_2)
                              (try rw [show 0 * 3 = 0 from rfl] at hx128_2)
                              (try rw [Addr.add_zero'] at hx128_2)
                              replace p128 := eq_true p128
                              replace q128 := eq_true q128
                              have p129 : 0 ≤ (x6_1 : Int) := of_decide_eq_true (by first | (with_reducible assumption) | assumption)
                              have q129 : x6_1 < (t116.length : Int) := of_decide_eq_true (by first | (with_reducible assumption) | assumption)
                              obtain ⟨ad129, e129, hx129_0, hx129_1, hx129_2⟩ := at_T27 (Kd.R_reads' HO_3.out).2.2 x6_1 p129 q129
                              obtain rfl : ad121 = ad129 := (by injection e129)
                              replace p129 := eq_true p129
                              replace q129 := eq_true q129
                              have p130 : 0 ≤ (x6_1 : Int) := of_decide_eq_true (by first | (with_reducible assumption) | assumption)
                              have q130 : x6_1 < (t116.length : Int) := of_decide_eq_true (by first | (with_reducible assumption) | assumption)
                              obtain ⟨ad130, e130, hx130_0, hx130_1, hx130_2⟩ := at_T27 (Kd.R_reads' HO_3.out).2.2 x6_1 p130 q130
                              obtain rfl : ad121 = ad130 := (by injection e130)
                              replace p130 := eq_true p130
                              replace q130 := eq_true q130
                              go_wp2
                              repeat (go_quiet (fail); try go_wp2)
                              go_meet
                              case rel => exact ⟨_, (true), (by first | rfl | (simp; done) | (simp [*]; done)), H', ⟨by have := HK1.out; first | omega | exact Nat.le_refl _⟩, ⟨by (with_reducible repeat (first | apply Kd.R_alloc | apply Kd.R_drewN | apply Kd.R_drew)); exact Kd.R_mono HO_3.out (fun _ hk => trivial)⟩, ⟨by repeat (first | (with_reducible first | exact HB.out | apply below_alloc | apply pw_below_drewN | apply below_drew1) | exact HB.out)⟩⟩
                          · rw [if_neg c19] at H
                            have c19b0 : decide (((rd_T27 t116 x6_1).f1) < 1) = false := decide_eq_false c19
                            clear c19
                            by_cases c21 : x6_1 > 0
                            · rw [if_pos c21] at H
                              have c21b0 : decide (0 < x6_1) = true := decide_eq_true c21
                              clear c21
                              obtain ⟨ji22, hji22⟩ : ∃ j_ : Int, (wrap64 (x6_1 - 1)) = j_ := ⟨_, rfl⟩
                              replace H : (if 0 ≤ (ji22) then (if (ji22) < (t116.length : Int) then (ladderbacklaw47_LexBack.j1 k1 t116 x5_1 x6_1 (decide (((rd_T27 t116 x6_1).f1) < ((rd_T27 t116 (ji22)).f1)))) else (none)) else (none)) = some r := by first | (rw [hji22] at H; exact H) | (simp only [hji22] at H ⊢; exact H)
                              have hji22w : (IntKind.i64.wrap (x6_1 - 1)) = ji22 := (i64_w _).trans hji22
                              by_cases c23 : 0 ≤ (ji22)
                              · rw [if_pos c23] at H
                                have c23b0 : decide (0 ≤ (ji22)) = true := decide_eq_true c23
                                clear c23
                                by_cases c24 : (ji22) < (t116.length : Int)
                                · rw [if_pos c24] at H
                                  have c24b0 : decide ((ji22) < (t116.length : Int)) = true := decide_eq_true c24
                                  clear c24
                                  as_aux_lemma =>
                                    have H' := Aside0.mk H
                                    clear H
                                    obtain ⟨Ao25, co25, eo25⟩ := Kd.R_slice HO125.out
                                    subst eo25
                                    have p126 : 0 ≤ (0 : Int) := (by omega)
                                    have q126 : 0 < (t122.length : Int) := of_decide_eq_true (by first | (with_reducible assumption) | assumption)
                                    obtain ⟨ad126, e126, hx126_0, hx126_1, hx126_2⟩ := at_T27 (Kd.R_reads' HO125.out).2.2 0 p126 q126
                                    cases e126
                                    have qi126 : (0 < t122.length) = True := eq_true (by omega)
                                    (try rw [show ((0 : Int)).toNat = 0 from rfl] at hx126_0)
                                    (try rw [show 0 * 3 = 0 from rfl] at hx126_0)
                                    (try rw [Addr.add_zero'] at hx126_0)
                                    (try rw [show ((0 : Int)).toNat = 0 from rfl] at hx126_1)
                                    (try rw [show 0 * 3 = 0 from rfl] at hx126_1)
                                    (try rw [Addr.add_zero'] at hx126_1)
                                    (try rw [show ((0 : Int)).toNat = 0 from rfl] at hx126_2)
                                    (try rw [show 0 * 3 = 0 from rfl] at hx126_2)
                                    (try rw [Addr.add_zero'] at hx126_2)
                                    replace p126 := eq_true p126
                                    replace q126 := eq_true q126
                                    have p127 : 0 ≤ (x6_1 : Int) := of_decide_eq_true (by first | (with_reducible assumption) | assumption)
                                    have q127 : x6_1 < (t116.length : Int) := of_decide_eq_true (by first | (with_reducible assumption) | assumption)
                                    obtain ⟨ad127, e127, hx127_0, hx127_1, hx127_2⟩ := at_T27 (Kd.R_reads' HO_3.out).2.2 x6_1 p127 q127
                                    obtain rfl : ad121 = ad127 := (by injection e127)
                                    replace p127 := eq_true p127
                                    replace q127 := eq_true q127
                                    have p128 : 0 ≤ (0 : Int) := (by omega)
                                    have q128 : 0 < (t122.length : Int) := of_decide_eq_true (by first | (with_reducible assumption) | assumption)
                                    obtain ⟨ad128, e128, hx128_0, hx128_1, hx128_2⟩ := at_T27 (Kd.R_reads' HO125.out).2.2 0 p128 q128
                                    obtain rfl : ad126 = ad128 := (by injection e128)
                                    have qi128 : (0 < t122.length) = True := eq_true (by omega)
                                    (try rw [show ((0 : Int)).toNat = 0 from rfl] at hx128_0)
                                    (try rw [show 0 * 3 = 0 from rfl] at hx128_0)
                                    (try rw [Addr.add_zero'] at hx128_0)
                                    (try rw [show ((0 : Int)).toNat = 0 from rfl] at hx128_1)
                                    (try rw [show 0 * 3 = 0 from rfl] at hx128_1)
                                    (try rw [Addr.add_zero'] at hx128_1)
                                    (try rw [show ((0 : Int)).toNat = 0 from rfl] at hx128_2)
                                    (try rw [show 0 * 3 = 0 from rfl] at hx128_2)
                                    (try rw [Addr.add_zero'] at hx128_2)
                                    replace p128 := eq_true p128
                                    replace q128 := eq_true q128
                                    have p129 : 0 ≤ (x6_1 : Int) := of_decide_eq_true (by first | (with_reducible assumption) | assumption)
                                    have q129 : x6_1 < (t116.length : Int) := of_decide_eq_true (by first | (with_reducible assumption) | assumption)
                                    obtain ⟨ad129, e129, hx129_0, hx129_1, hx129_2⟩ := at_T27 (Kd.R_reads' HO_3.out).2.2 x6_1 p129 q129
                                    obtain rfl : ad121 = ad129 := (by injection e129)
                                    replace p129 := eq_true p129
                                    replace q129 := eq_true q129
                                    have p130 : 0 ≤ (x6_1 : Int) := of_decide_eq_true (by first | (with_reducible assumption) | assumption)
                                    have q130 : x6_1 < (t116.length : Int) := of_decide_eq_true (by first | (with_reducible assumption) | assumption)
                                    obtain ⟨ad130, e130, hx130_0, hx130_1, hx130_2⟩ := at_T27 (Kd.R_reads' HO_3.out).2.2 x6_1 p130 q130
                                    obtain rfl : ad121 = ad130 := (by injection e130)
                                    replace p130 := eq_true p130
                                    replace q130 := eq_true q130
                                    have p131 : 0 ≤ (x6_1 : Int) := of_decide_eq_true (by first | (with_reducible assumption) | assumption)
                                    have q131 : x6_1 < (t116.length : Int) := of_decide_eq_true (by first | (with_reducible assumption) | assumption)
                                    obtain ⟨ad131, e131, hx131_0, hx131_1, hx131_2⟩ := at_T27 (Kd.R_reads' HO_3.out).2.2 x6_1 p131 q131
                                    obtain rfl : ad121 = ad131 := (by injection e131)
                                    replace p131 := eq_true p131
                                    replace q131 := eq_true q131
                                    have p132 : 0 ≤ ((ji22) : Int) := of_decide_eq_true (by first | (with_reducible assumption) | assumption)
                                    have q132 : (ji22) < (t116.length : Int) := of_decide_eq_true (by first | (with_reducible assumption) | assumption)
                                    obtain ⟨ad132, e132, hx132_0, hx132_1, hx132_2⟩ := at_T27 (Kd.R_reads' HO_3.out).2.2 (ji22) p132 q132
                                    obtain rfl : ad121 = ad132 := (by injection e132)
                                    replace p132 := eq_true p132
                                    replace q132 := eq_true q132
                                    go_wp2
                                    repeat (go_quiet (fail); try go_wp2)
                                    go_meet
                                    case rel => exact ⟨_, (decide (((rd_T27 t116 x6_1).f1) < ((rd_T27 t116 (ji22)).f1))), (by first | rfl | (simp; done) | (simp only [← hji22] <;> (first | rfl | simp)) | (simp [*]; done)), H', ⟨by have := HK1.out; first | omega | exact Nat.le_refl _⟩, ⟨by (with_reducible repeat (first | apply Kd.R_alloc | apply Kd.R_drewN | apply Kd.R_drew)); exact Kd.R_mono HO_3.out (fun _ hk => trivial)⟩, ⟨by repeat (first | (with_reducible first | exact HB.out | apply below_alloc | apply pw_below_drewN | apply below_drew1) | exact HB.out)⟩⟩
                                · rw [if_neg c24] at H
                                  exact absurd H (by simp)
                              · rw [if_neg c23] at H
                                exact absurd H (by simp)
                            · rw [if_neg c21] at H
                              have c21b0 : decide (0 < x6_1) = false := decide_eq_false c21
                              clear c21
                              as_aux_lemma =>
                                have H' := Aside0.mk H
                                clear H
                                obtain ⟨Ao26, co26, eo26⟩ := Kd.R_slice HO125.out
                                subst eo26
                                have p126 : 0 ≤ (0 : Int) := (by omega)
                                have q126 : 0 < (t122.length : Int) := of_decide_eq_true (by first | (with_reducible assumption) | assumption)
                                obtain ⟨ad126, e126, hx126_0, hx126_1, hx126_2⟩ := at_T27 (Kd.R_reads' HO125.out).2.2 0 p126 q126
                                cases e126
                                have qi126 : (0 < t122.length) = True := eq_true (by omega)
                                (try rw [show ((0 : Int)).toNat = 0 from rfl] at hx126_0)
                                (try rw [show 0 * 3 = 0 from rfl] at hx126_0)
                                (try rw [Addr.add_zero'] at hx126_0)
                                (try rw [show ((0 : Int)).toNat = 0 from rfl] at hx126_1)
                                (try rw [show 0 * 3 = 0 from rfl] at hx126_1)
                                (try rw [Addr.add_zero'] at hx126_1)
                                (try rw [show ((0 : Int)).toNat = 0 from rfl] at hx126_2)
                                (try rw [show 0 * 3 = 0 from rfl] at hx126_2)
                                (try rw [Addr.add_zero'] at hx126_2)
                                replace p126 := eq_true p126
                                replace q126 := eq_true q126
                                have p127 : 0 ≤ (x6_1 : Int) := of_decide_eq_true (by first | (with_reducible assumption) | assumption)
                                have q127 : x6_1 < (t116.length : Int) := of_decide_eq_true (by first | (with_reducible assumption) | assumption)
                                obtain ⟨ad127, e127, hx127_0, hx127_1, hx127_2⟩ := at_T27 (Kd.R_reads' HO_3.out).2.2 x6_1 p127 q127
                                obtain rfl : ad121 = ad127 := (by injection e127)
                                replace p127 := eq_true p127
                                replace q127 := eq_true q127
                                have p128 : 0 ≤ (0 : Int) := (by omega)
                                have q128 : 0 < (t122.length : Int) := of_decide_eq_true (by first | (with_reducible assumption) | assumption)
                                obtain ⟨ad128, e128, hx128_0, hx128_1, hx128_2⟩ := at_T27 (Kd.R_reads' HO125.out).2.2 0 p128 q128
                                obtain rfl : ad126 = ad128 := (by injection e128)
                                have qi128 : (0 < t122.length) = True := eq_true (by omega)
                                (try rw [show ((0 : Int)).toNat = 0 from rfl] at hx128_0)
                                (try rw [show 0 * 3 = 0 from rfl] at hx128_0)
                                (try rw [Addr.add_zero'] at hx128_0)
                                (try rw [show ((0 : Int)).toNat = 0 from rfl] at hx128_1)
                                (try rw [show 0 * 3 = 0 from rfl] at hx128_1)
                                (try rw [Addr.add_zero'] at hx128_1)
                                (try rw [show ((0 : Int)).toNat = 0 from rfl] at hx128_2)
                                (try rw [show 0 * 3 = 0 from rfl] at hx128_2)
                                (try rw [Addr.add_zero'] at hx128_2)
                                replace p128 := eq_true p128
                                replace q128 := eq_true q128
                                have p129 : 0 ≤ (x6_1 : Int) := of_decide_eq_true (by first | (with_reducible assumption) | assumption)
                                have q129 : x6_1 < (t116.length : Int) := of_decide_eq_true (by first | (with_reducible assumption) | assumption)
                                obtain ⟨ad129, e129, hx129_0, hx129_1, hx129_2⟩ := at_T27 (Kd.R_reads' HO_3.out).2.2 x6_1 p129 q129
                                obtain rfl : ad121 = ad129 := (by injection e129)
                                replace p129 := eq_true p129
                                replace q129 := eq_true q129
                                have p130 : 0 ≤ (x6_1 : Int) := of_decide_eq_true (by first | (with_reducible assumption) | assumption)
                                have q130 : x6_1 < (t116.length : Int) := of_decide_eq_true (by first | (with_reducible assumption) | assumption)
                                obtain ⟨ad130, e130, hx130_0, hx130_1, hx130_2⟩ := at_T27 (Kd.R_reads' HO_3.out).2.2 x6_1 p130 q130
                                obtain rfl : ad121 = ad130 := (by injection e130)
                                replace p130 := eq_true p130
                                replace q130 := eq_true q130
                                go_wp2
                                repeat (go_quiet (fail); try go_wp2)
                                go_meet
                                case rel => exact ⟨_, (false), (by first | rfl | (simp; done) | (simp [*]; done)), H', ⟨by have := HK1.out; first | omega | exact Nat.le_refl _⟩, ⟨by (with_reducible repeat (first | apply Kd.R_alloc | apply Kd.R_drewN | apply Kd.R_drew)); exact Kd.R_mono HO_3.out (fun _ hk => trivial)⟩, ⟨by repeat (first | (with_reducible first | exact HB.out | apply below_alloc | apply pw_below_drewN | apply below_drew1) | exact HB.out)⟩⟩
                        · rw [if_neg c18] at H
                          have c18b0 : (((rd_T27 t122 0).f0) == ((rd_T27 t116 x6_1).f0)) = false := beq_eq_false_iff_ne.mpr c18
                          have c18b1 : (((rd_T27 t122 0).f0) != ((rd_T27 t116 x6_1).f0)) = true := bne_iff_ne.mpr c18
                          as_aux_lemma =>
                            have H' := Aside0.mk H
                            clear H
                            obtain ⟨Ao27, co27, eo27⟩ := Kd.R_slice HO125.out
                            subst eo27
                            have p126 : 0 ≤ (0 : Int) := (by omega)
                            have q126 : 0 < (t122.length : Int) := of_decide_eq_true (by first | (with_reducible assumption) | assumption)
                            obtain ⟨ad126, e126, hx126_0, hx126_1, hx126_2⟩ := at_T27 (Kd.R_reads' HO125.out).2.2 0 p126 q126
                            cases e126
                            have qi126 : (0 < t122.length) = True := eq_true (by omega)
                            (try rw [show ((0 : Int)).toNat = 0 from rfl] at hx126_0)
                            (try rw [show 0 * 3 = 0 from rfl] at hx126_0)
                            (try rw [Addr.add_zero'] at hx126_0)
                            (try rw [show ((0 : Int)).toNat = 0 from rfl] at hx126_1)
                            (try rw [show 0 * 3 = 0 from rfl] at hx126_1)
                            (try rw [Addr.add_zero'] at hx126_1)
                            (try rw [show ((0 : Int)).toNat = 0 from rfl] at hx126_2)
                            (try rw [show 0 * 3 = 0 from rfl] at hx126_2)
                            (try rw [Addr.add_zero'] at hx126_2)
                            replace p126 := eq_true p126
                            replace q126 := eq_true q126
                            have p127 : 0 ≤ (x6_1 : Int) := of_decide_eq_true (by first | (with_reducible assumption) | assumption)
                            have q127 : x6_1 < (t116.length : Int) := of_decide_eq_true (by first | (with_reducible assumption) | assumption)
                            obtain ⟨ad127, e127, hx127_0, hx127_1, hx127_2⟩ := at_T27 (Kd.R_reads' HO_3.out).2.2 x6_1 p127 q127
                            obtain rfl : ad121 = ad127 := (by injection e127)
                            replace p127 := eq_true p127
                            replace q127 := eq_true q127
                            have p128 : 0 ≤ (0 : Int) := (by omega)
                            have q128 : 0 < (t122.length : Int) := of_decide_eq_true (by first | (with_reducible assumption) | assumption)
                            obtain ⟨ad128, e128, hx128_0, hx128_1, hx128_2⟩ := at_T27 (Kd.R_reads' HO125.out).2.2 0 p128 q128
                            obtain rfl : ad126 = ad128 := (by injection e128)
                            have qi128 : (0 < t122.length) = True := eq_true (by omega)
                            (try rw [show ((0 : Int)).toNat = 0 from rfl] at hx128_0)
                            (try rw [show 0 * 3 = 0 from rfl] at hx128_0)
                            (try rw [Addr.add_zero'] at hx128_0)
                            (try rw [show ((0 : Int)).toNat = 0 from rfl] at hx128_1)
                            (try rw [show 0 * 3 = 0 from rfl] at hx128_1)
                            (try rw [Addr.add_zero'] at hx128_1)
                            (try rw [show ((0 : Int)).toNat = 0 from rfl] at hx128_2)
                            (try rw [show 0 * 3 = 0 from rfl] at hx128_2)
                            (try rw [Addr.add_zero'] at hx128_2)
                            replace p128 := eq_true p128
                            replace q128 := eq_true q128
                            have p129 : 0 ≤ (x6_1 : Int) := of_decide_eq_true (by first | (with_reducible assumption) | assumption)
                            have q129 : x6_1 < (t116.length : Int) := of_decide_eq_true (by first | (with_reducible assumption) | assumption)
                            obtain ⟨ad129, e129, hx129_0, hx129_1, hx129_2⟩ := at_T27 (Kd.R_reads' HO_3.out).2.2 x6_1 p129 q129
                            obtain rfl : ad121 = ad129 := (by injection e129)
                            replace p129 := eq_true p129
                            replace q129 := eq_true q129
                            go_wp2
                            repeat (go_quiet (fail); try go_wp2)
                            go_meet
                            case rel => exact ⟨_, (true), (by first | rfl | (simp; done) | (simp [*]; done)), H', ⟨by have := HK1.out; first | omega | exact Nat.le_refl _⟩, ⟨by (with_reducible repeat (first | apply Kd.R_alloc | apply Kd.R_drewN | apply Kd.R_drew)); exact Kd.R_mono HO_3.out (fun _ hk => trivial)⟩, ⟨by repeat (first | (with_reducible first | exact HB.out | apply below_alloc | apply pw_below_drewN | apply below_drew1) | exact HB.out)⟩⟩
                      · rw [if_neg c17] at H
                        have c17b0 : (((rd_T27 t122 0).f2).toList == ((rd_T27 t116 x6_1).f2).toList) = false := beq_eq_false_iff_ne.mpr c17
                        have c17b1 : (((rd_T27 t122 0).f2).toList != ((rd_T27 t116 x6_1).f2).toList) = true := bne_iff_ne.mpr c17
                        as_aux_lemma =>
                          have H' := Aside0.mk H
                          clear H
                          obtain ⟨Ao28, co28, eo28⟩ := Kd.R_slice HO125.out
                          subst eo28
                          have p126 : 0 ≤ (0 : Int) := (by omega)
                          have q126 : 0 < (t122.length : Int) := of_decide_eq_true (by first | (with_reducible assumption) | assumption)
                          obtain ⟨ad126, e126, hx126_0, hx126_1, hx126_2⟩ := at_T27 (Kd.R_reads' HO125.out).2.2 0 p126 q126
                          cases e126
                          have qi126 : (0 < t122.length) = True := eq_true (by omega)
                          (try rw [show ((0 : Int)).toNat = 0 from rfl] at hx126_0)
                          (try rw [show 0 * 3 = 0 from rfl] at hx126_0)
                          (try rw [Addr.add_zero'] at hx126_0)
                          (try rw [show ((0 : Int)).toNat = 0 from rfl] at hx126_1)
                          (try rw [show 0 * 3 = 0 from rfl] at hx126_1)
                          (try rw [Addr.add_zero'] at hx126_1)
                          (try rw [show ((0 : Int)).toNat = 0 from rfl] at hx126_2)
                          (try rw [show 0 * 3 = 0 from rfl] at hx126_2)
                          (try rw [Addr.add_zero'] at hx126_2)
                          replace p126 := eq_true p126
                          replace q126 := eq_true q126
                          have p127 : 0 ≤ (x6_1 : Int) := of_decide_eq_true (by first | (with_reducible assumption) | assumption)
                          have q127 : x6_1 < (t116.length : Int) := of_decide_eq_true (by first | (with_reducible assumption) | assumption)
                          obtain ⟨ad127, e127, hx127_0, hx127_1, hx127_2⟩ := at_T27 (Kd.R_reads' HO_3.out).2.2 x6_1 p127 q127
                          obtain rfl : ad121 = ad127 := (by injection e127)
                          replace p127 := eq_true p127
                          replace q127 := eq_true q127
                          go_wp2
                          repeat (go_quiet (fail); try go_wp2)
                          go_meet
                          case rel => exact ⟨_, (true), (by first | rfl | (simp; done) | (simp [*]; done)), H', ⟨by have := HK1.out; first | omega | exact Nat.le_refl _⟩, ⟨by (with_reducible repeat (first | apply Kd.R_alloc | apply Kd.R_drewN | apply Kd.R_drew)); exact Kd.R_mono HO_3.out (fun _ hk => trivial)⟩, ⟨by repeat (first | (with_reducible first | exact HB.out | apply below_alloc | apply pw_below_drewN | apply below_drew1) | exact HB.out)⟩⟩
                    · rw [if_neg c16] at H
                      exact absurd H (by simp)
                  · rw [if_neg c15] at H
                    have c15b0 : ((t122.length : Int) == 1) = false := beq_eq_false_iff_ne.mpr c15
                    have c15b1 : ((t122.length : Int) != 1) = true := bne_iff_ne.mpr c15
                    as_aux_lemma =>
                      have H' := Aside0.mk H
                      clear H
                      obtain ⟨Ao29, co29, eo29⟩ := Kd.R_slice HO125.out
                      subst eo29
                      go_wp2
                      repeat (go_quiet (fail); try go_wp2)
                      go_meet
                      case rel => exact ⟨_, (true), (by first | rfl | (simp; done) | (simp [*]; done)), H', ⟨by have := HK1.out; first | omega | exact Nat.le_refl _⟩, ⟨by (with_reducible repeat (first | apply Kd.R_alloc | apply Kd.R_drewN | apply Kd.R_drew)); exact Kd.R_mono HO_3.out (fun _ hk => trivial)⟩, ⟨by repeat (first | (with_reducible first | exact HB.out | apply below_alloc | apply pw_below_drewN | apply below_drew1) | exact HB.out)⟩⟩
                · rw [if_neg c14] at H
                  have c14b0 : (t123 == 0) = false := beq_eq_false_iff_ne.mpr c14
                  have c14b1 : (t123 != 0) = true := bne_iff_ne.mpr c14
                  (first | rw [c14b0] | (simp only [i64_w, i32_w]; rw [c14b0]) | skip)
                  as_aux_lemma =>
                    have H' := Aside0.mk H
                    clear H
                    go_wp2
                    repeat (go_quiet (fail); try go_wp2)
                    go_meet
                    case rel => exact ⟨_, (true), (by first | rfl | (simp; done) | (simp [*]; done)), H', ⟨by have := HK1.out; first | omega | exact Nat.le_refl _⟩, ⟨by (with_reducible repeat (first | apply Kd.R_alloc | apply Kd.R_drewN | apply Kd.R_drew)); exact Kd.R_mono HO_3.out (fun _ hk => trivial)⟩, ⟨by repeat (first | (with_reducible first | exact HB.out | apply below_alloc | apply pw_below_drewN | apply below_drew1) | exact HB.out)⟩⟩
              case rest =>
                clear HC11
                try clear c1
                try clear p1
                try clear q1
                try clear hx1
                try clear qi1
                try clear c2
                try clear c2b0
                try clear c2b1
                try clear p2
                try clear c3
                try clear c6
                try clear c6b0
                try clear c6b1
                try clear p6
                try clear c8
                try clear c8b0
                try clear c9
                try clear c9b0
                try clear p12
                try clear q12
                try clear hx12
                try clear qi12
                try clear p13
                try clear q13
                try clear hx13
                try clear c14
                try clear c14b0
                try clear c14b1
                try clear c15
                try clear c15b0
                try clear c15b1
                try clear c16
                try clear c16b0
                try clear c16b1
                try clear c17
                try clear c17b0
                try clear c17b1
                try clear c18
                try clear c18b0
                try clear c18b1
                try clear c19
                try clear c19b0
                try clear c21
                try clear c21b0
                try clear c23
                try clear c23b0
                try clear c24
                try clear c24b0
                try clear hx121_0
                try clear hx121_1
                try clear hx121_2
                try clear hx126_0
                try clear hx126_1
                try clear hx126_2
                try clear hx127_0
                try clear hx127_1
                try clear hx127_2
                try clear hx128_0
                try clear hx128_1
                try clear hx128_2
                try clear hx129_0
                try clear hx129_1
                try clear hx129_2
                try clear hx130_0
                try clear hx130_1
                try clear hx130_2
                try clear hx131_0
                try clear hx131_1
                try clear hx131_2
                try clear hx132_0
                try clear hx132_1
                try clear hx132_2
                try clear p121
                try clear p126
                try clear p127
                try clear p128
                try clear p129
                try clear p130
                try clear p131
                try clear p132
                try clear p2
                try clear q121
                try clear q126
                try clear q127
                try clear q128
                try clear q129
                try clear q130
                try clear q131
                try clear q132
                obtain ⟨kq, x100_10, rfl, HA, HJ10, HO_3, HB⟩ := hcut
                cases kq with
                | zero => exact absurd HA.out (by simp [ladderbacklaw47_LexBack.j1])
                | succ kj10 =>
                  have H := HA.out
                  clear HA
                  simp only [ladderbacklaw47_LexBack.j1] at H
                  by_cases c30 : x100_10 = true
                  · subst c30
                    have H1 : (some false) = some r := by rw [if_pos rfl] at H; exact H
                    clear H
                    have H := H1
                    clear H1
                    as_aux_lemma =>
                      obtain rfl := Option.some.inj H
                      go_wp2
                      repeat (go_quiet (fail); try go_wp2)
                      go_ret
                      exact ⟨by first | rfl | (simp [errW_none, errW_some] <;> rfl) | (simp [*, errW_none, errW_some] <;> rfl), by repeat (first | (with_reducible first | exact HB.out | apply below_alloc | apply pw_below_drewN | apply below_drew1) | exact HB.out)⟩
                  · replace c30 := Bool.eq_false_iff.mpr c30
                    subst c30
                    have H1 : (if x6_1 > 0 then (if x5_1.size + 1 ≤ 9223372036854775807 then (if 0 ≤ x6_1 then (if x6_1 < (t116.length : Int) then (if (x5_1 ++ (⟨#[32]⟩ : ByteArray)).size + ((rd_T27 t116 x6_1).f2).size ≤ 9223372036854775807 then (ladderbacklaw47_LexBack.l0 kj10 t116 ((x5_1 ++ (⟨#[32]⟩ : ByteArray)) ++ ((rd_T27 t116 x6_1).f2)) (wrap64 (x6_1 + 1))) else (none)) else (none)) else (none)) else (none)) else (if 0 ≤ x6_1 then (if x6_1 < (t116.length : Int) then (if x5_1.size + ((rd_T27 t116 x6_1).f2).size ≤ 9223372036854775807 then (ladderbacklaw47_LexBack.l0 kj10 t116 (x5_1 ++ ((rd_T27 t116 x6_1).f2)) (wrap64 (x6_1 + 1))) else (none)) else (none)) else (none))) = some r := by rw [if_neg (show ¬ (false = true) by decide)] at H; exact H
                    clear H
                    have H := H1
                    clear H1
                    by_cases c31 : x6_1 > 0
                    · rw [if_pos c31] at H
                      have c31b0 : decide (0 < x6_1) = true := decide_eq_true c31
                      clear c31
                      by_cases c32 : x5_1.size + 1 ≤ 9223372036854775807
                      · rw [if_pos c32] at H
                        have c32b0 := eq_true c32
                        have c32b1 : decide (x5_1.size + 1 ≤ 9223372036854775807) = true := decide_eq_true c32
                        try have c32b2 : (9223372036854775807 < x5_1.size + 1) = False := eq_false (Nat.not_lt.2 c32)
                        by_cases c33 : 0 ≤ x6_1
                        · rw [if_pos c33] at H
                          have c33b0 : decide (0 ≤ x6_1) = true := decide_eq_true c33
                          clear c33
                          by_cases c34 : x6_1 < (t116.length : Int)
                          · rw [if_pos c34] at H
                            have c34b0 : decide (x6_1 < (t116.length : Int)) = true := decide_eq_true c34
                            clear c34
                            by_cases c35 : (x5_1 ++ (⟨#[32]⟩ : ByteArray)).size + ((rd_T27 t116 x6_1).f2).size ≤ 9223372036854775807
                            · rw [if_pos c35] at H
                              have c35b0 := eq_true c35
                              have c35b1 : decide ((x5_1 ++ (⟨#[32]⟩ : ByteArray)).size + ((rd_T27 t116 x6_1).f2).size ≤ 9223372036854775807) = true := decide_eq_true c35
                              try have c35b2 : (9223372036854775807 < (x5_1 ++ (⟨#[32]⟩ : ByteArray)).size + ((rd_T27 t116 x6_1).f2).size) = False := eq_false (Nat.not_lt.2 c35)
                              as_aux_lemma =>
                                have H' := Aside0.mk H
                                clear H
                                have p133 : 0 ≤ (x6_1 : Int) := of_decide_eq_true (by first | (with_reducible assumption) | assumption)
                                have q133 : x6_1 < (t116.length : Int) := of_decide_eq_true (by first | (with_reducible assumption) | assumption)
                                obtain ⟨ad133, e133, hx133_0, hx133_1, hx133_2⟩ := at_T27 (Kd.R_reads' HO_3.out).2.2 x6_1 p133 q133
                                obtain rfl : ad121 = ad133 := (by injection e133)
                                replace p133 := eq_true p133
                                replace q133 := eq_true q133
                                go_wp2
                                repeat (go_quiet (fail); try go_wp2)
                                go_roundg kj10
                                case measure => have := HK1.out; have := HJ10.out; omega
                                case rel => exact ⟨((x5_1 ++ (⟨#[32]⟩ : ByteArray)) ++ ((rd_T27 t116 x6_1).f2)), (wrap64 (x6_1 + 1)), (by first | rfl | (simp; done) | (simp [*]; done)), (by first | rfl | (simp; done) | (simp [*]; done)), H', ⟨by have := HK1.out; have := HJ10.out; omega⟩, ⟨by (with_reducible repeat (first | apply Kd.R_alloc | apply Kd.R_drewN | apply Kd.R_drew)); exact HO_3.out⟩, ⟨by repeat (first | (with_reducible first | exact HB.out | apply below_alloc | apply pw_below_drewN | apply below_drew1) | exact HB.out)⟩⟩
                            · rw [if_neg c35] at H
                              exact absurd H (by simp)
                          · rw [if_neg c34] at H
                            exact absurd H (by simp)
                        · rw [if_neg c33] at H
                          exact absurd H (by simp)
                      · rw [if_neg c32] at H
                        exact absurd H (by simp)
                    · rw [if_neg c31] at H
                      have c31b0 : decide (0 < x6_1) = false := decide_eq_false c31
                      clear c31
                      by_cases c36 : 0 ≤ x6_1
                      · rw [if_pos c36] at H
                        have c36b0 : decide (0 ≤ x6_1) = true := decide_eq_true c36
                        clear c36
                        by_cases c37 : x6_1 < (t116.length : Int)
                        · rw [if_pos c37] at H
                          have c37b0 : decide (x6_1 < (t116.length : Int)) = true := decide_eq_true c37
                          clear c37
                          by_cases c38 : x5_1.size + ((rd_T27 t116 x6_1).f2).size ≤ 9223372036854775807
                          · rw [if_pos c38] at H
                            have c38b0 := eq_true c38
                            have c38b1 : decide (x5_1.size + ((rd_T27 t116 x6_1).f2).size ≤ 9223372036854775807) = true := decide_eq_true c38
                            try have c38b2 : (9223372036854775807 < x5_1.size + ((rd_T27 t116 x6_1).f2).size) = False := eq_false (Nat.not_lt.2 c38)
                            as_aux_lemma =>
                              have H' := Aside0.mk H
                              clear H
                              have p134 : 0 ≤ (x6_1 : Int) := of_decide_eq_true (by first | (with_reducible assumption) | assumption)
                              have q134 : x6_1 < (t116.length : Int) := of_decide_eq_true (by first | (with_reducible assumption) | assumption)
                              obtain ⟨ad134, e134, hx134_0, hx134_1, hx134_2⟩ := at_T27 (Kd.R_reads' HO_3.out).2.2 x6_1 p134 q134
                              obtain rfl : ad121 = ad134 := (by injection e134)
                              replace p134 := eq_true p134
                              replace q134 := eq_true q134
                              go_wp2
                              repeat (go_quiet (fail); try go_wp2)
                              go_roundg kj10
                              case measure => have := HK1.out; have := HJ10.out; omega
                              case rel => exact ⟨(x5_1 ++ ((rd_T27 t116 x6_1).f2)), (wrap64 (x6_1 + 1)), (by first | rfl | (simp; done) | (simp [*]; done)), (by first | rfl | (simp; done) | (simp [*]; done)), H', ⟨by have := HK1.out; have := HJ10.out; omega⟩, ⟨by (with_reducible repeat (first | apply Kd.R_alloc | apply Kd.R_drewN | apply Kd.R_drew)); exact HO_3.out⟩, ⟨by repeat (first | (with_reducible first | exact HB.out | apply below_alloc | apply pw_below_drewN | apply below_drew1) | exact HB.out)⟩⟩
                          · rw [if_neg c38] at H
                            exact absurd H (by simp)
                        · rw [if_neg c37] at H
                          exact absurd H (by simp)
                      · rw [if_neg c36] at H
                        exact absurd H (by simp)
            · rw [if_neg c9] at H
              exact absurd H (by simp)
          · rw [if_neg c8] at H
            have c8b0 : decide (x6_1 < (t116.length : Int)) = false := decide_eq_false c8
            clear c8
            replace H := Option.bind_eq_some_iff.mp H
            obtain ⟨t135, A390, H⟩ := H
            replace H : (if t135.toList = x5_1.toList then ((lex_Join.f t116).bind fun t136 => ((lex_Split.f k1 t136).bind fun bt137 => (ladderbacklaw47_LexBack.l1 k1 t116 bt137.1 bt137.2 0))) else (some false)) = some r := H
            have A39 := Aside0.mk A390
            clear A390
            by_cases c40 : t135.toList = x5_1.toList
            · rw [if_pos c40] at H
              have c40b0 : (t135.toList == x5_1.toList) = true := beq_iff_eq.mpr c40
              have c40b1 : (t135.toList != x5_1.toList) = false := bne_eq_false_iff_eq.mpr c40
              clear c40
              replace H := Option.bind_eq_some_iff.mp H
              obtain ⟨t136, A410, H⟩ := H
              obtain rfl : t135 = t136 := Option.some.inj (A39.out.symm.trans A410)
              replace H : ((lex_Split.f k1 t135).bind fun bt137 => (ladderbacklaw47_LexBack.l1 k1 t116 bt137.1 bt137.2 0)) = some r := H
              have A41 := Aside0.mk A410
              clear A410
              replace H := Option.bind_eq_some_iff.mp H
              obtain ⟨⟨t137, t138⟩, A420, H⟩ := H
              replace H : (ladderbacklaw47_LexBack.l1 k1 t116 t137 t138 0) = some r := H
              have A42 := Aside0.mk A420
              clear A420
              have H' := Aside0.mk H
              clear H
              obtain ⟨Ao43, co43, eo43⟩ := Kd.R_slice HO_3.out
              subst eo43
              go_wp2_with (first | (go_at_call 6; (with_reducible refine (lex_Join.calls _ _ t116 t135 _ ?side1 ?side2 A39.out).mono ?_); (case side1 => repeat (first | exact (Kd.R_reads' HO_3.out).2.2 | (with_reducible refine Kd.C_alloc ?_ _) | (with_reducible refine Kd.C_drewN ?_ _) | (with_reducible refine Kd.C_drew ?_))); (case side2 => exact (Kd.R_reads' HO_3.out).2.1); rintro e w44 ⟨rfl, hb⟩; have n0_ := Aside0.mk (Kd.R_below (by (with_reducible repeat (first | apply Kd.R_alloc | apply Kd.R_drewN | apply Kd.R_drew)); exact HO_3.out) hb); have n1_ := Aside0.mk (below_step (by repeat (first | (with_reducible first | exact HB.out | apply below_alloc | apply pw_below_drewN | apply below_drew1) | exact HB.out)) hb); clear HO_3; clear HB; have HO_3 := n0_; have HB := n1_; clear n0_ n1_; (try clear hb); (try clear hb2); (try clear hk); (try clear hi)) | (go_at_call 6; (with_reducible refine (lex_Join.calls _ _ t116 t135 _ ?side1 ?side2 A41.out).mono ?_); (case side1 => repeat (first | exact (Kd.R_reads' HO_3.out).2.2 | (with_reducible refine Kd.C_alloc ?_ _) | (with_reducible refine Kd.C_drewN ?_ _) | (with_reducible refine Kd.C_drew ?_))); (case side2 => exact (Kd.R_reads' HO_3.out).2.1); rintro e w45 ⟨rfl, hb⟩; have n0_ := Aside0.mk (Kd.R_below (by (with_reducible repeat (first | apply Kd.R_alloc | apply Kd.R_drewN | apply Kd.R_drew)); exact HO_3.out) hb); have n1_ := Aside0.mk (below_step (by repeat (first | (with_reducible first | exact HB.out | apply below_alloc | apply pw_below_drewN | apply below_drew1) | exact HB.out)) hb); clear HO_3; clear HB; have HO_3 := n0_; have HB := n1_; clear n0_ n1_; (try clear hb); (try clear hb2); (try clear hk); (try clear hi)) | (go_at_call 5; (with_reducible refine (lex_Split.calls k1 t135 t137 t138 _ A42.out).mono ?_); rintro e w46 ⟨v139, rfl, ho0, hb⟩; have n0_ := Aside0.mk (Kd.R_elder' (by (with_reducible repeat (first | apply Kd.R_alloc | apply Kd.R_drewN | apply Kd.R_drew)); exact HO_3.out) (Kd.R_base ho0) hb); have n1_ := Aside0.mk (Kd.R_lower (Kd.R_new' ho0 (Kd.R_lt (by (with_reducible repeat (first | apply Kd.R_alloc | apply Kd.R_drewN | apply Kd.R_drew)); exact HO_3.out))) (below_size (by repeat (first | (with_reducible first | exact HB.out | apply below_alloc | apply pw_below_drewN | apply below_drew1) | exact HB.out)))); have n2_ := Aside0.mk (below_step (by repeat (first | (with_reducible first | exact HB.out | apply below_alloc | apply pw_below_drewN | apply below_drew1) | exact HB.out)) hb); clear HO_3; clear HB; have HO_3 := n0_; have HO140 := n1_; have HB := n2_; clear n0_ n1_ n2_; (try clear hb); (try clear hb2); (try clear hk); (try clear hi); (try clear ho0)))
              repeat (go_quiet (first | (go_at_call 6; (with_reducible refine (lex_Join.calls _ _ t116 t135 _ ?side1 ?side2 A39.out).mono ?_); (case side1 => repeat (first | exact (Kd.R_reads' HO_3.out).2.2 | (with_reducible refine Kd.C_alloc ?_ _) | (with_reducible refine Kd.C_drewN ?_ _) | (with_reducible refine Kd.C_drew ?_))); (case side2 => exact (Kd.R_reads' HO_3.out).2.1); rintro e w44 ⟨rfl, hb⟩; have n0_ := Aside0.mk (Kd.R_below (by (with_reducible repeat (first | apply Kd.R_alloc | apply Kd.R_drewN | apply Kd.R_drew)); exact HO_3.out) hb); have n1_ := Aside0.mk (below_step (by repeat (first | (with_reducible first | exact HB.out | apply below_alloc | apply pw_below_drewN | apply below_drew1) | exact HB.out)) hb); clear HO_3; clear HB; have HO_3 := n0_; have HB := n1_; clear n0_ n1_; (try clear hb); (try clear hb2); (try clear hk); (try clear hi)) | (go_at_call 6; (with_reducible refine (lex_Join.calls _ _ t116 t135 _ ?side1 ?side2 A41.out).mono ?_); (case side1 => repeat (first | exact (Kd.R_reads' HO_3.out).2.2 | (with_reducible refine Kd.C_alloc ?_ _) | (with_reducible refine Kd.C_drewN ?_ _) | (with_reducible refine Kd.C_drew ?_))); (case side2 => exact (Kd.R_reads' HO_3.out).2.1); rintro e w45 ⟨rfl, hb⟩; have n0_ := Aside0.mk (Kd.R_below (by (with_reducible repeat (first | apply Kd.R_alloc | apply Kd.R_drewN | apply Kd.R_drew)); exact HO_3.out) hb); have n1_ := Aside0.mk (below_step (by repeat (first | (with_reducible first | exact HB.out | apply below_alloc | apply pw_below_drewN | apply below_drew1) | exact HB.out)) hb); clear HO_3; clear HB; have HO_3 := n0_; have HB := n1_; clear n0_ n1_; (try clear hb); (try clear hb2); (try clear hk); (try clear hi)) | (go_at_call 5; (with_reducible refine (lex_Split.calls k1 t135 t137 t138 _ A42.out).mono ?_); rintro e w46 ⟨v139, rfl, ho0, hb⟩; have n0_ := Aside0.mk (Kd.R_elder' (by (with_reducible repeat (first | apply Kd.R_alloc | apply Kd.R_drewN | apply Kd.R_drew)); exact HO_3.out) (Kd.R_base ho0) hb); have n1_ := Aside0.mk (Kd.R_lower (Kd.R_new' ho0 (Kd.R_lt (by (with_reducible repeat (first | apply Kd.R_alloc | apply Kd.R_drewN | apply Kd.R_drew)); exact HO_3.out))) (below_size (by repeat (first | (with_reducible first | exact HB.out | apply below_alloc | apply pw_below_drewN | apply below_drew1) | exact HB.out)))); have n2_ := Aside0.mk (below_step (by repeat (first | (with_reducible first | exact HB.out | apply below_alloc | apply pw_below_drewN | apply below_drew1) | exact HB.out)) hb); clear HO_3; clear HB; have HO_3 := n0_; have HO140 := n1_; have HB := n2_; clear n0_ n1_ n2_; (try clear hb); (try clear hb2); (try clear hk); (try clear hi); (try clear ho0))); try go_wp2_with (first | (go_at_call 6; (with_reducible refine (lex_Join.calls _ _ t116 t135 _ ?side1 ?side2 A39.out).mono ?_); (case side1 => repeat (first | exact (Kd.R_reads' HO_3.out).2.2 | (with_reducible refine Kd.C_alloc ?_ _) | (with_reducible refine Kd.C_drewN ?_ _) | (with_reducible refine Kd.C_drew ?_))); (case side2 => exact (Kd.R_reads' HO_3.out).2.1); rintro e w44 ⟨rfl, hb⟩; have n0_ := Aside0.mk (Kd.R_below (by (with_reducible repeat (first | apply Kd.R_alloc | apply Kd.R_drewN | apply Kd.R_drew)); exact HO_3.out) hb); have n1_ := Aside0.mk (below_step (by repeat (first | (with_reducible first | exact HB.out | apply below_alloc | apply pw_below_drewN | apply below_drew1) | exact HB.out)) hb); clear HO_3; clear HB; have HO_3 := n0_; have HB := n1_; clear n0_ n1_; (try clear hb); (try clear hb2); (try clear hk); (try clear hi)) | (go_at_call 6; (with_reducible refine (lex_Join.calls _ _ t116 t135 _ ?side1 ?side2 A41.out).mono ?_); (case side1 => repeat (first | exact (Kd.R_reads' HO_3.out).2.2 | (with_reducible refine Kd.C_alloc ?_ _) | (with_reducible refine Kd.C_drewN ?_ _) | (with_reducible refine Kd.C_drew ?_))); (case side2 => exact (Kd.R_reads' HO_3.out).2.1); rintro e w45 ⟨rfl, hb⟩; have n0_ := Aside0.mk (Kd.R_below (by (with_reducible repeat (first | apply Kd.R_alloc | apply Kd.R_drewN | apply Kd.R_drew)); exact HO_3.out) hb); have n1_ := Aside0.mk (below_step (by repeat (first | (with_reducible first | exact HB.out | apply below_alloc | apply pw_below_drewN | apply below_drew1) | exact HB.out)) hb); clear HO_3; clear HB; have HO_3 := n0_; have HB := n1_; clear n0_ n1_; (try clear hb); (try clear hb2); (try clear hk); (try clear hi)) | (go_at_call 5; (with_reducible refine (lex_Split.calls k1 t135 t137 t138 _ A42.out).mono ?_); rintro e w46 ⟨v139, rfl, ho0, hb⟩; have n0_ := Aside0.mk (Kd.R_elder' (by (with_reducible repeat (first | apply Kd.R_alloc | apply Kd.R_drewN | apply Kd.R_drew)); exact HO_3.out) (Kd.R_base ho0) hb); have n1_ := Aside0.mk (Kd.R_lower (Kd.R_new' ho0 (Kd.R_lt (by (with_reducible repeat (first | apply Kd.R_alloc | apply Kd.R_drewN | apply Kd.R_drew)); exact HO_3.out))) (below_size (by repeat (first | (with_reducible first | exact HB.out | apply below_alloc | apply pw_below_drewN | apply below_drew1) | exact HB.out)))); have n2_ := Aside0.mk (below_step (by repeat (first | (with_reducible first | exact HB.out | apply below_alloc | apply pw_below_drewN | apply below_drew1) | exact HB.out)) hb); clear HO_3; clear HB; have HO_3 := n0_; have HO140 := n1_; have HB := n2_; clear n0_ n1_ n2_; (try clear hb); (try clear hb2); (try clear hk); (try clear hi); (try clear ho0))))
              go_loopg [11] k1 (fun kq v11 w' => ∃ (x11_2 : Int), v11 = .int .i64 x11_2 ∧ Aside0 (ladderbacklaw47_LexBack.l1 kq t116 t137 t138 x11_2 = some r) ∧ Aside0 (kq ≤ k1) ∧ Aside0 (Kd.R k27 27 w' w.heap.size (fun k_ => some k_ ≠ (v139 : Value).ownBlock) (.slice Ao43 t116.length co43) t116) ∧ Aside0 (Kd.R k27 27 w' w.heap.size (fun k_ => some k_ ≠ ((.slice Ao43 t116.length co43) : Value).ownBlock) v139 t137) ∧ Aside0 (Below w.heap.size w w'))
              case atStart => exact ⟨(0), (by first | rfl | (simp; done) | (simp [*]; done)), H', ⟨Nat.le_refl _⟩, ⟨by (with_reducible repeat (first | apply Kd.R_alloc | apply Kd.R_drewN | apply Kd.R_drew)); exact Kd.R_mono HO_3.out (fun _ hk => hk.2)⟩, ⟨by (with_reducible repeat (first | apply Kd.R_alloc | apply Kd.R_drewN | apply Kd.R_drew)); exact Kd.R_mono HO140.out (fun _ hk => hk.2)⟩, ⟨by repeat (first | (with_reducible first | exact HB.out | apply below_alloc | apply pw_below_drewN | apply below_drew1) | exact HB.out)⟩⟩
              case round =>
                clear H'
                try clear c1
                try clear p1
                try clear q1
                try clear hx1
                try clear qi1
                try clear c2
                try clear c2b0
                try clear c2b1
                try clear p2
                try clear c3
                try clear c4
                try clear c6
                try clear c6b0
                try clear c6b1
                try clear p6
                try clear c8
                try clear c8b0
                try clear c9
                try clear c9b0
                try clear p12
                try clear q12
                try clear hx12
                try clear qi12
                try clear p13
                try clear q13
                try clear hx13
                try clear c14
                try clear c14b0
                try clear c14b1
                try clear c15
                try clear c15b0
                try clear c15b1
                try clear c16
                try clear c16b0
                try clear c16b1
                try clear c17
                try clear c17b0
                try clear c17b1
                try clear c18
                try clear c18b0
                try clear c18b1
                try clear c19
                try clear c19b0
                try clear c21
                try clear c21b0
                try clear c23
                try clear c23b0
                try clear c24
                try clear c24b0
                try clear c30
                try clear c31
                try clear c31b0
                try clear c32
                try clear c32b0
                try clear c32b1
                try clear c32b2
                try clear c33
                try clear c33b0
                try clear c34
                try clear c34b0
                try clear c35
                try clear c35b0
                try clear c35b1
                try clear c35b2
                try clear c36
                try clear c36b0
                try clear c37
                try clear c37b0
                try clear c38
                try clear c38b0
                try clear c38b1
                try clear c38b2
                try clear c40
                try clear c40b0
                try clear c40b1
                try clear hx121_0
                try clear hx121_1
                try clear hx121_2
                try clear hx126_0
                try clear hx126_1
                try clear hx126_2
                try clear hx127_0
                try clear hx127_1
                try clear hx127_2
                try clear hx128_0
                try clear hx128_1
                try clear hx128_2
                try clear hx129_0
                try clear hx129_1
                try clear hx129_2
                try clear hx130_0
                try clear hx130_1
                try clear hx130_2
                try clear hx131_0
                try clear hx131_1
                try clear hx131_2
                try clear hx132_0
                try clear hx132_1
                try clear hx132_2
                try clear hx133_0
                try clear hx133_1
                try clear hx133_2
                try clear hx134_0
                try clear hx134_1
                try clear hx134_2
                try clear p1
                try clear p12
                try clear p121
                try clear p126
                try clear p127
                try clear p128
                try clear p129
                try clear p13
                try clear p130
                try clear p131
                try clear p132
                try clear p133
                try clear p134
                try clear p2
                try clear p6
                try clear q1
                try clear q12
                try clear q121
                try clear q126
                try clear q127
                try clear q128
                try clear q129
                try clear q13
                try clear q130
                try clear q131
                try clear q132
                try clear q133
                try clear q134
                obtain ⟨x11_2, rfl, HA, HK2, HO_3, HO_9, HB⟩ := hrel
                cases gk with
                | zero => exact absurd HA.out (by simp [ladderbacklaw47_LexBack.l1])
                | succ k2 =>
                  have H := HA.out
                  clear HA
                  simp only [ladderbacklaw47_LexBack.l1] at H
                  have HC47 := Aside0.mk H
                  clear H
                  go_upto_region 20 with (fail)
                  repeat (go_quiet (fail); go_upto_region 20 with (fail))
                  go_cut [131] (fun v131 wc => ∃ (kq : Nat) (x131_46 : Bool), v131 = .bool x131_46 ∧ Aside0 (ladderbacklaw47_LexBack.j3 kq t116 t137 t138 x11_2 x131_46 = some r) ∧ Aside0 (kq ≤ k2) ∧ Aside0 (Kd.R k27 27 wc w.heap.size (fun k_ => some k_ ≠ (v139 : Value).ownBlock) (.slice Ao43 t116.length co43) t116) ∧ Aside0 (Kd.R k27 27 wc w.heap.size (fun k_ => some k_ ≠ ((.slice Ao43 t116.length co43) : Value).ownBlock) v139 t137) ∧ Aside0 (Below w.heap.size w wc))
                  case first =>
                    have H := HC47.out
                    clear HC47
                    by_cases c48 : x11_2 < (t137.length : Int)
                    · rw [if_pos c48] at H
                      have c48b0 : decide (x11_2 < (t137.length : Int)) = true := decide_eq_true c48
                      clear c48
                      (first | rw [c48b0] | (simp only [i64_w, i32_w]; rw [c48b0]) | skip)
                      as_aux_lemma =>
                        have H' := Aside0.mk H
                        clear H
                        obtain ⟨Ao49, co49, eo49⟩ := Kd.R_slice HO_9.out
                        subst eo49
                        go_wp2
                        repeat (go_quiet (fail); try go_wp2)
                        go_meet
                        case rel => exact ⟨_, (decide (x11_2 < (t116.length : Int))), (by first | rfl | (simp; done) | (simp [*]; done)), H', ⟨by have := HK1.out; have := HK2.out; first | omega | exact Nat.le_refl _⟩, ⟨by (with_reducible repeat (first | apply Kd.R_alloc | apply Kd.R_drewN | apply Kd.R_drew)); exact HO_3.out⟩, ⟨by (with_reducible repeat (first | apply Kd.R_alloc | apply Kd.R_drewN | apply Kd.R_drew)); exact HO_9.out⟩, ⟨by repeat (first | (with_reducible first | exact HB.out | apply below_alloc | apply pw_below_drewN | apply below_drew1) | exact HB.out)⟩⟩
                    · rw [if_neg c48] at H
                      have c48b0 : decide (x11_2 < (t137.length : Int)) = false := decide_eq_false c48
                      clear c48
                      (first | rw [c48b0] | (simp only [i64_w, i32_w]; rw [c48b0]) | skip)
                      as_aux_lemma =>
                        have H' := Aside0.mk H
                        clear H
                        obtain ⟨Ao50, co50, eo50⟩ := Kd.R_slice HO_9.out
                        subst eo50
                        go_wp2
                        repeat (go_quiet (fail); try go_wp2)
                        go_meet
                        case rel => exact ⟨_, (false), (by first | rfl | (simp; done) | (simp [*]; done)), H', ⟨by have := HK1.out; have := HK2.out; first | omega | exact Nat.le_refl _⟩, ⟨by (with_reducible repeat (first | apply Kd.R_alloc | apply Kd.R_drewN | apply Kd.R_drew)); exact HO_3.out⟩, ⟨by (with_reducible repeat (first | apply Kd.R_alloc | apply Kd.R_drewN | apply Kd.R_drew)); exact HO_9.out⟩, ⟨by repeat (first | (with_reducible first | exact HB.out | apply below_alloc | apply pw_below_drewN | apply below_drew1) | exact HB.out)⟩⟩
                  case rest =>
                    clear HC47
                    try clear c1
                    try clear p1
                    try clear q1
                    try clear hx1
                    try clear qi1
                    try clear c2
                    try clear c2b0
                    try clear c2b1
                    try clear p2
                    try clear c3
                    try clear c4
                    try clear c6
                    try clear c6b0
                    try clear c6b1
                    try clear p6
                    try clear c8
                    try clear c8b0
                    try clear c9
                    try clear c9b0
                    try clear p12
                    try clear q12
                    try clear hx12
                    try clear qi12
                    try clear p13
                    try clear q13
                    try clear hx13
                    try clear c14
                    try clear c14b0
                    try clear c14b1
                    try clear c15
                    try clear c15b0
                    try clear c15b1
                    try clear c16
                    try clear c16b0
                    try clear c16b1
                    try clear c17
                    try clear c17b0
                    try clear c17b1
                    try clear c18
                    try clear c18b0
                    try clear c18b1
                    try clear c19
                    try clear c19b0
                    try clear c21
                    try clear c21b0
                    try clear c23
                    try clear c23b0
                    try clear c24
                    try clear c24b0
                    try clear c30
                    try clear c31
                    try clear c31b0
                    try clear c32
                    try clear c32b0
                    try clear c32b1
                    try clear c32b2
                    try clear c33
                    try clear c33b0
                    try clear c34
                    try clear c34b0
                    try clear c35
                    try clear c35b0
                    try clear c35b1
                    try clear c35b2
                    try clear c36
                    try clear c36b0
                    try clear c37
                    try clear c37b0
                    try clear c38
                    try clear c38b0
                    try clear c38b1
                    try clear c38b2
                    try clear c40
                    try clear c40b0
                    try clear c40b1
                    try clear c48
                    try clear c48b0
                    try clear hx121_0
                    try clear hx121_1
                    try clear hx121_2
                    try clear hx126_0
                    try clear hx126_1
                    try clear hx126_2
                    try clear hx127_0
                    try clear hx127_1
                    try clear hx127_2
                    try clear hx128_0
                    try clear hx128_1
                    try clear hx128_2
                    try clear hx129_0
                    try clear hx129_1
                    try clear hx129_2
                    try clear hx130_0
                    try clear hx130_1
                    try clear hx130_2
                    try clear hx131_0
                    try clear hx131_1
                    try clear hx131_2
                    try clear hx132_0
                    try clear hx132_1
                    try clear hx132_2
                    try clear hx133_0
                    try clear hx133_1
                    try clear hx133_2
                    try clear hx134_0
                    try clear hx134_1
                    try clear hx134_2
                    try clear p1
                    try clear p12
                    try clear p121
                    try clear p126
                    try clear p127
                    try clear p128
                    try clear p129
                    try clear p13
                    try clear p130
                    try clear p131
                    try clear p132
                    try clear p133
                    try clear p134
                    try clear p2
                    try clear p6
                    try clear q1
                    try clear q12
                    try clear q121
                    try clear q126
                    try clear q127
                    try clear q128
                    try clear q129
                    try clear q13
                    try clear q130
                    try clear q131
                    try clear q132
                    try clear q133
                    try clear q134
                    obtain ⟨kq, x131_46, rfl, HA, HJ46, HO_3, HO_9, HB⟩ := hcut
                    cases kq with
                    | zero => exact absurd HA.out (by simp [ladderbacklaw47_LexBack.j3])
                    | succ kj46 =>
                      have H := HA.out
                      clear HA
                      simp only [ladderbacklaw47_LexBack.j3] at H
                      by_cases c51 : x131_46 = true
                      · subst c51
                        have H1 : (if 0 ≤ x11_2 then (if x11_2 < (t137.length : Int) then (if x11_2 < (t116.length : Int) then (if (!(((rd_T27 t137 x11_2).f0) == ((rd_T27 t116 x11_2).f0)) || (!(((rd_T27 t137 x11_2).f1) == 1) || (!((((rd_T27 t137 x11_2).f2).toList) == (((rd_T27 t116 x11_2).f2).toList))))) = true then (some false) else (ladderbacklaw47_LexBack.l1 kj46 t116 t137 t138 (wrap64 (x11_2 + 1)))) else (none)) else (none)) else (none)) = some r := by rw [if_pos rfl] at H; exact H
                        clear H
                        have H := H1
                        clear H1
                        by_cases c52 : 0 ≤ x11_2
                        · rw [if_pos c52] at H
                          have c52b0 : decide (0 ≤ x11_2) = true := decide_eq_true c52
                          clear c52
                          by_cases c53 : x11_2 < (t137.length : Int)
                          · rw [if_pos c53] at H
                            have c53b0 : decide (x11_2 < (t137.length : Int)) = true := decide_eq_true c53
                            clear c53
                            by_cases c54 : x11_2 < (t116.length : Int)
                            · rw [if_pos c54] at H
                              have c54b0 : decide (x11_2 < (t116.length : Int)) = true := decide_eq_true c54
                              clear c54
                              by_cases c55 : (!(((rd_T27 t137 x11_2).f0) == ((rd_T27 t116 x11_2).f0)) || (!(((rd_T27 t137 x11_2).f1) == 1) || (!((((rd_T27 t137 x11_2).f2).toList) == (((rd_T27 t116 x11_2).f2).toList))))) = true
                              · rw [if_pos c55] at H
                                have c55b0 : (!(((rd_T27 t137 x11_2).f0) == ((rd_T27 t116 x11_2).f0)) || (!(((rd_T27 t137 x11_2).f1) == 1) || (!((((rd_T27 t137 x11_2).f2).toList) == (((rd_T27 t116 x11_2).f2).toList))))) = true := c55
                                clear c55
                                as_aux_lemma =>
                                  obtain rfl := Option.some.inj H
                                  obtain ⟨Ao56, co56, eo56⟩ := Kd.R_slice HO_9.out
                                  subst eo56
                                  have p141 : 0 ≤ (x11_2 : Int) := of_decide_eq_true (by first | (with_reducible assumption) | assumption)
                                  have q141 : x11_2 < (t137.length : Int) := of_decide_eq_true (by first | (with_reducible assumption) | assumption)
                                  obtain ⟨ad141, e141, hx141_0, hx141_1, hx141_2⟩ := at_T27 (Kd.R_reads' HO_9.out).2.2 x11_2 p141 q141
                                  cases e141
                                  replace p141 := eq_true p141
                                  replace q141 := eq_true q141
                                  have p142 : 0 ≤ (x11_2 : Int) := of_decide_eq_true (by first | (with_reducible assumption) | assumption)
                                  have q142 : x11_2 < (t116.length : Int) := of_decide_eq_true (by first | (with_reducible assumption) | assumption)
                                  obtain ⟨ad142, e142, hx142_0, hx142_1, hx142_2⟩ := at_T27 (Kd.R_reads' HO_3.out).2.2 x11_2 p142 q142
                                  cases e142
                                  replace p142 := eq_true p142
                                  replace q142 := eq_true q142
                                  have p143 : 0 ≤ (x11_2 : Int) := of_decide_eq_true (by first | (with_reducible assumption) | assumption)
                                  have q143 : x11_2 < (t116.length : Int) := of_decide_eq_true (by first | (with_reducible assumption) | assumption)
                                  obtain ⟨ad143, e143, hx143_0, hx143_1, hx143_2⟩ := at_T27 (Kd.R_reads' HO_3.out).2.2 x11_2 p143 q143
                                  obtain rfl : ad142 = ad143 := (by injection e143)
                                  replace p143 := eq_true p143
                                  replace q143 := eq_true q143
                                  go_wp2
                                  repeat (go_quiet (fail); try go_wp2)
                                  go_ret
                                  exact ⟨by first | rfl | (simp [errW_none, errW_some] <;> rfl) | (simp [*, errW_none, errW_some] <;> rfl), by repeat (first | (with_reducible first | exact HB.out | apply below_alloc | apply pw_below_drewN | apply below_drew1) | exact HB.out)⟩
                              · rw [if_neg c55] at H
                                have c55b0 : (!(((rd_T27 t137 x11_2).f0) == ((rd_T27 t116 x11_2).f0)) || (!(((rd_T27 t137 x11_2).f1) == 1) || (!((((rd_T27 t137 x11_2).f2).toList) == (((rd_T27 t116 x11_2).f2).toList))))) = false := by simpa using c55
                                clear c55
                                as_aux_lemma =>
                                  have H' := Aside0.mk H
                                  clear H
                                  obtain ⟨Ao57, co57, eo57⟩ := Kd.R_slice HO_9.out
                                  subst eo57
                                  have p141 : 0 ≤ (x11_2 : Int) := of_decide_eq_true (by first | (with_reducible assumption) | assumption)
                                  have q141 : x11_2 < (t137.length : Int) := of_decide_eq_true (by first | (with_reducible assumption) | assumption)
                                  obtain ⟨ad141, e141, hx141_0, hx141_1, hx141_2⟩ := at_T27 (Kd.R_reads' HO_9.out).2.2 x11_2 p141 q141
                                  cases e141
                                  replace p141 := eq_true p141
                                  replace q141 := eq_true q141
                                  have p142 : 0 ≤ (x11_2 : Int) := of_decide_eq_true (by first | (with_reducible assumption) | assumption)
                                  have q142 : x11_2 < (t116.length : Int) := of_decide_eq_true (by first | (with_reducible assumption) | assumption)
                                  obtain ⟨ad142, e142, hx142_0, hx142_1, hx142_2⟩ := at_T27 (Kd.R_reads' HO_3.out).2.2 x11_2 p142 q142
                                  cases e142
                                  replace p142 := eq_true p142
                                  replace q142 := eq_true q142
                                  have p143 : 0 ≤ (x11_2 : Int) := of_decide_eq_true (by first | (with_reducible assumption) | assumption)
                                  have q143 : x11_2 < (t116.length : Int) := of_decide_eq_true (by first | (with_reducible assumption) | assumption)
                                  obtain ⟨ad143, e143, hx143_0, hx143_1, hx143_2⟩ := at_T27 (Kd.R_reads' HO_3.out).2.2 x11_2 p143 q143
                                  obtain rfl : ad142 = ad143 := (by injection e143)
                                  replace p143 := eq_true p143
                                  replace q143 := eq_true q143
                                  go_wp2
                                  repeat (go_quiet (fail); try go_wp2)
                                  go_roundg kj46
                                  case measure => have := HK1.out; have := HK2.out; have := HJ46.out; omega
                                  case rel => exact ⟨(wrap64 (x11_2 + 1)), (by first | rfl | (simp; done) | (simp [*]; done)), H', ⟨by have := HK1.out; have := HK2.out; have := HJ46.out; omega⟩, ⟨by (with_reducible repeat (first | apply Kd.R_alloc | apply Kd.R_drewN | apply Kd.R_drew)); exact HO_3.out⟩, ⟨by (with_reducible repeat (first | apply Kd.R_alloc | apply Kd.R_drewN | apply Kd.R_drew)); exact HO_9.out⟩, ⟨by repeat (first | (with_reducible first | exact HB.out | apply below_alloc | apply pw_below_drewN | apply below_drew1) | exact HB.out)⟩⟩
                            · rw [if_neg c54] at H
                              exact absurd H (by simp)
                          · rw [if_neg c53] at H
                            exact absurd H (by simp)
                        · rw [if_neg c52] at H
                          exact absurd H (by simp)
                      · replace c51 := Bool.eq_false_iff.mpr c51
                        subst c51
                        have H1 : (if t138 = 0 then (if (t137.length : Int) = (t116.length : Int) then ((ladderbacklaw47_awake.f kj46).bind fun t144 => (some t144)) else (some false)) else (some false)) = some r := by rw [if_neg (show ¬ (false = true) by decide)] at H; exact H
                        clear H
                        have H := H1
                        clear H1
                        by_cases c58 : t138 = 0
                        · rw [if_pos c58] at H
                          have c58b0 : (t138 == 0) = true := beq_iff_eq.mpr c58
                          have c58b1 : (t138 != 0) = false := bne_eq_false_iff_eq.mpr c58
                          clear c58
                          by_cases c59 : (t137.length : Int) = (t116.length : Int)
                          · rw [if_pos c59] at H
                            have c59b0 : ((t137.length : Int) == (t116.length : Int)) = true := beq_iff_eq.mpr c59
                            have c59b1 : ((t137.length : Int) != (t116.length : Int)) = false := bne_eq_false_iff_eq.mpr c59
                            have c59b2 : (t137.length == t116.length) = true := by first | simpa using c59 | (simp at c59 ⊢; omega)
                            clear c59
                            replace H := Option.bind_eq_some_iff.mp H
                            obtain ⟨t144, A600, H⟩ := H
                            replace H : (some t144) = some r := H
                            have A60 := Aside0.mk A600
                            clear A600
                            as_aux_lemma =>
                              obtain rfl := Option.some.inj H
                              obtain ⟨Ao61, co61, eo61⟩ := Kd.R_slice HO_9.out
                              subst eo61
                              go_wp2_with (first | (go_at_call 4; (with_reducible refine (ladderbacklaw47_awake.calls kj46  t144 _ A60.out).mono ?_); rintro e w62 ⟨rfl, hb⟩; have n0_ := Aside0.mk (Kd.R_below (by (with_reducible repeat (first | apply Kd.R_alloc | apply Kd.R_drewN | apply Kd.R_drew)); exact HO_3.out) hb); have n1_ := Aside0.mk (Kd.R_below (by (with_reducible repeat (first | apply Kd.R_alloc | apply Kd.R_drewN | apply Kd.R_drew)); exact HO_9.out) hb); have n2_ := Aside0.mk (below_step (by repeat (first | (with_reducible first | exact HB.out | apply below_alloc | apply pw_below_drewN | apply below_drew1) | exact HB.out)) hb); clear HO_3; clear HO_9; clear HB; have HO_3 := n0_; have HO_9 := n1_; have HB := n2_; clear n0_ n1_ n2_; (try clear hb); (try clear hb2); (try clear hk); (try clear hi)))
                              repeat (go_quiet (first | (go_at_call 4; (with_reducible refine (ladderbacklaw47_awake.calls kj46  t144 _ A60.out).mono ?_); rintro e w62 ⟨rfl, hb⟩; have n0_ := Aside0.mk (Kd.R_below (by (with_reducible repeat (first | apply Kd.R_alloc | apply Kd.R_drewN | apply Kd.R_drew)); exact HO_3.out) hb); have n1_ := Aside0.mk (Kd.R_below (by (with_reducible repeat (first | apply Kd.R_alloc | apply Kd.R_drewN | apply Kd.R_drew)); exact HO_9.out) hb); have n2_ := Aside0.mk (below_step (by repeat (first | (with_reducible first | exact HB.out | apply below_alloc | apply pw_below_drewN | apply below_drew1) | exact HB.out)) hb); clear HO_3; clear HO_9; clear HB; have HO_3 := n0_; have HO_9 := n1_; have HB := n2_; clear n0_ n1_ n2_; (try clear hb); (try clear hb2); (try clear hk); (try clear hi))); try go_wp2_with (first | (go_at_call 4; (with_reducible refine (ladderbacklaw47_awake.calls kj46  t144 _ A60.out).mono ?_); rintro e w62 ⟨rfl, hb⟩; have n0_ := Aside0.mk (Kd.R_below (by (with_reducible repeat (first | apply Kd.R_alloc | apply Kd.R_drewN | apply Kd.R_drew)); exact HO_3.out) hb); have n1_ := Aside0.mk (Kd.R_below (by (with_reducible repeat (first | apply Kd.R_alloc | apply Kd.R_drewN | apply Kd.R_drew)); exact HO_9.out) hb); have n2_ := Aside0.mk (below_step (by repeat (first | (with_reducible first | exact HB.out | apply below_alloc | apply pw_below_drewN | apply below_drew1) | exact HB.out)) hb); clear HO_3; clear HO_9; clear HB; have HO_3 := n0_; have HO_9 := n1_; have HB := n2_; clear n0_ n1_ n2_; (try clear hb); (try clear hb2); (try clear hk); (try clear hi))))
                              go_ret
                              exact ⟨by first | rfl | (simp [errW_none, errW_some] <;> rfl) | (simp [*, errW_none, errW_some] <;> rfl), by repeat (first | (with_reducible first | exact HB.out | apply below_alloc | apply pw_below_drewN | apply below_drew1) | exact HB.out)⟩
                          · rw [if_neg c59] at H
                            have c59b0 : ((t137.length : Int) == (t116.length : Int)) = false := beq_eq_false_iff_ne.mpr c59
                            have c59b1 : ((t137.length : Int) != (t116.length : Int)) = true := bne_iff_ne.mpr c59
                            have c59b2 : (t137.length == t116.length) = false := by first | simpa using c59 | (simp at c59 ⊢; omega)
                            as_aux_lemma =>
                              obtain rfl := Option.some.inj H
                              obtain ⟨Ao63, co63, eo63⟩ := Kd.R_slice HO_9.out
                              subst eo63
                              go_wp2
                              repeat (go_quiet (fail); try go_wp2)
                              go_ret
                              exact ⟨by first | rfl | (simp [errW_none, errW_some] <;> rfl) | (simp [*, errW_none, errW_some] <;> rfl), by repeat (first | (with_reducible first | exact HB.out | apply below_alloc | apply pw_below_drewN | apply below_drew1) | exact HB.out)⟩
                        · rw [if_neg c58] at H
                          have c58b0 : (t138 == 0) = false := beq_eq_false_iff_ne.mpr c58
                          have c58b1 : (t138 != 0) = true := bne_iff_ne.mpr c58
                          as_aux_lemma =>
                            obtain rfl := Option.some.inj H
                            go_wp2
                            repeat (go_quiet (fail); try go_wp2)
                            go_ret
                            exact ⟨by first | rfl | (simp [errW_none, errW_some] <;> rfl) | (simp [*, errW_none, errW_some] <;> rfl), by repeat (first | (with_reducible first | exact HB.out | apply below_alloc | apply pw_below_drewN | apply below_drew1) | exact HB.out)⟩
            · rw [if_neg c40] at H
              have c40b0 : (t135.toList == x5_1.toList) = false := beq_eq_false_iff_ne.mpr c40
              have c40b1 : (t135.toList != x5_1.toList) = true := bne_iff_ne.mpr c40
              as_aux_lemma =>
                obtain rfl := Option.some.inj H
                obtain ⟨Ao64, co64, eo64⟩ := Kd.R_slice HO_3.out
                subst eo64
                go_wp2_with (first | (go_at_call 6; (with_reducible refine (lex_Join.calls _ _ t116 t135 _ ?side1 ?side2 A39.out).mono ?_); (case side1 => repeat (first | exact (Kd.R_reads' HO_3.out).2.2 | (with_reducible refine Kd.C_alloc ?_ _) | (with_reducible refine Kd.C_drewN ?_ _) | (with_reducible refine Kd.C_drew ?_))); (case side2 => exact (Kd.R_reads' HO_3.out).2.1); rintro e w65 ⟨rfl, hb⟩; have n0_ := Aside0.mk (Kd.R_below (by (with_reducible repeat (first | apply Kd.R_alloc | apply Kd.R_drewN | apply Kd.R_drew)); exact HO_3.out) hb); have n1_ := Aside0.mk (below_step (by repeat (first | (with_reducible first | exact HB.out | apply below_alloc | apply pw_below_drewN | apply below_drew1) | exact HB.out)) hb); clear HO_3; clear HB; have HO_3 := n0_; have HB := n1_; clear n0_ n1_; (try clear hb); (try clear hb2); (try clear hk); (try clear hi)))
                repeat (go_quiet (first | (go_at_call 6; (with_reducible refine (lex_Join.calls _ _ t116 t135 _ ?side1 ?side2 A39.out).mono ?_); (case side1 => repeat (first | exact (Kd.R_reads' HO_3.out).2.2 | (with_reducible refine Kd.C_alloc ?_ _) | (with_reducible refine Kd.C_drewN ?_ _) | (with_reducible refine Kd.C_drew ?_))); (case side2 => exact (Kd.R_reads' HO_3.out).2.1); rintro e w65 ⟨rfl, hb⟩; have n0_ := Aside0.mk (Kd.R_below (by (with_reducible repeat (first | apply Kd.R_alloc | apply Kd.R_drewN | apply Kd.R_drew)); exact HO_3.out) hb); have n1_ := Aside0.mk (below_step (by repeat (first | (with_reducible first | exact HB.out | apply below_alloc | apply pw_below_drewN | apply below_drew1) | exact HB.out)) hb); clear HO_3; clear HB; have HO_3 := n0_; have HB := n1_; clear n0_ n1_; (try clear hb); (try clear hb2); (try clear hk); (try clear hi))); try go_wp2_with (first | (go_at_call 6; (with_reducible refine (lex_Join.calls _ _ t116 t135 _ ?side1 ?side2 A39.out).mono ?_); (case side1 => repeat (first | exact (Kd.R_reads' HO_3.out).2.2 | (with_reducible refine Kd.C_alloc ?_ _) | (with_reducible refine Kd.C_drewN ?_ _) | (with_reducible refine Kd.C_drew ?_))); (case side2 => exact (Kd.R_reads' HO_3.out).2.1); rintro e w65 ⟨rfl, hb⟩; have n0_ := Aside0.mk (Kd.R_below (by (with_reducible repeat (first | apply Kd.R_alloc | apply Kd.R_drewN | apply Kd.R_drew)); exact HO_3.out) hb); have n1_ := Aside0.mk (below_step (by repeat (first | (with_reducible first | exact HB.out | apply below_alloc | apply pw_below_drewN | apply below_drew1) | exact HB.out)) hb); clear HO_3; clear HB; have HO_3 := n0_; have HB := n1_; clear n0_ n1_; (try clear hb); (try clear hb2); (try clear hk); (try clear hi))))
                go_ret
                exact ⟨by first | rfl | (simp [errW_none, errW_some] <;> rfl) | (simp [*, errW_none, errW_some] <;> rfl), by repeat (first | (with_reducible first | exact HB.out | apply below_alloc | apply pw_below_drewN | apply below_drew1) | exact HB.out)⟩
    · rw [if_neg c6] at H
      have c6b0 : (t117 == 0) = false := beq_eq_false_iff_ne.mpr c6
      have c6b1 : (t117 != 0) = true := bne_iff_ne.mpr c6
      by_cases c66 : (t116.length : Int) = 0
      · rw [if_pos c66] at H
        have c66b0 : ((t116.length : Int) == 0) = true := beq_iff_eq.mpr c66
        have c66b1 : ((t116.length : Int) != 0) = false := bne_eq_false_iff_eq.mpr c66
        clear c66
        replace H := Option.bind_eq_some_iff.mp H
        obtain ⟨t120, A670, H⟩ := H
        replace H : (some t120) = some r := H
        have A67 := Aside0.mk A670
        clear A670
        as_aux_lemma =>
          obtain rfl := Option.some.inj H
          go_enter Try.func3, Try.ntmps3
          go_wp2_with (first | (go_at_call 5; (with_reducible refine (lex_Split.calls k a0 t116 t117 _ A5.out).mono ?_); rintro e w68 ⟨v118, rfl, ho0, hb⟩; have n0_ := Aside0.mk (Kd.R_lower ho0 (below_size (by repeat (first | (with_reducible first | exact HB.out | apply below_alloc | apply pw_below_drewN | apply below_drew1) | exact HB.out)))); have n1_ := Aside0.mk (below_step (by repeat (first | (with_reducible first | exact HB.out | apply below_alloc | apply pw_below_drewN | apply below_drew1) | exact HB.out)) hb); clear HB; have HO119 := n0_; have HB := n1_; clear n0_ n1_; (try clear hb); (try clear hb2); (try clear hk); (try clear hi); (try clear ho0); obtain ⟨Ao69, co69, eo69⟩ := Kd.R_slice HO119.out; subst eo69) | (go_at_call 4; (with_reducible refine (ladderbacklaw47_awake.calls k  t120 _ A67.out).mono ?_); rintro e w70 ⟨rfl, hb⟩; have n0_ := Aside0.mk (Kd.R_below (by (with_reducible repeat (first | apply Kd.R_alloc | apply Kd.R_drewN | apply Kd.R_drew)); exact HO119.out) hb); have n1_ := Aside0.mk (below_step (by repeat (first | (with_reducible first | exact HB.out | apply below_alloc | apply pw_below_drewN | apply below_drew1) | exact HB.out)) hb); clear HO119; clear HB; have HO119 := n0_; have HB := n1_; clear n0_ n1_; (try clear hb); (try clear hb2); (try clear hk); (try clear hi)))
          repeat (go_quiet (first | (go_at_call 5; (with_reducible refine (lex_Split.calls k a0 t116 t117 _ A5.out).mono ?_); rintro e w68 ⟨v118, rfl, ho0, hb⟩; have n0_ := Aside0.mk (Kd.R_lower ho0 (below_size (by repeat (first | (with_reducible first | exact HB.out | apply below_alloc | apply pw_below_drewN | apply below_drew1) | exact HB.out)))); have n1_ := Aside0.mk (below_step (by repeat (first | (with_reducible first | exact HB.out | apply below_alloc | apply pw_below_drewN | apply below_drew1) | exact HB.out)) hb); clear HB; have HO119 := n0_; have HB := n1_; clear n0_ n1_; (try clear hb); (try clear hb2); (try clear hk); (try clear hi); (try clear ho0); obtain ⟨Ao69, co69, eo69⟩ := Kd.R_slice HO119.out; subst eo69) | (go_at_call 4; (with_reducible refine (ladderbacklaw47_awake.calls k  t120 _ A67.out).mono ?_); rintro e w70 ⟨rfl, hb⟩; have n0_ := Aside0.mk (Kd.R_below (by (with_reducible repeat (first | apply Kd.R_alloc | apply Kd.R_drewN | apply Kd.R_drew)); exact HO119.out) hb); have n1_ := Aside0.mk (below_step (by repeat (first | (with_reducible first | exact HB.out | apply below_alloc | apply pw_below_drewN | apply below_drew1) | exact HB.out)) hb); clear HO119; clear HB; have HO119 := n0_; have HB := n1_; clear n0_ n1_; (try clear hb); (try clear hb2); (try clear hk); (try clear hi))); try go_wp2_with (first | (go_at_call 5; (with_reducible refine (lex_Split.calls k a0 t116 t117 _ A5.out).mono ?_); rintro e w68 ⟨v118, rfl, ho0, hb⟩; have n0_ := Aside0.mk (Kd.R_lower ho0 (below_size (by repeat (first | (with_reducible first | exact HB.out | apply below_alloc | apply pw_below_drewN | apply below_drew1) | exact HB.out)))); have n1_ := Aside0.mk (below_step (by repeat (first | (with_reducible first | exact HB.out | apply below_alloc | apply pw_below_drewN | apply below_drew1) | exact HB.out)) hb); clear HB; have HO119 := n0_; have HB := n1_; clear n0_ n1_; (try clear hb); (try clear hb2); (try clear hk); (try clear hi); (try clear ho0); obtain ⟨Ao69, co69, eo69⟩ := Kd.R_slice HO119.out; subst eo69) | (go_at_call 4; (with_reducible refine (ladderbacklaw47_awake.calls k  t120 _ A67.out).mono ?_); rintro e w70 ⟨rfl, hb⟩; have n0_ := Aside0.mk (Kd.R_below (by (with_reducible repeat (first | apply Kd.R_alloc | apply Kd.R_drewN | apply Kd.R_drew)); exact HO119.out) hb); have n1_ := Aside0.mk (below_step (by repeat (first | (with_reducible first | exact HB.out | apply below_alloc | apply pw_below_drewN | apply below_drew1) | exact HB.out)) hb); clear HO119; clear HB; have HO119 := n0_; have HB := n1_; clear n0_ n1_; (try clear hb); (try clear hb2); (try clear hk); (try clear hi))))
          go_ret
          exact ⟨by first | rfl | (simp [errW_none, errW_some] <;> rfl) | (simp [*, errW_none, errW_some] <;> rfl), by repeat (first | (with_reducible first | exact HB.out | apply below_alloc | apply pw_below_drewN | apply below_drew1) | exact HB.out)⟩
      · rw [if_neg c66] at H
        have c66b0 : ((t116.length : Int) == 0) = false := beq_eq_false_iff_ne.mpr c66
        have c66b1 : ((t116.length : Int) != 0) = true := bne_iff_ne.mpr c66
        have c66b2 : ¬ (t116 = []) := fun h_ => c66 (by rw [h_]; rfl)
        as_aux_lemma =>
          obtain rfl := Option.some.inj H
          go_enter Try.func3, Try.ntmps3
          go_wp2_with (first | (go_at_call 5; (with_reducible refine (lex_Split.calls k a0 t116 t117 _ A5.out).mono ?_); rintro e w71 ⟨v118, rfl, ho0, hb⟩; have n0_ := Aside0.mk (Kd.R_lower ho0 (below_size (by repeat (first | (with_reducible first | exact HB.out | apply below_alloc | apply pw_below_drewN | apply below_drew1) | exact HB.out)))); have n1_ := Aside0.mk (below_step (by repeat (first | (with_reducible first | exact HB.out | apply below_alloc | apply pw_below_drewN | apply below_drew1) | exact HB.out)) hb); clear HB; have HO119 := n0_; have HB := n1_; clear n0_ n1_; (try clear hb); (try clear hb2); (try clear hk); (try clear hi); (try clear ho0); obtain ⟨Ao72, co72, eo72⟩ := Kd.R_slice HO119.out; subst eo72))
          repeat (go_quiet (first | (go_at_call 5; (with_reducible refine (lex_Split.calls k a0 t116 t117 _ A5.out).mono ?_); rintro e w71 ⟨v118, rfl, ho0, hb⟩; have n0_ := Aside0.mk (Kd.R_lower ho0 (below_size (by repeat (first | (with_reducible first | exact HB.out | apply below_alloc | apply pw_below_drewN | apply below_drew1) | exact HB.out)))); have n1_ := Aside0.mk (below_step (by repeat (first | (with_reducible first | exact HB.out | apply below_alloc | apply pw_below_drewN | apply below_drew1) | exact HB.out)) hb); clear HB; have HO119 := n0_; have HB := n1_; clear n0_ n1_; (try clear hb); (try clear hb2); (try clear hk); (try clear hi); (try clear ho0); obtain ⟨Ao72, co72, eo72⟩ := Kd.R_slice HO119.out; subst eo72)); try go_wp2_with (first | (go_at_call 5; (with_reducible refine (lex_Split.calls k a0 t116 t117 _ A5.out).mono ?_); rintro e w71 ⟨v118, rfl, ho0, hb⟩; have n0_ := Aside0.mk (Kd.R_lower ho0 (below_size (by repeat (first | (with_reducible first | exact HB.out | apply below_alloc | apply pw_below_drewN | apply below_drew1) | exact HB.out)))); have n1_ := Aside0.mk (below_step (by repeat (first | (with_reducible first | exact HB.out | apply below_alloc | apply pw_below_drewN | apply below_drew1) | exact HB.out)) hb); clear HB; have HO119 := n0_; have HB := n1_; clear n0_ n1_; (try clear hb); (try clear hb2); (try clear hk); (try clear hi); (try clear ho0); obtain ⟨Ao72, co72, eo72⟩ := Kd.R_slice HO119.out; subst eo72)))
          go_ret
          exact ⟨by first | rfl | (simp [errW_none, errW_some] <;> rfl) | (simp [*, errW_none, errW_some] <;> rfl), by repeat (first | (with_reducible first | exact HB.out | apply below_alloc | apply pw_below_drewN | apply below_drew1) | exact HB.out)⟩

/-- THE ONE PURE STATEMENT of ladderbacklaw47_LexBack: yours. -/
def ladderbacklaw47_LexBack.Pure : Prop := ∀ (a0 : ByteArray), a0.size ≤ 140737488351232 → ∃ k, ladderbacklaw47_LexBack.f k a0 = some true
theorem ladderbacklaw47_LexBack.walk (P : ladderbacklaw47_LexBack.Pure) (a0 : ByteArray) (w : World) (w0 : a0.size ≤ 140737488351232) :
    Calls Try.prog 3 #[.string a0] w fun e w' => e = .returned (.bool true) ∧ Below w.heap.size w w' := by
  obtain ⟨k, h⟩ := P a0 w0
  refine (ladderbacklaw47_LexBack.calls k a0 true w h).mono ?_
  rintro e w' ⟨rfl, hd⟩
  exact ⟨rfl, hd⟩

end Go.Proofs.Ytabkllbkmconhaa.PLex
end

section
/- Facts of the two scanners: letters, signs, how long words and signs are; texts of any length. -/
namespace Go.Proofs.Ytabkllbkmconhaa.Pure
open Go.RowKit Go.Proofs.Ytabkllbkmconhaa.PLex Go.Proofs.Ytabkllbkmconhaa.Given Go.Proofs.Ytabkllbkmconhaa.PLet Go.Proofs.YtabkllbkmconhaaW.PrintWords Go.Proofs.YtabkllbkmconhaaW.PrintLast
set_option linter.unusedVariables false
set_option linter.unusedSimpArgs false
theorem w64 (x : Int) (h0 : -9223372036854775808 ≤ x) (h1 : x < 9223372036854775808) : wrap64 x = x := by unfold wrap64; omega
/-- A byte among a text's, from place i on. -/
def memF (t : ByteArray) (c : Int) : Nat → Nat → Bool
  | 0, _ => false
  | d + 1, i => (bt t i == c) || memF t c d (i + 1)
def letters : ByteArray := ⟨#[97, 98, 99, 100, 101, 102, 103, 104, 105, 106, 107, 108, 109, 110, 111, 112, 113, 114, 115, 116, 117, 118, 119, 120, 121, 122, 65, 66, 67, 68, 69, 70, 71, 72, 73, 74, 75, 76, 77, 78, 79, 80, 81, 82, 83, 84, 85, 86, 87, 88, 89, 90, 48, 49, 50, 51, 52, 53, 54, 55, 56, 57, 95, 35]⟩
theorem space_all : ∀ c : Fin 256, ((c.val : Int) = 32 ∨ (c.val : Int) = 9 ∨ (c.val : Int) = 13 ∨ (c.val : Int) = 10) → isLetter (c.val : Int) = false := by decide +kernel
theorem bt_fin (s : ByteArray) (i : Int) : ∃ c : Fin 256, bt s i = (c.val : Int) := by
  unfold bt
  split
  · exact ⟨⟨_, (s[i.toNat]).toNat_lt⟩, rfl⟩
  · exact ⟨0, rfl⟩
theorem letter_space (s : ByteArray) (i : Int) (h : bt s i = 32 ∨ bt s i = 9 ∨ bt s i = 13 ∨ bt s i = 10) : isLetter (bt s i) = false := by
  obtain ⟨c, hc⟩ := bt_fin s i
  rw [hc] at h ⊢
  exact space_all c h
/-! ### The text behind a place -/
theorem size_ext (s : ByteArray) (i : Nat) : (s.extract i s.size).size = s.size - i := by simp
theorem bt_ext (s : ByteArray) (i j : Nat) (h : i + j < s.size) : bt (s.extract i s.size) (j : Int) = bt s ((i + j : Nat) : Int) := by
  unfold bt
  rw [dif_pos (by simp; omega), dif_pos (by simp; omega)]
  simp only [Int.toNat_natCast]
  congr 2
  exact ByteArray.getElem_extract ..
/-- How long the word at i is, from n on. -/
def goF (s : ByteArray) (i n : Nat) : Bool := isLetter (bt s ((i + n : Nat) : Int)) || (bt s ((i + n : Nat) : Int) == 45 && decide (0 < n) && bt s ((i + n - 1 : Nat) : Int) == 35)
def wn (s : ByteArray) (i : Nat) : Nat → Nat → Nat
  | 0, n => n
  | d + 1, n => if i + n < s.size ∧ goF s i n = true then wn s i d (n + 1) else n
theorem goes_ext (s : ByteArray) (i j : Nat) (h : i + j < s.size) : goesF (s.extract i s.size) (j : Int) = goF s i j := by
  unfold goesF goF
  rw [bt_ext s i j h]
  by_cases hj : 0 < j
  · rw [show (j : Int) - 1 = ((j - 1 : Nat) : Int) by omega, bt_ext s i (j - 1) (by omega), show i + (j - 1) = i + j - 1 by omega]
    simp [hj]
  · simp [hj]
theorem wl_ext (s : ByteArray) (i : Nat) : ∀ d n, wl (s.extract i s.size) d n = wn s i d n
  | 0, n => rfl
  | d + 1, n => by
    unfold wl wn
    rw [size_ext]
    by_cases h : i + n < s.size
    · rw [goes_ext s i n h, wl_ext s i d (n + 1)]
      have e : (n < s.size - i) = (i + n < s.size) := by simp; omega
      simp only [e]
    · rw [if_neg (by omega), if_neg (by omega)]
theorem wn_lim (s : ByteArray) (i : Nat) : ∀ d n, i + n ≤ s.size → n ≤ wn s i d n ∧ i + wn s i d n ≤ s.size
  | 0, n, h => ⟨Nat.le_refl _, h⟩
  | d + 1, n, h => by
    unfold wn
    split
    · rename_i c
      have := wn_lim s i d (n + 1) (by omega)
      omega
    · exact ⟨Nat.le_refl _, h⟩
/-- The sign of two bytes at i? -/
def prF (s : ByteArray) (i : Nat) : Bool := decide (i + 1 < s.size) && ((bt s (i : Int) == 58 && bt s ((i + 1 : Nat) : Int) == 61) || (bt s (i : Int) == 60 && bt s ((i + 1 : Nat) : Int) == 61) || (bt s (i : Int) == 62 && bt s ((i + 1 : Nat) : Int) == 61) || (bt s (i : Int) == 60 && bt s ((i + 1 : Nat) : Int) == 62))
def sgF (s : ByteArray) (i : Nat) : Nat := if prF s i then 2 else if isSign (bt s (i : Int)) then 1 else 0
theorem ext_ext (s : ByteArray) (i m : Nat) : (s.extract i s.size).extract m (s.extract i s.size).size = s.extract (i + m) s.size := by
  rw [ByteArray.extract_extract, size_ext]
  congr 1
  omega
theorem ext_take (s : ByteArray) (i m : Nat) (h : i + m ≤ s.size) : (s.extract i s.size).extract 0 m = s.extract i (i + m) := by
  rw [ByteArray.extract_extract]
  congr 1
  omega
theorem u8_int (a : UInt8) (n : Nat) (hn : n < 256) : (a = UInt8.ofNat n) ↔ ((a.toNat : Int) = (n : Int)) := by
  constructor
  · rintro rfl
    simp; omega
  · intro h
    apply UInt8.toNat_inj.1
    have : a.toNat = n := by omega
    rw [this]
    simp; omega
theorem two_list (s : ByteArray) (i : Nat) (h : i + 1 < s.size) : (s.extract i (i + 2)).toList = [s[i], s[i + 1]] := by
  rw [ByteArray.toList_eq]
  simp only [ByteArray.data_extract, Array.toList_extract]
  have hl : i + 1 < s.data.toList.length := by simpa using h
  rw [List.extract_eq_take_drop, show i + 2 - i = 2 by omega]
  apply List.ext_getElem
  · simp; omega
  · intro n h1 h2
    have : n < 2 := by simpa using h2
    rcases n with _ | _ | n
    · simp; rfl
    · simp; rfl
    · omega
theorem pair_ext (s : ByteArray) (i : Nat) (h : i + 1 < s.size) : isPair (s.extract i (i + 2)) = prF s i := by
  have e1 : bt s (i : Int) = (s[i].toNat : Int) := by unfold bt; rw [dif_pos (by simp; omega)]; rfl
  have e2 : bt s ((i + 1 : Nat) : Int) = (s[i + 1].toNat : Int) := by unfold bt; rw [dif_pos (by simp; omega)]; rfl
  unfold isPair PLet.lex_pair.f prF
  rw [two_list s i h, e1, e2]
  generalize s[i] = a
  generalize s[i + 1] = b
  have k : ∀ (x : UInt8) (n : Nat), n < 256 → (((x.toNat : Int) == (n : Int)) = (x == UInt8.ofNat n)) := by
    intro x n hn
    rw [Bool.eq_iff_iff, beq_iff_eq, beq_iff_eq, u8_int x n hn]
  have k58 := k a 58 (by omega)
  have k60 := k a 60 (by omega)
  have k62 := k a 62 (by omega)
  have l61 := k b 61 (by omega)
  have l62 := k b 62 (by omega)
  rw [show ((a.toNat : Int) == 58) = (a == 58) from k58, show ((a.toNat : Int) == 60) = (a == 60) from k60, show ((a.toNat : Int) == 62) = (a == 62) from k62, show ((b.toNat : Int) == 61) = (b == 61) from l61, show ((b.toNat : Int) == 62) = (b == 62) from l62]
  clear k58 k60 k62 l61 l62 k e1 e2
  simp only [List.cons.injEq, and_true, decide_eq_true h, Bool.true_and]
  by_cases a1 : a = 58
  · subst a1; by_cases b1 : b = 61 <;> simp [b1]
  · by_cases a2 : a = 60
    · subst a2
      by_cases b1 : b = 61
      · subst b1; rfl
      · by_cases b2 : b = 62 <;> simp [b1, b2]
    · by_cases a3 : a = 62
      · subst a3; by_cases b1 : b = 61 <;> simp [b1]
      · simp [a1, a2, a3]
end Go.Proofs.Ytabkllbkmconhaa.Pure
end

section
/- The program's scanner tells what a plain scanner tells; texts of at most 1000 bytes. -/
namespace Go.Proofs.Ytabkllbkmconhaa.Pure
open Go.RowKit Go.Proofs.Ytabkllbkmconhaa.PLex Go.Proofs.Ytabkllbkmconhaa.Given Go.Proofs.YtabkllbkmconhaaW.PrintWords Go.Proofs.YtabkllbkmconhaaW.PrintLast
set_option linter.unusedVariables false
set_option linter.unusedSimpArgs false
def spF (c : Int) : Bool := c == 32 || c == 9 || c == 13 || c == 10
def tk (s : ByteArray) : Nat → Nat → List S27 → Int → List S27 × Int
  | 0, _, out, _ => (out, 0)
  | d + 1, i, out, line =>
    if i < s.size then
      if spF (bt s (i : Int)) = true then tk s d (i + 1) out (if bt s (i : Int) = 10 then line + 1 else line)
      else if wn s i (s.size - i) 0 = 0 then
        (if sgF s i = 0 then ([], line) else tk s d (i + sgF s i) (out ++ [⟨2, line, s.extract i (i + sgF s i)⟩]) line)
      else tk s d (i + wn s i (s.size - i) 0) (out ++ [⟨1, line, s.extract i (i + wn s i (s.size - i) 0)⟩]) line
    else (out, 0)
theorem sg_lim (s : ByteArray) (i : Nat) (h : i < s.size) : i + sgF s i ≤ s.size := by
  unfold sgF
  split
  · rename_i c
    unfold prF at c
    simp at c
    omega
  · split <;> omega
theorem word_ext (s : ByteArray) (hz : s.size ≤ 1000000) (i : Nat) : lex_word.f (s.extract i s.size) = some (wn s i (s.size - i) 0 : Int) := by
  unfold lex_word.f
  rw [size_ext, if_pos (by omega), wl_ext]
theorem sign_ext (s : ByteArray) (hz : s.size ≤ 1000000) (i : Nat) (h : i < s.size) : lex_sign.f (s.extract i s.size) = some (sgF s i : Int) := by
  unfold lex_sign.f
  rw [size_ext, if_pos (by omega)]
  unfold signF sgF
  rw [size_ext]
  have e0 := bt_ext s i 0 (by omega)
  rw [show ((0 : Nat) : Int) = 0 from rfl, Nat.add_zero] at e0
  rw [e0]
  by_cases h1 : i + 1 < s.size
  · rw [ext_take s i 2 (by omega), pair_ext s i h1]
    rw [show decide (s.size - i > 1) = true from decide_eq_true (by omega)]
    cases prF s i <;> cases isSign (bt s (i : Int)) <;> rfl
  · have : prF s i = false := by unfold prF; simp [h1]
    rw [this, show decide (s.size - i > 1) = false from decide_eq_false (by omega)]
    cases isSign (bt s (i : Int)) <;> rfl
theorem prog_l0 (s : ByteArray) (hz : s.size ≤ 100000) : ∀ (d i k : Nat) (out : List S27) (line : Int), s.size ≤ i + d → i ≤ s.size → out.length ≤ i → 0 ≤ line → line ≤ i + 1 → 2 * d + 2 ≤ k → lex_Split.l0 k (s.extract i s.size) out line = some (tk s (d + 1) i out line) := by
  intro d
  induction d with
  | zero =>
    intro i k out line h1 h2 h3 h4 h5 h6
    obtain ⟨k, rfl⟩ : ∃ m, k = m + 1 := ⟨k - 1, by omega⟩
    unfold lex_Split.l0 tk
    rw [size_ext, if_neg (by omega), if_neg (by omega)]
  | succ d ih =>
    intro i k out line h1 h2 h3 h4 h5 h6
    obtain ⟨k, rfl⟩ : ∃ m, k = m + 2 := ⟨k - 2, by omega⟩
    by_cases hi : i < s.size
    · have e0 := bt_ext s i 0 (by omega)
      rw [show ((0 : Nat) : Int) = 0 from rfl, Nat.add_zero] at e0
      have step : lex_Split.l0 (k + 2) (s.extract i s.size) out line = lex_Split.j1 (k + 1) (s.extract i s.size) out line (bt s (i : Int)) (spF (bt s (i : Int))) := by
        rw [show k + 2 = (k + 1) + 1 from rfl]
        unfold lex_Split.l0
        rw [size_ext, if_pos (by omega), if_pos (by omega), e0]
        by_cases a1 : bt s (i : Int) = 32
        · rw [if_pos a1, show spF (bt s (i : Int)) = true by simp [spF, a1]]
        · rw [if_neg a1]
          by_cases a2 : bt s (i : Int) = 9
          · rw [if_pos a2, show spF (bt s (i : Int)) = true by simp [spF, a2]]
          · rw [if_neg a2]
            by_cases a3 : bt s (i : Int) = 13
            · rw [if_pos a3, show spF (bt s (i : Int)) = true by simp [spF, a3]]
            · rw [if_neg a3, show spF (bt s (i : Int)) = (bt s (i : Int) == 10) by simp [spF, a1, a2, a3]]
      rw [step]
      unfold lex_Split.j1
      rw [show d + 1 + 1 = (d + 1) + 1 from rfl, tk.eq_2, if_pos hi]
      simp only [size_ext]
      by_cases hs : spF (bt s (i : Int)) = true
      · rw [if_pos hs, if_pos hs]
        have ee := ext_ext s i 1
        rw [size_ext] at ee
        by_cases hn : bt s (i : Int) = 10
        · rw [if_pos hn, if_pos hn, if_pos (by omega), ee, w64 _ (by omega) (by omega)]
          exact ih (i + 1) k out (line + 1) (by omega) (by omega) (by omega) (by omega) (by omega) (by omega)
        · rw [if_neg hn, if_neg hn, if_pos (by omega), ee]
          exact ih (i + 1) k out line (by omega) (by omega) (by omega) (by omega) (by omega) (by omega)
      · rw [if_neg hs, if_neg hs, word_ext s (by omega) i]
        simp only [Option.bind_some]
        have hw := wn_lim s i (s.size - i) 0 (by omega)
        by_cases hw0 : wn s i (s.size - i) 0 = 0
        · rw [if_pos (by omega), if_pos hw0, sign_ext s (by omega) i hi]
          simp only [Option.bind_some]
          have hg := sg_lim s i hi
          by_cases hg0 : sgF s i = 0
          · rw [if_pos (by omega), if_pos hg0]
          · rw [if_neg (by omega), if_neg hg0, if_pos (by omega), if_pos (by omega), if_pos (by omega)]
            have ee := ext_ext s i (sgF s i)
            rw [size_ext] at ee
            rw [Int.toNat_natCast, ee, ext_take s i (sgF s i) hg]
            exact ih (i + sgF s i) k _ line (by omega) (by omega) (by simp; omega) (by omega) (by omega) (by omega)
        · rw [if_neg (by omega), if_neg hw0, if_pos (by omega), if_pos (by omega), if_pos (by omega)]
          have ee := ext_ext s i (wn s i (s.size - i) 0)
          rw [size_ext] at ee
          rw [Int.toNat_natCast, ee, ext_take s i _ hw.2]
          exact ih (i + wn s i (s.size - i) 0) k _ line (by omega) (by omega) (by simp; omega) (by omega) (by omega) (by omega)
    · unfold lex_Split.l0 tk
      rw [size_ext, if_neg (by omega), if_neg (by omega)]
end Go.Proofs.Ytabkllbkmconhaa.Pure
end
