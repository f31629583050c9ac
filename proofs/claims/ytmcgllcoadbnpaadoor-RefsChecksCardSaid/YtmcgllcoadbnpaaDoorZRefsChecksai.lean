/- Printed by a program of this session (wip/pg.py, over the print of the kit): functions, their Lean twins, and the proofs that the calls come to them; each under the conditions that it names. -/
import Derived.Test.YtmcgllcoadbnpaaDoorZRefsChecksab
import Derived.Test.YtmcgllcoadbnpaaDoorZRefsChecksac
import Derived.Test.YtmcgllcoadbnpaaDoorZRefsChecksae
import Derived.Test.YtmcgllcoadbnpaaDoorZRefsChecksah
section
/- Printed by a program of this session (wip/pg.py, over the print of the kit): functions, their Lean twins, and the proofs that the calls come to them; each under the conditions that it names. -/
namespace Go.Proofs.YtmcgllcoadbnpaaDoor.PRf
open Go.Proofs.YtmcgllcoadbnpaaDoor.Given
open Go.RowKit Go.Proofs.YtmcgllcoadbnpaaDoorW.PrintWords Go.Proofs.YtmcgllcoadbnpaaDoorW.PrintLast Go.Proofs.YtmcgllcoadbnpaaDoorW.PrintMore
attribute [local go_sem] max2_int min2_int max_two min_two max_three min_three max_four min_four   -- for this text's walks alone
set_option linter.unusedVariables false
set_option linter.unusedSimpArgs false

/-! ### refs_Check: function 15 -/
mutual
def refs_Check.j0 : Nat → Int → Bool → List (S35) → List (S37) → List (S39) → List (S43) → Option (Int × Int)
  | 0, _, _, _, _, _, _ => none
  | k + 1, x1, x19, x263000, x263001, x263002, x263003 => if x19 = true then (some (0, 15)) else (if 0 ≤ x1 then (if x1 < (x263003.length : Int) then (refs_Check.l0 k x1 ((rd_T43 x263003 x1).f4) ((rd_T43 x263003 x1).f4) (((rd_T43 x263003 x1).f4).length : Int) 0 x263000 x263001 x263002 x263003) else (none)) else (none))
def refs_Check.l0 : Nat → Int → List (S29) → List (S29) → Int → Int → List (S35) → List (S37) → List (S39) → List (S43) → Option (Int × Int)
  | 0, _, _, _, _, _, _, _, _, _ => none
  | k + 1, x1, x6, x26, x27, x28, x263000, x263001, x263002, x263003 => if x28 < x27 then (if 0 ≤ x28 then (if x28 < (x26.length : Int) then ((refs_One.f k x263000 x263001 x263002 x263003 x1 ((rd_T29 x26 x28).f0) ((rd_T29 x26 x28).f1) ((rd_T29 x26 x28).f2)).bind fun t266 => (if t266 = 0 then ((refs_Jump.f x6 x28).bind fun t267 => (if t267 = 0 then (refs_Check.l0 k x1 x6 x26 x27 (wrap64 (x28 + 1)) x263000 x263001 x263002 x263003) else (some (x28, t267)))) else (some (x28, t266)))) else (none)) else (none)) else (some (0, 0))
end
def refs_Check.f (k : Nat) (l0_0 : List (S35)) (l0_1 : List (S37)) (l0_2 : List (S39)) (l0_3 : List (S43)) (a1 : Int) : Option (Int × Int) := if a1 < 0 then (refs_Check.j0 k a1 true l0_0 l0_1 l0_2 l0_3) else (refs_Check.j0 k a1 (decide (a1 ≥ (l0_3.length : Int))) l0_0 l0_1 l0_2 l0_3)
set_option maxHeartbeats 8000000 in
set_option maxRecDepth 100000 in
theorem refs_Check.calls (k : Nat) (A0_0 : Option Addr) (c0_0 : Nat) (l0_0 : List (S35)) (A0_1 : Option Addr) (c0_1 : Nat) (l0_1 : List (S37)) (A0_2 : Option Addr) (c0_2 : Nat) (l0_2 : List (S39)) (A0_3 : Option Addr) (c0_3 : Nat) (l0_3 : List (S43)) (a1 : Int) (r1 : Int) (r2 : Int) (w : World) (hr0_0 : Kd.C k35 w A0_0 l0_0.length l0_0) (hc0_0 : l0_0.length ≤ c0_0) (hr0_1 : Kd.C k37 w A0_1 l0_1.length l0_1) (hc0_1 : l0_1.length ≤ c0_1) (hr0_2 : Kd.C k39 w A0_2 l0_2.length l0_2) (hc0_2 : l0_2.length ≤ c0_2) (hr0_3 : Kd.C k43 w A0_3 l0_3.length l0_3) (hc0_3 : l0_3.length ≤ c0_3) (h : refs_Check.f k l0_0 l0_1 l0_2 l0_3 a1 = some (r1, r2)) (hL_ : LaidAll w) :
    Calls Tryd.prog 15 #[.agg #[.slice A0_0 l0_0.length c0_0, .slice A0_1 l0_1.length c0_1, .slice A0_2 l0_2.length c0_2, .slice A0_3 l0_3.length c0_3], .int .i64 a1] w fun e w' => e = .returned (.tuple #[.int .i64 r1, .int .i64 r2]) ∧ Below w.heap.size w w' := by
  have HL_ := Aside0.mk hL_
  clear hL_
  have hu27 := Tryd.underlying27
  have hu29 := Tryd.underlying29
  have HR0_0 := Aside0.mk hr0_0
  have HC0_0 := Aside0.mk hc0_0
  clear hr0_0 hc0_0
  have HR0_1 := Aside0.mk hr0_1
  have HC0_1 := Aside0.mk hc0_1
  clear hr0_1 hc0_1
  have HR0_2 := Aside0.mk hr0_2
  have HC0_2 := Aside0.mk hc0_2
  clear hr0_2 hc0_2
  have HR0_3 := Aside0.mk hr0_3
  have HC0_3 := Aside0.mk hc0_3
  clear hr0_3 hc0_3
  have HB := Aside0.mk (Below.refl w.heap.size w)
  have H : (if a1 < 0 then (refs_Check.j0 k a1 true l0_0 l0_1 l0_2 l0_3) else (refs_Check.j0 k a1 (decide (a1 ≥ (l0_3.length : Int))) l0_0 l0_1 l0_2 l0_3)) = some (r1, r2) := h
  clear h
  have HC3 := Aside0.mk H
  clear H
  go_enter Tryd.func15, Tryd.ntmps15
  go_upto_region 1 with (first | ((with_reducible refine gate_dst (N := 2) rfl ?_); (try (refine gate_guard (by rfl) ?_; dsimp only)); refine box_event ?hg (N := 2) ?hd (cs := #[.slice A0_0 l0_0.length c0_0, .slice A0_1 l0_1.length c0_1, .slice A0_2 l0_2.length c0_2, .slice A0_3 l0_3.length c0_3]) (t := 27) ?hr ?_; (case hd => rfl); (case hg => rfl); (case hr => first | (go_simp; done) | (go_simp; rfl)); intro gb262 hg w4 hbox hb; have n0_ := Aside0.mk (below_step (by repeat (first | (with_reducible first | exact HB.out | apply below_alloc | apply pw_below_drewN | apply below_drew1) | exact HB.out)) hb); have n1_ := Aside0.mk (hbox); have n2_ := Aside0.mk ((by rw [hg]; exact (below_size (by repeat (first | (with_reducible first | exact HB.out | apply below_alloc | apply pw_below_drewN | apply below_drew1) | exact HB.out))) : w.heap.size ≤ gb262)); have n3_ := Aside0.mk ((by rw [hg]; exact (below_size (by repeat (first | (with_reducible first | exact HB.out | apply below_alloc | apply pw_below_drewN | apply below_drew1) | exact HB.out))) : w.heap.size ≤ gb262)); clear HB; have HB := n0_; have BK262 := n1_; have GW262 := n2_; have GE262 := n3_; clear n0_ n1_ n2_ n3_; clear hb hbox hg))
  (try simp only [Act.put, List.setIfInBounds_toArray, List.set_cons_zero, List.set_cons_succ])
  go_cut [19] (fun v19 wc => ∃ (kq : Nat) (x19_2 : Bool), v19 = .bool x19_2 ∧ Aside0 (refs_Check.j0 kq a1 x19_2 l0_0 l0_1 l0_2 l0_3 = some (r1, r2)) ∧ Aside0 (kq ≤ k) ∧ Aside0 (wc.heap[gb262]? = some (.cells #[(.slice A0_0 l0_0.length c0_0), (.slice A0_1 l0_1.length c0_1), (.slice A0_2 l0_2.length c0_2), (.slice A0_3 l0_3.length c0_3)] 27 (0, 0))) ∧ Aside0 (Below w.heap.size w wc))
  case first =>
    have H := HC3.out
    clear HC3
    by_cases c5 : a1 < 0
    · rw [if_pos c5] at H
      have c5b0 : decide (a1 < 0) = true := decide_eq_true c5
      clear c5
      (first | rw [c5b0] | (simp only [i64_w, i32_w]; rw [c5b0]) | skip)
      have H' := Aside0.mk H
      clear H
      go_wp2
      go_meet
      case rel => exact ⟨_, (true), (by first | rfl | (simp; done) | (simp [*]; done)), H', ⟨by first | omega | exact Nat.le_refl _⟩, ⟨by (with_reducible repeat (first | refine blk_drewN ?_ _ | refine blk_drew ?_ | refine blk_alloc ?_ _)); exact BK262.out⟩, ⟨by repeat (first | (with_reducible first | exact HB.out | apply below_alloc | apply pw_below_drewN | apply below_drew1 | refine below_set ?_ GE262.out) | exact HB.out)⟩⟩
    · rw [if_neg c5] at H
      have c5b0 : decide (a1 < 0) = false := decide_eq_false c5
      clear c5
      (first | rw [c5b0] | (simp only [i64_w, i32_w]; rw [c5b0]) | skip)
      have H' := Aside0.mk H
      clear H
      have hcz6_0 : w4.cell? ⟨gb262, 0, none⟩ = some (.slice A0_0 l0_0.length c0_0) := (blk_cell BK262.out 0).trans rfl
      have hcz6_1 : w4.cell? ⟨gb262, 1, none⟩ = some (.slice A0_1 l0_1.length c0_1) := (blk_cell BK262.out 1).trans rfl
      have hcz6_2 : w4.cell? ⟨gb262, 2, none⟩ = some (.slice A0_2 l0_2.length c0_2) := (blk_cell BK262.out 2).trans rfl
      have hcz6_3 : w4.cell? ⟨gb262, 3, none⟩ = some (.slice A0_3 l0_3.length c0_3) := (blk_cell BK262.out 3).trans rfl
      have hfz6_0 := blk_frozen BK262.out 0
      have hfz6_1 := blk_frozen BK262.out 1
      have hfz6_2 := blk_frozen BK262.out 2
      have hfz6_3 := blk_frozen BK262.out 3
      go_wp2
      go_meet
      case rel => exact ⟨_, (decide (a1 ≥ (l0_3.length : Int))), (by first | rfl | (simp; done) | (simp [*]; done)), H', ⟨by first | omega | exact Nat.le_refl _⟩, ⟨by (with_reducible repeat (first | refine blk_drewN ?_ _ | refine blk_drew ?_ | refine blk_alloc ?_ _)); exact BK262.out⟩, ⟨by repeat (first | (with_reducible first | exact HB.out | apply below_alloc | apply pw_below_drewN | apply below_drew1 | refine below_set ?_ GE262.out) | exact HB.out)⟩⟩
  case rest =>
    clear HC3
    try clear c1
    try clear p2
    try clear c5
    try clear c5b0
    try clear hcz6_0
    try clear hcz6_1
    try clear hcz6_2
    try clear hcz6_3
    try clear hfz6_0
    try clear hfz6_1
    try clear hfz6_2
    try clear hfz6_3
    obtain ⟨kq, x19_2, rfl, HA, HJ2, BK262, HB⟩ := hcut
    cases kq with
    | zero => exact absurd HA.out (by simp [refs_Check.j0])
    | succ kj2 =>
      have H := HA.out
      clear HA
      simp only [refs_Check.j0] at H
      by_cases c7 : x19_2 = true
      · subst c7
        have H1 : (some (0, 15)) = some (r1, r2) := by rw [if_pos rfl] at H; exact H
        clear H
        have H := H1
        clear H1
        simp only [Option.some.injEq, Prod.mk.injEq] at H
        obtain ⟨rfl, rfl⟩ := H
        go_wp2
        go_ret2
        exact ⟨by first | rfl | (simp [errW_none, errW_some] <;> rfl) | (simp [*, errW_none, errW_some] <;> rfl), by repeat (first | (with_reducible first | exact HB.out | apply below_alloc | apply pw_below_drewN | apply below_drew1 | refine below_set ?_ GE262.out) | exact HB.out)⟩
      · replace c7 := Bool.eq_false_iff.mpr c7
        subst c7
        have H1 : (if 0 ≤ a1 then (if a1 < (l0_3.length : Int) then (refs_Check.l0 kj2 a1 ((rd_T43 l0_3 a1).f4) ((rd_T43 l0_3 a1).f4) (((rd_T43 l0_3 a1).f4).length : Int) 0 l0_0 l0_1 l0_2 l0_3) else (none)) else (none)) = some (r1, r2) := by rw [if_neg (show ¬ (false = true) by decide)] at H; exact H
        clear H
        have H := H1
        clear H1
        by_cases c8 : 0 ≤ a1
        · rw [if_pos c8] at H
          have c8b0 : decide (0 ≤ a1) = true := decide_eq_true c8
          clear c8
          by_cases c9 : a1 < (l0_3.length : Int)
          · rw [if_pos c9] at H
            have c9b0 : decide (a1 < (l0_3.length : Int)) = true := decide_eq_true c9
            clear c9
            have H' := Aside0.mk H
            clear H
            have hcz10_0 : wc.cell? ⟨gb262, 0, none⟩ = some (.slice A0_0 l0_0.length c0_0) := (blk_cell BK262.out 0).trans rfl
            have hcz10_1 : wc.cell? ⟨gb262, 1, none⟩ = some (.slice A0_1 l0_1.length c0_1) := (blk_cell BK262.out 1).trans rfl
            have hcz10_2 : wc.cell? ⟨gb262, 2, none⟩ = some (.slice A0_2 l0_2.length c0_2) := (blk_cell BK262.out 2).trans rfl
            have hcz10_3 : wc.cell? ⟨gb262, 3, none⟩ = some (.slice A0_3 l0_3.length c0_3) := (blk_cell BK262.out 3).trans rfl
            have hfz10_0 := blk_frozen BK262.out 0
            have hfz10_1 := blk_frozen BK262.out 1
            have hfz10_2 := blk_frozen BK262.out 2
            have hfz10_3 := blk_frozen BK262.out 3
            have p263 : 0 ≤ (a1 : Int) := of_decide_eq_true (by first | (with_reducible assumption) | assumption)
            have q263 : a1 < (l0_3.length : Int) := of_decide_eq_true (by first | (with_reducible assumption) | assumption)
            obtain ⟨ad263, A263_1, c263_1, A263_3, c263_3, A263_4, c263_4, e263, hx263_0, hx263_1, hx263_2, hx263_3, hx263_4, hl263_1, hi263_1, hl263_3, hi263_3, hl263_4, hi263_4⟩ := at_T43 HR0_3.out a1 p263 q263
            cases e263
            replace hx263_0 := (HB.out.cell (World.block_lt_of_cell? w _ hx263_0)).trans hx263_0
            replace hx263_1 := (HB.out.cell (World.block_lt_of_cell? w _ hx263_1)).trans hx263_1
            replace hx263_2 := (HB.out.cell (World.block_lt_of_cell? w _ hx263_2)).trans hx263_2
            replace hx263_3 := (HB.out.cell (World.block_lt_of_cell? w _ hx263_3)).trans hx263_3
            replace hx263_4 := (HB.out.cell (World.block_lt_of_cell? w _ hx263_4)).trans hx263_4
            have HR263_1 := Aside0.mk hi263_1
            have HC263_1 := Aside0.mk hl263_1
            clear hi263_1 hl263_1
            have HR263_3 := Aside0.mk hi263_3
            have HC263_3 := Aside0.mk hl263_3
            clear hi263_3 hl263_3
            have HR263_4 := Aside0.mk hi263_4
            have HC263_4 := Aside0.mk hl263_4
            clear hi263_4 hl263_4
            replace p263 := eq_true p263
            replace q263 := eq_true q263
            go_wp2
            go_loopg [28] kj2 (fun kq v28 w' => ∃ (x28_2 : Int), v28 = .int .i64 x28_2 ∧ Aside0 (refs_Check.l0 kq a1 ((rd_T43 l0_3 a1).f4) ((rd_T43 l0_3 a1).f4) (((rd_T43 l0_3 a1).f4).length : Int) x28_2 l0_0 l0_1 l0_2 l0_3 = some (r1, r2)) ∧ Aside0 (kq ≤ kj2) ∧ Aside0 (w'.heap[gb262]? = some (.cells #[(.slice A0_0 l0_0.length c0_0), (.slice A0_1 l0_1.length c0_1), (.slice A0_2 l0_2.length c0_2), (.slice (some ad263) l0_3.length c0_3)] 27 (0, 0))) ∧ Aside0 (Below w.heap.size w w'))
            case atStart => exact ⟨(0), (by first | rfl | (simp; done) | (simp [*]; done)), H', ⟨Nat.le_refl _⟩, ⟨by (with_reducible repeat (first | refine blk_drewN ?_ _ | refine blk_drew ?_ | refine blk_alloc ?_ _)); exact BK262.out⟩, ⟨by repeat (first | (with_reducible first | exact HB.out | apply below_alloc | apply pw_below_drewN | apply below_drew1 | refine below_set ?_ GE262.out) | exact HB.out)⟩⟩
            case round =>
              clear H'
              try clear c1
              try clear c2
              try clear p2
              try clear q2
              try clear hx2
              try clear c5
              try clear c5b0
              try clear c7
              try clear c8
              try clear c8b0
              try clear c9
              try clear c9b0
              try clear hcz10_0
              try clear hcz10_1
              try clear hcz10_2
              try clear hcz10_3
              try clear hcz6_0
              try clear hcz6_1
              try clear hcz6_2
              try clear hcz6_3
              try clear hfz10_0
              try clear hfz10_1
              try clear hfz10_2
              try clear hfz10_3
              try clear hfz6_0
              try clear hfz6_1
              try clear hfz6_2
              try clear hfz6_3
              try clear hx263_0
              try clear hx263_1
              try clear hx263_2
              try clear hx263_3
              try clear hx263_4
              try clear p2
              try clear p263
              try clear q263
              obtain ⟨x28_2, rfl, HA, HK2, BK262, HB⟩ := hrel
              cases gk with
              | zero => exact absurd HA.out (by simp [refs_Check.l0])
              | succ k2 =>
                have H := HA.out
                clear HA
                simp only [refs_Check.l0] at H
                by_cases c11 : x28_2 < (((rd_T43 l0_3 a1).f4).length : Int)
                · rw [if_pos c11] at H
                  have c11b0 : decide (x28_2 < (((rd_T43 l0_3 a1).f4).length : Int)) = true := decide_eq_true c11
                  clear c11
                  by_cases c12 : 0 ≤ x28_2
                  · rw [if_pos c12] at H
                    have c12b0 : decide (0 ≤ x28_2) = true := decide_eq_true c12
                    clear c12
                    by_cases c13 : x28_2 < (((rd_T43 l0_3 a1).f4).length : Int)
                    · rw [if_pos c13] at H
                      have c13b0 : decide (x28_2 < (((rd_T43 l0_3 a1).f4).length : Int)) = true := decide_eq_true c13
                      clear c13
                      replace H := Option.bind_eq_some_iff.mp H
                      obtain ⟨t266, A140, H⟩ := H
                      replace H : (if t266 = 0 then ((refs_Jump.f ((rd_T43 l0_3 a1).f4) x28_2).bind fun t267 => (if t267 = 0 then (refs_Check.l0 k2 a1 ((rd_T43 l0_3 a1).f4) ((rd_T43 l0_3 a1).f4) (((rd_T43 l0_3 a1).f4).length : Int) (wrap64 (x28_2 + 1)) l0_0 l0_1 l0_2 l0_3) else (some (x28_2, t267)))) else (some (x28_2, t266))) = some (r1, r2) := H
                      have A14 := Aside0.mk A140
                      clear A140
                      by_cases c15 : t266 = 0
                      · rw [if_pos c15] at H
                        have c15b0 : (t266 == 0) = true := beq_iff_eq.mpr c15
                        have c15b1 : (t266 != 0) = false := bne_eq_false_iff_eq.mpr c15
                        clear c15
                        replace H := Option.bind_eq_some_iff.mp H
                        obtain ⟨t267, A160, H⟩ := H
                        replace H : (if t267 = 0 then (refs_Check.l0 k2 a1 ((rd_T43 l0_3 a1).f4) ((rd_T43 l0_3 a1).f4) (((rd_T43 l0_3 a1).f4).length : Int) (wrap64 (x28_2 + 1)) l0_0 l0_1 l0_2 l0_3) else (some (x28_2, t267))) = some (r1, r2) := H
                        have A16 := Aside0.mk A160
                        clear A160
                        by_cases c17 : t267 = 0
                        · rw [if_pos c17] at H
                          have c17b0 : (t267 == 0) = true := beq_iff_eq.mpr c17
                          have c17b1 : (t267 != 0) = false := bne_eq_false_iff_eq.mpr c17
                          clear c17
                          have H' := Aside0.mk H
                          clear H
                          have p264 : 0 ≤ (x28_2 : Int) := of_decide_eq_true (by first | (with_reducible assumption) | assumption)
                          have q264 : x28_2 < (((rd_T43 l0_3 a1).f4).length : Int) := of_decide_eq_true (by first | (with_reducible assumption) | assumption)
                          obtain ⟨ad264, e264, hx264_0, hx264_1, hx264_2⟩ := at_T29 HR263_4.out x28_2 p264 q264
                          cases e264
                          replace hx264_0 := (HB.out.cell (World.block_lt_of_cell? w _ hx264_0)).trans hx264_0
                          replace hx264_1 := (HB.out.cell (World.block_lt_of_cell? w _ hx264_1)).trans hx264_1
                          replace hx264_2 := (HB.out.cell (World.block_lt_of_cell? w _ hx264_2)).trans hx264_2
                          replace p264 := eq_true p264
                          replace q264 := eq_true q264
                          go_wp2_with (first | ((with_reducible refine gate_dst (N := 8) rfl ?_); (try (refine gate_guard (by rfl) ?_; dsimp only)); refine box_event ?hg (N := 8) ?hd (cs := #[.int .i64 0, .int .i64 0, .int .i64 0]) (t := 29) ?hr ?_; (case hd => rfl); (case hg => rfl); (case hr => first | (go_simp; done) | (go_simp; rfl)); intro gb265 hg w18 hbox hb; have n0_ := Aside0.mk (blk_below (g := gb262) (o := .cells #[.slice A0_0 l0_0.length c0_0, .slice A0_1 l0_1.length c0_1, .slice A0_2 l0_2.length c0_2, .slice (some ad263) l0_3.length c0_3] 27 (0, 0)) (by (with_reducible repeat (first | refine blk_drewN ?_ _ | refine blk_drew ?_ | refine blk_alloc ?_ _)); exact BK262.out) hb); have n1_ := Aside0.mk (below_step (by repeat (first | (with_reducible first | exact HB.out | apply below_alloc | apply pw_below_drewN | apply below_drew1 | refine below_set ?_ GE262.out) | exact HB.out)) hb); have n2_ := Aside0.mk (hbox); have n3_ := Aside0.mk ((by rw [hg]; exact (below_size (by repeat (first | (with_reducible first | exact HB.out | apply below_alloc | apply pw_below_drewN | apply below_drew1 | refine below_set ?_ GE262.out) | exact HB.out))) : w.heap.size ≤ gb265)); have n4_ := Aside0.mk ((by rw [hg]; exact (below_size (by repeat (first | (with_reducible first | exact HB.out | apply below_alloc | apply pw_below_drewN | apply below_drew1 | refine below_set ?_ GE262.out) | exact HB.out))) : w.heap.size ≤ gb265)); have n5_ := Aside0.mk ((by rw [hg]; exact Nat.ne_of_lt (blk_lt (g := gb262) (o := .cells #[.slice A0_0 l0_0.length c0_0, .slice A0_1 l0_1.length c0_1, .slice A0_2 l0_2.length c0_2, .slice (some ad263) l0_3.length c0_3] 27 (0, 0)) (by (with_reducible repeat (first | refine blk_drewN ?_ _ | refine blk_drew ?_ | refine blk_alloc ?_ _)); exact BK262.out)) : gb262 ≠ gb265)); have n6_ := Aside0.mk ((by rw [hg]; exact Nat.ne_of_gt (blk_lt (g := gb262) (o := .cells #[.slice A0_0 l0_0.length c0_0, .slice A0_1 l0_1.length c0_1, .slice A0_2 l0_2.length c0_2, .slice (some ad263) l0_3.length c0_3] 27 (0, 0)) (by (with_reducible repeat (first | refine blk_drewN ?_ _ | refine blk_drew ?_ | refine blk_alloc ?_ _)); exact BK262.out)) : gb265 ≠ gb262)); clear BK262; clear HB; have BK262 := n0_; have HB := n1_; have BK265 := n2_; have GW265 := n3_; have GE265 := n4_; have NB262_265 := n5_; have NB265_262 := n6_; clear n0_ n1_ n2_ n3_ n4_ n5_ n6_; clear hb hbox hg; have hnb19 := NB265_262.out; have hnc19 := NB262_265.out; have hcz20_0 : w18.cell? ⟨gb265, 0, none⟩ = some (.int .i64 0) := (blk_cell BK265.out 0).trans rfl; have hcz20_1 : w18.cell? ⟨gb265, 1, none⟩ = some (.int .i64 0) := (blk_cell BK265.out 1).trans rfl; have hcz20_2 : w18.cell? ⟨gb265, 2, none⟩ = some (.int .i64 0) := (blk_cell BK265.out 2).trans rfl; have hfz20_0 := blk_frozen BK265.out 0; have hfz20_1 := blk_frozen BK265.out 1; have hfz20_2 := blk_frozen BK265.out 2; have hcz21_0 : w18.cell? ⟨gb262, 0, none⟩ = some (.slice A0_0 l0_0.length c0_0) := (blk_cell BK262.out 0).trans rfl; have hcz21_1 : w18.cell? ⟨gb262, 1, none⟩ = some (.slice A0_1 l0_1.length c0_1) := (blk_cell BK262.out 1).trans rfl; have hcz21_2 : w18.cell? ⟨gb262, 2, none⟩ = some (.slice A0_2 l0_2.length c0_2) := (blk_cell BK262.out 2).trans rfl; have hcz21_3 : w18.cell? ⟨gb262, 3, none⟩ = some (.slice (some ad263) l0_3.length c0_3) := (blk_cell BK262.out 3).trans rfl; have hfz21_0 := blk_frozen BK262.out 0; have hfz21_1 := blk_frozen BK262.out 1; have hfz21_2 := blk_frozen BK262.out 2; have hfz21_3 := blk_frozen BK262.out 3) | ((with_reducible refine gate_callee (f := 10) rfl ?_); refine goesL_ (some 36) rfl rfl Tryd.func10 (by kernel_rfl) rfl #[.agg #[.slice A0_0 l0_0.length c0_0, .slice A0_1 l0_1.length c0_1, .slice A0_2 l0_2.length c0_2, .slice (some ad263) l0_3.length c0_3], .int .i64 a1, .agg #[.int .i64 ((rd_T29 ((rd_T43 l0_3 a1).f4) x28_2).f0), .int .i64 ((rd_T29 ((rd_T43 l0_3 a1).f4) x28_2).f1), .int .i64 ((rd_T29 ((rd_T43 l0_3 a1).f4) x28_2).f2)]] rfl (by (try simp only [List.map_toArray, List.map_cons, List.map_nil]); first | done | rfl | (simp only [List.length_drop, List.length_take]; rfl)) ?_; (with_reducible refine (refs_One.calls k2 _ _ l0_0 _ _ l0_1 _ _ l0_2 _ _ l0_3 a1 ((rd_T29 ((rd_T43 l0_3 a1).f4) x28_2).f0) ((rd_T29 ((rd_T43 l0_3 a1).f4) x28_2).f1) ((rd_T29 ((rd_T43 l0_3 a1).f4) x28_2).f2) t266 _ ?side1 ?side2 ?side3 ?side4 ?side5 ?side6 ?side7 ?side8 A14.out (LaidAll.below HL_.out (by repeat (first | (with_reducible first | exact HB.out | apply below_alloc | apply pw_below_drewN | apply below_drew1 | refine below_set ?_ GE262.out | refine below_set ?_ GE265.out) | exact HB.out)))).mono ?_); (case side1 => exact Kd.C_below HR0_0.out (by repeat (first | (with_reducible first | exact HB.out | apply below_alloc | apply pw_below_drewN | apply below_drew1 | refine below_set ?_ GE262.out | refine below_set ?_ GE265.out) | exact HB.out))); (case side2 => exact HC0_0.out); (case side3 => exact Kd.C_below HR0_1.out (by repeat (first | (with_reducible first | exact HB.out | apply below_alloc | apply pw_below_drewN | apply below_drew1 | refine below_set ?_ GE262.out | refine below_set ?_ GE265.out) | exact HB.out))); (case side4 => exact HC0_1.out); (case side5 => exact Kd.C_below HR0_2.out (by repeat (first | (with_reducible first | exact HB.out | apply below_alloc | apply pw_below_drewN | apply below_drew1 | refine below_set ?_ GE262.out | refine below_set ?_ GE265.out) | exact HB.out))); (case side6 => exact HC0_2.out); (case side7 => exact Kd.C_below HR0_3.out (by repeat (first | (with_reducible first | exact HB.out | apply below_alloc | apply pw_below_drewN | apply below_drew1 | refine below_set ?_ GE262.out | refine below_set ?_ GE265.out) | exact HB.out))); (case side8 => exact HC0_3.out); rintro e w22 ⟨rfl, hb⟩; refine ⟨_, rfl, ?_⟩; have n0_ := Aside0.mk (blk_below (g := gb262) (o := .cells #[.slice A0_0 l0_0.length c0_0, .slice A0_1 l0_1.length c0_1, .slice A0_2 l0_2.length c0_2, .slice (some ad263) l0_3.length c0_3] 27 (0, 0)) (by (with_reducible repeat (first | refine blk_drewN ?_ _ | refine blk_drew ?_ | refine blk_alloc ?_ _)); refine blk_far ?_ NB262_265.out _; (with_reducible repeat (first | refine blk_drewN ?_ _ | refine blk_drew ?_ | refine blk_alloc ?_ _)); refine blk_far ?_ NB262_265.out _; (with_reducible repeat (first | refine blk_drewN ?_ _ | refine blk_drew ?_ | refine blk_alloc ?_ _)); refine blk_far ?_ NB262_265.out _; (with_reducible repeat (first | refine blk_drewN ?_ _ | refine blk_drew ?_ | refine blk_alloc ?_ _)); exact BK262.out) hb); have n1_ := Aside0.mk (blk_below (g := gb265) (o := .cells #[.int .i64 ((rd_T29 ((rd_T43 l0_3 a1).f4) x28_2).f0), .int .i64 ((rd_T29 ((rd_T43 l0_3 a1).f4) x28_2).f1), .int .i64 ((rd_T29 ((rd_T43 l0_3 a1).f4) x28_2).f2)] 29 (0, 0)) (by (with_reducible repeat (first | refine blk_drewN ?_ _ | refine blk_drew ?_ | refine blk_alloc ?_ _)); refine blk_put (cs := #[.int .i64 ((rd_T29 ((rd_T43 l0_3 a1).f4) x28_2).f0), .int .i64 ((rd_T29 ((rd_T43 l0_3 a1).f4) x28_2).f1), .int .i64 0]) ?_ 2 _ rfl; (with_reducible repeat (first | refine blk_drewN ?_ _ | refine blk_drew ?_ | refine blk_alloc ?_ _)); refine blk_put (cs := #[.int .i64 ((rd_T29 ((rd_T43 l0_3 a1).f4) x28_2).f0), .int .i64 0, .int .i64 0]) ?_ 1 _ rfl; (with_reducible repeat (first | refine blk_drewN ?_ _ | refine blk_drew ?_ | refine blk_alloc ?_ _)); refine blk_put (cs := #[.int .i64 0, .int .i64 0, .int .i64 0]) ?_ 0 _ rfl; (with_reducible repeat (first | refine blk_drewN ?_ _ | refine blk_drew ?_ | refine blk_alloc ?_ _)); exact BK265.out) hb); have n2_ := Aside0.mk (below_step (by repeat (first | (with_reducible first | exact HB.out | apply below_alloc | apply pw_below_drewN | apply below_drew1 | refine below_set ?_ GE262.out | refine below_set ?_ GE265.out) | exact HB.out)) hb); clear BK262; clear BK265; clear HB; have BK262 := n0_; have BK265 := n1_; have HB := n2_; clear n0_ n1_ n2_; (try clear hb); (try clear hb2); (try clear hk); (try clear hi)) | ((with_reducible refine gate_callee (f := 12) rfl ?_); refine goesL_ (some 43) rfl rfl Tryd.func12 (by kernel_rfl) rfl #[.slice (some ad264) ((rd_T43 l0_3 a1).f4).length c263_4, .int .i64 x28_2] rfl (by (try simp only [List.map_toArray, List.map_cons, List.map_nil]); first | done | rfl | (simp only [List.length_drop, List.length_take]; rfl)) ?_; (with_reducible refine (refs_Jump.calls _ _ ((rd_T43 l0_3 a1).f4) x28_2 t267 _ ?side1 ?side2 A16.out).mono ?_); (case side1 => repeat (first | exact (Kd.C_below HR263_4.out HB.out) | (with_reducible refine Kd.C_alloc ?_ _) | (with_reducible refine Kd.C_drewN ?_ _) | (with_reducible refine Kd.C_drew ?_))); (case side2 => exact HC263_4.out); rintro e w23 ⟨rfl, hb⟩; refine ⟨_, rfl, ?_⟩; have n0_ := Aside0.mk (blk_below (g := gb262) (o := .cells #[.slice A0_0 l0_0.length c0_0, .slice A0_1 l0_1.length c0_1, .slice A0_2 l0_2.length c0_2, .slice (some ad263) l0_3.length c0_3] 27 (0, 0)) (by (with_reducible repeat (first | refine blk_drewN ?_ _ | refine blk_drew ?_ | refine blk_alloc ?_ _)); exact BK262.out) hb); have n1_ := Aside0.mk (blk_below (g := gb265) (o := .cells #[.int .i64 ((rd_T29 ((rd_T43 l0_3 a1).f4) x28_2).f0), .int .i64 ((rd_T29 ((rd_T43 l0_3 a1).f4) x28_2).f1), .int .i64 ((rd_T29 ((rd_T43 l0_3 a1).f4) x28_2).f2)] 29 (0, 0)) (by (with_reducible repeat (first | refine blk_drewN ?_ _ | refine blk_drew ?_ | refine blk_alloc ?_ _)); exact BK265.out) hb); have n2_ := Aside0.mk (below_step (by repeat (first | (with_reducible first | exact HB.out | apply below_alloc | apply pw_below_drewN | apply below_drew1 | refine below_set ?_ GE262.out | refine below_set ?_ GE265.out) | exact HB.out)) hb); clear BK262; clear BK265; clear HB; have BK262 := n0_; have BK265 := n1_; have HB := n2_; clear n0_ n1_ n2_; (try clear hb); (try clear hb2); (try clear hk); (try clear hi)))
                          go_roundg k2
                          case measure => have := HJ2.out; have := HK2.out; omega
                          case rel => exact ⟨(wrap64 (x28_2 + 1)), (by first | rfl | (simp; done) | (simp [*]; done)), H', ⟨by have := HJ2.out; have := HK2.out; omega⟩, ⟨by (with_reducible repeat (first | refine blk_drewN ?_ _ | refine blk_drew ?_ | refine blk_alloc ?_ _)); exact BK262.out⟩, ⟨by repeat (first | (with_reducible first | exact HB.out | apply below_alloc | apply pw_below_drewN | apply below_drew1 | refine below_set ?_ GE262.out | refine below_set ?_ GE265.out) | exact HB.out)⟩⟩
                        · rw [if_neg c17] at H
                          have c17b0 : (t267 == 0) = false := beq_eq_false_iff_ne.mpr c17
                          have c17b1 : (t267 != 0) = true := bne_iff_ne.mpr c17
                          simp only [Option.some.injEq, Prod.mk.injEq] at H
                          obtain ⟨rfl, rfl⟩ := H
                          have p264 : 0 ≤ (x28_2 : Int) := of_decide_eq_true (by first | (with_reducible assumption) | assumption)
                          have q264 : x28_2 < (((rd_T43 l0_3 a1).f4).length : Int) := of_decide_eq_true (by first | (with_reducible assumption) | assumption)
                          obtain ⟨ad264, e264, hx264_0, hx264_1, hx264_2⟩ := at_T29 HR263_4.out x28_2 p264 q264
                          cases e264
                          replace hx264_0 := (HB.out.cell (World.block_lt_of_cell? w _ hx264_0)).trans hx264_0
                          replace hx264_1 := (HB.out.cell (World.block_lt_of_cell? w _ hx264_1)).trans hx264_1
                          replace hx264_2 := (HB.out.cell (World.block_lt_of_cell? w _ hx264_2)).trans hx264_2
                          replace p264 := eq_true p264
                          replace q264 := eq_true q264
                          go_wp2_with (first | ((with_reducible refine gate_dst (N := 8) rfl ?_); (try (refine gate_guard (by rfl) ?_; dsimp only)); refine box_event ?hg (N := 8) ?hd (cs := #[.int .i64 0, .int .i64 0, .int .i64 0]) (t := 29) ?hr ?_; (case hd => rfl); (case hg => rfl); (case hr => first | (go_simp; done) | (go_simp; rfl)); intro gb265 hg w24 hbox hb; have n0_ := Aside0.mk (blk_below (g := gb262) (o := .cells #[.slice A0_0 l0_0.length c0_0, .slice A0_1 l0_1.length c0_1, .slice A0_2 l0_2.length c0_2, .slice (some ad263) l0_3.length c0_3] 27 (0, 0)) (by (with_reducible repeat (first | refine blk_drewN ?_ _ | refine blk_drew ?_ | refine blk_alloc ?_ _)); exact BK262.out) hb); have n1_ := Aside0.mk (below_step (by repeat (first | (with_reducible first | exact HB.out | apply below_alloc | apply pw_below_drewN | apply below_drew1 | refine below_set ?_ GE262.out) | exact HB.out)) hb); have n2_ := Aside0.mk (hbox); have n3_ := Aside0.mk ((by rw [hg]; exact (below_size (by repeat (first | (with_reducible first | exact HB.out | apply below_alloc | apply pw_below_drewN | apply below_drew1 | refine below_set ?_ GE262.out) | exact HB.out))) : w.heap.size ≤ gb265)); have n4_ := Aside0.mk ((by rw [hg]; exact (below_size (by repeat (first | (with_reducible first | exact HB.out | apply below_alloc | apply pw_below_drewN | apply below_drew1 | refine below_set ?_ GE262.out) | exact HB.out))) : w.heap.size ≤ gb265)); have n5_ := Aside0.mk ((by rw [hg]; exact Nat.ne_of_lt (blk_lt (g := gb262) (o := .cells #[.slice A0_0 l0_0.length c0_0, .slice A0_1 l0_1.length c0_1, .slice A0_2 l0_2.length c0_2, .slice (some ad263) l0_3.length c0_3] 27 (0, 0)) (by (with_reducible repeat (first | refine blk_drewN ?_ _ | refine blk_drew ?_ | refine blk_alloc ?_ _)); exact BK262.out)) : gb262 ≠ gb265)); have n6_ := Aside0.mk ((by rw [hg]; exact Nat.ne_of_gt (blk_lt (g := gb262) (o := .cells #[.slice A0_0 l0_0.length c0_0, .slice A0_1 l0_1.length c0_1, .slice A0_2 l0_2.length c0_2, .slice (some ad263) l0_3.length c0_3] 27 (0, 0)) (by (with_reducible repeat (first | refine blk_drewN ?_ _ | refine blk_drew ?_ | refine blk_alloc ?_ _)); exact BK262.out)) : gb265 ≠ gb262)); clear BK262; clear HB; have BK262 := n0_; have HB := n1_; have BK265 := n2_; have GW265 := n3_; have GE265 := n4_; have NB262_265 := n5_; have NB265_262 := n6_; clear n0_ n1_ n2_ n3_ n4_ n5_ n6_; clear hb hbox hg; have hnb25 := NB265_262.out; have hnc25 := NB262_265.out; have hcz26_0 : w24.cell? ⟨gb265, 0, none⟩ = some (.int .i64 0) := (blk_cell BK265.out 0).trans rfl; have hcz26_1 : w24.cell? ⟨gb265, 1, none⟩ = some (.int .i64 0) := (blk_cell BK265.out 1).trans rfl; have hcz26_2 : w24.cell? ⟨gb265, 2, none⟩ = some (.int .i64 0) := (blk_cell BK265.out 2).trans rfl; have hfz26_0 := blk_frozen BK265.out 0; have hfz26_1 := blk_frozen BK265.out 1; have hfz26_2 := blk_frozen BK265.out 2; have hcz27_0 : w24.cell? ⟨gb262, 0, none⟩ = some (.slice A0_0 l0_0.length c0_0) := (blk_cell BK262.out 0).trans rfl; have hcz27_1 : w24.cell? ⟨gb262, 1, none⟩ = some (.slice A0_1 l0_1.length c0_1) := (blk_cell BK262.out 1).trans rfl; have hcz27_2 : w24.cell? ⟨gb262, 2, none⟩ = some (.slice A0_2 l0_2.length c0_2) := (blk_cell BK262.out 2).trans rfl; have hcz27_3 : w24.cell? ⟨gb262, 3, none⟩ = some (.slice (some ad263) l0_3.length c0_3) := (blk_cell BK262.out 3).trans rfl; have hfz27_0 := blk_frozen BK262.out 0; have hfz27_1 := blk_frozen BK262.out 1; have hfz27_2 := blk_frozen BK262.out 2; have hfz27_3 := blk_frozen BK262.out 3) | ((with_reducible refine gate_callee (f := 10) rfl ?_); refine goesL_ (some 36) rfl rfl Tryd.func10 (by kernel_rfl) rfl #[.agg #[.slice A0_0 l0_0.length c0_0, .slice A0_1 l0_1.length c0_1, .slice A0_2 l0_2.length c0_2, .slice (some ad263) l0_3.length c0_3], .int .i64 a1, .agg #[.int .i64 ((rd_T29 ((rd_T43 l0_3 a1).f4) x28_2).f0), .int .i64 ((rd_T29 ((rd_T43 l0_3 a1).f4) x28_2).f1), .int .i64 ((rd_T29 ((rd_T43 l0_3 a1).f4) x28_2).f2)]] rfl (by (try simp only [List.map_toArray, List.map_cons, List.map_nil]); first | done | rfl | (simp only [List.length_drop, List.length_take]; rfl)) ?_; (with_reducible refine (refs_One.calls k2 _ _ l0_0 _ _ l0_1 _ _ l0_2 _ _ l0_3 a1 ((rd_T29 ((rd_T43 l0_3 a1).f4) x28_2).f0) ((rd_T29 ((rd_T43 l0_3 a1).f4) x28_2).f1) ((rd_T29 ((rd_T43 l0_3 a1).f4) x28_2).f2) t266 _ ?side1 ?side2 ?side3 ?side4 ?side5 ?side6 ?side7 ?side8 A14.out (LaidAll.below HL_.out (by repeat (first | (with_reducible first | exact HB.out | apply below_alloc | apply pw_below_drewN | apply below_drew1 | refine below_set ?_ GE262.out | refine below_set ?_ GE265.out) | exact HB.out)))).mono ?_); (case side1 => exact Kd.C_below HR0_0.out (by repeat (first | (with_reducible first | exact HB.out | apply below_alloc | apply pw_below_drewN | apply below_drew1 | refine below_set ?_ GE262.out | refine below_set ?_ GE265.out) | exact HB.out))); (case side2 => exact HC0_0.out); (case side3 => exact Kd.C_below HR0_1.out (by repeat (first | (with_reducible first | exact HB.out | apply below_alloc | apply pw_below_drewN | apply below_drew1 | refine below_set ?_ GE262.out | refine below_set ?_ GE265.out) | exact HB.out))); (case side4 => exact HC0_1.out); (case side5 => exact Kd.C_below HR0_2.out (by repeat (first | (with_reducible first | exact HB.out | apply below_alloc | apply pw_below_drewN | apply below_drew1 | refine below_set ?_ GE262.out | refine below_set ?_ GE265.out) | exact HB.out))); (case side6 => exact HC0_2.out); (case side7 => exact Kd.C_below HR0_3.out (by repeat (first | (with_reducible first | exact HB.out | apply below_alloc | apply pw_below_drewN | apply below_drew1 | refine below_set ?_ GE262.out | refine below_set ?_ GE265.out) | exact HB.out))); (case side8 => exact HC0_3.out); rintro e w28 ⟨rfl, hb⟩; refine ⟨_, rfl, ?_⟩; have n0_ := Aside0.mk (blk_below (g := gb262) (o := .cells #[.slice A0_0 l0_0.length c0_0, .slice A0_1 l0_1.length c0_1, .slice A0_2 l0_2.length c0_2, .slice (some ad263) l0_3.length c0_3] 27 (0, 0)) (by (with_reducible repeat (first | refine blk_drewN ?_ _ | refine blk_drew ?_ | refine blk_alloc ?_ _)); refine blk_far ?_ NB262_265.out _; (with_reducible repeat (first | refine blk_drewN ?_ _ | refine blk_drew ?_ | refine blk_alloc ?_ _)); refine blk_far ?_ NB262_265.out _; (with_reducible repeat (first | refine blk_drewN ?_ _ | refine blk_drew ?_ | refine blk_alloc ?_ _)); refine blk_far ?_ NB262_265.out _; (with_reducible repeat (first | refine blk_drewN ?_ _ | refine blk_drew ?_ | refine blk_alloc ?_ _)); exact BK262.out) hb); have n1_ := Aside0.mk (blk_below (g := gb265) (o := .cells #[.int .i64 ((rd_T29 ((rd_T43 l0_3 a1).f4) x28_2).f0), .int .i64 ((rd_T29 ((rd_T43 l0_3 a1).f4) x28_2).f1), .int .i64 ((rd_T29 ((rd_T43 l0_3 a1).f4) x28_2).f2)] 29 (0, 0)) (by (with_reducible repeat (first | refine blk_drewN ?_ _ | refine blk_drew ?_ | refine blk_alloc ?_ _)); refine blk_put (cs := #[.int .i64 ((rd_T29 ((rd_T43 l0_3 a1).f4) x28_2).f0), .int .i64 ((rd_T29 ((rd_T43 l0_3 a1).f4) x28_2).f1), .int .i64 0]) ?_ 2 _ rfl; (with_reducible repeat (first | refine blk_drewN ?_ _ | refine blk_drew ?_ | refine blk_alloc ?_ _)); refine blk_put (cs := #[.int .i64 ((rd_T29 ((rd_T43 l0_3 a1).f4) x28_2).f0), .int .i64 0, .int .i64 0]) ?_ 1 _ rfl; (with_reducible repeat (first | refine blk_drewN ?_ _ | refine blk_drew ?_ | refine blk_alloc ?_ _)); refine blk_put (cs := #[.int .i64 0, .int .i64 0, .int .i64 0]) ?_ 0 _ rfl; (with_reducible repeat (first | refine blk_drewN ?_ _ | refine blk_drew ?_ | refine blk_alloc ?_ _)); exact BK265.out) hb); have n2_ := Aside0.mk (below_step (by repeat (first | (with_reducible first | exact HB.out | apply below_alloc | apply pw_below_drewN | apply below_drew1 | refine below_set ?_ GE262.out | refine below_set ?_ GE265.out) | exact HB.out)) hb); clear BK262; clear BK265; clear HB; have BK262 := n0_; have BK265 := n1_; have HB := n2_; clear n0_ n1_ n2_; (try clear hb); (try clear hb2); (try clear hk); (try clear hi)) | ((with_reducible refine gate_callee (f := 12) rfl ?_); refine goesL_ (some 43) rfl rfl Tryd.func12 (by kernel_rfl) rfl #[.slice (some ad264) ((rd_T43 l0_3 a1).f4).length c263_4, .int .i64 x28_2] rfl (by (try simp only [List.map_toArray, List.map_cons, List.map_nil]); first | done | rfl | (simp only [List.length_drop, List.length_take]; rfl)) ?_; (with_reducible refine (refs_Jump.calls _ _ ((rd_T43 l0_3 a1).f4) x28_2 t267 _ ?side1 ?side2 A16.out).mono ?_); (case side1 => repeat (first | exact (Kd.C_below HR263_4.out HB.out) | (with_reducible refine Kd.C_alloc ?_ _) | (with_reducible refine Kd.C_drewN ?_ _) | (with_reducible refine Kd.C_drew ?_))); (case side2 => exact HC263_4.out); rintro e w29 ⟨rfl, hb⟩; refine ⟨_, rfl, ?_⟩; have n0_ := Aside0.mk (blk_below (g := gb262) (o := .cells #[.slice A0_0 l0_0.length c0_0, .slice A0_1 l0_1.length c0_1, .slice A0_2 l0_2.length c0_2, .slice (some ad263) l0_3.length c0_3] 27 (0, 0)) (by (with_reducible repeat (first | refine blk_drewN ?_ _ | refine blk_drew ?_ | refine blk_alloc ?_ _)); exact BK262.out) hb); have n1_ := Aside0.mk (blk_below (g := gb265) (o := .cells #[.int .i64 ((rd_T29 ((rd_T43 l0_3 a1).f4) x28_2).f0), .int .i64 ((rd_T29 ((rd_T43 l0_3 a1).f4) x28_2).f1), .int .i64 ((rd_T29 ((rd_T43 l0_3 a1).f4) x28_2).f2)] 29 (0, 0)) (by (with_reducible repeat (first | refine blk_drewN ?_ _ | refine blk_drew ?_ | refine blk_alloc ?_ _)); exact BK265.out) hb); have n2_ := Aside0.mk (below_step (by repeat (first | (with_reducible first | exact HB.out | apply below_alloc | apply pw_below_drewN | apply below_drew1 | refine below_set ?_ GE262.out | refine below_set ?_ GE265.out) | exact HB.out)) hb); clear BK262; clear BK265; clear HB; have BK262 := n0_; have BK265 := n1_; have HB := n2_; clear n0_ n1_ n2_; (try clear hb); (try clear hb2); (try clear hk); (try clear hi)))
                          go_ret2
                          exact ⟨by first | rfl | (simp [errW_none, errW_some] <;> rfl) | (simp [*, errW_none, errW_some] <;> rfl), by repeat (first | (with_reducible first | exact HB.out | apply below_alloc | apply pw_below_drewN | apply below_drew1 | refine below_set ?_ GE262.out | refine below_set ?_ GE265.out) | exact HB.out)⟩
                      · rw [if_neg c15] at H
                        have c15b0 : (t266 == 0) = false := beq_eq_false_iff_ne.mpr c15
                        have c15b1 : (t266 != 0) = true := bne_iff_ne.mpr c15
                        simp only [Option.some.injEq, Prod.mk.injEq] at H
                        obtain ⟨rfl, rfl⟩ := H
                        have p264 : 0 ≤ (x28_2 : Int) := of_decide_eq_true (by first | (with_reducible assumption) | assumption)
                        have q264 : x28_2 < (((rd_T43 l0_3 a1).f4).length : Int) := of_decide_eq_true (by first | (with_reducible assumption) | assumption)
                        obtain ⟨ad264, e264, hx264_0, hx264_1, hx264_2⟩ := at_T29 HR263_4.out x28_2 p264 q264
                        cases e264
                        replace hx264_0 := (HB.out.cell (World.block_lt_of_cell? w _ hx264_0)).trans hx264_0
                        replace hx264_1 := (HB.out.cell (World.block_lt_of_cell? w _ hx264_1)).trans hx264_1
                        replace hx264_2 := (HB.out.cell (World.block_lt_of_cell? w _ hx264_2)).trans hx264_2
                        replace p264 := eq_true p264
                        replace q264 := eq_true q264
                        go_wp2_with (first | ((with_reducible refine gate_dst (N := 8) rfl ?_); (try (refine gate_guard (by rfl) ?_; dsimp only)); refine box_event ?hg (N := 8) ?hd (cs := #[.int .i64 0, .int .i64 0, .int .i64 0]) (t := 29) ?hr ?_; (case hd => rfl); (case hg => rfl); (case hr => first | (go_simp; done) | (go_simp; rfl)); intro gb265 hg w30 hbox hb; have n0_ := Aside0.mk (blk_below (g := gb262) (o := .cells #[.slice A0_0 l0_0.length c0_0, .slice A0_1 l0_1.length c0_1, .slice A0_2 l0_2.length c0_2, .slice (some ad263) l0_3.length c0_3] 27 (0, 0)) (by (with_reducible repeat (first | refine blk_drewN ?_ _ | refine blk_drew ?_ | refine blk_alloc ?_ _)); exact BK262.out) hb); have n1_ := Aside0.mk (below_step (by repeat (first | (with_reducible first | exact HB.out | apply below_alloc | apply pw_below_drewN | apply below_drew1 | refine below_set ?_ GE262.out) | exact HB.out)) hb); have n2_ := Aside0.mk (hbox); have n3_ := Aside0.mk ((by rw [hg]; exact (below_size (by repeat (first | (with_reducible first | exact HB.out | apply below_alloc | apply pw_below_drewN | apply below_drew1 | refine below_set ?_ GE262.out) | exact HB.out))) : w.heap.size ≤ gb265)); have n4_ := Aside0.mk ((by rw [hg]; exact (below_size (by repeat (first | (with_reducible first | exact HB.out | apply below_alloc | apply pw_below_drewN | apply below_drew1 | refine below_set ?_ GE262.out) | exact HB.out))) : w.heap.size ≤ gb265)); have n5_ := Aside0.mk ((by rw [hg]; exact Nat.ne_of_lt (blk_lt (g := gb262) (o := .cells #[.slice A0_0 l0_0.length c0_0, .slice A0_1 l0_1.length c0_1, .slice A0_2 l0_2.length c0_2, .slice (some ad263) l0_3.length c0_3] 27 (0, 0)) (by (with_reducible repeat (first | refine blk_drewN ?_ _ | refine blk_drew ?_ | refine blk_alloc ?_ _)); exact BK262.out)) : gb262 ≠ gb265)); have n6_ := Aside0.mk ((by rw [hg]; exact Nat.ne_of_gt (blk_lt (g := gb262) (o := .cells #[.slice A0_0 l0_0.length c0_0, .slice A0_1 l0_1.length c0_1, .slice A0_2 l0_2.length c0_2, .slice (some ad263) l0_3.length c0_3] 27 (0, 0)) (by (with_reducible repeat (first | refine blk_drewN ?_ _ | refine blk_drew ?_ | refine blk_alloc ?_ _)); exact BK262.out)) : gb265 ≠ gb262)); clear BK262; clear HB; have BK262 := n0_; have HB := n1_; have BK265 := n2_; have GW265 := n3_; have GE265 := n4_; have NB262_265 := n5_; have NB265_262 := n6_; clear n0_ n1_ n2_ n3_ n4_ n5_ n6_; clear hb hbox hg; have hnb31 := NB265_262.out; have hnc31 := NB262_265.out; have hcz32_0 : w30.cell? ⟨gb265, 0, none⟩ = some (.int .i64 0) := (blk_cell BK265.out 0).trans rfl; have hcz32_1 : w30.cell? ⟨gb265, 1, none⟩ = some (.int .i64 0) := (blk_cell BK265.out 1).trans rfl; have hcz32_2 : w30.cell? ⟨gb265, 2, none⟩ = some (.int .i64 0) := (blk_cell BK265.out 2).trans rfl; have hfz32_0 := blk_frozen BK265.out 0; have hfz32_1 := blk_frozen BK265.out 1; have hfz32_2 := blk_frozen BK265.out 2; have hcz33_0 : w30.cell? ⟨gb262, 0, none⟩ = some (.slice A0_0 l0_0.length c0_0) := (blk_cell BK262.out 0).trans rfl; have hcz33_1 : w30.cell? ⟨gb262, 1, none⟩ = some (.slice A0_1 l0_1.length c0_1) := (blk_cell BK262.out 1).trans rfl; have hcz33_2 : w30.cell? ⟨gb262, 2, none⟩ = some (.slice A0_2 l0_2.length c0_2) := (blk_cell BK262.out 2).trans rfl; have hcz33_3 : w30.cell? ⟨gb262, 3, none⟩ = some (.slice (some ad263) l0_3.length c0_3) := (blk_cell BK262.out 3).trans rfl; have hfz33_0 := blk_frozen BK262.out 0; have hfz33_1 := blk_frozen BK262.out 1; have hfz33_2 := blk_frozen BK262.out 2; have hfz33_3 := blk_frozen BK262.out 3) | ((with_reducible refine gate_callee (f := 10) rfl ?_); refine goesL_ (some 36) rfl rfl Tryd.func10 (by kernel_rfl) rfl #[.agg #[.slice A0_0 l0_0.length c0_0, .slice A0_1 l0_1.length c0_1, .slice A0_2 l0_2.length c0_2, .slice (some ad263) l0_3.length c0_3], .int .i64 a1, .agg #[.int .i64 ((rd_T29 ((rd_T43 l0_3 a1).f4) x28_2).f0), .int .i64 ((rd_T29 ((rd_T43 l0_3 a1).f4) x28_2).f1), .int .i64 ((rd_T29 ((rd_T43 l0_3 a1).f4) x28_2).f2)]] rfl (by (try simp only [List.map_toArray, List.map_cons, List.map_nil]); first | done | rfl | (simp only [List.length_drop, List.length_take]; rfl)) ?_; (with_reducible refine (refs_One.calls k2 _ _ l0_0 _ _ l0_1 _ _ l0_2 _ _ l0_3 a1 ((rd_T29 ((rd_T43 l0_3 a1).f4) x28_2).f0) ((rd_T29 ((rd_T43 l0_3 a1).f4) x28_2).f1) ((rd_T29 ((rd_T43 l0_3 a1).f4) x28_2).f2) t266 _ ?side1 ?side2 ?side3 ?side4 ?side5 ?side6 ?side7 ?side8 A14.out (LaidAll.below HL_.out (by repeat (first | (with_reducible first | exact HB.out | apply below_alloc | apply pw_below_drewN | apply below_drew1 | refine below_set ?_ GE262.out | refine below_set ?_ GE265.out) | exact HB.out)))).mono ?_); (case side1 => exact Kd.C_below HR0_0.out (by repeat (first | (with_reducible first | exact HB.out | apply below_alloc | apply pw_below_drewN | apply below_drew1 | refine below_set ?_ GE262.out | refine below_set ?_ GE265.out) | exact HB.out))); (case side2 => exact HC0_0.out); (case side3 => exact Kd.C_below HR0_1.out (by repeat (first | (with_reducible first | exact HB.out | apply below_alloc | apply pw_below_drewN | apply below_drew1 | refine below_set ?_ GE262.out | refine below_set ?_ GE265.out) | exact HB.out))); (case side4 => exact HC0_1.out); (case side5 => exact Kd.C_below HR0_2.out (by repeat (first | (with_reducible first | exact HB.out | apply below_alloc | apply pw_below_drewN | apply below_drew1 | refine below_set ?_ GE262.out | refine below_set ?_ GE265.out) | exact HB.out))); (case side6 => exact HC0_2.out); (case side7 => exact Kd.C_below HR0_3.out (by repeat (first | (with_reducible first | exact HB.out | apply below_alloc | apply pw_below_drewN | apply below_drew1 | refine below_set ?_ GE262.out | refine below_set ?_ GE265.out) | exact HB.out))); (case side8 => exact HC0_3.out); rintro e w34 ⟨rfl, hb⟩; refine ⟨_, rfl, ?_⟩; have n0_ := Aside0.mk (blk_below (g := gb262) (o := .cells #[.slice A0_0 l0_0.length c0_0, .slice A0_1 l0_1.length c0_1, .slice A0_2 l0_2.length c0_2, .slice (some ad263) l0_3.length c0_3] 27 (0, 0)) (by (with_reducible repeat (first | refine blk_drewN ?_ _ | refine blk_drew ?_ | refine blk_alloc ?_ _)); refine blk_far ?_ NB262_265.out _; (with_reducible repeat (first | refine blk_drewN ?_ _ | refine blk_drew ?_ | refine blk_alloc ?_ _)); refine blk_far ?_ NB262_265.out _; (with_reducible repeat (first | refine blk_drewN ?_ _ | refine blk_drew ?_ | refine blk_alloc ?_ _)); refine blk_far ?_ NB262_265.out _; (with_reducible repeat (first | refine blk_drewN ?_ _ | refine blk_drew ?_ | refine blk_alloc ?_ _)); exact BK262.out) hb); have n1_ := Aside0.mk (blk_below (g := gb265) (o := .cells #[.int .i64 ((rd_T29 ((rd_T43 l0_3 a1).f4) x28_2).f0), .int .i64 ((rd_T29 ((rd_T43 l0_3 a1).f4) x28_2).f1), .int .i64 ((rd_T29 ((rd_T43 l0_3 a1).f4) x28_2).f2)] 29 (0, 0)) (by (with_reducible repeat (first | refine blk_drewN ?_ _ | refine blk_drew ?_ | refine blk_alloc ?_ _)); refine blk_put (cs := #[.int .i64 ((rd_T29 ((rd_T43 l0_3 a1).f4) x28_2).f0), .int .i64 ((rd_T29 ((rd_T43 l0_3 a1).f4) x28_2).f1), .int .i64 0]) ?_ 2 _ rfl; (with_reducible repeat (first | refine blk_drewN ?_ _ | refine blk_drew ?_ | refine blk_alloc ?_ _)); refine blk_put (cs := #[.int .i64 ((rd_T29 ((rd_T43 l0_3 a1).f4) x28_2).f0), .int .i64 0, .int .i64 0]) ?_ 1 _ rfl; (with_reducible repeat (first | refine blk_drewN ?_ _ | refine blk_drew ?_ | refine blk_alloc ?_ _)); refine blk_put (cs := #[.int .i64 0, .int .i64 0, .int .i64 0]) ?_ 0 _ rfl; (with_reducible repeat (first | refine blk_drewN ?_ _ | refine blk_drew ?_ | refine blk_alloc ?_ _)); exact BK265.out) hb); have n2_ := Aside0.mk (below_step (by repeat (first | (with_reducible first | exact HB.out | apply below_alloc | apply pw_below_drewN | apply below_drew1 | refine below_set ?_ GE262.out | refine below_set ?_ GE265.out) | exact HB.out)) hb); clear BK262; clear BK265; clear HB; have BK262 := n0_; have BK265 := n1_; have HB := n2_; clear n0_ n1_ n2_; (try clear hb); (try clear hb2); (try clear hk); (try clear hi)))
                        go_ret2
                        exact ⟨by first | rfl | (simp [errW_none, errW_some] <;> rfl) | (simp [*, errW_none, errW_some] <;> rfl), by repeat (first | (with_reducible first | exact HB.out | apply below_alloc | apply pw_below_drewN | apply below_drew1 | refine below_set ?_ GE262.out | refine below_set ?_ GE265.out) | exact HB.out)⟩
                    · rw [if_neg c13] at H
                      exact absurd H (by simp)
                  · rw [if_neg c12] at H
                    exact absurd H (by simp)
                · rw [if_neg c11] at H
                  have c11b0 : decide (x28_2 < (((rd_T43 l0_3 a1).f4).length : Int)) = false := decide_eq_false c11
                  clear c11
                  simp only [Option.some.injEq, Prod.mk.injEq] at H
                  obtain ⟨rfl, rfl⟩ := H
                  go_wp2
                  go_ret2
                  exact ⟨by first | rfl | (simp [errW_none, errW_some] <;> rfl) | (simp [*, errW_none, errW_some] <;> rfl), by repeat (first | (with_reducible first | exact HB.out | apply below_alloc | apply pw_below_drewN | apply below_drew1 | refine below_set ?_ GE262.out) | exact HB.out)⟩
          · rw [if_neg c9] at H
            exact absurd H (by simp)
        · rw [if_neg c8] at H
          exact absurd H (by simp)

end Go.Proofs.YtmcgllcoadbnpaaDoor.PRf
end

section
/- Whether what an instruction has is there, plainly: the program's and the document's tell the same. -/
namespace Go.Proofs.YtmcgllcoadbnpaaDoor.RPure
open Go.RowKit Go.Proofs.YtmcgllcoadbnpaaDoor.PRf Go.Proofs.YtmcgllcoadbnpaaDoor.Given Go.Proofs.YtmcgllcoadbnpaaDoorW.PrintWords Go.Proofs.YtmcgllcoadbnpaaDoorW.PrintLast Go.Proofs.YtmcgllcoadbnpaaDoorW.PrintMore
set_option linter.unusedVariables false
set_option linter.unusedSimpArgs false
theorem w64 (x : Int) (h0 : -9223372036854775808 ≤ x) (h1 : x < 9223372036854775808) : wrap64 x = x := by unfold wrap64; omega
def mayF (n w : Int) : Bool := if w = 0 then n == 0 else decide (0 ≤ n) && decide (n ≤ 65535)
theorem may_is (n w : Int) : op_may.f n w = some (mayF n w) := by
  unfold op_may.f mayF
  by_cases h : w = 0
  · rw [if_pos h, if_pos h]
  · rw [if_neg h, if_neg h]
    by_cases h0 : 0 ≤ n
    · rw [if_pos h0]; simp [h0]
    · rw [if_neg h0]; simp [h0]
theorem is_is (x : Int) : op_Is.f x = some (isOp x) := by
  unfold op_Is.f isOp
  by_cases h0 : 0 ≤ x
  · rw [if_pos h0]; simp [h0]
  · rw [if_neg h0]; simp [h0]
def rightF (x y z : Int) : Bool := isOp x && mayF y (shapeA x) && mayF z (shapeB x)
theorem right_is (x y z : Int) : op_Right.f x y z = some (rightF x y z) := by
  unfold op_Right.f op_Shape.f rightF
  simp only [Option.bind_some, is_is, may_is]
  cases isOp x <;> cases mayF y (shapeA x) <;> simp
theorem rmay_is (n w : Int) : ladderbackref12_may.f n w = some (mayF n w) := by
  unfold ladderbackref12_may.f mayF
  by_cases hn : n = 0
  · rw [if_pos hn]; subst hn; by_cases h : w = 0 <;> simp [h]
  · rw [if_neg hn]
    by_cases h : w = 0
    · rw [if_pos h, if_pos h]; simp [hn]
    · rw [if_neg h, if_neg h]
      by_cases h0 : n > 0
      · rw [if_pos h0]
        congr 1
        rw [Bool.eq_iff_iff]
        simp
        omega
      · rw [if_neg h0]
        congr 1
        rw [Bool.eq_iff_iff]
        simp
        omega
theorem shapes : ∀ n : Fin 38, ladderbackref12_Shape.f 3 (n.val : Int) = some (shapeA n.val, shapeB n.val) := by decide +kernel
theorem shape_more (x : Int) : ∀ d, ladderbackref12_Shape.f 3 x = some (shapeA x, shapeB x) → ladderbackref12_Shape.f (3 + d) x = some (shapeA x, shapeB x) := by
  intro d h
  induction d with
  | zero => exact h
  | succ d ih => exact ladderbackref12_Shape.mono x (3 + d) _ ih
theorem rshape (x : Int) (k : Nat) (hk : 3 ≤ k) : ladderbackref12_Shape.f k x = some (shapeA x, shapeB x) := by
  rw [show k = 3 + (k - 3) by omega]
  refine shape_more x _ ?_
  by_cases h : isOp x = true
  · unfold isOp at h
    simp only [Bool.and_eq_true, decide_eq_true_eq] at h
    obtain ⟨n, rfl⟩ := Int.eq_ofNat_of_zero_le h.1
    exact shapes ⟨n, by omega⟩
  · unfold shapeA shapeB
    rw [if_neg h, if_neg h]
    unfold isOp at h
    simp only [Bool.and_eq_true, decide_eq_true_eq, not_and] at h
    unfold ladderbackref12_Shape.f
    by_cases h0 : x < 0
    · rw [if_pos h0]; rfl
    · rw [if_neg h0, decide_eq_true (by omega)]; rfl
theorem rright (x y z : Int) (k : Nat) (hk : 3 ≤ k) : ladderbackref12_Right.f k x y z = some (rightF x y z) := by
  unfold ladderbackref12_Right.f rightF
  rw [rshape x k hk]
  simp only [Option.bind_some, rmay_is]
  unfold isOp
  by_cases h0 : x ≥ 0
  · rw [if_pos h0]
    by_cases h1 : x ≤ 37
    · rw [if_pos h1, decide_eq_true (show 0 ≤ x from h0), decide_eq_true (show x < 38 by omega)]
      cases mayF y (shapeA x) <;> simp
    · rw [if_neg h1, decide_eq_false (show ¬ x < 38 by omega)]; simp
  · rw [if_neg h0, decide_eq_false (show ¬ 0 ≤ x from h0)]; simp
-- the types
theorem goes_tab : ∀ a : Fin 18, ∀ b : Fin 6, ladderbackref07_Goes.f 8 ((a.val : Int) + 8) ((b.val : Int) + 1) = some (goesOf ((a.val : Int) + 8) ((b.val : Int) + 1)) := by decide +kernel
theorem goes_more (x y : Int) (v : Bool) : ∀ d, ladderbackref07_Goes.f 8 x y = some v → ladderbackref07_Goes.f (8 + d) x y = some v := by
  intro d h
  induction d with
  | zero => exact h
  | succ d ih => exact ladderbackref07_Goes.mono x y (8 + d) _ ih
theorem rgoes (x y : Int) (k : Nat) (hk : 8 ≤ k) (h1 : 8 ≤ x) (h2 : x ≤ 25) : ladderbackref07_Goes.f k x y = some (goesOf x y) := by
  rw [show k = 8 + (k - 8) by omega]
  refine goes_more x y _ _ ?_
  by_cases h3 : 1 ≤ y ∧ y ≤ 6
  · have := goes_tab ⟨(x - 8).toNat, by omega⟩ ⟨(y - 1).toNat, by omega⟩
    simp only [show (((x - 8).toNat : Nat) : Int) + 8 = x by omega, show (((y - 1).toNat : Nat) : Int) + 1 = y by omega] at this
    exact this
  · have hg : goesOf x y = false := by unfold goesOf; rw [decide_eq_false (by omega)]; rfl
    rw [hg]
    unfold ladderbackref07_Goes.f
    by_cases h4 : y < 1
    · rw [if_pos h4, ladderbackref07_Goes.j0, if_pos rfl]
    · rw [if_neg h4, decide_eq_true (by omega), ladderbackref07_Goes.j0, if_pos rfl]
/-- Are an operation's types right? -/
def typedF (x y z : Int) : Bool := if x = 26 then decide (1 ≤ y ∧ y ≤ 6 ∧ 1 ≤ z ∧ z ≤ 6) else if shapeA x = 4 then goesOf x y else true
theorem kright_is (t : Int) : kind_Right.f t = some (decide (1 ≤ t ∧ t ≤ 6)) := by
  unfold kind_Right.f
  by_cases h : t ≥ 1
  · rw [if_pos h]; congr 1; rw [Bool.eq_iff_iff]; simp; omega
  · rw [if_neg h]; congr 1; rw [Bool.eq_iff_iff]; simp; omega
theorem typed_is (x y z : Int) (hx : -9223372036854775808 ≤ x ∧ x ≤ 9223372036854775807) : refs_typed.f x y z = some (typedF x y z) := by
  unfold refs_typed.f typedF op_Shape.f alu_Goes.f
  by_cases h : x = 26
  · rw [if_pos h, if_pos h, kright_is, kright_is, Option.bind_some, Option.bind_some]
    by_cases h1 : 1 ≤ y ∧ y ≤ 6
    · rw [if_pos (decide_eq_true h1)]; congr 1; rw [Bool.eq_iff_iff]; simp; omega
    · rw [if_neg (by simpa using h1)]; congr 1; rw [Bool.eq_iff_iff]; simp; omega
  · rw [if_neg h, if_neg h, Option.bind_some]
    simp only
    by_cases h4 : shapeA x = 4
    · rw [if_pos h4, if_pos h4, if_pos hx]; rfl
    · rw [if_neg h4, if_neg h4]
-- slots
def slotsF (P : List Int) (R : Int) (L : List Int) : List Int := P ++ (if R = 0 then [] else [R]) ++ L
theorem slots_is (n : ByteArray) (P : List Int) (R : Int) (L : List Int) (C : List S29) (hP : P.length ≤ 10000) (hL : L.length ≤ 10000) : unit_Slots.f n P R L C = some (slotsF P R L) := by
  unfold unit_Slots.f slotsF
  rw [Option.bind_some, if_pos (by simp only [List.length_nil]; omega), Option.bind_some, List.nil_append]
  by_cases h : R = 0
  · rw [if_pos h, if_pos (by omega), if_pos h]; simp
  · rw [if_neg h, if_pos (by omega), Option.bind_some, if_pos (by simp only [List.length_append, List.length_cons, List.length_nil]; omega), if_neg h]
theorem rd_drop (L : List Int) (i : Nat) (h : i < L.length) : L.drop i = rd L (i : Int) :: L.drop (i + 1) := by
  rw [List.drop_eq_getElem_cons h]
  unfold rd
  rw [Int.toNat_natCast, List.getD_eq_getElem?_getD, List.getElem?_eq_getElem h]; rfl
theorem rslots_l0 (n : ByteArray) (P : List Int) (R : Int) (L : List Int) (C : List S29) (hL : L.length ≤ 10000) : ∀ (d i k : Nat) (x : List Int), i + d = L.length → d < k → x.length + d ≤ 1000000 →
    ladderbackref15_Slots.l0 k x (i : Int) n P R L C = some (x ++ L.drop i) := by
  intro d
  induction d with
  | zero =>
    intro i k x h1 h2 h3
    obtain ⟨k, rfl⟩ : ∃ m, k = m + 1 := ⟨k - 1, by omega⟩
    unfold ladderbackref15_Slots.l0
    rw [if_neg (by omega), List.drop_eq_nil_of_le (by omega), List.append_nil]
  | succ d ih =>
    intro i k x h1 h2 h3
    obtain ⟨k, rfl⟩ : ∃ m, k = m + 1 := ⟨k - 1, by omega⟩
    unfold ladderbackref15_Slots.l0
    rw [if_pos (by omega), if_pos (by omega), if_pos (by omega), rd_drop L i (by omega), w64 _ (by omega) (by omega)]
    have := ih (i + 1) k (x ++ [rd L (i : Int)]) (by omega) (by omega) (by simp only [List.length_append, List.length_cons, List.length_nil]; omega)
    rw [show ((i + 1 : Nat) : Int) = (i : Int) + 1 by omega] at this
    rw [this, List.append_assoc]
    rfl
theorem rslots_is (n : ByteArray) (P : List Int) (R : Int) (L : List Int) (C : List S29) (hP : P.length ≤ 10000) (hL : L.length ≤ 10000) (k : Nat) (hk : L.length + 1 < k) : ladderbackref15_Slots.f k n P R L C = some (slotsF P R L) := by
  obtain ⟨k, rfl⟩ : ∃ m, k = m + 1 := ⟨k - 1, by omega⟩
  unfold ladderbackref15_Slots.f slotsF
  rw [Option.bind_some, if_pos (by simp only [List.length_nil]; omega), Option.bind_some, List.nil_append]
  by_cases h : R = 0
  · rw [if_pos h, if_pos h, ladderbackref15_Slots.j0]
    have := rslots_l0 n P R L C hL L.length 0 k P (by omega) (by omega) (by omega)
    simpa using this
  · rw [if_neg h, if_neg h, if_pos (by omega), ladderbackref15_Slots.j0]
    have := rslots_l0 n P R L C hL L.length 0 k (P ++ [R]) (by omega) (by omega) (by simp; omega)
    simpa using this
theorem rfields (t : Int) (k : Nat) (hk : 1 ≤ k) : ∃ l T, ladderbackref11_Fields.f k t = some (l, T, inputsOf t) ∧ (l.length : Int) = fieldsOf t := by
  obtain ⟨k, rfl⟩ : ∃ m, k = m + 1 := ⟨k - 1, by omega⟩
  rcases kinds t with h | h
  · rcases h with rfl | rfl | rfl | rfl | rfl | rfl | rfl | rfl <;> exact ⟨_, _, rfl, rfl⟩
  · have h1 : inputsOf t = 0 := by unfold inputsOf; rw [if_neg (by omega), if_neg (by omega), if_neg (by omega), if_neg (by omega)]
    have h2 : fieldsOf t = 0 := by unfold fieldsOf; rw [if_neg (by omega), if_neg (by omega), if_neg (by omega), if_neg (by omega)]
    rw [h1, h2]
    refine ⟨[], [], ?_, rfl⟩
    unfold ladderbackref11_Fields.f
    by_cases h3 : t ≥ 1
    · rw [if_pos h3, decide_eq_false (by omega), ladderbackref11_Fields.j0, if_neg (by decide), if_neg (by omega), if_neg (by omega), if_neg (by omega), if_neg (by omega), if_neg (by omega)]
    · rw [if_neg h3, ladderbackref11_Fields.j0, if_neg (by decide), if_neg (by omega), if_neg (by omega), if_neg (by omega), if_neg (by omega), if_neg (by omega)]
end Go.Proofs.YtmcgllcoadbnpaaDoor.RPure
end

section
/- One instruction, and the checks over a unit, plainly: the program's and the document's tell the same. -/
namespace Go.Proofs.YtmcgllcoadbnpaaDoor.RPure
open Go.RowKit Go.Proofs.YtmcgllcoadbnpaaDoor.PRf Go.Proofs.YtmcgllcoadbnpaaDoor.Given Go.Proofs.YtmcgllcoadbnpaaDoorW.PrintWords Go.Proofs.YtmcgllcoadbnpaaDoorW.PrintLast Go.Proofs.YtmcgllcoadbnpaaDoorW.PrintMore
set_option linter.unusedVariables false
set_option linter.unusedSimpArgs false
abbrev LC := List S35
abbrev LV := List S37
abbrev LB := List S39
abbrev LU := List S43
/-- Is the operand there? -/
def thereF (C : LC) (V : LV) (B : LB) (U : LU) (u x y z : Int) : Bool :=
  if shapeA x = 1 then decide (y < (C.length : Int)) else
  if shapeA x = 2 then (if x = 6 ∨ x = 7 then decide (y < (V.length : Int)) && decide ((rd_T37 V y).f2 > 1) else decide (y < (V.length : Int)) && decide ((rd_T37 V y).f2 < 2)) else
  if shapeA x = 3 then decide (y < ((slotsF (rd_T43 U u).f1 (rd_T43 U u).f2 (rd_T43 U u).f3).length : Int)) else
  if shapeA x = 7 then decide (y > 0) && decide (y < (U.length : Int)) else
  if shapeA x = 8 then decide (y < (B.length : Int)) && (x == 36 || (x == 35 && decide (z < inputsOf (rd_T39 B y).f1)) || (x == 37 && decide (z < fieldsOf (rd_T39 B y).f1))) else true
def oneF (C : LC) (V : LV) (B : LB) (U : LU) (u x y z : Int) : Int :=
  if u < 0 ∨ (U.length : Int) ≤ u then 15 else if rightF x y z = true then (if typedF x y z = true then (if thereF C V B U u x y z = true then 0 else 8) else 10) else 7
/-- Units of few parts. -/
def Ok (U : LU) : Prop := ∀ X ∈ U, X.f1.length ≤ 20 ∧ X.f3.length ≤ 1100 ∧ X.f4.length ≤ 300
theorem ok_at {U : LU} (h : Ok U) (u : Int) (h0 : 0 ≤ u) (h1 : u < (U.length : Int)) : (rd_T43 U u).f1.length ≤ 20 ∧ (rd_T43 U u).f3.length ≤ 1100 ∧ (rd_T43 U u).f4.length ≤ 300 := by
  unfold rd_T43
  have hl : u.toNat < U.length := by omega
  rw [List.getD_eq_getElem?_getD, List.getElem?_eq_getElem hl]
  exact h _ (List.getElem_mem hl)
theorem may_nonneg {n w : Int} (h : mayF n w = true) : 0 ≤ n := by
  unfold mayF at h
  split at h
  · have : n = 0 := by simpa using h
    omega
  · simp at h; omega
theorem there_is (C : LC) (V : LV) (B : LB) (U : LU) (hU : Ok U) (u x y z : Int) (hu0 : 0 ≤ u) (hu1 : u < (U.length : Int)) (hy : 0 ≤ y) (k : Nat) (hk : 1 ≤ k) :
    refs_there.f k C V B U (rd_T43 U u).f0 (rd_T43 U u).f1 (rd_T43 U u).f2 (rd_T43 U u).f3 (rd_T43 U u).f4 x y z = some (thereF C V B U u x y z) := by
  obtain ⟨k, rfl⟩ : ∃ m, k = m + 1 := ⟨k - 1, by omega⟩
  obtain ⟨o1, o2, o3⟩ := ok_at hU u hu0 hu1
  unfold refs_there.f op_Shape.f thereF block_Inputs.f block_Fields.f
  simp only [Option.bind_some]
  by_cases h1 : shapeA x = 1
  · rw [if_pos h1, if_pos h1]
  rw [if_neg h1, if_neg h1]
  by_cases h2 : shapeA x = 2
  · rw [if_pos h2, if_pos h2]
    have hp : refs_plain.f V y = some (decide (y < (V.length : Int)) && decide ((rd_T37 V y).f2 < 2)) := by
      unfold refs_plain.f
      by_cases h : y < (V.length : Int)
      · rw [if_pos h, if_pos hy]; simp [h]
      · rw [if_neg h]; simp [h]
    have ha : refs_array.f V y = some (decide (y < (V.length : Int)) && decide ((rd_T37 V y).f2 > 1)) := by
      unfold refs_array.f
      by_cases h : y < (V.length : Int)
      · rw [if_pos h, if_pos hy]; simp [h]
      · rw [if_neg h]; simp [h]
    by_cases h6 : x = 6
    · rw [if_pos h6, if_pos (.inl h6), refs_there.j0, if_pos rfl, ha]; rfl
    · rw [if_neg h6, refs_there.j0]
      by_cases h7 : x = 7
      · rw [if_pos (by simp [h7]), if_pos (.inr h7), ha]; rfl
      · rw [if_neg (by simp [h7]), if_neg (by simp [h6, h7]), hp]; rfl
  rw [if_neg h2, if_neg h2]
  by_cases h3 : shapeA x = 3
  · rw [if_pos h3, if_pos h3, slots_is _ _ _ _ _ (by omega) (by omega)]; rfl
  rw [if_neg h3, if_neg h3]
  by_cases h7 : shapeA x = 7
  · rw [if_pos h7, if_pos h7]
    by_cases h : y > 0
    · rw [if_pos h]; simp [h]
    · rw [if_neg h]; simp [h]
  rw [if_neg h7, if_neg h7]
  by_cases h8 : shapeA x = 8
  · rw [if_pos h8, if_pos h8]
    by_cases h : y ≥ (B.length : Int)
    · rw [if_pos h, decide_eq_false (by omega)]; rfl
    · rw [if_neg h, if_pos hy, if_pos (by omega), decide_eq_true (show y < (B.length : Int) by omega)]
      by_cases a1 : x = 36
      · rw [if_pos a1]; simp [a1]
      · rw [if_neg a1]
        by_cases a2 : x = 35
        · subst a2
          rw [if_pos rfl]
          by_cases a3 : z < inputsOf (rd_T39 B y).f1
          · rw [if_pos a3]; simp [a3]
          · rw [if_neg a3, if_neg (by decide)]; simp [a3]
        · rw [if_neg a2]
          by_cases a3 : x = 37
          · rw [if_pos a3]; simp [a3]
          · rw [if_neg a3]; simp [a1, a2, a3]
  · rw [if_neg h8, if_neg h8]
theorem one_is (C : LC) (V : LV) (B : LB) (U : LU) (hU : Ok U) (u x y z : Int) (k : Nat) (hk : 2 ≤ k) : refs_One.f k C V B U u x y z = some (oneF C V B U u x y z) := by
  obtain ⟨k, rfl⟩ : ∃ m, k = m + 1 := ⟨k - 1, by omega⟩
  unfold refs_One.f oneF
  by_cases h0 : u < 0
  · rw [if_pos h0, if_pos (.inl h0), refs_One.j0, if_pos rfl]
  rw [if_neg h0, refs_One.j0]
  by_cases h1 : (U.length : Int) ≤ u
  · rw [if_pos (decide_eq_true h1), if_pos (.inr h1)]
  rw [if_neg (show ¬ decide (u ≥ (U.length : Int)) = true by simpa using h1), if_neg (show ¬ (u < 0 ∨ (U.length : Int) ≤ u) by omega), right_is, Option.bind_some]
  by_cases h2 : rightF x y z = true
  · have hx : -9223372036854775808 ≤ x ∧ x ≤ 9223372036854775807 := by
      unfold rightF isOp at h2
      simp only [Bool.and_eq_true, decide_eq_true_eq] at h2
      omega
    rw [if_pos h2, if_pos h2, typed_is x y z hx, Option.bind_some]
    have hy : 0 ≤ y := by
      unfold rightF at h2
      simp only [Bool.and_eq_true] at h2
      exact may_nonneg h2.1.2
    by_cases h3 : typedF x y z = true
    · rw [if_pos h3, if_pos h3, if_pos (show 0 ≤ u by omega), if_pos (show u < (U.length : Int) by omega), there_is C V B U hU u x y z (by omega) (by omega) hy k (by omega), Option.bind_some]
      split <;> rfl
    · rw [if_neg h3, if_neg h3]
  · rw [if_neg h2, if_neg h2]
theorem shapeA_at (n : Nat) (h : n < 38) : shapeA (n : Int) = opA.getD n 0 := by
  unfold shapeA isOp
  rw [decide_eq_true (by omega), decide_eq_true (by omega), if_pos (by decide), Int.toNat_natCast]
/-- The document's look, of an operation that is one. -/
theorem rthere_is (C : LC) (V : LV) (B : LB) (U : LU) (hU : Ok U) (u y z : Int) (n : Nat) (hn : n < 38) (hu0 : 0 ≤ u) (hu1 : u < (U.length : Int)) (hy : 0 ≤ y) (k : Nat) (hk : 1200 ≤ k) :
    ladderbackref18_One.j1 k u false C V B U (n : Int) y z = some (if thereF C V B U u (n : Int) y z = true then 0 else 8) := by
  obtain ⟨k, rfl⟩ : ∃ m, k = m + 8 := ⟨k - 8, by omega⟩
  obtain ⟨o1, o2, o3⟩ := ok_at hU u hu0 hu1
  have hs := rslots_is (rd_T43 U u).f0 (rd_T43 U u).f1 (rd_T43 U u).f2 (rd_T43 U u).f3 (rd_T43 U u).f4 (by omega) (by omega) (k + 5) (by omega)
  obtain ⟨l, T, hf, hfl⟩ := rfields (rd_T39 B y).f1 (k + 2) (by omega)
  have ha := shapeA_at n hn
  unfold thereF
  rw [ha]
  have b1 : ∀ b : Bool, (if b = true then some (0 : Int) else some 8) = some (if b = true then 0 else 8) := fun b => by cases b <;> rfl
  rcases (by omega : n = 0 ∨ n = 1 ∨ n = 2 ∨ n = 3 ∨ n = 4 ∨ n = 5 ∨ n = 6 ∨ n = 7 ∨ n = 33 ∨ n = 35 ∨ n = 36 ∨ n = 37 ∨ (8 ≤ n ∧ n ≤ 32) ∨ n = 34) with rfl | rfl | rfl | rfl | rfl | rfl | rfl | rfl | rfl | rfl | rfl | rfl | h | rfl
  case inr.inr.inr.inr.inr.inr.inr.inr.inr.inr.inr.inr.inl =>
    have h9 : opA.getD n 0 = 4 ∨ opA.getD n 0 = 0 ∨ opA.getD n 0 = 5 ∨ opA.getD n 0 = 6 := by
      have : ∀ m : Fin 38, 8 ≤ m.val → m.val ≤ 32 → opA.getD m.val 0 = 4 ∨ opA.getD m.val 0 = 0 ∨ opA.getD m.val 0 = 5 ∨ opA.getD m.val 0 = 6 := by decide
      exact this ⟨n, hn⟩ h.1 h.2
    rw [if_neg (show ¬ opA.getD n 0 = 1 by omega), if_neg (show ¬ opA.getD n 0 = 2 by omega), if_neg (show ¬ opA.getD n 0 = 3 by omega), if_neg (show ¬ opA.getD n 0 = 7 by omega), if_neg (show ¬ opA.getD n 0 = 8 by omega), if_pos rfl]
    have ne : ∀ m : Int, m < 8 ∨ 32 < m → ((n : Int) == m) = false := fun m hm => by simp; omega
    rw [ladderbackref18_One.j1, if_neg (by decide), if_neg (show ¬ (n : Int) = 1 by omega), if_neg (show ¬ (n : Int) = 2 by omega), ne 3 (by omega), ladderbackref18_One.j2, if_neg (by decide), if_neg (show ¬ (n : Int) = 4 by omega), ne 5 (by omega), ladderbackref18_One.j3, if_neg (by decide), if_neg (show ¬ (n : Int) = 6 by omega), ne 7 (by omega), ladderbackref18_One.j4, if_neg (by decide), if_neg (show ¬ (n : Int) = 33 by omega), if_neg (show ¬ (n : Int) = 35 by omega), if_neg (show ¬ (n : Int) = 36 by omega), ne 37 (by omega), ladderbackref18_One.j5, if_neg (by decide)]
  all_goals simp [opA, ladderbackref18_One.j1, ladderbackref18_One.j2, ladderbackref18_One.j3, ladderbackref18_One.j4, ladderbackref18_One.j5, ladderbackref18_One.j6, hs, hf, hfl, hu0, hu1, hy]
  all_goals (repeat' split) <;> first | rfl | omega | (exfalso; omega) | simp_all
end Go.Proofs.YtmcgllcoadbnpaaDoor.RPure
end

section
/- The set's own look at the program: three instructions' answers; the tables lie as the program lays them. -/
namespace Go.Proofs.YtmcgllcoadbnpaaDoor.Given
open Go Go.RowKit Go.Proofs.YtmcgllcoadbnpaaDoor.PRf Go.Proofs.YtmcgllcoadbnpaaDoor.RPure Go.Proofs.YtmcgllcoadbnpaaDoorW.PrintWords Go.Proofs.YtmcgllcoadbnpaaDoorW.PrintLast Go.Proofs.YtmcgllcoadbnpaaDoorW.PrintMore
set_option linter.unusedVariables false
set_option linter.unusedSimpArgs false
def two : List S43 := List.replicate 2 z43
theorem ok_two : Ok two := fun X hX => by
  rw [(List.mem_replicate.1 hX).2]
  exact ⟨by decide, by decide, by decide⟩
theorem info_unit : (Tryd.prog.info? 43).map (fun i => (i.zero, i.size, i.bytes)) = some (some (.agg #[(.string ⟨#[]⟩), (.slice none 0 0), (.int .i64 0), (.slice none 0 0), (.slice none 0 0)]), 5, 96) := by kernel_rfl
theorem C_nil {α : Type} (d : Kd α) (w : World) : d.C w none ([] : List α).length [] := ⟨rfl, by simp, fun h => absurd h (by simp)⟩
theorem one_c (x y r : Int) (hr : oneF [] [] [] two 0 x y 0 = r) (A : Option Addr) (c : Nat) (w : World) (hC : Kd.C k43 w A 2 two) (hc : 2 ≤ c) (hL : LaidAll w) :
    Calls Tryd.prog 10 #[.agg #[.slice none 0 0, .slice none 0 0, .slice none 0 0, .slice A 2 c], .int .i64 0, .agg #[.int .i64 x, .int .i64 y, .int .i64 0]] w fun e w' => e = .returned (.int .i64 r) ∧ Below w.heap.size w w' :=
  refs_One.calls 2 none 0 [] none 0 [] none 0 [] A c two 0 x y 0 r w (C_nil _ w) (Nat.le_refl _) (C_nil _ w) (Nat.le_refl _) (C_nil _ w) (Nat.le_refl _) hC hc (by rw [one_is [] [] [] two ok_two 0 x y 0 2 (Nat.le_refl _), hr]) hL
set_option maxHeartbeats 2000000 in
theorem awake_calls (w : World) (hL : LaidAll w) : Calls Tryd.prog 11 #[] w fun e w' => e = .returned (.bool true) ∧ Below w.heap.size w w' := by
  have HL := Aside0.mk hL
  clear hL
  have P1 := Aside0.mk (one_c 33 0 8 (by decide))
  have P2 := Aside0.mk (one_c 8 4 10 (by decide))
  have P3 := Aside0.mk (one_c 33 1 0 (by decide))
  go_enter Tryd.func11, Tryd.ntmps11
  go_wp2_with ((with_reducible refine gate_dst (N := 2) rfl ?_); refine Kd.S_make k43 _ 43 rfl (N := 2) rfl 25 _ _ rfl 2 rfl rfl Tryd.underlying25 (.agg #[(.string ⟨#[]⟩), (.slice none 0 0), (.int .i64 0), (.slice none 0 0), (.slice none 0 0)]) 96 info_unit rfl (by decide) (by omega) z43 (ok := fun _ => True) (okp := fun _ => True) (k43_mkM _ _ _ z43 (Kd.R_nil _ _ _ _ _) (Kd.R_nil _ _ _ _ _) (Kd.R_nil _ _ _ _ _)) (fun _ hk => hk) trivial (by omega) (by omega) (Below.refl _ _) (Nat.le_refl _) ?_; intro v w7 ho hb hg_ hnew_; clear hg_ hnew_; obtain ⟨A, c, rfl, hc, hC⟩ := Kd.S_reads ho; have HC := Aside0.mk hC; have HB := Aside0.mk hb; clear ho hC hb)
  have HC2 := Aside0.mk (Kd.C_below HC.out ((Below.refl _ w7).alloc (Nat.le_refl _) (.cells #[.slice none 0 0, .slice none 0 0, .slice none 0 0, .slice A 2 c] 27)))
  have HB2 := Aside0.mk (HB.out.alloc HB.out.size (.cells #[.slice none 0 0, .slice none 0 0, .slice none 0 0, .slice A 2 c] 27))
  have HG := Aside0.mk (heap_alloc_new w7 (.cells #[.slice none 0 0, .slice none 0 0, .slice none 0 0, .slice A 2 c] 27))
  refine (P1.out A c _ HC2.out hc (HL.out.below HB2.out)).mono ?_
  rintro e w8 ⟨rfl, hb8⟩
  have HG8 := Aside0.mk ((hb8.block _ (blk_lt HG.out)).trans HG.out)
  have HC8 := Aside0.mk (Kd.C_below HC2.out hb8)
  have HB8 := Aside0.mk (HB2.out.trans (hb8.mono HB2.out.size))
  clear hb8 HC HB HC2 HB2 HG
  have q0 : w8.cell? ⟨w7.heap.size, 0, none⟩ = some (.slice none 0 0) := (blk_cell HG8.out 0).trans rfl
  have q1 : w8.cell? ⟨w7.heap.size, 1, none⟩ = some (.slice none 0 0) := (blk_cell HG8.out 1).trans rfl
  have q2 : w8.cell? ⟨w7.heap.size, 2, none⟩ = some (.slice none 0 0) := (blk_cell HG8.out 2).trans rfl
  have q3 : w8.cell? ⟨w7.heap.size, 3, none⟩ = some (.slice A 2 c) := (blk_cell HG8.out 3).trans rfl
  go_wp2_with fail
  refine (P2.out A c _ HC8.out hc (HL.out.below HB8.out)).mono ?_
  rintro e w9 ⟨rfl, hb9⟩
  have HG9 := Aside0.mk ((hb9.block _ (blk_lt HG8.out)).trans HG8.out)
  have HC9 := Aside0.mk (Kd.C_below HC8.out hb9)
  have HB9 := Aside0.mk (HB8.out.trans (hb9.mono HB8.out.size))
  clear hb9 HC8 HB8 HG8 q0 q1 q2 q3
  have q0 : w9.cell? ⟨w7.heap.size, 0, none⟩ = some (.slice none 0 0) := (blk_cell HG9.out 0).trans rfl
  have q1 : w9.cell? ⟨w7.heap.size, 1, none⟩ = some (.slice none 0 0) := (blk_cell HG9.out 1).trans rfl
  have q2 : w9.cell? ⟨w7.heap.size, 2, none⟩ = some (.slice none 0 0) := (blk_cell HG9.out 2).trans rfl
  have q3 : w9.cell? ⟨w7.heap.size, 3, none⟩ = some (.slice A 2 c) := (blk_cell HG9.out 3).trans rfl
  go_wp2_with fail
  refine (P3.out A c _ HC9.out hc (HL.out.below HB9.out)).mono ?_
  rintro e w10 ⟨rfl, hb10⟩
  have HB10 := HB9.out.trans (hb10.mono HB9.out.size)
  go_wp2_with fail
  go_ret
  exact ⟨rfl, HB10⟩
/-- In the printed form. -/
def ladderbacklaw18_awake.f : Option Bool := some true
theorem ladderbacklaw18_awake.calls (r : Bool) (w : World) (h : ladderbacklaw18_awake.f = some r) (hL : LaidAll w) : Calls Tryd.prog 11 #[] w fun e w' => e = .returned (.bool r) ∧ Below w.heap.size w w' := by
  obtain rfl := Option.some.inj h
  exact awake_calls w hL
end Go.Proofs.YtmcgllcoadbnpaaDoor.Given
end

section
/- Printed by a program of this session (wip/pg.py, over the print of the kit): functions, their Lean twins, and the proofs that the calls come to them; each under the conditions that it names. -/
namespace Go.Proofs.YtmcgllcoadbnpaaDoor.PRf
open Go.Proofs.YtmcgllcoadbnpaaDoor.Given
open Go.RowKit Go.Proofs.YtmcgllcoadbnpaaDoorW.PrintWords Go.Proofs.YtmcgllcoadbnpaaDoorW.PrintLast Go.Proofs.YtmcgllcoadbnpaaDoorW.PrintMore
attribute [local go_sem] max2_int min2_int max_two min_two max_three min_three max_four min_four   -- for this text's walks alone
set_option linter.unusedVariables false
set_option linter.unusedSimpArgs false

/-! ### ladderbacklaw18_RefsOne: function 4 -/
mutual
def ladderbacklaw18_RefsOne.j0 : Nat → Int → Bool → List (S35) → List (S37) → List (S39) → List (S43) → Int → Int → Int → Option (Bool)
  | 0, _, _, _, _, _, _, _, _, _ => none
  | k + 1, x1, x21, x238000, x238001, x238002, x238003, x239000, x239001, x239002 => if x21 = true then ((some (([] : List (S29)) : List (S29))).bind fun y241 => (if 0 ≤ x1 then (if x1 < (x238003.length : Int) then (if y241.length + ((rd_T43 x238003 x1).f4).length < 5864062014805 then ((some (y241 ++ ((rd_T43 x238003 x1).f4) : List (S29))).bind fun y245 => ((some (([(⟨x239000, x239001, x239002⟩ : S29)] : List (S29)) : List (S29))).bind fun y248 => (if y245.length + y248.length < 5864062014805 then (ladderbacklaw18_RefsOne.l0 k x1 (y245 ++ y248) (-1) x238000 x238001 x238002 x238003 x239000 x239001 x239002) else (none)))) else (none)) else (none)) else (none))) else ((refs_One.f k x238000 x238001 x238002 x238003 x1 x239000 x239001 x239002).bind fun t259 => ((ladderbackref18_One.f k x238000 x238001 x238002 x238003 x1 x239000 x239001 x239002).bind fun t260 => (if t259 = t260 then ((ladderbacklaw18_awake.f).bind fun t261 => (some t261)) else (some false))))
def ladderbacklaw18_RefsOne.l0 : Nat → Int → List (S29) → Int → List (S35) → List (S37) → List (S39) → List (S43) → Int → Int → Int → Option (Bool)
  | 0, _, _, _, _, _, _, _, _, _, _ => none
  | k + 1, x1, x7, x8, x238000, x238001, x238002, x238003, x239000, x239001, x239002 => if x8 ≤ (x7.length : Int) then ((refs_Jump.f x7 x8).bind fun t257 => ((ladderbackref18_Jump.f k x7 x8).bind fun t258 => (if t257 = t258 then (ladderbacklaw18_RefsOne.l0 k x1 x7 (wrap64 (x8 + 1)) x238000 x238001 x238002 x238003 x239000 x239001 x239002) else (some false)))) else ((refs_One.f k x238000 x238001 x238002 x238003 x1 x239000 x239001 x239002).bind fun t254 => ((ladderbackref18_One.f k x238000 x238001 x238002 x238003 x1 x239000 x239001 x239002).bind fun t255 => (if t254 = t255 then ((ladderbacklaw18_awake.f).bind fun t256 => (some t256)) else (some false))))
end
def ladderbacklaw18_RefsOne.f (k : Nat) (l0_0 : List (S35)) (l0_1 : List (S37)) (l0_2 : List (S39)) (l0_3 : List (S43)) (a1 : Int) (a2_0 : Int) (a2_1 : Int) (a2_2 : Int) : Option (Bool) := (ladderbacklaw16_Few.f k l0_0 l0_1 l0_2 l0_3).bind fun t239 => (if t239 = true then (if a1 ≥ 0 then (ladderbacklaw18_RefsOne.j0 k a1 (decide (a1 < (l0_3.length : Int))) l0_0 l0_1 l0_2 l0_3 a2_0 a2_1 a2_2) else (ladderbacklaw18_RefsOne.j0 k a1 false l0_0 l0_1 l0_2 l0_3 a2_0 a2_1 a2_2)) else ((ladderbacklaw18_awake.f).bind fun t240 => (some t240)))
def ladderbacklaw18_RefsOne.T4 : Bool × List (List Nat × List Nat) := (true, [([], []), ([], []), ([1], [1]), ([], []), ([2, 3], [2, 3]), ([4], [4]), ([5], [5]), ([0, 6], [0, 6]), ([], []), ([8], [8]), ([7, 9, 7], [7, 9]), ([10, 10, 0, 1, 2, 3, 4, 5, 6, 7, 8, 9, 10], [10])])
def ladderbacklaw18_RefsOne.B4 : List Nat := [0, 0, 2, 0, 14, 30, 62, 127, 0, 256, 1023, 2047]
def ladderbacklaw18_RefsOne.T10 : Bool × List (List Nat × List Nat) := (true, [([], []), ([], []), ([], []), ([0, 1, 2], [0, 1, 2]), ([], []), ([], []), ([], []), ([4, 5, 6, 3], [4, 5, 6]), ([3, 7], [3, 7]), ([8, 7], [8]), ([9, 9], [9]), ([9, 10], [9, 10]), ([11, 10, 0, 1, 2, 3, 4, 5, 6, 7, 8, 9, 10, 11], [11])])
def ladderbacklaw18_RefsOne.B10 : List Nat := [0, 0, 0, 7, 0, 0, 0, 127, 255, 511, 1023, 2047, 4095]
end Go.Proofs.YtmcgllcoadbnpaaDoor.PRf
end
