/- cycle.Begin's next input, walked by hand. -/
import Derived.Test.YtamajfcjcfkkjaaZCycleEndsab
import Derived.Test.YtamajfcjcfkkjaaZCycleEndsac
import Derived.Test.YtamajfcjcfkkjaaZCycleEndsad
import Derived.Test.YtamajfcjcfkkjaaZCycleEndsae
section
/- Printed by a program of this session (wip/pg.py, over the print of the kit): functions, their Lean twins, and the proofs that the calls come to them; each under the conditions that it names. -/
namespace Go.Proofs.Ytamajfcjcfkkjaa.PSt
open Go.RowKit Go.Proofs.YtamajfcjcfkkjaaW.PrintWords Go.Proofs.YtamajfcjcfkkjaaW.PrintLast Go.Proofs.YtamajfcjcfkkjaaW.PrintMore
attribute [local go_sem] max2_int min2_int max_two min_two max_three min_three max_four min_four   -- for this text's walks alone
set_option linter.unusedVariables false
set_option linter.unusedSimpArgs false

/-! ### state_Area: function 28 -/
def state_Area.l0 : Nat → Int → List Int → List (S60) → Int → Int → List (List Int) → List (S69) → Int → Int → Option (List Int)
  | 0, _, _, _, _, _, _, _, _, _ => none
  | k + 1, x2, x7, x10, x11, x12, x323000, x323001, x323002, x323003 => if x12 < x11 then (if 0 ≤ x12 then (if x12 < (x10.length : Int) then (if ((rd_T60 x10 x12).f3) = x2 then (if x12 < (x323000.length : Int) then (if x7.length + (rd_L1 x323000 x12).length < 17592186044416 then (state_Area.l0 k x2 (x7 ++ (rd_L1 x323000 x12)) x10 x11 (wrap64 (x12 + 1)) x323000 x323001 x323002 x323003) else (none)) else (state_Area.l0 k x2 x7 x10 x11 (wrap64 (x12 + 1)) x323000 x323001 x323002 x323003)) else (state_Area.l0 k x2 x7 x10 x11 (wrap64 (x12 + 1)) x323000 x323001 x323002 x323003)) else (none)) else (none)) else (some x7)
def state_Area.f (k : Nat) (l0 : List (S60)) (l1_0 : List (List Int)) (l1_1 : List (S69)) (a1_2 : Int) (a1_3 : Int) (a2 : Int) : Option (List Int) := state_Area.l0 k a2 ([] : List Int) l0 (l0.length : Int) 0 l1_0 l1_1 a1_2 a1_3
set_option maxHeartbeats 8000000 in
set_option maxRecDepth 100000 in
theorem state_Area.calls (k : Nat) (A0 : Option Addr) (c0 : Nat) (l0 : List (S60)) (A1_0 : Option Addr) (c1_0 : Nat) (l1_0 : List (List Int)) (A1_1 : Option Addr) (c1_1 : Nat) (l1_1 : List (S69)) (a1_2 : Int) (a1_3 : Int) (a2 : Int) (r : List Int) (w : World) (hr0 : Kd.C k60 w A0 l0.length l0) (hc0 : l0.length ≤ c0) (hr1_0 : Kd.C (Kd.slice 3 (Kd.int .i64)) w A1_0 l1_0.length l1_0) (hc1_0 : l1_0.length ≤ c1_0) (hr1_1 : Kd.C k69 w A1_1 l1_1.length l1_1) (hc1_1 : l1_1.length ≤ c1_1) (h : state_Area.f k l0 l1_0 l1_1 a1_2 a1_3 a2 = some r) :
    Calls Try.prog 28 #[.slice A0 l0.length c0, .agg #[.slice A1_0 l1_0.length c1_0, .slice A1_1 l1_1.length c1_1, .int .i64 a1_2, .int .i64 a1_3], .int .i64 a2] w fun e w' => ∃ v0_ : Value, e = .returned (v0_) ∧ Kd.R (Kd.int .i64) 3 w' w.heap.size (fun _ => True) v0_ r ∧ Below w.heap.size w w' := by
  have hu31 := Try.underlying31
  have hu60 := Try.underlying60
  have HR0 := Aside0.mk hr0
  have HC0 := Aside0.mk hc0
  clear hr0 hc0
  have HR1_0 := Aside0.mk hr1_0
  have HC1_0 := Aside0.mk hc1_0
  clear hr1_0 hc1_0
  have HR1_1 := Aside0.mk hr1_1
  have HC1_1 := Aside0.mk hc1_1
  clear hr1_1 hc1_1
  have HB := Aside0.mk (Below.refl w.heap.size w)
  have H : (state_Area.l0 k a2 ([] : List Int) l0 (l0.length : Int) 0 l1_0 l1_1 a1_2 a1_3) = some r := h
  clear h
  have H' := Aside0.mk H
  clear H
  go_enter Try.func28, Try.ntmps28
  go_wp2_with (first | ((with_reducible refine gate_dst (N := 4) rfl ?_); (try (refine gate_guard (by rfl) ?_; dsimp only)); refine box_event ?hg (N := 4) ?hd (cs := #[.slice A1_0 l1_0.length c1_0, .slice A1_1 l1_1.length c1_1, .int .i64 a1_2, .int .i64 a1_3]) (t := 31) ?hr ?_; (case hd => rfl); (case hg => rfl); (case hr => first | (go_simp; done) | (go_simp; rfl)); intro gb322 hg w4 hbox hb; have n0_ := Aside0.mk (below_step (by repeat (first | (with_reducible first | exact HB.out | apply below_alloc | apply pw_below_drewN | apply below_drew1) | exact HB.out)) hb); have n1_ := Aside0.mk (hbox); have n2_ := Aside0.mk ((by rw [hg]; exact (below_size (by repeat (first | (with_reducible first | exact HB.out | apply below_alloc | apply pw_below_drewN | apply below_drew1) | exact HB.out))) : w.heap.size ≤ gb322)); have n3_ := Aside0.mk ((by rw [hg]; exact (below_size (by repeat (first | (with_reducible first | exact HB.out | apply below_alloc | apply pw_below_drewN | apply below_drew1) | exact HB.out))) : w.heap.size ≤ gb322)); clear HB; have HB := n0_; have BK322 := n1_; have GW322 := n2_; have GE322 := n3_; clear n0_ n1_ n2_ n3_; clear hb hbox hg))
  go_loopg [7, 12] k (fun kq v7 v12 w' => ∃ (x7_1 : List Int) (x12_1 : Int), v12 = .int .i64 x12_1 ∧ Aside0 (state_Area.l0 kq a2 x7_1 l0 (l0.length : Int) x12_1 l1_0 l1_1 a1_2 a1_3 = some r) ∧ Aside0 (kq ≤ k) ∧ Aside0 (Kd.R (Kd.int .i64) 3 w' w.heap.size (fun _ => True) v7 x7_1) ∧ Aside0 (w'.heap[gb322]? = some (.cells #[(.slice A1_0 l1_0.length c1_0), (.slice A1_1 l1_1.length c1_1), .int .i64 a1_2, .int .i64 a1_3] 31 (0, 0))) ∧ Aside0 (Below w.heap.size w w'))
  case atStart => exact ⟨(([] : List Int)), (0), (by first | rfl | (simp; done) | (simp [*]; done)), H', ⟨Nat.le_refl _⟩, ⟨by first | exact Kd.R_nil _ _ _ _ _ | exact Kd.N_nil _ _ _ _ _ | exact Kd.V_nil _ _ _ _ _ | exact Kd.Q_nil _ _ _ _ _ | exact Kd.S_nil _ _ _ _ _⟩, ⟨by (with_reducible repeat (first | refine blk_drewN ?_ _ | refine blk_drew ?_ | refine blk_alloc ?_ _)); exact BK322.out⟩, ⟨by repeat (first | (with_reducible first | exact HB.out | apply below_alloc | apply pw_below_drewN | apply below_drew1 | refine below_set ?_ GE322.out) | exact HB.out)⟩⟩
  case round =>
    clear H'
    try clear c1
    try clear c2
    try clear p2
    obtain ⟨x7_1, x12_1, rfl, HA, HK1, HO_7, BK322, HB⟩ := hrel
    cases gk with
    | zero => exact absurd HA.out (by simp [state_Area.l0])
    | succ k1 =>
      have H := HA.out
      clear HA
      simp only [state_Area.l0] at H
      by_cases c5 : x12_1 < (l0.length : Int)
      · rw [if_pos c5] at H
        have c5b0 : decide (x12_1 < (l0.length : Int)) = true := decide_eq_true c5
        clear c5
        by_cases c6 : 0 ≤ x12_1
        · rw [if_pos c6] at H
          have c6b0 : decide (0 ≤ x12_1) = true := decide_eq_true c6
          clear c6
          by_cases c7 : x12_1 < (l0.length : Int)
          · rw [if_pos c7] at H
            have c7b0 : decide (x12_1 < (l0.length : Int)) = true := decide_eq_true c7
            clear c7
            by_cases c8 : ((rd_T60 l0 x12_1).f3) = a2
            · rw [if_pos c8] at H
              have c8b0 : (((rd_T60 l0 x12_1).f3) == a2) = true := beq_iff_eq.mpr c8
              have c8b1 : (((rd_T60 l0 x12_1).f3) != a2) = false := bne_eq_false_iff_eq.mpr c8
              clear c8
              by_cases c9 : x12_1 < (l1_0.length : Int)
              · rw [if_pos c9] at H
                have c9b0 : decide (x12_1 < (l1_0.length : Int)) = true := decide_eq_true c9
                clear c9
                by_cases c10 : x7_1.length + (rd_L1 l1_0 x12_1).length < 17592186044416
                · rw [if_pos c10] at H
                  have LMc10 := Aside0.mk c10
                  clear c10
                  obtain ⟨y326, hy326⟩ : ∃ y_ : List Int, y_ = (x7_1 ++ (rd_L1 l1_0 x12_1)) := ⟨_, rfl⟩
                  replace H : (state_Area.l0 k1 a2 y326 l0 (l0.length : Int) (wrap64 (x12_1 + 1)) l1_0 l1_1 a1_2 a1_3) = some r := by first | (rw [hy326]; with_reducible exact H) | (have H2_ := (Option.bind_some _ _).symm.trans H; rw [hy326]; with_reducible exact H2_) | (have H2_ := (Option.bind_some _ _).symm.trans H; with_reducible exact H2_) | with_reducible exact H | (rw [hy326]; exact H) | exact H
                  have Ny326 := Aside0.mk hy326
                  clear hy326
                  have H' := Aside0.mk H
                  clear H
                  have p323 : 0 ≤ (x12_1 : Int) := of_decide_eq_true (by first | (with_reducible assumption) | assumption)
                  have q323 : x12_1 < (l0.length : Int) := of_decide_eq_true (by first | (with_reducible assumption) | assumption)
                  obtain ⟨ad323, e323, hx323_0, hx323_1, hx323_2, hx323_3, hx323_4⟩ := at_T60 HR0.out x12_1 p323 q323
                  cases e323
                  replace hx323_0 := (HB.out.cell (World.block_lt_of_cell? w _ hx323_0)).trans hx323_0
                  replace hx323_1 := (HB.out.cell (World.block_lt_of_cell? w _ hx323_1)).trans hx323_1
                  replace hx323_2 := (HB.out.cell (World.block_lt_of_cell? w _ hx323_2)).trans hx323_2
                  replace hx323_3 := (HB.out.cell (World.block_lt_of_cell? w _ hx323_3)).trans hx323_3
                  replace hx323_4 := (HB.out.cell (World.block_lt_of_cell? w _ hx323_4)).trans hx323_4
                  replace p323 := eq_true p323
                  replace q323 := eq_true q323
                  go_wp2_with (first | ((with_reducible refine gate_dst (N := 9) rfl ?_); (try (refine gate_guard (by rfl) ?_; dsimp only)); refine box_event ?hg (N := 9) ?hd (cs := #[.string (⟨#[]⟩ : ByteArray), .int .i64 0, .int .i64 0, .int .i64 0, .int .i64 0]) (t := 60) ?hr ?_; (case hd => rfl); (case hg => rfl); (case hr => first | (go_simp; done) | (go_simp; rfl)); intro gb324 hg w11 hbox hb; have n0_ := Aside0.mk (Kd.R_below (by (with_reducible repeat (first | apply Kd.R_alloc | apply Kd.R_drewN | apply Kd.R_drew)); exact HO_7.out) hb); have n1_ := Aside0.mk (blk_below (g := gb322) (o := .cells #[.slice A1_0 l1_0.length c1_0, .slice A1_1 l1_1.length c1_1, .int .i64 a1_2, .int .i64 a1_3] 31 (0, 0)) (by (with_reducible repeat (first | refine blk_drewN ?_ _ | refine blk_drew ?_ | refine blk_alloc ?_ _)); exact BK322.out) hb); have n2_ := Aside0.mk (below_step (by repeat (first | (with_reducible first | exact HB.out | apply below_alloc | apply pw_below_drewN | apply below_drew1 | refine below_set ?_ GE322.out) | exact HB.out)) hb); have n3_ := Aside0.mk (hbox); have n4_ := Aside0.mk ((by rw [hg]; exact (below_size (by repeat (first | (with_reducible first | exact HB.out | apply below_alloc | apply pw_below_drewN | apply below_drew1 | refine below_set ?_ GE322.out) | exact HB.out))) : w.heap.size ≤ gb324)); have n5_ := Aside0.mk ((by rw [hg]; exact (below_size (by repeat (first | (with_reducible first | exact HB.out | apply below_alloc | apply pw_below_drewN | apply below_drew1 | refine below_set ?_ GE322.out) | exact HB.out))) : w.heap.size ≤ gb324)); have n6_ := Aside0.mk ((by rw [hg]; exact Nat.ne_of_lt (blk_lt (g := gb322) (o := .cells #[.slice A1_0 l1_0.length c1_0, .slice A1_1 l1_1.length c1_1, .int .i64 a1_2, .int .i64 a1_3] 31 (0, 0)) (by (with_reducible repeat (first | refine blk_drewN ?_ _ | refine blk_drew ?_ | refine blk_alloc ?_ _)); exact BK322.out)) : gb322 ≠ gb324)); have n7_ := Aside0.mk ((by rw [hg]; exact Nat.ne_of_gt (blk_lt (g := gb322) (o := .cells #[.slice A1_0 l1_0.length c1_0, .slice A1_1 l1_1.length c1_1, .int .i64 a1_2, .int .i64 a1_3] 31 (0, 0)) (by (with_reducible repeat (first | refine blk_drewN ?_ _ | refine blk_drew ?_ | refine blk_alloc ?_ _)); exact BK322.out)) : gb324 ≠ gb322)); clear HO_7; clear BK322; clear HB; have HO_7 := n0_; have BK322 := n1_; have HB := n2_; have BK324 := n3_; have GW324 := n4_; have GE324 := n5_; have NB322_324 := n6_; have NB324_322 := n7_; clear n0_ n1_ n2_ n3_ n4_ n5_ n6_ n7_; clear hb hbox hg; have hnb12 := NB324_322.out; have hnc12 := NB322_324.out; have hcz13_0 : w11.cell? ⟨gb324, 0, none⟩ = some (.string (⟨#[]⟩ : ByteArray)) := (blk_cell BK324.out 0).trans rfl; have hcz13_1 : w11.cell? ⟨gb324, 1, none⟩ = some (.int .i64 0) := (blk_cell BK324.out 1).trans rfl; have hcz13_2 : w11.cell? ⟨gb324, 2, none⟩ = some (.int .i64 0) := (blk_cell BK324.out 2).trans rfl; have hcz13_3 : w11.cell? ⟨gb324, 3, none⟩ = some (.int .i64 0) := (blk_cell BK324.out 3).trans rfl; have hcz13_4 : w11.cell? ⟨gb324, 4, none⟩ = some (.int .i64 0) := (blk_cell BK324.out 4).trans rfl; have hfz13_0 := blk_frozen BK324.out 0; have hfz13_1 := blk_frozen BK324.out 1; have hfz13_2 := blk_frozen BK324.out 2; have hfz13_3 := blk_frozen BK324.out 3; have hfz13_4 := blk_frozen BK324.out 4; have hcz14_0 : w11.cell? ⟨gb322, 0, none⟩ = some (.slice A1_0 l1_0.length c1_0) := (blk_cell BK322.out 0).trans rfl; have hcz14_1 : w11.cell? ⟨gb322, 1, none⟩ = some (.slice A1_1 l1_1.length c1_1) := (blk_cell BK322.out 1).trans rfl; have hcz14_2 : w11.cell? ⟨gb322, 2, none⟩ = some (.int .i64 a1_2) := (blk_cell BK322.out 2).trans rfl; have hcz14_3 : w11.cell? ⟨gb322, 3, none⟩ = some (.int .i64 a1_3) := (blk_cell BK322.out 3).trans rfl; have hfz14_0 := blk_frozen BK322.out 0; have hfz14_1 := blk_frozen BK322.out 1; have hfz14_2 := blk_frozen BK322.out 2; have hfz14_3 := blk_frozen BK322.out 3; have p325 : 0 ≤ (x12_1 : Int) := of_decide_eq_true (by first | (with_reducible assumption) | assumption); have q325 : x12_1 < (l1_0.length : Int) := of_decide_eq_true (by first | (with_reducible assumption) | assumption); obtain ⟨ad325, A325_0, c325_0, e325, hx325_0, hl325_0, hi325_0⟩ := at_L1 HR1_0.out x12_1 p325 q325; cases e325; have hn325_0 : ad325.block ≠ gb324 := Nat.ne_of_lt (Nat.lt_of_lt_of_le (by have := World.block_lt_of_cell? _ _ hx325_0; first | rwa [add_block] at this | exact this) GW324.out); have hn325_1 : ad325.block ≠ gb324 := Nat.ne_of_lt (Nat.lt_of_lt_of_le (by have := World.block_lt_of_cell? _ _ hx325_0; first | rwa [add_block] at this | exact this) GW324.out); have hn325_2 : ad325.block ≠ gb324 := Nat.ne_of_lt (Nat.lt_of_lt_of_le (by have := World.block_lt_of_cell? _ _ hx325_0; first | rwa [add_block] at this | exact this) GW324.out); have hn325_3 : ad325.block ≠ gb324 := Nat.ne_of_lt (Nat.lt_of_lt_of_le (by have := World.block_lt_of_cell? _ _ hx325_0; first | rwa [add_block] at this | exact this) GW324.out); have hn325_4 : ad325.block ≠ gb324 := Nat.ne_of_lt (Nat.lt_of_lt_of_le (by have := World.block_lt_of_cell? _ _ hx325_0; first | rwa [add_block] at this | exact this) GW324.out); replace hx325_0 := (HB.out.cell (World.block_lt_of_cell? w _ hx325_0)).trans hx325_0; have HR325_0 := Aside0.mk hi325_0; have HC325_0 := Aside0.mk hl325_0; clear hi325_0 hl325_0; replace hx325_0 := (cell_far (p := ⟨gb324, 0, none⟩) (by first | (rw [add_block]; exact hn325_0) | (show (Addr.add _ _).block ≠ _; rw [add_block]; exact hn325_0) | exact hn325_0) (.string ((rd_T60 l0 x12_1).f0))).trans hx325_0; replace hx325_0 := (cell_far (p := ⟨gb324, 1, none⟩) (by first | (rw [add_block]; exact hn325_1) | (show (Addr.add _ _).block ≠ _; rw [add_block]; exact hn325_1) | exact hn325_1) (.int .i64 ((rd_T60 l0 x12_1).f1))).trans hx325_0; replace hx325_0 := (cell_far (p := ⟨gb324, 2, none⟩) (by first | (rw [add_block]; exact hn325_2) | (show (Addr.add _ _).block ≠ _; rw [add_block]; exact hn325_2) | exact hn325_2) (.int .i64 ((rd_T60 l0 x12_1).f2))).trans hx325_0; replace hx325_0 := (cell_far (p := ⟨gb324, 3, none⟩) (by first | (rw [add_block]; exact hn325_3) | (show (Addr.add _ _).block ≠ _; rw [add_block]; exact hn325_3) | exact hn325_3) (.int .i64 ((rd_T60 l0 x12_1).f3))).trans hx325_0; replace hx325_0 := (cell_far (p := ⟨gb324, 4, none⟩) (by first | (rw [add_block]; exact hn325_4) | (show (Addr.add _ _).block ≠ _; rw [add_block]; exact hn325_4) | exact hn325_4) (.int .i64 ((rd_T60 l0 x12_1).f4))).trans hx325_0; clear hn325_0; clear hn325_1; clear hn325_2; clear hn325_3; clear hn325_4; replace p325 := eq_true p325; replace q325 := eq_true q325) | ((with_reducible refine gate_builtin (b := .append) (xs := #[.tmp 28, .tmp 33]) rfl ?_); (try (refine gate_guard (by rfl) ?_; dsimp only)); at_builtin; refine Kd.R_append_rows (Kd.int .i64) (w0 := w) w.heap.size rfl (.tmp 28) (.tmp 33) 32 3 (.int .i64 0) 8 rfl Try.underlying32 info3 rfl (by decide) (by omega) u7 x7_1 (rd_L1 l1_0 x12_1) _ _ _ (fun _ => True) (fun _ => False) rfl rfl ?aO ?aR (fun _ _ h => h) (fun _ h => h.elim) ?aF ?aB ?aS ?aL ?_; (case aR => exact Kd.C_below HR325_0.out (by repeat (first | (with_reducible first | exact HB.out | apply below_alloc | apply pw_below_drewN | apply below_drew1 | refine below_set ?_ GE322.out | refine below_set ?_ GE324.out) | exact HB.out))); (case aB => exact (by repeat (first | (with_reducible first | exact HB.out | apply below_alloc | apply pw_below_drewN | apply below_drew1 | refine below_set ?_ GE322.out | refine below_set ?_ GE324.out) | exact HB.out))); (case aF => exact (fun _ _ => trivial)); (case aO => exact (by (with_reducible repeat (first | apply Kd.R_alloc | apply Kd.R_drewN | apply Kd.R_drew)); exact Kd.R_mono (Kd.R_far (p := ⟨gb324, 4, none⟩) (Kd.R_far (p := ⟨gb324, 3, none⟩) (Kd.R_far (p := ⟨gb324, 2, none⟩) (Kd.R_far (p := ⟨gb324, 1, none⟩) (Kd.R_far (p := ⟨gb324, 0, none⟩) (Kd.R_types HO_7.out BK324.out (by decide)) (fun _ hk => hk.2) (.string ((rd_T60 l0 x12_1).f0))) (fun _ hk => hk.2) (.int .i64 ((rd_T60 l0 x12_1).f1))) (fun _ hk => hk.2) (.int .i64 ((rd_T60 l0 x12_1).f2))) (fun _ hk => hk.2) (.int .i64 ((rd_T60 l0 x12_1).f3))) (fun _ hk => hk.2) (.int .i64 ((rd_T60 l0 x12_1).f4))) (fun _ hk => trivial))); (case aS => exact (below_size (by repeat (first | (with_reducible first | exact HB.out | apply below_alloc | apply pw_below_drewN | apply below_drew1 | refine below_set ?_ GE322.out | refine below_set ?_ GE324.out) | exact HB.out)))); (case aL => have := LMc10.out; omega); intro v327 w15 ho hb hg hat; rw [← Ny326.out] at ho; have n0_ := Aside0.mk (blk_grown (g := gb322) (o := .cells #[.slice (some ad325) l1_0.length c1_0, .slice A1_1 l1_1.length c1_1, .int .i64 a1_2, .int .i64 a1_3] 31 (0, 0)) (by (with_reducible repeat (first | refine blk_drewN ?_ _ | refine blk_drew ?_ | refine blk_alloc ?_ _)); refine blk_far ?_ NB322_324.out _; (with_reducible repeat (first | refine blk_drewN ?_ _ | refine blk_drew ?_ | refine blk_alloc ?_ _)); refine blk_far ?_ NB322_324.out _; (with_reducible repeat (first | refine blk_drewN ?_ _ | refine blk_drew ?_ | refine blk_alloc ?_ _)); refine blk_far ?_ NB322_324.out _; (with_reducible repeat (first | refine blk_drewN ?_ _ | refine blk_drew ?_ | refine blk_alloc ?_ _)); refine blk_far ?_ NB322_324.out _; (with_reducible repeat (first | refine blk_drewN ?_ _ | refine blk_drew ?_ | refine blk_alloc ?_ _)); refine blk_far ?_ NB322_324.out _; (with_reducible repeat (first | refine blk_drewN ?_ _ | refine blk_drew ?_ | refine blk_alloc ?_ _)); exact BK322.out) hg (Kd.R_ne HO_7.out BK322.out (by decide))); have n1_ := Aside0.mk (blk_grown (g := gb324) (o := .cells #[.string ((rd_T60 l0 x12_1).f0), .int .i64 ((rd_T60 l0 x12_1).f1), .int .i64 ((rd_T60 l0 x12_1).f2), .int .i64 ((rd_T60 l0 x12_1).f3), .int .i64 ((rd_T60 l0 x12_1).f4)] 60 (0, 0)) (by (with_reducible repeat (first | refine blk_drewN ?_ _ | refine blk_drew ?_ | refine blk_alloc ?_ _)); refine blk_put (cs := #[.string ((rd_T60 l0 x12_1).f0), .int .i64 ((rd_T60 l0 x12_1).f1), .int .i64 ((rd_T60 l0 x12_1).f2), .int .i64 ((rd_T60 l0 x12_1).f3), .int .i64 0]) ?_ 4 _ rfl; (with_reducible repeat (first | refine blk_drewN ?_ _ | refine blk_drew ?_ | refine blk_alloc ?_ _)); refine blk_put (cs := #[.string ((rd_T60 l0 x12_1).f0), .int .i64 ((rd_T60 l0 x12_1).f1), .int .i64 ((rd_T60 l0 x12_1).f2), .int .i64 0, .int .i64 0]) ?_ 3 _ rfl; (with_reducible repeat (first | refine blk_drewN ?_ _ | refine blk_drew ?_ | refine blk_alloc ?_ _)); refine blk_put (cs := #[.string ((rd_T60 l0 x12_1).f0), .int .i64 ((rd_T60 l0 x12_1).f1), .int .i64 0, .int .i64 0, .int .i64 0]) ?_ 2 _ rfl; (with_reducible repeat (first | refine blk_drewN ?_ _ | refine blk_drew ?_ | refine blk_alloc ?_ _)); refine blk_put (cs := #[.string ((rd_T60 l0 x12_1).f0), .int .i64 0, .int .i64 0, .int .i64 0, .int .i64 0]) ?_ 1 _ rfl; (with_reducible repeat (first | refine blk_drewN ?_ _ | refine blk_drew ?_ | refine blk_alloc ?_ _)); refine blk_put (cs := #[.string (⟨#[]⟩ : ByteArray), .int .i64 0, .int .i64 0, .int .i64 0, .int .i64 0]) ?_ 0 _ rfl; (with_reducible repeat (first | refine blk_drewN ?_ _ | refine blk_drew ?_ | refine blk_alloc ?_ _)); exact BK324.out) hg (Kd.R_ne HO_7.out BK324.out (by decide))); have n2_ := Aside0.mk (hb); have n3_ := Aside0.mk (ho); clear BK322; clear BK324; clear HB; clear HO_7; have BK322 := n0_; have BK324 := n1_; have HB := n2_; have HO328 := n3_; clear n0_ n1_ n2_ n3_; clear ho hb hg hat))
                  go_roundg k1
                  case measure => have := HK1.out; omega
                  case rel => exact ⟨(y326), (wrap64 (x12_1 + 1)), (by first | rfl | (simp; done) | (simp [*]; done)), H', ⟨by have := HK1.out; omega⟩, ⟨by (with_reducible repeat (first | apply Kd.R_alloc | apply Kd.R_drewN | apply Kd.R_drew)); exact HO328.out⟩, ⟨by (with_reducible repeat (first | refine blk_drewN ?_ _ | refine blk_drew ?_ | refine blk_alloc ?_ _)); exact BK322.out⟩, ⟨by repeat (first | (with_reducible first | exact HB.out | apply below_alloc | apply pw_below_drewN | apply below_drew1 | refine below_set ?_ GE322.out | refine below_set ?_ GE324.out) | exact HB.out)⟩⟩
                · rw [if_neg c10] at H
                  exact absurd H (by simp)
              · rw [if_neg c9] at H
                have c9b0 : decide (x12_1 < (l1_0.length : Int)) = false := decide_eq_false c9
                clear c9
                have H' := Aside0.mk H
                clear H
                have p323 : 0 ≤ (x12_1 : Int) := of_decide_eq_true (by first | (with_reducible assumption) | assumption)
                have q323 : x12_1 < (l0.length : Int) := of_decide_eq_true (by first | (with_reducible assumption) | assumption)
                obtain ⟨ad323, e323, hx323_0, hx323_1, hx323_2, hx323_3, hx323_4⟩ := at_T60 HR0.out x12_1 p323 q323
                cases e323
                replace hx323_0 := (HB.out.cell (World.block_lt_of_cell? w _ hx323_0)).trans hx323_0
                replace hx323_1 := (HB.out.cell (World.block_lt_of_cell? w _ hx323_1)).trans hx323_1
                replace hx323_2 := (HB.out.cell (World.block_lt_of_cell? w _ hx323_2)).trans hx323_2
                replace hx323_3 := (HB.out.cell (World.block_lt_of_cell? w _ hx323_3)).trans hx323_3
                replace hx323_4 := (HB.out.cell (World.block_lt_of_cell? w _ hx323_4)).trans hx323_4
                replace p323 := eq_true p323
                replace q323 := eq_true q323
                go_wp2_with (first | ((with_reducible refine gate_dst (N := 9) rfl ?_); (try (refine gate_guard (by rfl) ?_; dsimp only)); refine box_event ?hg (N := 9) ?hd (cs := #[.string (⟨#[]⟩ : ByteArray), .int .i64 0, .int .i64 0, .int .i64 0, .int .i64 0]) (t := 60) ?hr ?_; (case hd => rfl); (case hg => rfl); (case hr => first | (go_simp; done) | (go_simp; rfl)); intro gb324 hg w16 hbox hb; have n0_ := Aside0.mk (Kd.R_below (by (with_reducible repeat (first | apply Kd.R_alloc | apply Kd.R_drewN | apply Kd.R_drew)); exact HO_7.out) hb); have n1_ := Aside0.mk (blk_below (g := gb322) (o := .cells #[.slice A1_0 l1_0.length c1_0, .slice A1_1 l1_1.length c1_1, .int .i64 a1_2, .int .i64 a1_3] 31 (0, 0)) (by (with_reducible repeat (first | refine blk_drewN ?_ _ | refine blk_drew ?_ | refine blk_alloc ?_ _)); exact BK322.out) hb); have n2_ := Aside0.mk (below_step (by repeat (first | (with_reducible first | exact HB.out | apply below_alloc | apply pw_below_drewN | apply below_drew1 | refine below_set ?_ GE322.out) | exact HB.out)) hb); have n3_ := Aside0.mk (hbox); have n4_ := Aside0.mk ((by rw [hg]; exact (below_size (by repeat (first | (with_reducible first | exact HB.out | apply below_alloc | apply pw_below_drewN | apply below_drew1 | refine below_set ?_ GE322.out) | exact HB.out))) : w.heap.size ≤ gb324)); have n5_ := Aside0.mk ((by rw [hg]; exact (below_size (by repeat (first | (with_reducible first | exact HB.out | apply below_alloc | apply pw_below_drewN | apply below_drew1 | refine below_set ?_ GE322.out) | exact HB.out))) : w.heap.size ≤ gb324)); have n6_ := Aside0.mk ((by rw [hg]; exact Nat.ne_of_lt (blk_lt (g := gb322) (o := .cells #[.slice A1_0 l1_0.length c1_0, .slice A1_1 l1_1.length c1_1, .int .i64 a1_2, .int .i64 a1_3] 31 (0, 0)) (by (with_reducible repeat (first | refine blk_drewN ?_ _ | refine blk_drew ?_ | refine blk_alloc ?_ _)); exact BK322.out)) : gb322 ≠ gb324)); have n7_ := Aside0.mk ((by rw [hg]; exact Nat.ne_of_gt (blk_lt (g := gb322) (o := .cells #[.slice A1_0 l1_0.length c1_0, .slice A1_1 l1_1.length c1_1, .int .i64 a1_2, .int .i64 a1_3] 31 (0, 0)) (by (with_reducible repeat (first | refine blk_drewN ?_ _ | refine blk_drew ?_ | refine blk_alloc ?_ _)); exact BK322.out)) : gb324 ≠ gb322)); clear HO_7; clear BK322; clear HB; have HO_7 := n0_; have BK322 := n1_; have HB := n2_; have BK324 := n3_; have GW324 := n4_; have GE324 := n5_; have NB322_324 := n6_; have NB324_322 := n7_; clear n0_ n1_ n2_ n3_ n4_ n5_ n6_ n7_; clear hb hbox hg; have hnb17 := NB324_322.out; have hnc17 := NB322_324.out; have hcz18_0 : w16.cell? ⟨gb324, 0, none⟩ = some (.string (⟨#[]⟩ : ByteArray)) := (blk_cell BK324.out 0).trans rfl; have hcz18_1 : w16.cell? ⟨gb324, 1, none⟩ = some (.int .i64 0) := (blk_cell BK324.out 1).trans rfl; have hcz18_2 : w16.cell? ⟨gb324, 2, none⟩ = some (.int .i64 0) := (blk_cell BK324.out 2).trans rfl; have hcz18_3 : w16.cell? ⟨gb324, 3, none⟩ = some (.int .i64 0) := (blk_cell BK324.out 3).trans rfl; have hcz18_4 : w16.cell? ⟨gb324, 4, none⟩ = some (.int .i64 0) := (blk_cell BK324.out 4).trans rfl; have hfz18_0 := blk_frozen BK324.out 0; have hfz18_1 := blk_frozen BK324.out 1; have hfz18_2 := blk_frozen BK324.out 2; have hfz18_3 := blk_frozen BK324.out 3; have hfz18_4 := blk_frozen BK324.out 4; have hcz19_0 : w16.cell? ⟨gb322, 0, none⟩ = some (.slice A1_0 l1_0.length c1_0) := (blk_cell BK322.out 0).trans rfl; have hcz19_1 : w16.cell? ⟨gb322, 1, none⟩ = some (.slice A1_1 l1_1.length c1_1) := (blk_cell BK322.out 1).trans rfl; have hcz19_2 : w16.cell? ⟨gb322, 2, none⟩ = some (.int .i64 a1_2) := (blk_cell BK322.out 2).trans rfl; have hcz19_3 : w16.cell? ⟨gb322, 3, none⟩ = some (.int .i64 a1_3) := (blk_cell BK322.out 3).trans rfl; have hfz19_0 := blk_frozen BK322.out 0; have hfz19_1 := blk_frozen BK322.out 1; have hfz19_2 := blk_frozen BK322.out 2; have hfz19_3 := blk_frozen BK322.out 3))
                go_roundg k1
                case measure => have := HK1.out; omega
                case rel => exact ⟨(x7_1), (wrap64 (x12_1 + 1)), (by first | rfl | (simp; done) | (simp [*]; done)), H', ⟨by have := HK1.out; omega⟩, ⟨by (with_reducible repeat (first | apply Kd.R_alloc | apply Kd.R_drewN | apply Kd.R_drew)); exact Kd.R_mono (Kd.R_far (p := ⟨gb324, 4, none⟩) (Kd.R_far (p := ⟨gb324, 3, none⟩) (Kd.R_far (p := ⟨gb324, 2, none⟩) (Kd.R_far (p := ⟨gb324, 1, none⟩) (Kd.R_far (p := ⟨gb324, 0, none⟩) (Kd.R_types HO_7.out BK324.out (by decide)) (fun _ hk => hk.2) (.string ((rd_T60 l0 x12_1).f0))) (fun _ hk => hk.2) (.int .i64 ((rd_T60 l0 x12_1).f1))) (fun _ hk => hk.2) (.int .i64 ((rd_T60 l0 x12_1).f2))) (fun _ hk => hk.2) (.int .i64 ((rd_T60 l0 x12_1).f3))) (fun _ hk => hk.2) (.int .i64 ((rd_T60 l0 x12_1).f4))) (fun _ hk => trivial)⟩, ⟨by (with_reducible repeat (first | refine blk_drewN ?_ _ | refine blk_drew ?_ | refine blk_alloc ?_ _)); refine blk_far ?_ NB322_324.out _; (with_reducible repeat (first | refine blk_drewN ?_ _ | refine blk_drew ?_ | refine blk_alloc ?_ _)); refine blk_far ?_ NB322_324.out _; (with_reducible repeat (first | refine blk_drewN ?_ _ | refine blk_drew ?_ | refine blk_alloc ?_ _)); refine blk_far ?_ NB322_324.out _; (with_reducible repeat (first | refine blk_drewN ?_ _ | refine blk_drew ?_ | refine blk_alloc ?_ _)); refine blk_far ?_ NB322_324.out _; (with_reducible repeat (first | refine blk_drewN ?_ _ | refine blk_drew ?_ | refine blk_alloc ?_ _)); refine blk_far ?_ NB322_324.out _; (with_reducible repeat (first | refine blk_drewN ?_ _ | refine blk_drew ?_ | refine blk_alloc ?_ _)); exact BK322.out⟩, ⟨by repeat (first | (with_reducible first | exact HB.out | apply below_alloc | apply pw_below_drewN | apply below_drew1 | refine below_set ?_ GE322.out | refine below_set ?_ GE324.out) | exact HB.out)⟩⟩
            · rw [if_neg c8] at H
              have c8b0 : (((rd_T60 l0 x12_1).f3) == a2) = false := beq_eq_false_iff_ne.mpr c8
              have c8b1 : (((rd_T60 l0 x12_1).f3) != a2) = true := bne_iff_ne.mpr c8
              have H' := Aside0.mk H
              clear H
              have p323 : 0 ≤ (x12_1 : Int) := of_decide_eq_true (by first | (with_reducible assumption) | assumption)
              have q323 : x12_1 < (l0.length : Int) := of_decide_eq_true (by first | (with_reducible assumption) | assumption)
              obtain ⟨ad323, e323, hx323_0, hx323_1, hx323_2, hx323_3, hx323_4⟩ := at_T60 HR0.out x12_1 p323 q323
              cases e323
              replace hx323_0 := (HB.out.cell (World.block_lt_of_cell? w _ hx323_0)).trans hx323_0
              replace hx323_1 := (HB.out.cell (World.block_lt_of_cell? w _ hx323_1)).trans hx323_1
              replace hx323_2 := (HB.out.cell (World.block_lt_of_cell? w _ hx323_2)).trans hx323_2
              replace hx323_3 := (HB.out.cell (World.block_lt_of_cell? w _ hx323_3)).trans hx323_3
              replace hx323_4 := (HB.out.cell (World.block_lt_of_cell? w _ hx323_4)).trans hx323_4
              replace p323 := eq_true p323
              replace q323 := eq_true q323
              go_wp2_with (first | ((with_reducible refine gate_dst (N := 9) rfl ?_); (try (refine gate_guard (by rfl) ?_; dsimp only)); refine box_event ?hg (N := 9) ?hd (cs := #[.string (⟨#[]⟩ : ByteArray), .int .i64 0, .int .i64 0, .int .i64 0, .int .i64 0]) (t := 60) ?hr ?_; (case hd => rfl); (case hg => rfl); (case hr => first | (go_simp; done) | (go_simp; rfl)); intro gb324 hg w20 hbox hb; have n0_ := Aside0.mk (Kd.R_below (by (with_reducible repeat (first | apply Kd.R_alloc | apply Kd.R_drewN | apply Kd.R_drew)); exact HO_7.out) hb); have n1_ := Aside0.mk (blk_below (g := gb322) (o := .cells #[.slice A1_0 l1_0.length c1_0, .slice A1_1 l1_1.length c1_1, .int .i64 a1_2, .int .i64 a1_3] 31 (0, 0)) (by (with_reducible repeat (first | refine blk_drewN ?_ _ | refine blk_drew ?_ | refine blk_alloc ?_ _)); exact BK322.out) hb); have n2_ := Aside0.mk (below_step (by repeat (first | (with_reducible first | exact HB.out | apply below_alloc | apply pw_below_drewN | apply below_drew1 | refine below_set ?_ GE322.out) | exact HB.out)) hb); have n3_ := Aside0.mk (hbox); have n4_ := Aside0.mk ((by rw [hg]; exact (below_size (by repeat (first | (with_reducible first | exact HB.out | apply below_alloc | apply pw_below_drewN | apply below_drew1 | refine below_set ?_ GE322.out) | exact HB.out))) : w.heap.size ≤ gb324)); have n5_ := Aside0.mk ((by rw [hg]; exact (below_size (by repeat (first | (with_reducible first | exact HB.out | apply below_alloc | apply pw_below_drewN | apply below_drew1 | refine below_set ?_ GE322.out) | exact HB.out))) : w.heap.size ≤ gb324)); have n6_ := Aside0.mk ((by rw [hg]; exact Nat.ne_of_lt (blk_lt (g := gb322) (o := .cells #[.slice A1_0 l1_0.length c1_0, .slice A1_1 l1_1.length c1_1, .int .i64 a1_2, .int .i64 a1_3] 31 (0, 0)) (by (with_reducible repeat (first | refine blk_drewN ?_ _ | refine blk_drew ?_ | refine blk_alloc ?_ _)); exact BK322.out)) : gb322 ≠ gb324)); have n7_ := Aside0.mk ((by rw [hg]; exact Nat.ne_of_gt (blk_lt (g := gb322) (o := .cells #[.slice A1_0 l1_0.length c1_0, .slice A1_1 l1_1.length c1_1, .int .i64 a1_2, .int .i64 a1_3] 31 (0, 0)) (by (with_reducible repeat (first | refine blk_drewN ?_ _ | refine blk_drew ?_ | refine blk_alloc ?_ _)); exact BK322.out)) : gb324 ≠ gb322)); clear HO_7; clear BK322; clear HB; have HO_7 := n0_; have BK322 := n1_; have HB := n2_; have BK324 := n3_; have GW324 := n4_; have GE324 := n5_; have NB322_324 := n6_; have NB324_322 := n7_; clear n0_ n1_ n2_ n3_ n4_ n5_ n6_ n7_; clear hb hbox hg; have hnb21 := NB324_322.out; have hnc21 := NB322_324.out; have hcz22_0 : w20.cell? ⟨gb324, 0, none⟩ = some (.string (⟨#[]⟩ : ByteArray)) := (blk_cell BK324.out 0).trans rfl; have hcz22_1 : w20.cell? ⟨gb324, 1, none⟩ = some (.int .i64 0) := (blk_cell BK324.out 1).trans rfl; have hcz22_2 : w20.cell? ⟨gb324, 2, none⟩ = some (.int .i64 0) := (blk_cell BK324.out 2).trans rfl; have hcz22_3 : w20.cell? ⟨gb324, 3, none⟩ = some (.int .i64 0) := (blk_cell BK324.out 3).trans rfl; have hcz22_4 : w20.cell? ⟨gb324, 4, none⟩ = some (.int .i64 0) := (blk_cell BK324.out 4).trans rfl; have hfz22_0 := blk_frozen BK324.out 0; have hfz22_1 := blk_frozen BK324.out 1; have hfz22_2 := blk_frozen BK324.out 2; have hfz22_3 := blk_frozen BK324.out 3; have hfz22_4 := blk_frozen BK324.out 4))
              go_roundg k1
              case measure => have := HK1.out; omega
              case rel => exact ⟨(x7_1), (wrap64 (x12_1 + 1)), (by first | rfl | (simp; done) | (simp [*]; done)), H', ⟨by have := HK1.out; omega⟩, ⟨by (with_reducible repeat (first | apply Kd.R_alloc | apply Kd.R_drewN | apply Kd.R_drew)); exact Kd.R_mono (Kd.R_far (p := ⟨gb324, 4, none⟩) (Kd.R_far (p := ⟨gb324, 3, none⟩) (Kd.R_far (p := ⟨gb324, 2, none⟩) (Kd.R_far (p := ⟨gb324, 1, none⟩) (Kd.R_far (p := ⟨gb324, 0, none⟩) (Kd.R_types HO_7.out BK324.out (by decide)) (fun _ hk => hk.2) (.string ((rd_T60 l0 x12_1).f0))) (fun _ hk => hk.2) (.int .i64 ((rd_T60 l0 x12_1).f1))) (fun _ hk => hk.2) (.int .i64 ((rd_T60 l0 x12_1).f2))) (fun _ hk => hk.2) (.int .i64 ((rd_T60 l0 x12_1).f3))) (fun _ hk => hk.2) (.int .i64 ((rd_T60 l0 x12_1).f4))) (fun _ hk => trivial)⟩, ⟨by (with_reducible repeat (first | refine blk_drewN ?_ _ | refine blk_drew ?_ | refine blk_alloc ?_ _)); refine blk_far ?_ NB322_324.out _; (with_reducible repeat (first | refine blk_drewN ?_ _ | refine blk_drew ?_ | refine blk_alloc ?_ _)); refine blk_far ?_ NB322_324.out _; (with_reducible repeat (first | refine blk_drewN ?_ _ | refine blk_drew ?_ | refine blk_alloc ?_ _)); refine blk_far ?_ NB322_324.out _; (with_reducible repeat (first | refine blk_drewN ?_ _ | refine blk_drew ?_ | refine blk_alloc ?_ _)); refine blk_far ?_ NB322_324.out _; (with_reducible repeat (first | refine blk_drewN ?_ _ | refine blk_drew ?_ | refine blk_alloc ?_ _)); refine blk_far ?_ NB322_324.out _; (with_reducible repeat (first | refine blk_drewN ?_ _ | refine blk_drew ?_ | refine blk_alloc ?_ _)); exact BK322.out⟩, ⟨by repeat (first | (with_reducible first | exact HB.out | apply below_alloc | apply pw_below_drewN | apply below_drew1 | refine below_set ?_ GE322.out | refine below_set ?_ GE324.out) | exact HB.out)⟩⟩
          · rw [if_neg c7] at H
            exact absurd H (by simp)
        · rw [if_neg c6] at H
          exact absurd H (by simp)
      · rw [if_neg c5] at H
        have c5b0 : decide (x12_1 < (l0.length : Int)) = false := decide_eq_false c5
        clear c5
        obtain rfl := Option.some.inj H
        go_wp2
        go_ret
        exact ⟨_, by first | rfl | (simp [errW_none, errW_some] <;> rfl) | (simp [*, errW_none, errW_some] <;> rfl), by (with_reducible repeat (first | apply Kd.R_alloc | apply Kd.R_drewN | apply Kd.R_drew)); exact HO_7.out, by repeat (first | (with_reducible first | exact HB.out | apply below_alloc | apply pw_below_drewN | apply below_drew1 | refine below_set ?_ GE322.out) | exact HB.out)⟩

/-! ### ladderbackref23_Area: function 29 -/
mutual
def ladderbackref23_Area.l0 : Nat → List (S60) → Int → List Int → Int → List (List Int) → List (S69) → Int → Int → Option (List Int)
  | 0, _, _, _, _, _, _, _, _ => none
  | k + 1, x0, x2, x7, x8, x330000, x330001, x330002, x330003 => if x8 < (x0.length : Int) then (ladderbackref23_Area.j1 k x0 x2 x7 x8 (decide (x8 < (x330000.length : Int))) x330000 x330001 x330002 x330003) else (ladderbackref23_Area.j1 k x0 x2 x7 x8 false x330000 x330001 x330002 x330003)
def ladderbackref23_Area.j1 : Nat → List (S60) → Int → List Int → Int → Bool → List (List Int) → List (S69) → Int → Int → Option (List Int)
  | 0, _, _, _, _, _, _, _, _, _ => none
  | k + 1, x0, x2, x7, x8, x20, x330000, x330001, x330002, x330003 => if x20 = true then (ladderbackref23_Area.l1 k x0 x2 x7 x8 0 x330000 x330001 x330002 x330003) else (some x7)
def ladderbackref23_Area.l1 : Nat → List (S60) → Int → List Int → Int → Int → List (List Int) → List (S69) → Int → Int → Option (List Int)
  | 0, _, _, _, _, _, _, _, _, _ => none
  | k + 1, x0, x2, x7, x8, x9, x330000, x330001, x330002, x330003 => if 0 ≤ x8 then (if x8 < (x330000.length : Int) then (if x9 < ((rd_L1 x330000 x8).length : Int) then (if x8 < (x0.length : Int) then (if ((rd_T60 x0 x8).f3) = x2 then (if 0 ≤ x9 then (if x7.length < 17592186044416 then (ladderbackref23_Area.l1 k x0 x2 (x7 ++ [rd (rd_L1 x330000 x8) x9]) x8 (wrap64 (x9 + 1)) x330000 x330001 x330002 x330003) else (none)) else (none)) else (ladderbackref23_Area.l0 k x0 x2 x7 (wrap64 (x8 + 1)) x330000 x330001 x330002 x330003)) else (none)) else (ladderbackref23_Area.l0 k x0 x2 x7 (wrap64 (x8 + 1)) x330000 x330001 x330002 x330003)) else (none)) else (none)
end
def ladderbackref23_Area.f (k : Nat) (l0 : List (S60)) (l1_0 : List (List Int)) (l1_1 : List (S69)) (a1_2 : Int) (a1_3 : Int) (a2 : Int) : Option (List Int) := ladderbackref23_Area.l0 k l0 a2 ([] : List Int) 0 l1_0 l1_1 a1_2 a1_3
set_option maxHeartbeats 8000000 in
set_option maxRecDepth 100000 in
theorem ladderbackref23_Area.calls (k : Nat) (A0 : Option Addr) (c0 : Nat) (l0 : List (S60)) (A1_0 : Option Addr) (c1_0 : Nat) (l1_0 : List (List Int)) (A1_1 : Option Addr) (c1_1 : Nat) (l1_1 : List (S69)) (a1_2 : Int) (a1_3 : Int) (a2 : Int) (r : List Int) (w : World) (hr0 : Kd.C k60 w A0 l0.length l0) (hc0 : l0.length ≤ c0) (hr1_0 : Kd.C (Kd.slice 3 (Kd.int .i64)) w A1_0 l1_0.length l1_0) (hc1_0 : l1_0.length ≤ c1_0) (hr1_1 : Kd.C k69 w A1_1 l1_1.length l1_1) (hc1_1 : l1_1.length ≤ c1_1) (h : ladderbackref23_Area.f k l0 l1_0 l1_1 a1_2 a1_3 a2 = some r) :
    Calls Try.prog 29 #[.slice A0 l0.length c0, .agg #[.slice A1_0 l1_0.length c1_0, .slice A1_1 l1_1.length c1_1, .int .i64 a1_2, .int .i64 a1_3], .int .i64 a2] w fun e w' => ∃ v0_ : Value, e = .returned (v0_) ∧ Kd.R (Kd.int .i64) 3 w' w.heap.size (fun _ => True) v0_ r ∧ Below w.heap.size w w' := by
  have hu31 := Try.underlying31
  have HR0 := Aside0.mk hr0
  have HC0 := Aside0.mk hc0
  clear hr0 hc0
  have HR1_0 := Aside0.mk hr1_0
  have HC1_0 := Aside0.mk hc1_0
  clear hr1_0 hc1_0
  have HR1_1 := Aside0.mk hr1_1
  have HC1_1 := Aside0.mk hc1_1
  clear hr1_1 hc1_1
  have HB := Aside0.mk (Below.refl w.heap.size w)
  have H : (ladderbackref23_Area.l0 k l0 a2 ([] : List Int) 0 l1_0 l1_1 a1_2 a1_3) = some r := h
  clear h
  have H' := Aside0.mk H
  clear H
  go_enter Try.func29, Try.ntmps29
  go_wp2_with (first | ((with_reducible refine gate_dst (N := 4) rfl ?_); (try (refine gate_guard (by rfl) ?_; dsimp only)); refine box_event ?hg (N := 4) ?hd (cs := #[.slice A1_0 l1_0.length c1_0, .slice A1_1 l1_1.length c1_1, .int .i64 a1_2, .int .i64 a1_3]) (t := 31) ?hr ?_; (case hd => rfl); (case hg => rfl); (case hr => first | (go_simp; done) | (go_simp; rfl)); intro gb329 hg w4 hbox hb; have n0_ := Aside0.mk (below_step (by repeat (first | (with_reducible first | exact HB.out | apply below_alloc | apply pw_below_drewN | apply below_drew1) | exact HB.out)) hb); have n1_ := Aside0.mk (hbox); have n2_ := Aside0.mk ((by rw [hg]; exact (below_size (by repeat (first | (with_reducible first | exact HB.out | apply below_alloc | apply pw_below_drewN | apply below_drew1) | exact HB.out))) : w.heap.size ≤ gb329)); have n3_ := Aside0.mk ((by rw [hg]; exact (below_size (by repeat (first | (with_reducible first | exact HB.out | apply below_alloc | apply pw_below_drewN | apply below_drew1) | exact HB.out))) : w.heap.size ≤ gb329)); clear HB; have HB := n0_; have BK329 := n1_; have GW329 := n2_; have GE329 := n3_; clear n0_ n1_ n2_ n3_; clear hb hbox hg))
  go_loopg [7, 8] k (fun kq v7 v8 w' => ∃ (x7_1 : List Int) (x8_1 : Int), v8 = .int .i64 x8_1 ∧ Aside0 (ladderbackref23_Area.l0 kq l0 a2 x7_1 x8_1 l1_0 l1_1 a1_2 a1_3 = some r) ∧ Aside0 (kq ≤ k) ∧ Aside0 (Kd.R (Kd.int .i64) 3 w' w.heap.size (fun _ => True) v7 x7_1) ∧ Aside0 (w'.heap[gb329]? = some (.cells #[(.slice A1_0 l1_0.length c1_0), (.slice A1_1 l1_1.length c1_1), .int .i64 a1_2, .int .i64 a1_3] 31 (0, 0))) ∧ Aside0 (Below w.heap.size w w'))
  case atStart => exact ⟨(([] : List Int)), (0), (by first | rfl | (simp; done) | (simp [*]; done)), H', ⟨Nat.le_refl _⟩, ⟨by first | exact Kd.R_nil _ _ _ _ _ | exact Kd.N_nil _ _ _ _ _ | exact Kd.V_nil _ _ _ _ _ | exact Kd.Q_nil _ _ _ _ _ | exact Kd.S_nil _ _ _ _ _⟩, ⟨by (with_reducible repeat (first | refine blk_drewN ?_ _ | refine blk_drew ?_ | refine blk_alloc ?_ _)); exact BK329.out⟩, ⟨by repeat (first | (with_reducible first | exact HB.out | apply below_alloc | apply pw_below_drewN | apply below_drew1 | refine below_set ?_ GE329.out) | exact HB.out)⟩⟩
  case round =>
    clear H'
    try clear c1
    try clear c2
    try clear p2
    obtain ⟨x7_1, x8_1, rfl, HA, HK1, HO_7, BK329, HB⟩ := hrel
    cases gk with
    | zero => exact absurd HA.out (by simp [ladderbackref23_Area.l0])
    | succ k1 =>
      have H := HA.out
      clear HA
      simp only [ladderbackref23_Area.l0] at H
      have HC5 := Aside0.mk H
      clear H
      go_upto_region 3 with (fail)
      go_cut [20] (fun v20 wc => ∃ (kq : Nat) (x20_4 : Bool), v20 = .bool x20_4 ∧ Aside0 (ladderbackref23_Area.j1 kq l0 a2 x7_1 x8_1 x20_4 l1_0 l1_1 a1_2 a1_3 = some r) ∧ Aside0 (kq ≤ k1) ∧ Aside0 (Kd.R (Kd.int .i64) 3 wc w.heap.size (fun _ => True) u7 x7_1) ∧ Aside0 (wc.heap[gb329]? = some (.cells #[(.slice A1_0 l1_0.length c1_0), (.slice A1_1 l1_1.length c1_1), .int .i64 a1_2, .int .i64 a1_3] 31 (0, 0))) ∧ Aside0 (Below w.heap.size w wc))
      case first =>
        have H := HC5.out
        clear HC5
        by_cases c6 : x8_1 < (l0.length : Int)
        · rw [if_pos c6] at H
          have c6b0 : decide (x8_1 < (l0.length : Int)) = true := decide_eq_true c6
          clear c6
          (first | rw [c6b0] | (simp only [i64_w, i32_w]; rw [c6b0]) | skip)
          have H' := Aside0.mk H
          clear H
          have hcz7_0 : wr.cell? ⟨gb329, 0, none⟩ = some (.slice A1_0 l1_0.length c1_0) := (blk_cell BK329.out 0).trans rfl
          have hcz7_1 : wr.cell? ⟨gb329, 1, none⟩ = some (.slice A1_1 l1_1.length c1_1) := (blk_cell BK329.out 1).trans rfl
          have hcz7_2 : wr.cell? ⟨gb329, 2, none⟩ = some (.int .i64 a1_2) := (blk_cell BK329.out 2).trans rfl
          have hcz7_3 : wr.cell? ⟨gb329, 3, none⟩ = some (.int .i64 a1_3) := (blk_cell BK329.out 3).trans rfl
          have hfz7_0 := blk_frozen BK329.out 0
          have hfz7_1 := blk_frozen BK329.out 1
          have hfz7_2 := blk_frozen BK329.out 2
          have hfz7_3 := blk_frozen BK329.out 3
          go_wp2
          go_meet
          case rel => exact ⟨_, (decide (x8_1 < (l1_0.length : Int))), (by first | rfl | (simp; done) | (simp [*]; done)), H', ⟨by have := HK1.out; first | omega | exact Nat.le_refl _⟩, ⟨by (with_reducible repeat (first | apply Kd.R_alloc | apply Kd.R_drewN | apply Kd.R_drew)); exact HO_7.out⟩, ⟨by (with_reducible repeat (first | refine blk_drewN ?_ _ | refine blk_drew ?_ | refine blk_alloc ?_ _)); exact BK329.out⟩, ⟨by repeat (first | (with_reducible first | exact HB.out | apply below_alloc | apply pw_below_drewN | apply below_drew1 | refine below_set ?_ GE329.out) | exact HB.out)⟩⟩
        · rw [if_neg c6] at H
          have c6b0 : decide (x8_1 < (l0.length : Int)) = false := decide_eq_false c6
          clear c6
          (first | rw [c6b0] | (simp only [i64_w, i32_w]; rw [c6b0]) | skip)
          have H' := Aside0.mk H
          clear H
          go_wp2
          go_meet
          case rel => exact ⟨_, (false), (by first | rfl | (simp; done) | (simp [*]; done)), H', ⟨by have := HK1.out; first | omega | exact Nat.le_refl _⟩, ⟨by (with_reducible repeat (first | apply Kd.R_alloc | apply Kd.R_drewN | apply Kd.R_drew)); exact HO_7.out⟩, ⟨by (with_reducible repeat (first | refine blk_drewN ?_ _ | refine blk_drew ?_ | refine blk_alloc ?_ _)); exact BK329.out⟩, ⟨by repeat (first | (with_reducible first | exact HB.out | apply below_alloc | apply pw_below_drewN | apply below_drew1 | refine below_set ?_ GE329.out) | exact HB.out)⟩⟩
      case rest =>
        clear HC5
        try clear c1
        try clear c2
        try clear p2
        try clear c6
        try clear c6b0
        try clear hcz7_0
        try clear hcz7_1
        try clear hcz7_2
        try clear hcz7_3
        try clear hfz7_0
        try clear hfz7_1
        try clear hfz7_2
        try clear hfz7_3
        try clear p2
        obtain ⟨kq, x20_4, rfl, HA, HJ4, HO_7, BK329, HB⟩ := hcut
        cases kq with
        | zero => exact absurd HA.out (by simp [ladderbackref23_Area.j1])
        | succ kj4 =>
          have H := HA.out
          clear HA
          simp only [ladderbackref23_Area.j1] at H
          by_cases c8 : x20_4 = true
          · subst c8
            have H1 : (ladderbackref23_Area.l1 kj4 l0 a2 x7_1 x8_1 0 l1_0 l1_1 a1_2 a1_3) = some r := by rw [if_pos rfl] at H; exact H
            clear H
            have H := H1
            clear H1
            have H' := Aside0.mk H
            clear H
            go_wp2
            go_loopg [7, 9] kj4 (fun kq v7 v9 w' => ∃ (x7_3 : List Int) (x9_3 : Int), v9 = .int .i64 x9_3 ∧ Aside0 (ladderbackref23_Area.l1 kq l0 a2 x7_3 x8_1 x9_3 l1_0 l1_1 a1_2 a1_3 = some r) ∧ Aside0 (kq ≤ kj4) ∧ Aside0 (Kd.R (Kd.int .i64) 3 w' w.heap.size (fun _ => True) v7 x7_3) ∧ Aside0 (w'.heap[gb329]? = some (.cells #[(.slice A1_0 l1_0.length c1_0), (.slice A1_1 l1_1.length c1_1), .int .i64 a1_2, .int .i64 a1_3] 31 (0, 0))) ∧ Aside0 (Below w.heap.size w w'))
            case atStart => exact ⟨(x7_1), (0), (by first | rfl | (simp; done) | (simp [*]; done)), H', ⟨Nat.le_refl _⟩, ⟨by (with_reducible repeat (first | apply Kd.R_alloc | apply Kd.R_drewN | apply Kd.R_drew)); exact HO_7.out⟩, ⟨by (with_reducible repeat (first | refine blk_drewN ?_ _ | refine blk_drew ?_ | refine blk_alloc ?_ _)); exact BK329.out⟩, ⟨by repeat (first | (with_reducible first | exact HB.out | apply below_alloc | apply pw_below_drewN | apply below_drew1 | refine below_set ?_ GE329.out) | exact HB.out)⟩⟩
            case round =>
              clear H'
              try clear c1
              try clear c2
              try clear p2
              try clear c6
              try clear c6b0
              try clear c8
              try clear hcz7_0
              try clear hcz7_1
              try clear hcz7_2
              try clear hcz7_3
              try clear hfz7_0
              try clear hfz7_1
              try clear hfz7_2
              try clear hfz7_3
              try clear p2
              obtain ⟨x7_3, x9_3, rfl, HA, HK3, HO_7, BK329, HB⟩ := hrel
              cases gk with
              | zero => exact absurd HA.out (by simp [ladderbackref23_Area.l1])
              | succ k3 =>
                have H := HA.out
                clear HA
                simp only [ladderbackref23_Area.l1] at H
                by_cases c9 : 0 ≤ x8_1
                · rw [if_pos c9] at H
                  have c9b0 : decide (0 ≤ x8_1) = true := decide_eq_true c9
                  clear c9
                  by_cases c10 : x8_1 < (l1_0.length : Int)
                  · rw [if_pos c10] at H
                    have c10b0 : decide (x8_1 < (l1_0.length : Int)) = true := decide_eq_true c10
                    clear c10
                    by_cases c11 : x9_3 < ((rd_L1 l1_0 x8_1).length : Int)
                    · rw [if_pos c11] at H
                      have c11b0 : decide (x9_3 < ((rd_L1 l1_0 x8_1).length : Int)) = true := decide_eq_true c11
                      clear c11
                      by_cases c12 : x8_1 < (l0.length : Int)
                      · rw [if_pos c12] at H
                        have c12b0 : decide (x8_1 < (l0.length : Int)) = true := decide_eq_true c12
                        clear c12
                        by_cases c13 : ((rd_T60 l0 x8_1).f3) = a2
                        · rw [if_pos c13] at H
                          have c13b0 : (((rd_T60 l0 x8_1).f3) == a2) = true := beq_iff_eq.mpr c13
                          have c13b1 : (((rd_T60 l0 x8_1).f3) != a2) = false := bne_eq_false_iff_eq.mpr c13
                          clear c13
                          by_cases c14 : 0 ≤ x9_3
                          · rw [if_pos c14] at H
                            have c14b0 : decide (0 ≤ x9_3) = true := decide_eq_true c14
                            clear c14
                            by_cases c15 : x7_3.length < 17592186044416
                            · rw [if_pos c15] at H
                              have LMc15 := Aside0.mk c15
                              clear c15
                              obtain ⟨y334, hy334⟩ : ∃ y_ : List Int, y_ = (x7_3 ++ [rd (rd_L1 l1_0 x8_1) x9_3]) := ⟨_, rfl⟩
                              replace H : (ladderbackref23_Area.l1 k3 l0 a2 y334 x8_1 (wrap64 (x9_3 + 1)) l1_0 l1_1 a1_2 a1_3) = some r := by first | (rw [hy334]; with_reducible exact H) | (have H2_ := (Option.bind_some _ _).symm.trans H; rw [hy334]; with_reducible exact H2_) | (have H2_ := (Option.bind_some _ _).symm.trans H; with_reducible exact H2_) | with_reducible exact H | (rw [hy334]; exact H) | exact H
                              have Ny334 := Aside0.mk hy334
                              clear hy334
                              have H' := Aside0.mk H
                              clear H
                              have hcz16_0 : wr.cell? ⟨gb329, 0, none⟩ = some (.slice A1_0 l1_0.length c1_0) := (blk_cell BK329.out 0).trans rfl
                              have hcz16_1 : wr.cell? ⟨gb329, 1, none⟩ = some (.slice A1_1 l1_1.length c1_1) := (blk_cell BK329.out 1).trans rfl
                              have hcz16_2 : wr.cell? ⟨gb329, 2, none⟩ = some (.int .i64 a1_2) := (blk_cell BK329.out 2).trans rfl
                              have hcz16_3 : wr.cell? ⟨gb329, 3, none⟩ = some (.int .i64 a1_3) := (blk_cell BK329.out 3).trans rfl
                              have hfz16_0 := blk_frozen BK329.out 0
                              have hfz16_1 := blk_frozen BK329.out 1
                              have hfz16_2 := blk_frozen BK329.out 2
                              have hfz16_3 := blk_frozen BK329.out 3
                              have p330 : 0 ≤ (x8_1 : Int) := of_decide_eq_true (by first | (with_reducible assumption) | assumption)
                              have q330 : x8_1 < (l1_0.length : Int) := of_decide_eq_true (by first | (with_reducible assumption) | assumption)
                              obtain ⟨ad330, A330_0, c330_0, e330, hx330_0, hl330_0, hi330_0⟩ := at_L1 HR1_0.out x8_1 p330 q330
                              cases e330
                              replace hx330_0 := (HB.out.cell (World.block_lt_of_cell? w _ hx330_0)).trans hx330_0
                              have HR330_0 := Aside0.mk hi330_0
                              have HC330_0 := Aside0.mk hl330_0
                              clear hi330_0 hl330_0
                              replace p330 := eq_true p330
                              replace q330 := eq_true q330
                              have p331 : 0 ≤ (x8_1 : Int) := of_decide_eq_true (by first | (with_reducible assumption) | assumption)
                              have q331 : x8_1 < (l0.length : Int) := of_decide_eq_true (by first | (with_reducible assumption) | assumption)
                              obtain ⟨ad331, e331, hx331_0, hx331_1, hx331_2, hx331_3, hx331_4⟩ := at_T60 HR0.out x8_1 p331 q331
                              cases e331
                              replace hx331_0 := (HB.out.cell (World.block_lt_of_cell? w _ hx331_0)).trans hx331_0
                              replace hx331_1 := (HB.out.cell (World.block_lt_of_cell? w _ hx331_1)).trans hx331_1
                              replace hx331_2 := (HB.out.cell (World.block_lt_of_cell? w _ hx331_2)).trans hx331_2
                              replace hx331_3 := (HB.out.cell (World.block_lt_of_cell? w _ hx331_3)).trans hx331_3
                              replace hx331_4 := (HB.out.cell (World.block_lt_of_cell? w _ hx331_4)).trans hx331_4
                              replace p331 := eq_true p331
                              replace q331 := eq_true q331
                              have p332 : 0 ≤ (x8_1 : Int) := of_decide_eq_true (by first | (with_reducible assumption) | assumption)
                              have q332 : x8_1 < (l1_0.length : Int) := of_decide_eq_true (by first | (with_reducible assumption) | assumption)
                              obtain ⟨ad332, A332_0, c332_0, e332, hx332_0, hl332_0, hi332_0⟩ := at_L1 HR1_0.out x8_1 p332 q332
                              obtain rfl : ad330 = ad332 := (by injection e332)
                              replace hx332_0 := (HB.out.cell (World.block_lt_of_cell? w _ hx332_0)).trans hx332_0
                              have HR332_0 := Aside0.mk hi332_0
                              have HC332_0 := Aside0.mk hl332_0
                              clear hi332_0 hl332_0
                              replace p332 := eq_true p332
                              replace q332 := eq_true q332
                              have ea_ := Option.some.inj (hx330_0.symm.trans hx332_0)
                              injection ea_ with ea_ en_ ec_
                              subst ea_
                              subst ec_
                              clear en_
                              have p333 : 0 ≤ (x9_3 : Int) := of_decide_eq_true (by first | (with_reducible assumption) | assumption)
                              have q333 : x9_3 < ((rd_L1 l1_0 x8_1).length : Int) := of_decide_eq_true (by first | (with_reducible assumption) | assumption)
                              obtain ⟨ad333, e333, hx333_0⟩ := Kd.at_int HR332_0.out x9_3 p333 q333
                              cases e333
                              replace hx333_0 := (HB.out.cell (World.block_lt_of_cell? w _ hx333_0)).trans hx333_0
                              replace p333 := eq_true p333
                              replace q333 := eq_true q333
                              go_wp2_with (first | ((with_reducible refine gate_builtin (b := .append) (xs := #[.tmp 42, .tmp 51]) rfl ?_); (try (refine gate_guard (by rfl) ?_; dsimp only)); at_builtin; refine Kd.R_append (Kd.int .i64) (w0 := w) w.heap.size rfl (.tmp 42) (.tmp 51) 32 3 (.int .i64 0) 8 rfl Try.underlying32 info3 rfl (by decide) (by omega) u7 x7_3 (rd (rd_L1 l1_0 x8_1) x9_3) [.int .i64 (rd (rd_L1 l1_0 x8_1) x9_3)] (fun _ => True) (fun _ => False) rfl rfl ?aP (fun _ hk => hk.elim) ?aF ?aO ?aB ?aS ?aL ?_; (case aP => exact rfl); (case aB => exact (by repeat (first | (with_reducible first | exact HB.out | apply below_alloc | apply pw_below_drewN | apply below_drew1 | refine below_set ?_ GE329.out) | exact HB.out))); (case aF => exact (fun _ _ => trivial)); (case aO => exact (by (with_reducible repeat (first | apply Kd.R_alloc | apply Kd.R_drewN | apply Kd.R_drew)); exact HO_7.out)); (case aS => exact (below_size (by repeat (first | (with_reducible first | exact HB.out | apply below_alloc | apply pw_below_drewN | apply below_drew1 | refine below_set ?_ GE329.out) | exact HB.out)))); (case aL => have := LMc15.out; omega); intro v335 w17 ho hb hg hat; rw [← Ny334.out] at ho; have n0_ := Aside0.mk (blk_grown (g := gb329) (o := .cells #[.slice (some ad330) l1_0.length c1_0, .slice A1_1 l1_1.length c1_1, .int .i64 a1_2, .int .i64 a1_3] 31 (0, 0)) (by (with_reducible repeat (first | refine blk_drewN ?_ _ | refine blk_drew ?_ | refine blk_alloc ?_ _)); exact BK329.out) hg (Kd.R_ne HO_7.out BK329.out (by decide))); have n1_ := Aside0.mk (hb); have n2_ := Aside0.mk (ho); clear BK329; clear HB; clear HO_7; have BK329 := n0_; have HB := n1_; have HO336 := n2_; clear n0_ n1_ n2_; clear ho hb hg hat))
                              go_roundg k3
                              case measure => have := HK1.out; have := HJ4.out; have := HK3.out; omega
                              case rel => exact ⟨(y334), (wrap64 (x9_3 + 1)), (by first | rfl | (simp; done) | (simp [*]; done)), H', ⟨by have := HK1.out; have := HJ4.out; have := HK3.out; omega⟩, ⟨by (with_reducible repeat (first | apply Kd.R_alloc | apply Kd.R_drewN | apply Kd.R_drew)); exact HO336.out⟩, ⟨by (with_reducible repeat (first | refine blk_drewN ?_ _ | refine blk_drew ?_ | refine blk_alloc ?_ _)); exact BK329.out⟩, ⟨by repeat (first | (with_reducible first | exact HB.out | apply below_alloc | apply pw_below_drewN | apply below_drew1 | refine below_set ?_ GE329.out) | exact HB.out)⟩⟩
                            · rw [if_neg c15] at H
                              exact absurd H (by simp)
                          · rw [if_neg c14] at H
                            exact absurd H (by simp)
                        · rw [if_neg c13] at H
                          have c13b0 : (((rd_T60 l0 x8_1).f3) == a2) = false := beq_eq_false_iff_ne.mpr c13
                          have c13b1 : (((rd_T60 l0 x8_1).f3) != a2) = true := bne_iff_ne.mpr c13
                          have H' := Aside0.mk H
                          clear H
                          have hcz18_0 : wr.cell? ⟨gb329, 0, none⟩ = some (.slice A1_0 l1_0.length c1_0) := (blk_cell BK329.out 0).trans rfl
                          have hcz18_1 : wr.cell? ⟨gb329, 1, none⟩ = some (.slice A1_1 l1_1.length c1_1) := (blk_cell BK329.out 1).trans rfl
                          have hcz18_2 : wr.cell? ⟨gb329, 2, none⟩ = some (.int .i64 a1_2) := (blk_cell BK329.out 2).trans rfl
                          have hcz18_3 : wr.cell? ⟨gb329, 3, none⟩ = some (.int .i64 a1_3) := (blk_cell BK329.out 3).trans rfl
                          have hfz18_0 := blk_frozen BK329.out 0
                          have hfz18_1 := blk_frozen BK329.out 1
                          have hfz18_2 := blk_frozen BK329.out 2
                          have hfz18_3 := blk_frozen BK329.out 3
                          have p330 : 0 ≤ (x8_1 : Int) := of_decide_eq_true (by first | (with_reducible assumption) | assumption)
                          have q330 : x8_1 < (l1_0.length : Int) := of_decide_eq_true (by first | (with_reducible assumption) | assumption)
                          obtain ⟨ad330, A330_0, c330_0, e330, hx330_0, hl330_0, hi330_0⟩ := at_L1 HR1_0.out x8_1 p330 q330
                          cases e330
                          replace hx330_0 := (HB.out.cell (World.block_lt_of_cell? w _ hx330_0)).trans hx330_0
                          have HR330_0 := Aside0.mk hi330_0
                          have HC330_0 := Aside0.mk hl330_0
                          clear hi330_0 hl330_0
                          replace p330 := eq_true p330
                          replace q330 := eq_true q330
                          have p331 : 0 ≤ (x8_1 : Int) := of_decide_eq_true (by first | (with_reducible assumption) | assumption)
                          have q331 : x8_1 < (l0.length : Int) := of_decide_eq_true (by first | (with_reducible assumption) | assumption)
                          obtain ⟨ad331, e331, hx331_0, hx331_1, hx331_2, hx331_3, hx331_4⟩ := at_T60 HR0.out x8_1 p331 q331
                          cases e331
                          replace hx331_0 := (HB.out.cell (World.block_lt_of_cell? w _ hx331_0)).trans hx331_0
                          replace hx331_1 := (HB.out.cell (World.block_lt_of_cell? w _ hx331_1)).trans hx331_1
                          replace hx331_2 := (HB.out.cell (World.block_lt_of_cell? w _ hx331_2)).trans hx331_2
                          replace hx331_3 := (HB.out.cell (World.block_lt_of_cell? w _ hx331_3)).trans hx331_3
                          replace hx331_4 := (HB.out.cell (World.block_lt_of_cell? w _ hx331_4)).trans hx331_4
                          replace p331 := eq_true p331
                          replace q331 := eq_true q331
                          go_wp2
                          go_roundg k3
                          case measure => have := HK1.out; have := HJ4.out; have := HK3.out; omega
                          case rel => exact ⟨(x7_3), (wrap64 (x8_1 + 1)), (by first | rfl | (simp; done) | (simp [*]; done)), H', ⟨by have := HK1.out; have := HJ4.out; have := HK3.out; omega⟩, ⟨by (with_reducible repeat (first | apply Kd.R_alloc | apply Kd.R_drewN | apply Kd.R_drew)); exact HO_7.out⟩, ⟨by (with_reducible repeat (first | refine blk_drewN ?_ _ | refine blk_drew ?_ | refine blk_alloc ?_ _)); exact BK329.out⟩, ⟨by repeat (first | (with_reducible first | exact HB.out | apply below_alloc | apply pw_below_drewN | apply below_drew1 | refine below_set ?_ GE329.out) | exact HB.out)⟩⟩
                      · rw [if_neg c12] at H
                        exact absurd H (by simp)
                    · rw [if_neg c11] at H
                      have c11b0 : decide (x9_3 < ((rd_L1 l1_0 x8_1).length : Int)) = false := decide_eq_false c11
                      clear c11
                      have H' := Aside0.mk H
                      clear H
                      have hcz19_0 : wr.cell? ⟨gb329, 0, none⟩ = some (.slice A1_0 l1_0.length c1_0) := (blk_cell BK329.out 0).trans rfl
                      have hcz19_1 : wr.cell? ⟨gb329, 1, none⟩ = some (.slice A1_1 l1_1.length c1_1) := (blk_cell BK329.out 1).trans rfl
                      have hcz19_2 : wr.cell? ⟨gb329, 2, none⟩ = some (.int .i64 a1_2) := (blk_cell BK329.out 2).trans rfl
                      have hcz19_3 : wr.cell? ⟨gb329, 3, none⟩ = some (.int .i64 a1_3) := (blk_cell BK329.out 3).trans rfl
                      have hfz19_0 := blk_frozen BK329.out 0
                      have hfz19_1 := blk_frozen BK329.out 1
                      have hfz19_2 := blk_frozen BK329.out 2
                      have hfz19_3 := blk_frozen BK329.out 3
                      have p330 : 0 ≤ (x8_1 : Int) := of_decide_eq_true (by first | (with_reducible assumption) | assumption)
                      have q330 : x8_1 < (l1_0.length : Int) := of_decide_eq_true (by first | (with_reducible assumption) | assumption)
                      obtain ⟨ad330, A330_0, c330_0, e330, hx330_0, hl330_0, hi330_0⟩ := at_L1 HR1_0.out x8_1 p330 q330
                      cases e330
                      replace hx330_0 := (HB.out.cell (World.block_lt_of_cell? w _ hx330_0)).trans hx330_0
                      have HR330_0 := Aside0.mk hi330_0
                      have HC330_0 := Aside0.mk hl330_0
                      clear hi330_0 hl330_0
                      replace p330 := eq_true p330
                      replace q330 := eq_true q330
                      go_wp2
                      go_roundg k3
                      case measure => have := HK1.out; have := HJ4.out; have := HK3.out; omega
                      case rel => exact ⟨(x7_3), (wrap64 (x8_1 + 1)), (by first | rfl | (simp; done) | (simp [*]; done)), H', ⟨by have := HK1.out; have := HJ4.out; have := HK3.out; omega⟩, ⟨by (with_reducible repeat (first | apply Kd.R_alloc | apply Kd.R_drewN | apply Kd.R_drew)); exact HO_7.out⟩, ⟨by (with_reducible repeat (first | refine blk_drewN ?_ _ | refine blk_drew ?_ | refine blk_alloc ?_ _)); exact BK329.out⟩, ⟨by repeat (first | (with_reducible first | exact HB.out | apply below_alloc | apply pw_below_drewN | apply below_drew1 | refine below_set ?_ GE329.out) | exact HB.out)⟩⟩
                  · rw [if_neg c10] at H
                    exact absurd H (by simp)
                · rw [if_neg c9] at H
                  exact absurd H (by simp)
          · replace c8 := Bool.eq_false_iff.mpr c8
            subst c8
            have H1 : (some x7_1) = some r := by rw [if_neg (show ¬ (false = true) by decide)] at H; exact H
            clear H
            have H := H1
            clear H1
            obtain rfl := Option.some.inj H
            go_wp2
            go_ret
            exact ⟨_, by first | rfl | (simp [errW_none, errW_some] <;> rfl) | (simp [*, errW_none, errW_some] <;> rfl), by (with_reducible repeat (first | apply Kd.R_alloc | apply Kd.R_drewN | apply Kd.R_drew)); exact HO_7.out, by repeat (first | (with_reducible first | exact HB.out | apply below_alloc | apply pw_below_drewN | apply below_drew1 | refine below_set ?_ GE329.out) | exact HB.out)⟩

end Go.Proofs.Ytamajfcjcfkkjaa.PSt
end

section
/- state.Same, walked by hand: whether two states are the same; any two. -/
namespace Go.Proofs.Ytamajfcjcfkkjaa.Given
set_option linter.unusedVariables false
set_option linter.unusedSimpArgs false
open Go.RowKit Go.Proofs.Ytamajfcjcfkkjaa.PSt Go.Proofs.Ytamajfcjcfkkjaa.RPure Go.Proofs.YtamajfcjcfkkjaaW.PrintWords Go.Proofs.YtamajfcjcfkkjaaW.PrintLast Go.Proofs.YtamajfcjcfkkjaaW.PrintMore
def instA (x : S69) : Array Value := #[.int .i64 x.f0.f0, .int .i64 x.f0.f1, .int .i64 x.f0.f2, .int .i64 x.f0.f3, .int .i64 x.f0.f4, .int .i64 x.f0.f5, .int .i64 x.f0.f6, .int .i64 x.f0.f7, .int .i64 x.f0.f8, .int .i64 x.f0.f9]
attribute [local go_sem high] eqA69
/-- Two boxes, in a later world. -/
structure TwoB (w W : World) (t : Nat) (cs ds : Array Value) : Prop where
  below : Below w.heap.size w W
  a : W.heap[w.heap.size]? = some (.cells cs t (0, 0))
  b : W.heap[w.heap.size + 1]? = some (.cells ds t (0, 0))
theorem TwoB.step {w W W2 : World} {t : Nat} {cs ds : Array Value} (h : TwoB w W t cs ds) (hb : Below W.heap.size W W2) : TwoB w W2 t cs ds :=
  ⟨h.below.trans (hb.mono h.below.size), (hb.block _ (blk_lt h.a)).trans h.a, (hb.block _ (blk_lt h.b)).trans h.b⟩
theorem below_row {w : World} {t : Nat} (cs ds : Array Value) : Below w.heap.size w ((w.alloc (.cells cs t)).setRow w.heap.size ds) :=
  below_setRow ((Below.refl _ _).alloc (Nat.le_refl _) _) (Nat.le_refl _) _
set_option maxHeartbeats 4000000 in
theorem same_w (A0 A1 A2 A3 : Option Addr) (c0 c1 c2 c3 : Nat) (V W : LL) (B C : LI) (n f n2 f2 : Int) (w : World)
    (g0 : Kd.C (Kd.slice 3 (Kd.int .i64)) w A0 V.length V) (l0 : V.length ≤ c0) (g1 : Kd.C k69 w A1 B.length B) (l1 : B.length ≤ c1)
    (g2 : Kd.C (Kd.slice 3 (Kd.int .i64)) w A2 W.length W) (l2 : W.length ≤ c2) (g3 : Kd.C k69 w A3 C.length C) (l3 : C.length ≤ c3) :
    Calls Try.prog 30 #[.agg #[.slice A0 V.length c0, .slice A1 B.length c1, .int .i64 n, .int .i64 f], .agg #[.slice A2 W.length c2, .slice A3 C.length c3, .int .i64 n2, .int .i64 f2]] w fun e w' => e = .returned (.bool (eqB (V, B, n, f) (W, C, n2, f2))) ∧ Below w.heap.size w w' := by
  have HX := Aside0.mk (show TwoB w ((w.alloc (.cells #[.slice A0 V.length c0, .slice A1 B.length c1, .int .i64 n, .int .i64 f] 31)).alloc (.cells #[.slice A2 W.length c2, .slice A3 C.length c3, .int .i64 n2, .int .i64 f2] 31)) 31 #[.slice A0 V.length c0, .slice A1 B.length c1, .int .i64 n, .int .i64 f] #[.slice A2 W.length c2, .slice A3 C.length c3, .int .i64 n2, .int .i64 f2] from ⟨((Below.refl w.heap.size w).alloc (Nat.le_refl _) _).alloc (by simp) _, heap_alloc2_old w _ _, heap_alloc2_new w _ _⟩)
  have G0 := Aside0.mk g0
  have G1 := Aside0.mk g1
  have G2 := Aside0.mk g2
  have G3 := Aside0.mk g3
  have hm1 := g1.2.1
  have hi : (Try.prog.info? 69).map (·.size) = some 10 := by kernel_rfl
  clear g0 g1 g2 g3
  have LL4 := Aside0.mk (And.intro l0 (And.intro l1 (And.intro l2 l3)))
  clear l0 l1 l2 l3
  by_cases h1 : n = n2
  · by_cases h2 : f = f2
    · by_cases h3 : B.length = C.length
      · subst h1 h2
        obtain ⟨N, hB⟩ : ∃ N, B.length = N := ⟨_, rfl⟩
        have hC : C.length = N := by omega
        rw [hB] at HX hm1 G1 ⊢
        rw [hC] at HX G3 ⊢
        have HN := Aside0.mk (And.intro hB hC)
        clear h3 hB hC
        go_enter Try.func30, Try.ntmps30
        go_wp2_with fail
        generalize ((w.alloc (.cells #[.slice A0 V.length c0, .slice A1 N c1, .int .i64 n, .int .i64 f] 31)).alloc (.cells #[.slice A2 W.length c2, .slice A3 N c3, .int .i64 n, .int .i64 f] 31)) = w1 at *
        go_loopw [31] (fun x wr => ∃ j : Nat, j ≤ N ∧ x = .int .i64 j ∧ Aside0 (∀ k, k < j → B[k]? = C[k]?) ∧ Aside0 (TwoB w wr 31 #[.slice A0 V.length c0, .slice A1 N c1, .int .i64 n, .int .i64 f] #[.slice A2 W.length c2, .slice A3 N c3, .int .i64 n, .int .i64 f])) (fun x _ => N - (intOf x).toNat)
        case atStart => exact ⟨0, Nat.zero_le _, rfl, ⟨fun k hk => by omega⟩, HX⟩
        case round =>
          clear HX
          obtain ⟨j, hj, rfl, HE, HX⟩ := hrel
          by_cases hlt : j < N
          · obtain ⟨ad, rfl, k0, k1, k2, k3, k4, k5, k6, k7, k8, k9⟩ := at_T69 (Kd.C_below G1.out HX.out.below) (j : Int) (by omega) (by omega)
            rw [Int.toNat_natCast] at k0 k1 k2 k3 k4 k5 k6 k7 k8 k9
            go_wp2_with ((with_reducible refine gate_store (t := 69) (p := 6) (v := .tmp 35) rfl ?_); refine wpList_store_row rfl 69 (.tmp 6) (.tmp 35) rfl wr.heap.size (instA (rd_T69 B j)) rfl rfl 69 _ (heap_alloc_new wr _) (by rw [hi]; rfl) rfl (by kernel_rfl) ?_)
            obtain ⟨W2, hW2⟩ : ∃ W2, W2 = (wr.alloc (.cells #[.int .i64 0, .int .i64 0, .int .i64 0, .int .i64 0, .int .i64 0, .int .i64 0, .int .i64 0, .int .i64 0, .int .i64 0, .int .i64 0] 69)).setRow wr.heap.size (instA (rd_T69 B j)) := ⟨_, rfl⟩
            have hb2 : Below wr.heap.size wr W2 := hW2 ▸ below_row _ _
            have hr2 : W2.heap[wr.heap.size]? = some (.cells (instA (rd_T69 B j)) 69 (0, 0)) := hW2 ▸ setRow_heap _ _ _ _ _ _ (heap_alloc_new wr _)
            rw [← hW2]
            have HX2 := Aside0.mk (HX.out.step hb2)
            clear hW2 k0 k1 k2 k3 k4 k5 k6 k7 k8 k9
            obtain ⟨ad3, rfl, k0, k1, k2, k3, k4, k5, k6, k7, k8, k9⟩ := at_T69 (Kd.C_below G3.out HX2.out.below) (j : Int) (by omega) (by omega)
            rw [Int.toNat_natCast] at k0 k1 k2 k3 k4 k5 k6 k7 k8 k9
            have r0 : W2.cell? ⟨wr.heap.size, 0, none⟩ = some (.int .i64 (rd_T69 B j).f0.f0) := (blk_cell hr2 0).trans rfl
            have r1 : W2.cell? ⟨wr.heap.size, 1, none⟩ = some (.int .i64 (rd_T69 B j).f0.f1) := (blk_cell hr2 1).trans rfl
            have r2 : W2.cell? ⟨wr.heap.size, 2, none⟩ = some (.int .i64 (rd_T69 B j).f0.f2) := (blk_cell hr2 2).trans rfl
            have r3 : W2.cell? ⟨wr.heap.size, 3, none⟩ = some (.int .i64 (rd_T69 B j).f0.f3) := (blk_cell hr2 3).trans rfl
            have r4 : W2.cell? ⟨wr.heap.size, 4, none⟩ = some (.int .i64 (rd_T69 B j).f0.f4) := (blk_cell hr2 4).trans rfl
            have r5 : W2.cell? ⟨wr.heap.size, 5, none⟩ = some (.int .i64 (rd_T69 B j).f0.f5) := (blk_cell hr2 5).trans rfl
            have r6 : W2.cell? ⟨wr.heap.size, 6, none⟩ = some (.int .i64 (rd_T69 B j).f0.f6) := (blk_cell hr2 6).trans rfl
            have r7 : W2.cell? ⟨wr.heap.size, 7, none⟩ = some (.int .i64 (rd_T69 B j).f0.f7) := (blk_cell hr2 7).trans rfl
            have r8 : W2.cell? ⟨wr.heap.size, 8, none⟩ = some (.int .i64 (rd_T69 B j).f0.f8) := (blk_cell hr2 8).trans rfl
            have r9 : W2.cell? ⟨wr.heap.size, 9, none⟩ = some (.int .i64 (rd_T69 B j).f0.f9) := (blk_cell hr2 9).trans rfl
            have q0 : W2.cell? ⟨w.heap.size + 1, 1, none⟩ = some (.slice (some ad3) N c3) := (blk_cell HX2.out.b 1).trans rfl
            clear hr2 hb2
            have hlb : j < B.length := by have := HN.out; omega
            have hlc : j < C.length := by have := HN.out; omega
            by_cases he : B[j] = C[j]
            · have hq := inst_eq (rd_T69 B j) (rd_T69 C j)
              rw [rdI B j hlb, rdI C j hlc] at *
              rw [he, eqB_self, Bool.not_true] at hq
              repeat (go_quiet (fail); try go_wp2)
              refine ⟨⟨j + 1, by omega, rfl, ⟨fun k hk => ?_⟩, ⟨HX2.out.step (pw_below_drewN (Below.refl _ _) nq)⟩⟩, by simp [intOf]; omega⟩
              rcases (by omega : k < j ∨ k = j) with h | rfl
              · exact HE.out k h
              · rw [List.getElem?_eq_getElem hlb, List.getElem?_eq_getElem hlc, he]
            · have hq := inst_eq (rd_T69 B j) (rd_T69 C j)
              rw [rdI B j hlb, rdI C j hlc] at *
              rw [eqB_ne he, Bool.not_false] at hq
              have hv := Aside0.mk (eqB_ne (x := (V, B, n, f)) (y := (W, C, n, f)) (fun e => he (by have e2 : B = C := (Prod.mk.inj (Prod.mk.inj e).2).1; subst e2; rfl)))
              repeat (go_quiet (fail); try go_wp2)
              go_ret
              rw [hv.out]
              exact ⟨rfl, pw_below_drewN HX2.out.below _⟩
          · have hge : ¬ (j : Int) < N := by omega
            have q0 : wr.cell? ⟨w.heap.size, 0, none⟩ = some (.slice A0 V.length c0) := (blk_cell HX.out.a 0).trans rfl
            have q1 : wr.cell? ⟨w.heap.size + 1, 0, none⟩ = some (.slice A2 W.length c2) := (blk_cell HX.out.b 0).trans rfl
            go_wp2_with fail
            refine (equalFunc_w A0 A2 c0 c2 V W wr (Kd.C_below G0.out HX.out.below) LL4.out.1 (Kd.C_below G2.out HX.out.below) LL4.out.2.2.1).mono ?_
            rintro e w2 ⟨rfl, m, rfl⟩
            go_wp2_with fail
            go_ret
            have hn := HN.out
            have hBC : B = C := by
              refine List.ext_getElem? fun k => ?_
              rcases Nat.lt_or_ge k N with h | h
              · exact HE.out k (by omega)
              · rw [List.getElem?_eq_none (by omega), List.getElem?_eq_none (by omega)]
            subst hBC
            have hv : eqB (V, B, n, f) (W, B, n, f) = decide (V = W) := by
              rw [eqB_dec, Bool.eq_iff_iff, eqB_iff, eqB_iff]
              simp
            rw [hv]
            exact ⟨rfl, pw_below_drewN HX.out.below m⟩
      · subst h1 h2
        have b3 : ((B.length : Int) != (C.length : Int)) = true := by simp; omega
        rw [eqB_ne (fun e => h3 (by rw [(Prod.mk.inj (Prod.mk.inj e).2).1]))]
        clear h3
        go_enter Try.func30, Try.ntmps30
        go_wp2_with fail
        go_ret
        exact ⟨rfl, HX.out.below⟩
    · subst h1
      have b2 : (f != f2) = true := by simp [h2]
      rw [eqB_ne (fun e => h2 (Prod.mk.inj (Prod.mk.inj (Prod.mk.inj e).2).2).2)]
      clear h2
      go_enter Try.func30, Try.ntmps30
      go_wp2_with fail
      go_ret
      exact ⟨rfl, HX.out.below⟩
  · have b1 : (n != n2) = true := by simp [h1]
    rw [eqB_ne (fun e => h1 (Prod.mk.inj (Prod.mk.inj (Prod.mk.inj e).2).2).1)]
    clear h1
    go_enter Try.func30, Try.ntmps30
    go_wp2_with fail
    go_ret
    exact ⟨rfl, HX.out.below⟩
def state_Same.f (V : LL) (B : LI) (n f : Int) (W : LL) (C : LI) (n2 f2 : Int) : Option Bool := some (eqB (V, B, n, f) (W, C, n2, f2))
theorem state_Same.calls (A0_0 : Option Addr) (c0_0 : Nat) (l0_0 : LL) (A0_1 : Option Addr) (c0_1 : Nat) (l0_1 : LI) (a0_2 a0_3 : Int) (A1_0 : Option Addr) (c1_0 : Nat) (l1_0 : LL) (A1_1 : Option Addr) (c1_1 : Nat) (l1_1 : LI) (a1_2 a1_3 : Int) (r : Bool) (w : World)
    (hr0_0 : Kd.C (Kd.slice 3 (Kd.int .i64)) w A0_0 l0_0.length l0_0) (hc0_0 : l0_0.length ≤ c0_0) (hr0_1 : Kd.C k69 w A0_1 l0_1.length l0_1) (hc0_1 : l0_1.length ≤ c0_1)
    (hr1_0 : Kd.C (Kd.slice 3 (Kd.int .i64)) w A1_0 l1_0.length l1_0) (hc1_0 : l1_0.length ≤ c1_0) (hr1_1 : Kd.C k69 w A1_1 l1_1.length l1_1) (hc1_1 : l1_1.length ≤ c1_1) (h : state_Same.f l0_0 l0_1 a0_2 a0_3 l1_0 l1_1 a1_2 a1_3 = some r) :
    Calls Try.prog 30 #[.agg #[.slice A0_0 l0_0.length c0_0, .slice A0_1 l0_1.length c0_1, .int .i64 a0_2, .int .i64 a0_3], .agg #[.slice A1_0 l1_0.length c1_0, .slice A1_1 l1_1.length c1_1, .int .i64 a1_2, .int .i64 a1_3]] w fun e w' => e = .returned (.bool r) ∧ Below w.heap.size w w' := by
  obtain rfl := Option.some.inj h
  exact same_w A0_0 A0_1 A1_0 A1_1 c0_0 c0_1 c1_0 c1_1 l0_0 l1_0 l0_1 l1_1 a0_2 a0_3 a1_2 a1_3 w hr0_0 hc0_0 hr0_1 hc0_1 hr1_0 hc1_0 hr1_1 hc1_1
end Go.Proofs.Ytamajfcjcfkkjaa.Given
end

section
/- Printed by a program of this session (wip/pg.py, over the print of the kit): functions, their Lean twins, and the proofs that the calls come to them; each under the conditions that it names. -/
namespace Go.Proofs.Ytamajfcjcfkkjaa.PSt
open Go.Proofs.Ytamajfcjcfkkjaa.Given
open Go.RowKit Go.Proofs.YtamajfcjcfkkjaaW.PrintWords Go.Proofs.YtamajfcjcfkkjaaW.PrintLast Go.Proofs.YtamajfcjcfkkjaaW.PrintMore
attribute [local go_sem] max2_int min2_int max_two min_two max_three min_three max_four min_four   -- for this text's walks alone
set_option linter.unusedVariables false
set_option linter.unusedSimpArgs false

/-! ### ladderbacklaw23_StateSame: function 7 -/
mutual
def ladderbacklaw23_StateSame.j0 : Nat → Bool → List (List Int) → List (S69) → Int → Int → List (List Int) → List (S69) → Int → Int → List (S104) → List (S60) → List (S62) → List (S66) → Option (Bool)
  | 0, _, _, _, _, _, _, _, _, _, _, _, _, _ => none
  | k + 1, x20, x338000, x338001, x338002, x338003, x339000, x339001, x339002, x339003, x340000, x340001, x340002, x340003 => if x20 = true then ((ladderbacklaw23_awake.f k).bind fun t343 => (some t343)) else (ladderbacklaw23_StateSame.l0 k (-1) x338000 x338001 x338002 x338003 x339000 x339001 x339002 x339003 x340000 x340001 x340002 x340003)
def ladderbacklaw23_StateSame.l0 : Nat → Int → List (List Int) → List (S69) → Int → Int → List (List Int) → List (S69) → Int → Int → List (S104) → List (S60) → List (S62) → List (S66) → Option (Bool)
  | 0, _, _, _, _, _, _, _, _, _, _, _, _, _ => none
  | k + 1, x7, x338000, x338001, x338002, x338003, x339000, x339001, x339002, x339003, x340000, x340001, x340002, x340003 => if x7 < 4 then ((state_Area.f k x340001 x338000 x338001 x338002 x338003 x7).bind fun t344 => ((ladderbackref23_Area.f k x340001 x338000 x338001 x338002 x338003 x7).bind fun t347 => ((ladderbackref15_Ints.f k t344 t347).bind fun t350 => (if t350 = true then (ladderbacklaw23_StateSame.l0 k (wrap64 (x7 + 1)) x338000 x338001 x338002 x338003 x339000 x339001 x339002 x339003 x340000 x340001 x340002 x340003) else (some false))))) else ((state_Same.f x338000 x338001 x338002 x338003 x339000 x339001 x339002 x339003).bind fun t351 => ((ladderbackref23_Same.f k x338000 x338001 x338002 x338003 x339000 x339001 x339002 x339003).bind fun t352 => (if (t351 == t352) = true then ((state_Clone.f k x338000 x338001 x338002 x338003).bind fun bt353 => ((ladderbackref23_Same.f k bt353.1 bt353.2.1 bt353.2.2.1 bt353.2.2.2 x338000 x338001 x338002 x338003).bind fun t361 => (if t361 = true then ((state_Same.f x338000 x338001 x338002 x338003 x338000 x338001 x338002 x338003).bind fun t362 => (if t362 = true then ((ladderbacklaw23_awake.f k).bind fun t363 => (some t363)) else (some false))) else (some false)))) else (some false))))
end
def ladderbacklaw23_StateSame.f (k : Nat) (l0_0 : List (List Int)) (l0_1 : List (S69)) (a0_2 : Int) (a0_3 : Int) (l1_0 : List (List Int)) (l1_1 : List (S69)) (a1_2 : Int) (a1_3 : Int) (l2_0 : List (S104)) (l2_1 : List (S60)) (l2_2 : List (S62)) (l2_3 : List (S66)) : Option (Bool) := (ladderbacklaw23_Short.f k l0_0 l0_1 a0_2 a0_3).bind fun t340 => (if t340 = true then ((ladderbacklaw23_Short.f k l1_0 l1_1 a1_2 a1_3).bind fun t341 => (if t341 = true then ((ladderbacklaw16_Few.f k l2_0 l2_1 l2_2 l2_3).bind fun t342 => (ladderbacklaw23_StateSame.j0 k (!t342) l0_0 l0_1 a0_2 a0_3 l1_0 l1_1 a1_2 a1_3 l2_0 l2_1 l2_2 l2_3)) else (ladderbacklaw23_StateSame.j0 k true l0_0 l0_1 a0_2 a0_3 l1_0 l1_1 a1_2 a1_3 l2_0 l2_1 l2_2 l2_3))) else (ladderbacklaw23_StateSame.j0 k true l0_0 l0_1 a0_2 a0_3 l1_0 l1_1 a1_2 a1_3 l2_0 l2_1 l2_2 l2_3))
def ladderbacklaw23_StateSame.T6 : Bool × List (List Nat × List Nat) := (true, [([], []), ([0], [0]), ([], []), ([], []), ([1, 2, 3], [1, 2, 3]), ([], []), ([5], [5]), ([], []), ([], []), ([6, 7, 8, 4], [6, 7, 8]), ([4, 9, 9], [4, 9]), ([10], [10])])
def ladderbacklaw23_StateSame.B6 : List Nat := [0, 1, 0, 0, 15, 0, 32, 0, 0, 511, 1023, 2047]
def ladderbacklaw23_StateSame.T8 : Bool × List (List Nat × List Nat) := (true, [([], []), ([], []), ([0, 1], [0, 1]), ([], []), ([], []), ([3, 4, 2], [3, 4]), ([2, 5], [2, 5]), ([6, 5], [6]), ([7], [7]), ([8, 7, 7], [7, 8]), ([7], [7]), ([9, 10, 9, 7], [7, 9, 10]), ([7, 11], [7, 11]), ([12, 11], [12]), ([13], [13]), ([13], [13]), ([14, 15, 13, 13], [13, 14, 15]), ([13, 16], [13, 16]), ([17, 16], [17]), ([18, 18], [18]), ([18, 19], [18, 19]), ([20, 19, 0, 1, 2, 3, 4, 5, 6, 7, 8, 9, 10, 11, 12, 13, 14, 15, 16, 17, 18, 19, 20], [20])])
def ladderbacklaw23_StateSame.B8 : List Nat := [0, 0, 3, 0, 0, 31, 63, 127, 255, 511, 255, 2047, 4095, 8191, 16383, 16383, 65535, 131071, 262143, 524287, 1048575, 2097151]
end Go.Proofs.Ytamajfcjcfkkjaa.PSt
end

section
/- Few rows; the values of an area; two states the same: the plain law of StateSame. -/
namespace Go.Proofs.Ytamajfcjcfkkjaa.RPure
open Go.RowKit Go.Proofs.Ytamajfcjcfkkjaa.PSt Go.Proofs.Ytamajfcjcfkkjaa.Given Go.Proofs.YtamajfcjcfkkjaaW.PrintWords Go.Proofs.YtamajfcjcfkkjaaW.PrintLast Go.Proofs.YtamajfcjcfkkjaaW.PrintMore
set_option linter.unusedVariables false
set_option linter.unusedSimpArgs false
/-- The values of an area. -/
def areaF : LV → LL → Int → List Int
  | x :: v, l :: V, a => (if x.f3 = a then l else []) ++ areaF v V a
  | _, _, _ => []
theorem area_nil (v : LV) (a : Int) : areaF v [] a = [] := by cases v <;> rfl
theorem area_at (v : LV) (V : LL) (a : Int) (i : Nat) (h : i < v.length) (h2 : i < V.length) : areaF (v.drop i) (V.drop i) a = (if v[i].f3 = a then V[i] else []) ++ areaF (v.drop (i + 1)) (V.drop (i + 1)) a := by
  rw [List.drop_eq_getElem_cons h, List.drop_eq_getElem_cons h2, areaF]
theorem area_len (V : LL) (a : Int) (hl : ∀ l ∈ V, l.length ≤ 100) : ∀ v : LV, (areaF v V a).length ≤ 100 * V.length := by
  induction V with
  | nil => intro v; rw [area_nil]; simp
  | cons l V ih =>
    intro v
    cases v with
    | nil => simp [areaF]
    | cons x v =>
      have := ih (fun l hl' => hl l (List.mem_cons_of_mem _ hl')) v
      have h2 := hl l List.mem_cons_self
      rw [areaF, List.length_append, List.length_cons]
      split <;> simp <;> omega
theorem sarea_l0 (v : LV) (V : LL) (B : LI) (n f a : Int) (hv : v.length ≤ 1000) (hl : ∀ l ∈ V, l.length ≤ 100) : ∀ m i k : Nat, ∀ acc : List Int, i + m = v.length → m < k → acc.length ≤ 100 * i → state_Area.l0 k a acc v (v.length : Int) (i : Int) V B n f = some (acc ++ areaF (v.drop i) (V.drop i) a) := by
  intro m
  induction m with
  | zero =>
    intro i k acc h1 h2 h3
    obtain ⟨k, rfl⟩ : ∃ m, k = m + 1 := ⟨k - 1, by omega⟩
    rw [state_Area.l0, if_neg (by omega), List.drop_of_length_le (by omega), areaF, List.append_nil]
    intro _ _ _ _ h; cases h
  | succ m ih =>
    intro i k acc h1 h2 h3
    obtain ⟨k, rfl⟩ : ∃ m, k = m + 1 := ⟨k - 1, by omega⟩
    have hi : i < v.length := by omega
    rw [state_Area.l0, if_pos (by omega), if_pos (by omega), if_pos (by omega), rdV v i hi, wn i (by omega)]
    by_cases h5 : i < V.length
    · have hli := hl _ (List.getElem_mem h5)
      rw [area_at v V a i hi h5]
      by_cases h4 : v[i].f3 = a
      · rw [if_pos h4, if_pos (by omega), rdL V i h5, if_pos (by omega), if_pos h4, ih (i + 1) k _ (by omega) (by omega) (by rw [List.length_append]; omega), List.append_assoc]
      · rw [if_neg h4, if_neg h4, ih (i + 1) k _ (by omega) (by omega) (by omega), List.nil_append]
    · have e1 : V.drop i = [] := List.drop_of_length_le (by omega)
      have e2 : V.drop (i + 1) = [] := List.drop_of_length_le (by omega)
      have := ih (i + 1) k acc (by omega) (by omega) (by omega)
      rw [e2, area_nil] at this
      rw [e1, area_nil, this]
      split
      · rw [if_neg (by omega)]
      · rfl
theorem rarea_l1 (v : LV) (V : LL) (B : LI) (n f a : Int) (i K : Nat) (R : Option (List Int)) (hi : i < v.length) (hv : v.length ≤ 1000) (h5 : i < V.length) (hl : V[i].length ≤ 100) (acc : List Int) (hacc : acc.length ≤ 100000)
    (hK : ∀ k, K ≤ k → ladderbackref23_Area.l0 k v a (acc ++ (if v[i].f3 = a then V[i] else [])) (((i + 1 : Nat)) : Int) V B n f = R) :
    ∀ m j k : Nat, j + m = V[i].length → K + m + 1 ≤ k → (v[i].f3 = a ∨ j = 0) → ladderbackref23_Area.l1 k v a (acc ++ (if v[i].f3 = a then V[i].take j else [])) (i : Int) (j : Int) V B n f = R := by
  intro m
  induction m with
  | zero =>
    intro j k h1 h2 h3
    obtain ⟨k, rfl⟩ : ∃ m, k = m + 1 := ⟨k - 1, by omega⟩
    rw [ladderbackref23_Area.l1, if_pos (by omega), if_pos (by omega), rdL V i h5, if_neg (by omega), wn i (by omega), List.take_of_length_le (by omega)]
    exact hK k (by omega)
  | succ m ih =>
    intro j k h1 h2 h3
    obtain ⟨k, rfl⟩ : ∃ m, k = m + 1 := ⟨k - 1, by omega⟩
    have hj : j < V[i].length := by omega
    rw [ladderbackref23_Area.l1, if_pos (by omega), if_pos (by omega), rdL V i h5, if_pos (by omega), if_pos (by omega), rdV v i hi]
    by_cases h4 : v[i].f3 = a
    · have := ih (j + 1) k (by omega) (by omega) (.inl h4)
      rw [if_pos h4] at this
      rw [if_pos h4, if_pos h4, if_pos (by omega), if_pos (by rw [List.length_append, List.length_take]; omega), wn j (by omega), rdn _ j hj, List.append_assoc, ← List.take_succ_eq_append_getElem hj]
      exact this
    · have hj0 : j = 0 := by rcases h3 with h | h; exact absurd h h4; exact h
      have := hK k (by omega)
      rw [if_neg h4] at this
      rw [if_neg h4, if_neg h4, wn i (by omega)]
      exact this
theorem rarea_l0 (v : LV) (V : LL) (B : LI) (n f a : Int) (hv : v.length ≤ 1000) (hl : ∀ l ∈ V, l.length ≤ 100) : ∀ m i k : Nat, ∀ acc : List Int, i + m = v.length → m * 104 + 4 ≤ k → acc.length ≤ 100 * i → ladderbackref23_Area.l0 k v a acc (i : Int) V B n f = some (acc ++ areaF (v.drop i) (V.drop i) a) := by
  intro m
  induction m with
  | zero =>
    intro i k acc h1 h2 h3
    obtain ⟨k, rfl⟩ : ∃ m, k = m + 2 := ⟨k - 2, by omega⟩
    rw [ladderbackref23_Area.l0, if_neg (by omega), ladderbackref23_Area.j1, if_neg (by decide), List.drop_of_length_le (by omega), areaF, List.append_nil]
    intro _ _ _ _ h; cases h
  | succ m ih =>
    intro i k acc h1 h2 h3
    obtain ⟨k, rfl⟩ : ∃ m, k = m + 2 := ⟨k - 2, by omega⟩
    have hi : i < v.length := by omega
    rw [ladderbackref23_Area.l0, if_pos (by omega)]
    by_cases h5 : i < V.length
    · have hli := hl _ (List.getElem_mem h5)
      rw [decide_eq_true (by omega), ladderbackref23_Area.j1, if_pos rfl, area_at v V a i hi h5]
      have := rarea_l1 v V B n f a i (m * 104 + 4) (some (acc ++ ((if v[i].f3 = a then V[i] else []) ++ areaF (v.drop (i + 1)) (V.drop (i + 1)) a))) hi hv h5 hli acc (by omega) (fun k hk => by
        rw [ih (i + 1) k _ (by omega) hk (by rw [List.length_append]; split <;> (try simp only [List.length_nil]) <;> omega), List.append_assoc]) V[i].length 0 k (by omega) (by omega) (.inr rfl)
      rw [List.take_zero, ite_self, List.append_nil] at this
      exact this
    · rw [decide_eq_false (by omega), ladderbackref23_Area.j1, if_neg (by decide), List.drop_of_length_le (show V.length ≤ i by omega), area_nil, List.append_nil]
theorem sarea_is (v : LV) (V : LL) (B : LI) (n f a : Int) (hv : v.length ≤ 1000) (hl : ∀ l ∈ V, l.length ≤ 100) (k : Nat) (hk : v.length < k) : state_Area.f k v V B n f a = some (areaF v V a) := by
  unfold state_Area.f
  have := sarea_l0 v V B n f a hv hl v.length 0 k [] (by omega) hk (by simp)
  simpa using this
theorem rarea_is (v : LV) (V : LL) (B : LI) (n f a : Int) (hv : v.length ≤ 1000) (hl : ∀ l ∈ V, l.length ≤ 100) (k : Nat) (hk : v.length * 104 + 4 ≤ k) : ladderbackref23_Area.f k v V B n f a = some (areaF v V a) := by
  unfold ladderbackref23_Area.f
  have := rarea_l0 v V B n f a hv hl v.length 0 k [] (by omega) hk (by simp)
  simpa using this
theorem StateSame (V : LL) (B : LI) (n f : Int) (W : LL) (C : LI) (n2 f2 : Int) (c : LC) (v : LV) (b : LB) (u : LU) : ladderbacklaw23_StateSame.f 20000 V B n f W C n2 f2 c v b u = some true := by
  obtain ⟨s1, e1, h1⟩ := short_is V B n f
  obtain ⟨s2, e2, h2⟩ := short_is W C n2 f2
  obtain ⟨s3, e3, h3⟩ := few_is c v b u
  have jt : ladderbacklaw23_StateSame.j0 20000 true V B n f W C n2 f2 c v b u = some true := by
    rw [ladderbacklaw23_StateSame.j0, if_pos rfl, awake_is _ (by omega), Option.bind_some]
  unfold ladderbacklaw23_StateSame.f
  rw [e1 _ (by omega), Option.bind_some]
  cases s1 with
  | false => rw [if_neg (by decide)]; exact jt
  | true =>
    rw [if_pos rfl, e2 _ (by omega), Option.bind_some]
    cases s2 with
    | false => rw [if_neg (by decide)]; exact jt
    | true =>
      rw [if_pos rfl, e3 _ (by omega), Option.bind_some]
      cases s3 with
      | false => exact jt
      | true =>
        obtain ⟨v1, v2, v3⟩ := h1 rfl
        obtain ⟨w1, w2, w3⟩ := h2 rfl
        obtain ⟨f1, f3⟩ := h3 rfl
        rw [ladderbacklaw23_StateSame.j0, if_neg (by decide)]
        have main : ∀ m : Nat, ∀ a : Int, a = 4 - m → m ≤ 5 → ∀ k : Nat, 11000 + m ≤ k → ladderbacklaw23_StateSame.l0 k a V B n f W C n2 f2 c v b u = some true := by
          intro m
          induction m with
          | zero =>
            intro a ha _ k hk
            obtain ⟨k, rfl⟩ : ∃ m, k = m + 1 := ⟨k - 1, by omega⟩
            rw [ladderbacklaw23_StateSame.l0, if_neg (by omega), state_Same.f, Option.bind_some, same_is V W B C n f n2 f2 v1 (fun l hl => by have := v3 l hl; omega) v2 k (by omega), Option.bind_some, if_pos (by simp), sclone_is V B n f ⟨v1, v2, v3⟩ k (by omega), Option.bind_some]
            simp only
            rw [same_is V V B B n f n f v1 (fun l hl => by have := v3 l hl; omega) v2 k (by omega), Option.bind_some, eqB_self, if_pos rfl, state_Same.f, Option.bind_some, eqB_self, if_pos rfl, awake_is _ (by omega), Option.bind_some]
          | succ m ih =>
            intro a ha hm k hk
            obtain ⟨k, rfl⟩ : ∃ m, k = m + 1 := ⟨k - 1, by omega⟩
            rw [ladderbacklaw23_StateSame.l0, if_pos (by omega), sarea_is v V B n f a (by omega) v3 k (by omega), Option.bind_some, rarea_is v V B n f a (by omega) v3 k (by omega), Option.bind_some, ints_is _ _ (by have := area_len V a v3 v; omega) k (by have := area_len V a v3 v; omega), Option.bind_some, eqB_self, if_pos rfl, w64 _ (by omega) (by omega)]
            exact ih (a + 1) (by omega) (by omega) k (by omega)
        exact main 5 (-1) (by decide) (by decide) 19999 (by decide)
end Go.Proofs.Ytamajfcjcfkkjaa.RPure
end

section
/- Printed by a program of this session (wip/pg.py, over the print of the kit): functions, their Lean twins, and the proofs that the calls come to them; each under the conditions that it names. -/
namespace Go.Proofs.Ytamajfcjcfkkjaa.PSt
open Go.RowKit Go.Proofs.YtamajfcjcfkkjaaW.PrintWords Go.Proofs.YtamajfcjcfkkjaaW.PrintLast Go.Proofs.YtamajfcjcfkkjaaW.PrintMore
attribute [local go_sem] max2_int min2_int max_two min_two max_three min_three max_four min_four   -- for this text's walks alone
set_option linter.unusedVariables false
set_option linter.unusedSimpArgs false

/-! ### ladderbackref23_New: function 24 -/
mutual
def ladderbackref23_New.l0 : Nat → List (S60) → List (S62) → Int → List (List Int) → Int → Int → Option ((List (List Int)) × (List (S69)) × Int × Int)
  | 0, _, _, _, _, _, _ => none
  | k + 1, x0, x1, x6, x257000, x257002, x257003 => if x6 < (x0.length : Int) then (ladderbackref23_New.l1 k x0 x1 x6 ([] : List Int) 0 x257000 x257002 x257003) else (ladderbackref23_New.l2 k x1 0 x257000 ([] : List (S69)) x257002 x257003)
def ladderbackref23_New.l1 : Nat → List (S60) → List (S62) → Int → List Int → Int → List (List Int) → Int → Int → Option ((List (List Int)) × (List (S69)) × Int × Int)
  | 0, _, _, _, _, _, _, _, _ => none
  | k + 1, x0, x1, x6, x7, x8, x257000, x257002, x257003 => if 0 ≤ x6 then (if x6 < (x0.length : Int) then (if x8 < ((rd_T60 x0 x6).f2) then (if x8 < 16 then (if x7.length < 17592186044416 then (ladderbackref23_New.l1 k x0 x1 x6 (x7 ++ [(rd_T60 x0 x6).f4]) (wrap64 (x8 + 1)) x257000 x257002 x257003) else (none)) else (if x257000.length < 5864062014805 then (ladderbackref23_New.l0 k x0 x1 (wrap64 (x6 + 1)) (x257000 ++ [x7]) x257002 x257003) else (none))) else (if x257000.length < 5864062014805 then (ladderbackref23_New.l0 k x0 x1 (wrap64 (x6 + 1)) (x257000 ++ [x7]) x257002 x257003) else (none))) else (none)) else (none)
def ladderbackref23_New.l2 : Nat → List (S62) → Int → List (List Int) → List (S69) → Int → Int → Option ((List (List Int)) × (List (S69)) × Int × Int)
  | 0, _, _, _, _, _, _ => none
  | k + 1, x1, x9, x257000, x257001, x257002, x257003 => if x9 < (x1.length : Int) then (if x257001.length < 1759218604441 then (ladderbackref23_New.l2 k x1 (wrap64 (x9 + 1)) x257000 (x257001 ++ [(⟨(⟨0, 0, 0, 0, 0, 0, 0, 0, 0, 0⟩ : S67)⟩ : S69)]) x257002 x257003) else (none)) else (some (x257000, x257001, x257002, x257003))
end
def ladderbackref23_New.f (k : Nat) (l0 : List (S60)) (l1 : List (S62)) : Option ((List (List Int)) × (List (S69)) × Int × Int) := ladderbackref23_New.l0 k l0 l1 0 ([] : List (List Int)) 0 0
/-! ### kind_Wrap: function 34 -/
def kind_Wrap.f (a0 : Int) (a1 : Int) : Option (Int) := if a0 = 1 then (if a1 = 0 then (some 0) else (some 1)) else (if a0 = 2 then (some (wrap64 (IntKind.i16.wrap (a1)))) else (if a0 = 3 then (some (wrap64 (wrap32 (a1)))) else (if a0 = 4 then (some (wrap64 (IntKind.u16.wrap (a1)))) else (if a0 = 5 then (some ((a1) % 4294967296)) else (if a0 = 6 then (some a1) else (some 0))))))
set_option maxHeartbeats 8000000 in
set_option maxRecDepth 100000 in
theorem kind_Wrap.calls (a0 : Int) (a1 : Int) (r : Int) (w : World) (h : kind_Wrap.f a0 a1 = some r) :
    Calls Try.prog 34 #[.int .i64 a0, .int .i64 a1] w fun e w' => e = .returned (.int .i64 r) ∧ Drawn0 w w' := by
  have H : (if a0 = 1 then (if a1 = 0 then (some 0) else (some 1)) else (if a0 = 2 then (some (wrap64 (IntKind.i16.wrap (a1)))) else (if a0 = 3 then (some (wrap64 (wrap32 (a1)))) else (if a0 = 4 then (some (wrap64 (IntKind.u16.wrap (a1)))) else (if a0 = 5 then (some ((a1) % 4294967296)) else (if a0 = 6 then (some a1) else (some 0))))))) = some r := h
  clear h
  by_cases c3 : a0 = 1
  · rw [if_pos c3] at H
    have c3b0 : (a0 == 1) = true := beq_iff_eq.mpr c3
    have c3b1 : (a0 != 1) = false := bne_eq_false_iff_eq.mpr c3
    clear c3
    by_cases c4 : a1 = 0
    · rw [if_pos c4] at H
      have c4b0 : (a1 == 0) = true := beq_iff_eq.mpr c4
      have c4b1 : (a1 != 0) = false := bne_eq_false_iff_eq.mpr c4
      clear c4
      obtain rfl := Option.some.inj H
      go_enter Try.func34, Try.ntmps34
      go_wp2
      go_ret
      exact ⟨by first | rfl | (simp; done) | (simp [*]; done), by repeat (first | exact Drawn0.refl _ | apply Drawn0.step)⟩
    · rw [if_neg c4] at H
      have c4b0 : (a1 == 0) = false := beq_eq_false_iff_ne.mpr c4
      have c4b1 : (a1 != 0) = true := bne_iff_ne.mpr c4
      obtain rfl := Option.some.inj H
      go_enter Try.func34, Try.ntmps34
      go_wp2
      go_ret
      exact ⟨by first | rfl | (simp; done) | (simp [*]; done), by repeat (first | exact Drawn0.refl _ | apply Drawn0.step)⟩
  · rw [if_neg c3] at H
    have c3b0 : (a0 == 1) = false := beq_eq_false_iff_ne.mpr c3
    have c3b1 : (a0 != 1) = true := bne_iff_ne.mpr c3
    by_cases c5 : a0 = 2
    · rw [if_pos c5] at H
      have c5b0 : (a0 == 2) = true := beq_iff_eq.mpr c5
      have c5b1 : (a0 != 2) = false := bne_eq_false_iff_eq.mpr c5
      clear c5
      obtain rfl := Option.some.inj H
      go_enter Try.func34, Try.ntmps34
      go_wp2
      go_ret
      exact ⟨by first | rfl | (simp; done) | (simp [*]; done), by repeat (first | exact Drawn0.refl _ | apply Drawn0.step)⟩
    · rw [if_neg c5] at H
      have c5b0 : (a0 == 2) = false := beq_eq_false_iff_ne.mpr c5
      have c5b1 : (a0 != 2) = true := bne_iff_ne.mpr c5
      by_cases c6 : a0 = 3
      · rw [if_pos c6] at H
        have c6b0 : (a0 == 3) = true := beq_iff_eq.mpr c6
        have c6b1 : (a0 != 3) = false := bne_eq_false_iff_eq.mpr c6
        clear c6
        obtain rfl := Option.some.inj H
        go_enter Try.func34, Try.ntmps34
        go_wp2
        go_ret
        exact ⟨by first | rfl | (simp; done) | (simp [*]; done), by repeat (first | exact Drawn0.refl _ | apply Drawn0.step)⟩
      · rw [if_neg c6] at H
        have c6b0 : (a0 == 3) = false := beq_eq_false_iff_ne.mpr c6
        have c6b1 : (a0 != 3) = true := bne_iff_ne.mpr c6
        by_cases c7 : a0 = 4
        · rw [if_pos c7] at H
          have c7b0 : (a0 == 4) = true := beq_iff_eq.mpr c7
          have c7b1 : (a0 != 4) = false := bne_eq_false_iff_eq.mpr c7
          clear c7
          obtain rfl := Option.some.inj H
          go_enter Try.func34, Try.ntmps34
          go_wp2
          go_ret
          exact ⟨by first | rfl | (simp; done) | (simp [*]; done), by repeat (first | exact Drawn0.refl _ | apply Drawn0.step)⟩
        · rw [if_neg c7] at H
          have c7b0 : (a0 == 4) = false := beq_eq_false_iff_ne.mpr c7
          have c7b1 : (a0 != 4) = true := bne_iff_ne.mpr c7
          by_cases c8 : a0 = 5
          · rw [if_pos c8] at H
            have c8b0 : (a0 == 5) = true := beq_iff_eq.mpr c8
            have c8b1 : (a0 != 5) = false := bne_eq_false_iff_eq.mpr c8
            clear c8
            obtain rfl := Option.some.inj H
            go_enter Try.func34, Try.ntmps34
            go_wp2
            go_ret
            exact ⟨by first | rfl | (simp; done) | (simp [*]; done), by repeat (first | exact Drawn0.refl _ | apply Drawn0.step)⟩
          · rw [if_neg c8] at H
            have c8b0 : (a0 == 5) = false := beq_eq_false_iff_ne.mpr c8
            have c8b1 : (a0 != 5) = true := bne_iff_ne.mpr c8
            by_cases c9 : a0 = 6
            · rw [if_pos c9] at H
              have c9b0 : (a0 == 6) = true := beq_iff_eq.mpr c9
              have c9b1 : (a0 != 6) = false := bne_eq_false_iff_eq.mpr c9
              clear c9
              obtain rfl := Option.some.inj H
              go_enter Try.func34, Try.ntmps34
              go_wp2
              go_ret
              exact ⟨by first | rfl | (simp; done) | (simp [*]; done), by repeat (first | exact Drawn0.refl _ | apply Drawn0.step)⟩
            · rw [if_neg c9] at H
              have c9b0 : (a0 == 6) = false := beq_eq_false_iff_ne.mpr c9
              have c9b1 : (a0 != 6) = true := bne_iff_ne.mpr c9
              obtain rfl := Option.some.inj H
              go_enter Try.func34, Try.ntmps34
              go_wp2
              go_ret
              exact ⟨by first | rfl | (simp; done) | (simp [*]; done), by repeat (first | exact Drawn0.refl _ | apply Drawn0.step)⟩

/-! ### kind_Right: function 47 -/
def kind_Right.f (a0 : Int) : Option (Bool) := if a0 ≥ 1 then (some (decide (a0 ≤ 6))) else (some false)
/-! ### kind_In: function 38 -/
def kind_In.f (a0 : Int) (a1 : Int) : Option (Bool) := (kind_Right.f a0).bind fun t271 => (if t271 = true then ((kind_Wrap.f a0 a1).bind fun t272 => (some (t272 == a1))) else (some false))
end Go.Proofs.Ytamajfcjcfkkjaa.PSt
end

section
/- Printed by a program of this session (wip/pg.py, over the print of the kit): functions, their Lean twins, and the proofs that the calls come to them; each under the conditions that it names. -/
namespace Go.Proofs.Ytamajfcjcfkkjaa.PSt
open Go.RowKit Go.Proofs.YtamajfcjcfkkjaaW.PrintWords Go.Proofs.YtamajfcjcfkkjaaW.PrintLast Go.Proofs.YtamajfcjcfkkjaaW.PrintMore
attribute [local go_sem] max2_int min2_int max_two min_two max_three min_three max_four min_four   -- for this text's walks alone
set_option linter.unusedVariables false
set_option linter.unusedSimpArgs false

/-! ### state_Fits: function 25 -/
mutual
def state_Fits.j0 : Nat → List (S60) → Bool → List (List Int) → List (S69) → Int → Int → Option (Bool)
  | 0, _, _, _, _, _, _ => none
  | k + 1, x0, x44, x274000, x274001, x274002, x274003 => if x44 = true then (some false) else (state_Fits.l0 k x0 (x0.length : Int) 0 x274000 x274001 x274002 x274003)
def state_Fits.l0 : Nat → List (S60) → Int → Int → List (List Int) → List (S69) → Int → Int → Option (Bool)
  | 0, _, _, _, _, _, _, _ => none
  | k + 1, x45, x46, x47, x274000, x274001, x274002, x274003 => if x47 < x46 then (if 0 ≤ x47 then (if x47 < (x45.length : Int) then (if x47 < (x274000.length : Int) then (if ((rd_L1 x274000 x47).length : Int) = ((rd_T60 x45 x47).f2) then (state_Fits.l1 k x45 x46 x47 (rd_L1 x274000 x47) ((rd_L1 x274000 x47).length : Int) 0 x274000 x274001 x274002 x274003 ((rd_T60 x45 x47).f0) ((rd_T60 x45 x47).f1) ((rd_T60 x45 x47).f2) ((rd_T60 x45 x47).f3) ((rd_T60 x45 x47).f4)) else (some false)) else (none)) else (none)) else (none)) else (some true)
def state_Fits.l1 : Nat → List (S60) → Int → Int → List Int → Int → Int → List (List Int) → List (S69) → Int → Int → ByteArray → Int → Int → Int → Int → Option (Bool)
  | 0, _, _, _, _, _, _, _, _, _, _, _, _, _, _, _ => none
  | k + 1, x45, x46, x47, x65, x66, x67, x274000, x274001, x274002, x274003, x276000, x276001, x276002, x276003, x276004 => if x67 < x66 then (if 0 ≤ x67 then (if x67 < (x65.length : Int) then ((kind_In.f x276001 (rd x65 x67)).bind fun t279 => (if t279 = true then (state_Fits.l1 k x45 x46 x47 x65 x66 (wrap64 (x67 + 1)) x274000 x274001 x274002 x274003 x276000 x276001 x276002 x276003 x276004) else (some false))) else (none)) else (none)) else (state_Fits.l0 k x45 x46 (wrap64 (x47 + 1)) x274000 x274001 x274002 x274003)
end
def state_Fits.f (k : Nat) (l0 : List (S60)) (l1 : List (S62)) (l2_0 : List (List Int)) (l2_1 : List (S69)) (a2_2 : Int) (a2_3 : Int) : Option (Bool) := if (l2_0.length : Int) = (l0.length : Int) then (if (l2_1.length : Int) = (l1.length : Int) then (if a2_2 < 0 then (state_Fits.j0 k l0 true l2_0 l2_1 a2_2 a2_3) else (if a2_2 > 1099511627776 then (state_Fits.j0 k l0 true l2_0 l2_1 a2_2 a2_3) else (if a2_3 < 0 then (state_Fits.j0 k l0 true l2_0 l2_1 a2_2 a2_3) else (state_Fits.j0 k l0 (decide (a2_3 > 3)) l2_0 l2_1 a2_2 a2_3)))) else (state_Fits.j0 k l0 true l2_0 l2_1 a2_2 a2_3)) else (state_Fits.j0 k l0 true l2_0 l2_1 a2_2 a2_3)
/-! ### ladderbackref01_Right: function 39 -/
def ladderbackref01_Right.f (a0 : Int) : Option (Bool) := if a0 > 0 then (some (decide (a0 < 7))) else (some false)
/-! ### ladderbackref01_High: function 44 -/
def ladderbackref01_High.f (a0 : Int) : Option (Int) := if a0 = 1 then (some 1) else (if a0 = 2 then (some 32767) else (if a0 = 3 then (some 2147483647) else (if a0 = 4 then (some 65535) else (some 4294967295))))
/-! ### ladderbackref01_Low: function 45 -/
def ladderbackref01_Low.f (a0 : Int) : Option (Int) := if a0 = 2 then (some (-32768)) else (if a0 = 3 then (some (-2147483648)) else (some 0))
/-! ### ladderbackref01_In: function 40 -/
def ladderbackref01_In.f (a0 : Int) (a1 : Int) : Option (Bool) := if a0 = 6 then (some true) else ((ladderbackref01_Right.f a0).bind fun t280 => (if t280 = true then ((ladderbackref01_Low.f a0).bind fun t281 => (if a1 ≥ t281 then ((ladderbackref01_High.f a0).bind fun t282 => (some (decide (a1 ≤ t282)))) else (some false))) else (some false)))
end Go.Proofs.Ytamajfcjcfkkjaa.PSt
end

section
/- Whether a number is a value of a type, as the program and the document tell it. -/
namespace Go.Proofs.Ytamajfcjcfkkjaa.RPure
open Go.RowKit Go.Proofs.Ytamajfcjcfkkjaa.PSt Go.Proofs.YtamajfcjcfkkjaaW.PrintWords Go.Proofs.YtamajfcjcfkkjaaW.PrintLast Go.Proofs.YtamajfcjcfkkjaaW.PrintMore
set_option linter.unusedVariables false
set_option linter.unusedSimpArgs false
/-- Is n a value of type t? -/
def inF (t n : Int) : Bool :=
  if t = 1 then decide (0 ≤ n ∧ n ≤ 1) else if t = 2 then decide (-32768 ≤ n ∧ n ≤ 32767) else if t = 3 then decide (-2147483648 ≤ n ∧ n ≤ 2147483647) else
  if t = 4 then decide (0 ≤ n ∧ n ≤ 65535) else if t = 5 then decide (0 ≤ n ∧ n ≤ 4294967295) else decide (t = 6)
end Go.Proofs.Ytamajfcjcfkkjaa.RPure
end

section
/- A region that draws its order: each operation by itself, whatever order comes up; no conditions. -/
namespace Go.Proofs.Ytamajfcjcfkkjaa.Reg
open Go Go.RowKit Go.Proofs.YtamajfcjcfkkjaaW.PrintWords Go.Proofs.YtamajfcjcfkkjaaW.PrintLast
/-- What stands while a region's operations come up in whatever order. D: the slots that they fill; S: what each one's value is. -/
structure RegI (D : List (Option Tmp)) (S : Nat → World → Value → Prop) (a0 : Act) (w0 : World) (b : Nat → Bool) (a : Act) (w : World) : Prop where
  below : Below w0.heap.size w0 w
  defers : a.defers = a0.defers
  size : a.tmps.size = a0.tmps.size
  elder : ∀ t, some t ∉ D → a.tmps[t]? = a0.tmps[t]?
  vals : ∀ (i : Nat) (t : Tmp), D[i]? = some (some t) → b i = true → ∃ v, a.tmps[t]? = some v ∧ S i w v
/-- Operation i, all that it waits for having come up. -/
def RStep (P : Program) (ops : Array Oper) (Q : Exit → Act → World → Prop) (B : List Nat) (D : List (Option Tmp)) (S : Nat → World → Value → Prop) (a0 : Act) (w0 : World) (i : Nat) : Prop :=
  ∀ a w, Below w0.heap.size w0 w → a.tmps.size = a0.tmps.size → (∀ t, some t ∉ D → a.tmps[t]? = a0.tmps[t]?) →
    (∀ (j : Nat) (t : Tmp), (B.getD i 0).testBit j = true → D[j]? = some (some t) → ∃ v, a.tmps[t]? = some v ∧ S j w v) →
    ∃ oi, ops[i]? = some oi ∧ ∀ K : Act → World → Prop, Shut (∀ v w', Below w.heap.size w w' → S i w' v → K (a.put oi.dst v) w') →
      if Region.wanted oi (yielded ops a.tmps) = true then Oper.wp P oi a w K Q else K (a.put oi.dst undef) w
theorem distinct {D : List (Option Tmp)} (h : (D.filterMap id).Nodup) : ∀ {i j : Nat} {t : Tmp}, D[i]? = some (some t) → D[j]? = some (some t) → i = j := by
  induction D with
  | nil => intro i j t hi; simp at hi
  | cons d D ih =>
    intro i j t hi hj
    have mem : ∀ {k : Nat}, D[k]? = some (some t) → t ∈ D.filterMap id := fun {k} hk => List.mem_filterMap.2 ⟨some t, List.mem_of_getElem? hk, rfl⟩
    cases d with
    | none =>
      have h' : (D.filterMap id).Nodup := by simpa using h
      cases i with
      | zero => simp at hi
      | succ i =>
        cases j with
        | zero => simp at hj
        | succ j => exact congrArg (· + 1) (ih h' (by simpa using hi) (by simpa using hj))
    | some u =>
      have h' : u ∉ D.filterMap id ∧ (D.filterMap id).Nodup := by simpa using h
      cases i with
      | zero =>
        cases j with
        | zero => rfl
        | succ j =>
          have hu : u = t := by simpa using hi
          subst hu
          exact absurd (mem (by simpa using hj)) h'.1
      | succ i =>
        cases j with
        | zero =>
          have hu : u = t := by simpa using hj
          subst hu
          exact absurd (mem (by simpa using hi)) h'.1
        | succ j => exact congrArg (· + 1) (ih h'.2 (by simpa using hi) (by simpa using hj))
theorem region_any {P : Program} {ops : Array Oper} {Q : Exit → Act → World → Prop} {id : Nat} {a0 : Act} {w0 : World} (D : List (Option Tmp)) (B : List Nat) (T : Bool × List (List Nat × List Nat)) (S : Nat → World → Value → Prop)
    (hm : P.follows .mixedOrders = true) (hT : rtab .any ops = T) (hB : waitsOk T.2 B = true) (hk : baseOk T.2 (List.range ops.size) = true) (hD : ops.toList.map (·.dst) = D) (hd : (D.filterMap _root_.id).Nodup)
    (hsz : (D.filterMap _root_.id).all (fun t => Nat.blt t a0.tmps.size) = true)
    (hmono : ∀ i w1 w2 v, Below w1.heap.size w1 w2 → S i w1 v → S i w2 v) (O : List Nat) (hO : List.range ops.size = O) (hstep : ∀ i ∈ O, RStep P ops Q B D S a0 w0 i)
    (hend : ∀ a w, RegI D S a0 w0 (fun _ => true) a w → Q .normal a w) : (Code.region id ops true).wp P Q a0 w0 := by
  subst hO
  refine wp_region_last (S := fun _ => True) (ds := []) hm ?_
  have hl : T.2.length = ops.size := by rw [← hT]; exact rtab_length
  refine inv_ (T := T) (B := B) (List.range ops.size) (RegI D S a0 w0) hT hB hk ?_ ?_ ?_ ?_
  · rw [hl]
    simp only [Bool.and_eq_true, beq_iff_eq, List.length_range, and_true]
    apply List.ext_getElem?
    intro j
    by_cases hj : j < ops.size
    · simp [lof, hj]
    · simp [lof, hj]
  · exact ⟨⟨rfl, rfl, rfl, Nat.le_refl _, fun _ _ => rfl⟩, rfl, rfl, fun _ _ => rfl, fun _ _ _ h => by cases h⟩
  · intro i hi b a w hI hb hon hoff
    have hi' : i < ops.size := List.mem_range.1 hi
    obtain ⟨oi, hoi, hK⟩ := hstep i hi a w hI.below hI.size hI.elder (fun j t hj ht => by
      refine hI.vals j t ht (hon j ?_)
      rw [hj, Bool.and_true, List.contains_iff_mem, List.mem_range]
      have := (List.getElem?_eq_some_iff.1 ht).1
      rw [← hD] at this
      simpa using this)
    refine ⟨oi, hoi, fun K hS => hK K (fun v w' hbw hs => hS.out _ _ ?_)⟩
    have hDi : D[i]? = some oi.dst := by rw [← hD, List.getElem?_map, Array.getElem?_toList, hoi]; rfl
    have hbel : Below w0.heap.size w0 w' := hI.below.trans (hbw.mono hI.below.size)
    refine ⟨hbel, by cases oi.dst <;> simp [Act.put, hI.defers], by cases oi.dst <;> simp [Act.put, hI.size], fun t ht => ?_, fun j t hj hbj => ?_⟩
    · cases hdst : oi.dst with
      | none => simpa [Act.put] using hI.elder t ht
      | some u =>
        have hne : u ≠ t := by
          rintro rfl
          exact ht (List.mem_of_getElem? (by rw [hDi, hdst]))
        simp [Act.put, Array.getElem?_setIfInBounds_ne hne]
        exact hI.elder t ht
    · by_cases hji : j = i
      · subst hji
        rw [hDi] at hj
        injection hj with hj
        refine ⟨v, ?_, hs⟩
        rw [hj]
        have : t < a.tmps.size := by
          rw [hI.size]
          have h1 := List.all_eq_true.1 hsz t (List.mem_filterMap.2 ⟨some t, List.mem_of_getElem? (by rw [hDi, hj]), rfl⟩)
          simpa using h1
        simp [Act.put, this]
      · rw [up_ne hji] at hbj
        obtain ⟨x, hx, hsx⟩ := hI.vals j t hj hbj
        refine ⟨x, ?_, hmono _ _ _ _ hbw hsx⟩
        cases hdst : oi.dst with
        | none => simpa [Act.put] using hx
        | some u =>
          have hne : u ≠ t := by
            rintro rfl
            exact hji (distinct hd hj (by rw [hDi, hdst]))
          simp [Act.put, Array.getElem?_setIfInBounds_ne hne]
          exact hx
  · intro b a w hb hI
    exact hend a w ⟨hI.below, hI.defers, hI.size, hI.elder, fun i t hi _ => hI.vals i t hi (hb i (by
      rw [List.contains_iff_mem, List.mem_range]
      have := (List.getElem?_eq_some_iff.1 hi).1
      rw [← hD] at this
      simpa using this))⟩
theorem rs_nil {P : Program} {ops : Array Oper} {Q : Exit → Act → World → Prop} {B : List Nat} {D : List (Option Tmp)} {S : Nat → World → Value → Prop} {a0 : Act} {w0 : World} : ∀ i ∈ ([] : List Nat), RStep P ops Q B D S a0 w0 i := fun _ h => by cases h
theorem rs_cons {P : Program} {ops : Array Oper} {Q : Exit → Act → World → Prop} {B : List Nat} {D : List (Option Tmp)} {S : Nat → World → Value → Prop} {a0 : Act} {w0 : World} {i : Nat} {rs : List Nat} (h : RStep P ops Q B D S a0 w0 i) (hs : ∀ j ∈ rs, RStep P ops Q B D S a0 w0 j) : ∀ j ∈ i :: rs, RStep P ops Q B D S a0 w0 j := fun j hj => by
  rcases List.mem_cons.1 hj with rfl | hj
  · exact h
  · exact hs j hj
/-- Is each of a list of specifications kept as the world grows? -/
def MonoS (s : World → Value → Prop) : Prop := ∀ w1 w2 v, Below w1.heap.size w1 w2 → s w1 v → s w2 v
theorem monoS_eq (x : Value) : MonoS (fun _ v => v = x) := fun _ _ _ _ h => h
theorem monoS_nil : ∀ s ∈ ([] : List (World → Value → Prop)), MonoS s := fun _ h => by cases h
theorem monoS_cons {s : World → Value → Prop} {l : List (World → Value → Prop)} (h : MonoS s) (hs : ∀ t ∈ l, MonoS t) : ∀ t ∈ s :: l, MonoS t := fun t ht => by
  rcases List.mem_cons.1 ht with rfl | ht
  · exact h
  · exact hs t ht
theorem mono_getD {l : List (World → Value → Prop)} (h : ∀ s ∈ l, MonoS s) : ∀ i w1 w2 v, Below w1.heap.size w1 w2 → l.getD i (fun _ _ => False) w1 v → l.getD i (fun _ _ => False) w2 v := by
  intro i w1 w2 v hb hs
  rw [List.getD_eq_getElem?_getD] at hs ⊢
  cases hi : l[i]? with
  | none => rw [hi] at hs; exact hs.elim
  | some s => rw [hi] at hs; exact h s (List.mem_of_getElem? hi) w1 w2 v hb hs
/-- A value is a slice that holds these. -/
def Rs {α : Type} (d : Kd α) (w : World) (v : Value) (xs : List α) : Prop := ∃ A c, v = .slice A xs.length c ∧ xs.length ≤ c ∧ d.C w A xs.length xs
theorem monoS_rs {α : Type} (d : Kd α) (xs : List α) : MonoS (fun w v => Rs d w v xs) := fun _ _ _ hb ⟨A, c, e, hl, hC⟩ => ⟨A, c, e, hl, Kd.C_below hC hb⟩
/-- The function's end, the frame not written out: one result, out of slot t. -/
theorem ret_slot {P : Program} {fn : Func} {R : Ending → World → Prop} {a : Act} {w : World} {t : Tmp} {v : Value} (hr : fn.results = #[.tmp t]) (hd : a.defers = []) (ht : a.tmps[t]? = some v) (h : R (.returned v) w) : bodyPost P fn R .ret a w := by
  refine bodyPost_ret (v := v) ?_ hd h
  have := results_tmp hr a.tmps P w
  rw [this]
  simp [ht]
end Go.Proofs.Ytamajfcjcfkkjaa.Reg
end

section
/- A region that draws its order, some of whose calls turn blocks in memory one after the other; no conditions. -/
namespace Go.Proofs.Ytamajfcjcfkkjaa.Reg
open Go Go.RowKit Go.Proofs.YtamajfcjcfkkjaaW.PrintWords Go.Proofs.YtamajfcjcfkkjaaW.PrintLast
/-- All blocks stay but these. -/
def KeepL (gs : List Nat) (w w' : World) : Prop := w.heap.size ≤ w'.heap.size ∧ ∀ i, i < w.heap.size → i ∉ gs → w'.heap[i]? = w.heap[i]?
theorem KeepL.of_below (gs : List Nat) {w w' : World} (h : Below w.heap.size w w') : KeepL gs w w' := ⟨h.size, fun i hi _ => h.block i hi⟩
/-- What stands of the world, by the last of the calls that has come up (the latest call first). -/
def Zc : List (Nat × (World → Prop)) → (World → Prop) → (Nat → Bool) → World → Prop
  | [], z0, _, w => z0 w
  | (c, z) :: l, z0, b, w => if b c = true then z w else Zc l z0 b w
def MonoZ (z : World → Prop) : Prop := ∀ w1 w2, Below w1.heap.size w1 w2 → z w1 → z w2
theorem monoZ_nil : ∀ c ∈ ([] : List (Nat × (World → Prop))), MonoZ c.2 := fun _ h => by cases h
theorem monoZ_cons {c : Nat × (World → Prop)} {l : List (Nat × (World → Prop))} (h : MonoZ c.2) (hs : ∀ t ∈ l, MonoZ t.2) : ∀ t ∈ c :: l, MonoZ t.2 := fun t ht => by
  rcases List.mem_cons.1 ht with rfl | ht
  · exact h
  · exact hs t ht
theorem Zc.step {l : List (Nat × (World → Prop))} {z0 : World → Prop} (hz0 : MonoZ z0) {b : Nat → Bool} {i : Nat} {w w' : World} (hb : Below w.heap.size w w') : ∀ (_ : ∀ c ∈ l, MonoZ c.2) (_ : ∀ c ∈ l, c.1 ≠ i), Zc l z0 b w → Zc l z0 (up b i) w' := by
  induction l with
  | nil => intro _ _ h; exact hz0 w w' hb h
  | cons c l ih =>
    intro hm hne h
    obtain ⟨c, z⟩ := c
    unfold Zc at h ⊢
    rw [up_ne (hne (c, z) (by simp))]
    split
    · rename_i hc
      rw [if_pos hc] at h
      exact hm (c, z) (by simp) w w' hb h
    · rename_i hc
      rw [if_neg hc] at h
      exact ih (fun t ht => hm t (by simp [ht])) (fun t ht => hne t (by simp [ht])) h
theorem ne_chain {l : List (Nat × (World → Prop))} {i : Nat} (h : (l.map (·.1)).contains i = false) : ∀ c ∈ l, c.1 ≠ i := fun c hc e => by
  have : (l.map (·.1)).contains i = true := by
    rw [List.contains_iff_mem]
    exact List.mem_map.2 ⟨c, hc, e⟩
  rw [this] at h
  cases h
theorem Zc.drew {l : List (Nat × (World → Prop))} {z0 : World → Prop} {w : World} (h : ∀ m, z0 (w.drewN m)) (m : Nat) : Zc l z0 (fun _ => false) (w.drewN m) := by
  induction l with
  | nil => exact h m
  | cons c l ih => unfold Zc; rw [if_neg (by simp)]; exact ih
structure RegZ (D : List (Option Tmp)) (S : Nat → World → Value → Prop) (Z : (Nat → Bool) → World → Prop) (a0 : Act) (wb : World) (b : Nat → Bool) (a : Act) (w : World) : Prop where
  below : Below wb.heap.size wb w
  z : Z b w
  defers : a.defers = a0.defers
  size : a.tmps.size = a0.tmps.size
  elder : ∀ t, some t ∉ D → a.tmps[t]? = a0.tmps[t]?
  vals : ∀ (i : Nat) (t : Tmp), D[i]? = some (some t) → b i = true → ∃ v, a.tmps[t]? = some v ∧ S i w v
def ZStep (P : Program) (ops : Array Oper) (Q : Exit → Act → World → Prop) (B : List Nat) (D : List (Option Tmp)) (S : Nat → World → Value → Prop) (Z : (Nat → Bool) → World → Prop) (gs : List Nat) (a0 : Act) (wb : World) (i : Nat) : Prop :=
  ∀ b a w, Below wb.heap.size wb w → Z b w → a.tmps.size = a0.tmps.size → (∀ t, some t ∉ D → a.tmps[t]? = a0.tmps[t]?) → b i = false →
    (∀ j, ((List.range ops.size).contains j && (B.getD i 0).testBit j) = true → b j = true) → (∀ d, ((List.range ops.size).contains d && (B.getD d 0).testBit i) = true → b d = false) →
    (∀ (j : Nat) (t : Tmp), (B.getD i 0).testBit j = true → D[j]? = some (some t) → ∃ v, a.tmps[t]? = some v ∧ S j w v) →
    ∃ oi, ops[i]? = some oi ∧ ∀ K : Act → World → Prop, Shut (∀ v w', Below wb.heap.size wb w' → KeepL gs w w' → Z (up b i) w' → S i w' v → K (a.put oi.dst v) w') →
      if Region.wanted oi (yielded ops a.tmps) = true then Oper.wp P oi a w K Q else K (a.put oi.dst undef) w
theorem ZStep.of_r {P : Program} {ops : Array Oper} {Q : Exit → Act → World → Prop} {B : List Nat} {D : List (Option Tmp)} {S : Nat → World → Value → Prop} {l : List (Nat × (World → Prop))} {z0 : World → Prop} {gs : List Nat} {a0 : Act} {wb : World} {i : Nat}
    (hz0 : MonoZ z0) (hm : ∀ c ∈ l, MonoZ c.2) (hne : ∀ c ∈ l, c.1 ≠ i) (h : RStep P ops Q B D S a0 wb i) : ZStep P ops Q B D S (Zc l z0) gs a0 wb i := by
  intro b a w hb hz hs hel hi hup hoff hon
  obtain ⟨oi, hoi, hK⟩ := h a w hb hs hel hon
  exact ⟨oi, hoi, fun K hS => hK K (fun v w' hbw hsi => hS.out v w' (hb.trans (hbw.mono hb.size)) (KeepL.of_below gs hbw) (Zc.step hz0 hbw hm hne hz) hsi)⟩
theorem region_z {P : Program} {ops : Array Oper} {Q : Exit → Act → World → Prop} {id : Nat} {a0 : Act} {w0 : World} (D : List (Option Tmp)) (B : List Nat) (T : Bool × List (List Nat × List Nat)) (S : Nat → World → Value → Prop) (Z : (Nat → Bool) → World → Prop) (gs : List Nat) (wb : World)
    (hm : P.follows .mixedOrders = true) (hT : rtab .any ops = T) (hB : waitsOk T.2 B = true) (hk : baseOk T.2 (List.range ops.size) = true) (hD : ops.toList.map (·.dst) = D) (hd : (D.filterMap _root_.id).Nodup)
    (hsz : (D.filterMap _root_.id).all (fun t => Nat.blt t a0.tmps.size) = true) (hb0 : Below wb.heap.size wb w0) (hz0 : ∀ m, Z (fun _ => false) (w0.drewN m))
    (hmono : ∀ i w1 w2 v, KeepL gs w1 w2 → S i w1 v → S i w2 v) (O : List Nat) (hO : List.range ops.size = O) (hstep : ∀ i ∈ O, ZStep P ops Q B D S Z gs a0 wb i)
    (hend : ∀ a w, RegZ D S Z a0 wb (fun _ => true) a w → Q .normal a w) (hZt : ∀ b w, (∀ j, (List.range ops.size).contains j = true → b j = true) → Z b w → Z (fun _ => true) w) : (Code.region id ops true).wp P Q a0 w0 := by
  subst hO
  refine wp_region_last (S := fun _ => True) (ds := []) hm ?_
  have hl : T.2.length = ops.size := by rw [← hT]; exact rtab_length
  refine inv_ (T := T) (B := B) (List.range ops.size) (RegZ D S Z a0 wb) hT hB hk ?_ ?_ ?_ ?_
  · rw [hl]
    simp only [Bool.and_eq_true, beq_iff_eq, List.length_range, and_true]
    apply List.ext_getElem?
    intro j
    by_cases hj : j < ops.size
    · simp [lof, hj]
    · simp [lof, hj]
  · exact ⟨pw_below_drewN hb0 1, hz0 1, rfl, rfl, fun _ _ => rfl, fun _ _ _ h => by cases h⟩
  · intro i hi b a w hI hb hon hoff
    have hi' : i < ops.size := List.mem_range.1 hi
    obtain ⟨oi, hoi, hK⟩ := hstep i hi b a w hI.below hI.z hI.size hI.elder hb hon hoff (fun j t hj ht => by
      refine hI.vals j t ht (hon j ?_)
      rw [hj, Bool.and_true, List.contains_iff_mem, List.mem_range]
      have := (List.getElem?_eq_some_iff.1 ht).1
      rw [← hD] at this
      simpa using this)
    refine ⟨oi, hoi, fun K hS => hK K (fun v w' hbel hbw hz' hs => hS.out _ _ ?_)⟩
    have hDi : D[i]? = some oi.dst := by rw [← hD, List.getElem?_map, Array.getElem?_toList, hoi]; rfl
    refine ⟨hbel, hz', by cases oi.dst <;> simp [Act.put, hI.defers], by cases oi.dst <;> simp [Act.put, hI.size], fun t ht => ?_, fun j t hj hbj => ?_⟩
    · cases hdst : oi.dst with
      | none => simpa [Act.put] using hI.elder t ht
      | some u =>
        have hne : u ≠ t := by
          rintro rfl
          exact ht (List.mem_of_getElem? (by rw [hDi, hdst]))
        simp [Act.put, Array.getElem?_setIfInBounds_ne hne]
        exact hI.elder t ht
    · by_cases hji : j = i
      · subst hji
        rw [hDi] at hj
        injection hj with hj
        refine ⟨v, ?_, hs⟩
        rw [hj]
        have : t < a.tmps.size := by
          rw [hI.size]
          have h1 := List.all_eq_true.1 hsz t (List.mem_filterMap.2 ⟨some t, List.mem_of_getElem? (by rw [hDi, hj]), rfl⟩)
          simpa using h1
        simp [Act.put, this]
      · rw [up_ne hji] at hbj
        obtain ⟨x, hx, hsx⟩ := hI.vals j t hj hbj
        refine ⟨x, ?_, hmono _ _ _ _ hbw hsx⟩
        cases hdst : oi.dst with
        | none => simpa [Act.put] using hx
        | some u =>
          have hne : u ≠ t := by
            rintro rfl
            exact hji (distinct hd hj (by rw [hDi, hdst]))
          simp [Act.put, Array.getElem?_setIfInBounds_ne hne]
          exact hx
  · intro b a w hb hI
    exact hend a w ⟨hI.below, hZt b w hb hI.z, hI.defers, hI.size, hI.elder, fun i t hi _ => hI.vals i t hi (hb i (by
      rw [List.contains_iff_mem, List.mem_range]
      have := (List.getElem?_eq_some_iff.1 hi).1
      rw [← hD] at this
      simpa using this))⟩
theorem zs_nil {P : Program} {ops : Array Oper} {Q : Exit → Act → World → Prop} {B : List Nat} {D : List (Option Tmp)} {S : Nat → World → Value → Prop} {Z : (Nat → Bool) → World → Prop} {gs : List Nat} {a0 : Act} {wb : World} : ∀ i ∈ ([] : List Nat), ZStep P ops Q B D S Z gs a0 wb i := fun _ h => by cases h
theorem zs_cons {P : Program} {ops : Array Oper} {Q : Exit → Act → World → Prop} {B : List Nat} {D : List (Option Tmp)} {S : Nat → World → Value → Prop} {Z : (Nat → Bool) → World → Prop} {gs : List Nat} {a0 : Act} {wb : World} {i : Nat} {rs : List Nat} (h : ZStep P ops Q B D S Z gs a0 wb i) (hs : ∀ j ∈ rs, ZStep P ops Q B D S Z gs a0 wb j) : ∀ j ∈ i :: rs, ZStep P ops Q B D S Z gs a0 wb j := fun j hj => by
  rcases List.mem_cons.1 hj with rfl | hj
  · exact h
  · exact hs j hj
/-- Is a specification kept while all blocks stay but these? -/
def MonoL (gs : List Nat) (s : World → Value → Prop) : Prop := ∀ w1 w2 v, KeepL gs w1 w2 → s w1 v → s w2 v
theorem monoL_eq {gs : List Nat} (x : Value) : MonoL gs (fun _ v => v = x) := fun _ _ _ _ h => h
theorem monoL_nil {gs : List Nat} : ∀ s ∈ ([] : List (World → Value → Prop)), MonoL gs s := fun _ h => by cases h
theorem monoL_cons {gs : List Nat} {s : World → Value → Prop} {l : List (World → Value → Prop)} (h : MonoL gs s) (hs : ∀ t ∈ l, MonoL gs t) : ∀ t ∈ s :: l, MonoL gs t := fun t ht => by
  rcases List.mem_cons.1 ht with rfl | ht
  · exact h
  · exact hs t ht
theorem monoL_getD {gs : List Nat} {l : List (World → Value → Prop)} (h : ∀ s ∈ l, MonoL gs s) : ∀ i w1 w2 v, KeepL gs w1 w2 → l.getD i (fun _ _ => False) w1 v → l.getD i (fun _ _ => False) w2 v := by
  intro i w1 w2 v hb hs
  rw [List.getD_eq_getElem?_getD] at hs ⊢
  cases hi : l[i]? with
  | none => rw [hi] at hs; exact hs.elim
  | some s => rw [hi] at hs; exact h s (List.mem_of_getElem? hi) w1 w2 v hb hs
theorem monoL_R {gs : List Nat} {α : Type} (d : Kd α) (e base : Nat) (ok : Nat → Prop) (xs : List α) (hok : ∀ k, ok k → k ∉ gs) : MonoL gs (fun w v => d.R e w base ok v xs) := fun _ _ _ hk h => Kd.R_step h (fun k ho hlt => hk.2 k hlt (hok k ho))
end Go.Proofs.Ytamajfcjcfkkjaa.Reg
end

section
/- cycle.Begin's next input, walked by hand. -/
namespace Go.Proofs.Ytamajfcjcfkkjaa.Given
open Go Go.RowKit Go.Proofs.Ytamajfcjcfkkjaa.PSt Go.Proofs.Ytamajfcjcfkkjaa.RPure Go.Proofs.YtamajfcjcfkkjaaW.PrintWords Go.Proofs.YtamajfcjcfkkjaaW.PrintLast Go.Proofs.YtamajfcjcfkkjaaW.PrintMore
set_option linter.unusedVariables false
set_option linter.unusedSimpArgs false
/-- The next input, and how many have gone. -/
def nextF (L : List Int) (n : Nat) : Int × Nat := if h : n < L.length then (L[n], n + 1) else (0, n)
theorem next_le {L : List Int} {n : Nat} (h : n ≤ L.length) : (nextF L n).2 ≤ L.length := by unfold nextF; split <;> simp <;> omega
def wrapF (t x : Int) : Int := (kind_Wrap.f t x).getD 0
theorem wrap_is (t x : Int) : kind_Wrap.f t x = some (wrapF t x) := by
  have : ∃ r, kind_Wrap.f t x = some r := by
    unfold kind_Wrap.f
    (repeat' split) <;> exact ⟨_, rfl⟩
  obtain ⟨r, hr⟩ := this
  unfold wrapF; rw [hr]; rfl
set_option maxHeartbeats 1000000 in
theorem next_c (L : List Int) (Ai : Option Addr) (ci : Nat) (n : Nat) (w : World) (p q : Nat) (h11 : w.heap[p]? = some (.cells #[.int .i64 n] 3 (0, 0))) (h6 : w.heap[q]? = some (.cells #[.slice Ai L.length ci] 32 (0, 0)))
    (hL : Kd.C (Kd.int .i64) w Ai L.length L) (hn : n ≤ L.length) (hpq : q ≠ p) (hLn : n < L.length → ∀ ad, Ai = some ad → ad.block ≠ p) :
    Calls Try.prog 33 #[.pointer (some ⟨p, 0, none⟩), .pointer (some ⟨q, 0, none⟩)] w fun e w' => e = .returned (.int .i64 (nextF L n).1) ∧ (w' = w ∧ (nextF L n).2 = n ∨ w' = w.setCell ⟨p, 0, none⟩ (.int .i64 ((nextF L n).2 : Nat))) := by
  have m0 := hL.2.1
  have k0 : w.cell? ⟨p, 0, none⟩ = some (.int .i64 n) := (blk_cell h11 0).trans rfl
  have k1 : w.cell? ⟨q, 0, none⟩ = some (.slice Ai L.length ci) := (blk_cell h6 0).trans rfl
  have fz := blk_frozen h11 0
  by_cases hlt : n < L.length
  · obtain ⟨ad, rfl, k2⟩ := Kd.at_int hL (n : Int) (by omega) (by omega)
    rw [Int.toNat_natCast, rdn L n hlt] at k2
    have hN : nextF L n = (L[n], n + 1) := by unfold nextF; rw [dif_pos hlt]
    rw [hN]
    simp only
    have hne := hLn hlt ad rfl
    have j0 : (w.setCell ⟨p, 0, none⟩ (.int .i64 ((n : Int) + 1))).cell? ⟨p, 0, none⟩ = some (.int .i64 ((n : Int) + 1)) := by
      have := blk_put (cs := #[.int .i64 n]) h11 0 (.int .i64 ((n : Int) + 1)) rfl
      exact (blk_cell this 0).trans rfl
    have j1 : (w.setCell ⟨p, 0, none⟩ (.int .i64 ((n : Int) + 1))).cell? ⟨q, 0, none⟩ = some (.slice (some ad) L.length ci) := (cell_far (p := ⟨p, 0, none⟩) hpq _).trans k1
    have j2 : (w.setCell ⟨p, 0, none⟩ (.int .i64 ((n : Int) + 1))).cell? (ad.add n) = some (.int .i64 L[n]) := (cell_far (p := ⟨p, 0, none⟩) (by rw [add_block]; exact hne) _).trans k2
    have hge : ¬ (n : Int) ≥ L.length := by omega
    clear k2 hN h11 h6 hL hLn hne
    go_enter Try.func33, Try.ntmps33
    go_wp2_with fail
    go_ret
    refine ⟨rfl, ?_⟩
    first | exact rfl | exact .inr rfl
  · have hN : nextF L n = (0, n) := by unfold nextF; rw [dif_neg hlt]
    rw [hN]
    simp only
    have hge : (n : Int) ≥ L.length := by omega
    go_enter Try.func33, Try.ntmps33
    go_wp2_with fail
    go_ret
    refine ⟨rfl, ?_⟩
    first | exact .inl ⟨rfl, trivial⟩ | exact .inl ⟨rfl, rfl⟩ | exact .inl rfl
end Go.Proofs.Ytamajfcjcfkkjaa.Given
end
