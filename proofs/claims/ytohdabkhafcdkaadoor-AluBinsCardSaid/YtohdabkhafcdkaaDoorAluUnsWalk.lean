/- The walk of AluUns, where both tables lie as the program lays them: for all numbers its call returns true. -/
import Derived.Test.YtohdabkhafcdkaaDoorAluUnPure
import Derived.Test.YtohdabkhafcdkaaDoorAluLawsWalk
import Derived.Test.YtohdabkhafcdkaaDoorBridgeArr
namespace Go.Proofs.YtohdabkhafcdkaaDoor
open Go Go.RowKit Go.Proofs.YtohdabkhafcdkaaDoor.PAlu Go.Proofs.YtohdabkhafcdkaaDoor.Given Go.Proofs.YtohdabkhafcdkaaDoor.PureAlu Go.Proofs.YtohdabkhafcdkaaDoorW.PrintWords Go.Proofs.YtohdabkhafcdkaaDoorW.PrintLast Go.Proofs.YtohdabkhafcdkaaDoorW.PrintMore
set_option linter.unusedVariables false
set_option linter.unusedSimpArgs false
set_option maxHeartbeats 2000000 in
theorem AluUns_walk_ (op t x0 x1 : Int) (w : World) (h0 : -9223372036854775808 ≤ op ∧ op ≤ 9223372036854775807) (h2 : -9223372036854775808 ≤ x0 ∧ x0 ≤ 9223372036854775807) (hL : LaidAlu w) :
    Calls Tryd.prog 8 #[.int .i64 op, .int .i64 t, .agg #[.int .i64 x0, .int .i64 x1]] w fun e w' => e = .returned (.bool true) ∧ Below w.heap.size w w' := by
  obtain ⟨⟨u1, u2⟩, hu⟩ : ∃ p, unF op t x0 = p := ⟨_, rfl⟩
  obtain ⟨⟨c1, c2⟩, hc⟩ : ∃ p, convF t x1 x0 = p := ⟨_, rfl⟩
  have e1 := un_is op t x0 h0
  have e2 := ref_un_is op t x0 h2
  have e3 := conv_is t x1 x0
  have e4 := ref_conv_is t x1 x0 h2
  rw [hu] at e1 e2
  rw [hc] at e3 e4
  have E1 := Aside0.mk (fun w hL => alu_Un.calls 2 op t x0 u1 u2 w e1 hL)
  have E2 := Aside0.mk (fun w => ladderbackref07_Un.calls 12 op t x0 u1 u2 w e2)
  have E3 := Aside0.mk (fun w => alu_Conv.calls t x1 x0 c1 c2 w e3)
  have E4 := Aside0.mk (fun w => ladderbackref07_Conv.calls t x1 x0 c1 c2 w e4)
  have E5 := Aside0.mk (fun w hL => ladderbacklaw07_awake.calls 20 true w awake20 hL)
  have HL := Aside0.mk hL
  have B0 : Aside0 (∀ w' : World, Below (w.alloc (.cells #[.int .i64 x0, .int .i64 x1] 31)).heap.size (w.alloc (.cells #[.int .i64 x0, .int .i64 x1] 31)) w' → w'.cell? ⟨w.heap.size, 0, none⟩ = some (.int .i64 x0) ∧ w'.cell? ⟨w.heap.size, 1, none⟩ = some (.int .i64 x1)) := ⟨by
    intro w' hb
    have h := heap_alloc_new w (.cells #[.int .i64 x0, .int .i64 x1] 31)
    exact ⟨pw_cell_below hb (by rw [cell_of_row _ _ 0 _ _ _ h]; rfl), pw_cell_below hb (by rw [cell_of_row _ _ 1 _ _ _ h]; rfl)⟩⟩
  have hb0 := Aside0.mk ((Below.refl w.heap.size w).alloc (Nat.le_refl _) (.cells #[.int .i64 x0, .int .i64 x1] 31))
  clear hu hc e1 e2 e3 e4 hL h0 h2
  go_enter Tryd.func8, Tryd.ntmps8
  go_wp2_with fail
  refine (E1.out _ (HL.out.below hb0.out)).mono ?_
  rintro e w1 ⟨rfl, hb1⟩
  have hbw := Aside0.mk (hb0.out.trans (hb1.mono hb0.out.size))
  have HB1 := Aside0.mk hb1
  obtain ⟨d0, d1⟩ := B0.out _ hb1
  clear hb1
  go_wp2_with fail
  refine (E2.out _).mono ?_
  rintro e w2 ⟨rfl, m2, rfl⟩
  clear d0 d1
  obtain ⟨d0, d1⟩ := B0.out _ (pw_below_drewN HB1.out m2)
  go_wp2_with fail
  refine (E3.out _).mono ?_
  rintro e w3 ⟨rfl, m3, rfl⟩
  clear d0 d1
  obtain ⟨d0, d1⟩ := B0.out _ (pw_below_drewN HB1.out (m2 + m3))
  go_wp2_with fail
  refine (E4.out _).mono ?_
  rintro e w4 ⟨rfl, m4, rfl⟩
  clear d0 d1
  go_wp2_with fail
  refine (E5.out _ (HL.out.below (pw_below_drewN hbw.out (m2 + m3 + m4)))).mono ?_
  rintro e w5 ⟨rfl, hb5⟩
  go_wp2_with fail
  go_ret
  exact ⟨rfl, (pw_below_drewN hbw.out (m2 + m3 + m4)).trans (hb5.mono (below_size (pw_below_drewN hbw.out (m2 + m3 + m4))))⟩
theorem rd_two : Bridge.Rdga Tryd.prog 31 (Kd.arr 2 (Kd.int .i64) (by decide)) (fun l => ∀ a ∈ l, (Lit.int .i64 a).wf = true) :=
  Bridge.Rdg.arraya Tryd.underlying31 (by kernel_rfl) (Bridge.Rdg.int Tryd.underlying3 (by kernel_rfl))
theorem two_of {cs : Array Value} {x : List Int} {w : World} (hk : (Kd.arr 2 (Kd.int .i64) (by decide)).K w x cs.toList) : ∃ x0 x1, x = [x0, x1] ∧ cs = #[.int .i64 x0, .int .i64 x1] := by
  obtain ⟨hl, hc⟩ := Kd.arr_cells hk
  match x, hl with
  | [x0, x1], _ =>
    refine ⟨x0, x1, rfl, ?_⟩
    have : cs = cs.toList.toArray := by simp
    rw [this, hc]
    rfl
theorem AluUns_walk (op t : Int) (cs : Array Value) (x : List Int) (w : World) (w0 : (Lit.int .i64 op).wf = true) (w1 : (Lit.int .i64 t).wf = true) (hk : (Kd.arr 2 (Kd.int .i64) (by decide)).K w x cs.toList) (wf : ∀ a ∈ x, (Lit.int .i64 a).wf = true) (hL : laidMetH Tryd.prog Rows.aluUnsRow.laid w) :
    Calls Tryd.prog 8 #[.int .i64 op, .int .i64 t, .agg cs] w fun e w' => e = .returned (.bool true) ∧ Below w.heap.size w w' := by
  obtain ⟨x0, x1, rfl, rfl⟩ := two_of hk
  exact AluUns_walk_ op t x0 x1 w (i64_of_wf op w0) (i64_of_wf x0 (wf x0 (by simp))) (laidAlu_of hL rfl (by simp [Rows.aluUnsRow]) (by simp [Rows.aluUnsRow]))
end Go.Proofs.YtohdabkhafcdkaaDoor
