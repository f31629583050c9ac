/- The walk of AluBins, where both tables lie as the program lays them: for all numbers its call returns true. -/
import Derived.Test.YtohdabkhafcdkaaDoorAluBinPure4
import Derived.Test.YtohdabkhafcdkaaDoorAluUnsWalk
namespace Go.Proofs.YtohdabkhafcdkaaDoor
open Go Go.RowKit Go.Proofs.YtohdabkhafcdkaaDoor.PAlu Go.Proofs.YtohdabkhafcdkaaDoor.Given Go.Proofs.YtohdabkhafcdkaaDoor.PureAlu Go.Proofs.YtohdabkhafcdkaaDoorW.PrintWords Go.Proofs.YtohdabkhafcdkaaDoorW.PrintLast Go.Proofs.YtohdabkhafcdkaaDoorW.PrintMore
set_option linter.unusedVariables false
set_option linter.unusedSimpArgs false
set_option maxHeartbeats 2000000 in
theorem AluBins_walk_ (op t x0 x1 : Int) (w : World) (h0 : -9223372036854775808 ≤ op ∧ op ≤ 9223372036854775807) (h2 : -9223372036854775808 ≤ x0 ∧ x0 ≤ 9223372036854775807) (h3 : -9223372036854775808 ≤ x1 ∧ x1 ≤ 9223372036854775807) (hL : LaidAlu w) :
    Calls Tryd.prog 6 #[.int .i64 op, .int .i64 t, .agg #[.int .i64 x0, .int .i64 x1]] w fun e w' => e = .returned (.bool true) ∧ Below w.heap.size w w' := by
  obtain ⟨⟨u1, u2, u3⟩, e1, e2⟩ := bins op t x0 x1 h0 h2 h3
  have E1 := Aside0.mk (fun w hL => alu_Bin.calls 10 op t x0 x1 u1 u2 u3 w e1 hL)
  have E2 := Aside0.mk (fun w => ladderbackref07_Bin.calls 103 op t x0 x1 u1 u2 u3 w e2)
  obtain ⟨G, hG⟩ : ∃ G, goesOf op t = G := ⟨_, rfl⟩
  have E3 := Aside0.mk (fun w hL => alu_Goes.calls op t G w (by rw [← hG]; exact goes_is op t h0) hL)
  have E4 := Aside0.mk (fun w => ladderbackref07_Goes.calls 12 op t G w (by rw [← hG]; exact ref_goes_is op t))
  obtain ⟨Bi, hBi⟩ : ∃ B, binaryF op = B := ⟨_, rfl⟩
  have E6 := Aside0.mk (fun w => alu_Binary.calls op Bi w (by rw [← hBi]; exact binary_is op h0))
  have E7 := Aside0.mk (fun w => ladderbackref07_Binary.calls op Bi w (by rw [← hBi]; exact ref_binary_is op))
  obtain ⟨Re, hRe⟩ : ∃ B, resF op t = B := ⟨_, rfl⟩
  have E8 := Aside0.mk (fun w hL => alu_Result.calls op t Re w (by rw [← hRe]; exact res_is op t h0) hL)
  have E9 := Aside0.mk (fun w => ladderbackref07_Result.calls 12 op t Re w (by rw [← hRe]; exact ref_res_is op t))
  have E5 := Aside0.mk (fun w hL => ladderbacklaw07_awake.calls 20 true w awake20 hL)
  have HL := Aside0.mk hL
  have B0 : Aside0 (∀ w' : World, Below (w.alloc (.cells #[.int .i64 x0, .int .i64 x1] 31)).heap.size (w.alloc (.cells #[.int .i64 x0, .int .i64 x1] 31)) w' → w'.cell? ⟨w.heap.size, 0, none⟩ = some (.int .i64 x0) ∧ w'.cell? ⟨w.heap.size, 1, none⟩ = some (.int .i64 x1)) := ⟨by
    intro w' hb
    have h := heap_alloc_new w (.cells #[.int .i64 x0, .int .i64 x1] 31)
    exact ⟨pw_cell_below hb (by rw [cell_of_row _ _ 0 _ _ _ h]; rfl), pw_cell_below hb (by rw [cell_of_row _ _ 1 _ _ _ h]; rfl)⟩⟩
  have hb0 := Aside0.mk ((Below.refl w.heap.size w).alloc (Nat.le_refl _) (.cells #[.int .i64 x0, .int .i64 x1] 31))
  clear e1 e2 hL h0 h2 h3 hG hBi hRe
  go_enter Tryd.func6, Tryd.ntmps6
  go_wp2_with fail
  refine (E1.out _ (HL.out.below hb0.out)).mono ?_
  rintro e w1 ⟨rfl, hb1⟩
  have hbw := Aside0.mk (hb0.out.trans (hb1.mono hb0.out.size))
  obtain ⟨d0, d1⟩ := B0.out _ hb1
  clear hb1 B0 hb0
  go_wp2_with fail
  refine (E2.out _).mono ?_
  rintro e w2 ⟨rfl, m2, rfl⟩
  clear d0 d1
  have hb2 := Aside0.mk (pw_below_drewN hbw.out m2)
  clear hbw
  generalize w1.drewN m2 = w2 at *
  go_wp2_with fail
  refine (E3.out _ (HL.out.below hb2.out)).mono ?_
  rintro e w3 ⟨rfl, hb3⟩
  have hbw3 := Aside0.mk (hb2.out.trans (hb3.mono hb2.out.size))
  clear hb3 hb2
  go_wp2_with fail
  refine (E4.out _).mono ?_
  rintro e w4 ⟨rfl, m4, rfl⟩
  have hb4 := Aside0.mk (pw_below_drewN hbw3.out m4)
  clear hbw3
  generalize w3.drewN m4 = w4 at *
  go_wp2_with fail
  refine (E6.out _).mono ?_
  rintro e w6 ⟨rfl, m6, rfl⟩
  have hb6 := Aside0.mk (pw_below_drewN hb4.out m6)
  clear hb4
  generalize w4.drewN m6 = w6 at *
  go_wp2_with fail
  refine (E7.out _).mono ?_
  rintro e w7 ⟨rfl, m7, rfl⟩
  have hb7 := Aside0.mk (pw_below_drewN hb6.out m7)
  clear hb6
  generalize w6.drewN m7 = w7 at *
  go_wp2_with fail
  refine (E8.out _ (HL.out.below hb7.out)).mono ?_
  rintro e w8 ⟨rfl, hb8⟩
  have hbw8 := Aside0.mk (hb7.out.trans (hb8.mono hb7.out.size))
  clear hb7 hb8
  go_wp2_with fail
  refine (E9.out _).mono ?_
  rintro e w9 ⟨rfl, m9, rfl⟩
  have hb9 := Aside0.mk (pw_below_drewN hbw8.out m9)
  clear hbw8
  generalize w8.drewN m9 = w9 at *
  go_wp2_with fail
  refine (E5.out _ (HL.out.below hb9.out)).mono ?_
  rintro e w5 ⟨rfl, hb5⟩
  go_wp2_with fail
  go_ret
  exact ⟨rfl, hb9.out.trans (hb5.mono (below_size hb9.out))⟩
theorem AluBins_walk (op t : Int) (cs : Array Value) (x : List Int) (w : World) (w0 : (Lit.int .i64 op).wf = true) (w1 : (Lit.int .i64 t).wf = true) (hk : (Kd.arr 2 (Kd.int .i64) (by decide)).K w x cs.toList) (wf : ∀ a ∈ x, (Lit.int .i64 a).wf = true) (hL : laidMetH Tryd.prog Rows.aluBinsRow.laid w) :
    Calls Tryd.prog 6 #[.int .i64 op, .int .i64 t, .agg cs] w fun e w' => e = .returned (.bool true) ∧ Below w.heap.size w w' := by
  obtain ⟨x0, x1, rfl, rfl⟩ := two_of hk
  exact AluBins_walk_ op t x0 x1 w (i64_of_wf op w0) (i64_of_wf x0 (wf x0 (by simp))) (i64_of_wf x1 (wf x1 (by simp))) (laidAlu_of hL rfl (by simp [Rows.aluBinsRow]) (by simp [Rows.aluBinsRow]))
end Go.Proofs.YtohdabkhafcdkaaDoor
