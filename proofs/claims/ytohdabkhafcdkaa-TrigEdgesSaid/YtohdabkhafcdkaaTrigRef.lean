/- The document's step of the two edge blocks: the same as the program's; and the example of the laws. -/
import Derived.Test.YtohdabkhafcdkaaTrigCall
namespace Go.Proofs.Ytohdabkhafcdkaa
open Go Go.RowKit Go.Proofs.YtohdabkhafcdkaaW.PrintWords Go.Proofs.YtohdabkhafcdkaaW.PrintLast Go.Proofs.YtohdabkhafcdkaaW.PrintMore
set_option linter.unusedVariables false
set_option linter.unusedSimpArgs false
theorem mid_block2 (w : World) (o1 : Obj) (xs : Array Value) (t : TypeId) : ((w.alloc o1).alloc (.cells xs t)).heap[w.heap.size + 1]? = some (.cells xs t (0, 0)) := by
  have := heap_alloc_new (w.alloc o1) (.cells xs t)
  rwa [show (w.alloc o1).heap.size = w.heap.size + 1 from by simp] at this
theorem mid_block (w : World) (o1 o3 : Obj) (xs : Array Value) (t : TypeId) : (((w.alloc o1).alloc (.cells xs t)).alloc o3).heap[w.heap.size + 1]? = some (.cells xs t (0, 0)) := by
  have h := mid_block2 w o1 xs t
  have hb := (Below.refl ((w.alloc o1).alloc (.cells xs t)).heap.size _).alloc (Nat.le_refl _) o3
  rw [hb.block _ (by simp)]
  exact h
theorem below_2 (w : World) (o1 o2 : Obj) : Below w.heap.size w ((w.alloc o1).alloc o2) := ((Below.refl _ _).alloc (Nat.le_refl _) _).alloc (by simp) _
theorem below_3 (w : World) (o1 o2 o3 : Obj) : Below w.heap.size w (((w.alloc o1).alloc o2).alloc o3) := (below_2 w o1 o2).alloc (by simp; omega) _
set_option maxHeartbeats 2000000 in
theorem RefStep_700 (x1 x3 x4 x5 x6 x7 x8 x9 : Int) (w : World)  :
    Calls Try.prog 10 #[.int .i64 7, .agg (instL 0 x1 0 x3 x4 x5 x6 x7 x8 x9).toArray] w fun e w' => e = .returned (.agg (instL 0 0 0 x3 x4 x5 x6 x7 x8 x9).toArray) ∧ Below w.heap.size w w' := by
  unfold instL
  go_enter Try.func10, Try.ntmps10
  go_wp2_with fail
  refine bodyPost_ret (results_cell_row rfl _ _ (w.heap.size + 1) 24 (instL 0 0 0 x3 x4 x5 x6 x7 x8 x9).toArray (0, 0) _ rfl ?hh Try.underlying24 rfl (by kernel_rfl)) rfl ?hp
  case hh => exact mid_block _ _ _ _ _
  case hp => exact ⟨rfl, below_3 _ _ _ _⟩
set_option maxHeartbeats 2000000 in
theorem RefStep_701 (x1 x2 x3 x4 x5 x6 x7 x8 x9 : Int) (w : World) (h2 : x2 ≠ 0) :
    Calls Try.prog 10 #[.int .i64 7, .agg (instL 0 x1 x2 x3 x4 x5 x6 x7 x8 x9).toArray] w fun e w' => e = .returned (.agg (instL 0 0 0 x3 x4 x5 x6 x7 x8 x9).toArray) ∧ Below w.heap.size w w' := by
  have b2 : (x2 != 0) = true := bne_iff_ne.2 h2
  have d2 : (x2 == 0) = false := beq_eq_false_iff_ne.2 h2
  unfold instL
  go_enter Try.func10, Try.ntmps10
  go_wp2_with fail
  refine bodyPost_ret (results_cell_row rfl _ _ (w.heap.size + 1) 24 (instL 0 0 0 x3 x4 x5 x6 x7 x8 x9).toArray (0, 0) _ rfl ?hh Try.underlying24 rfl (by kernel_rfl)) rfl ?hp
  case hh => exact mid_block _ _ _ _ _
  case hp => exact ⟨rfl, below_3 _ _ _ _⟩
set_option maxHeartbeats 2000000 in
theorem RefStep_710 (x0 x1 x3 x4 x5 x6 x7 x8 x9 : Int) (w : World) (h0 : x0 ≠ 0)  :
    Calls Try.prog 10 #[.int .i64 7, .agg (instL x0 x1 0 x3 x4 x5 x6 x7 x8 x9).toArray] w fun e w' => e = .returned (.agg (instL x0 1 1 x3 x4 x5 x6 x7 x8 x9).toArray) ∧ Below w.heap.size w w' := by
  have b0 : (x0 != 0) = true := bne_iff_ne.2 h0
  have d0 : (x0 == 0) = false := beq_eq_false_iff_ne.2 h0
  unfold instL
  go_enter Try.func10, Try.ntmps10
  go_wp2_with fail
  refine bodyPost_ret (results_cell_row rfl _ _ (w.heap.size + 1) 24 (instL x0 1 1 x3 x4 x5 x6 x7 x8 x9).toArray (0, 0) _ rfl ?hh Try.underlying24 rfl (by kernel_rfl)) rfl ?hp
  case hh => exact mid_block _ _ _ _ _
  case hp => exact ⟨rfl, below_3 _ _ _ _⟩
set_option maxHeartbeats 2000000 in
theorem RefStep_711 (x0 x1 x2 x3 x4 x5 x6 x7 x8 x9 : Int) (w : World) (h0 : x0 ≠ 0) (h2 : x2 ≠ 0) :
    Calls Try.prog 10 #[.int .i64 7, .agg (instL x0 x1 x2 x3 x4 x5 x6 x7 x8 x9).toArray] w fun e w' => e = .returned (.agg (instL x0 0 1 x3 x4 x5 x6 x7 x8 x9).toArray) ∧ Below w.heap.size w w' := by
  have b0 : (x0 != 0) = true := bne_iff_ne.2 h0
  have d0 : (x0 == 0) = false := beq_eq_false_iff_ne.2 h0
  have b2 : (x2 != 0) = true := bne_iff_ne.2 h2
  have d2 : (x2 == 0) = false := beq_eq_false_iff_ne.2 h2
  unfold instL
  go_enter Try.func10, Try.ntmps10
  go_wp2_with fail
  refine bodyPost_ret (results_cell_row rfl _ _ (w.heap.size + 1) 24 (instL x0 0 1 x3 x4 x5 x6 x7 x8 x9).toArray (0, 0) _ rfl ?hh Try.underlying24 rfl (by kernel_rfl)) rfl ?hp
  case hh => exact mid_block _ _ _ _ _
  case hp => exact ⟨rfl, below_3 _ _ _ _⟩
set_option maxHeartbeats 2000000 in
theorem RefStep_800 (x1 x3 x4 x5 x6 x7 x8 x9 : Int) (w : World)  :
    Calls Try.prog 10 #[.int .i64 8, .agg (instL 0 x1 0 x3 x4 x5 x6 x7 x8 x9).toArray] w fun e w' => e = .returned (.agg (instL 0 0 0 x3 x4 x5 x6 x7 x8 x9).toArray) ∧ Below w.heap.size w w' := by
  unfold instL
  go_enter Try.func10, Try.ntmps10
  go_wp2_with fail
  refine bodyPost_ret (results_cell_row rfl _ _ (w.heap.size + 1) 24 (instL 0 0 0 x3 x4 x5 x6 x7 x8 x9).toArray (0, 0) _ rfl ?hh Try.underlying24 rfl (by kernel_rfl)) rfl ?hp
  case hh => exact mid_block _ _ _ _ _
  case hp => exact ⟨rfl, below_3 _ _ _ _⟩
set_option maxHeartbeats 2000000 in
theorem RefStep_801 (x1 x2 x3 x4 x5 x6 x7 x8 x9 : Int) (w : World) (h2 : x2 ≠ 0) :
    Calls Try.prog 10 #[.int .i64 8, .agg (instL 0 x1 x2 x3 x4 x5 x6 x7 x8 x9).toArray] w fun e w' => e = .returned (.agg (instL 0 1 0 x3 x4 x5 x6 x7 x8 x9).toArray) ∧ Below w.heap.size w w' := by
  have b2 : (x2 != 0) = true := bne_iff_ne.2 h2
  have d2 : (x2 == 0) = false := beq_eq_false_iff_ne.2 h2
  unfold instL
  go_enter Try.func10, Try.ntmps10
  go_wp2_with fail
  refine bodyPost_ret (results_cell_row rfl _ _ (w.heap.size + 1) 24 (instL 0 1 0 x3 x4 x5 x6 x7 x8 x9).toArray (0, 0) _ rfl ?hh Try.underlying24 rfl (by kernel_rfl)) rfl ?hp
  case hh => exact mid_block _ _ _ _ _
  case hp => exact ⟨rfl, below_3 _ _ _ _⟩
set_option maxHeartbeats 2000000 in
theorem RefStep_810 (x0 x1 x3 x4 x5 x6 x7 x8 x9 : Int) (w : World) (h0 : x0 ≠ 0)  :
    Calls Try.prog 10 #[.int .i64 8, .agg (instL x0 x1 0 x3 x4 x5 x6 x7 x8 x9).toArray] w fun e w' => e = .returned (.agg (instL x0 0 1 x3 x4 x5 x6 x7 x8 x9).toArray) ∧ Below w.heap.size w w' := by
  have b0 : (x0 != 0) = true := bne_iff_ne.2 h0
  have d0 : (x0 == 0) = false := beq_eq_false_iff_ne.2 h0
  unfold instL
  go_enter Try.func10, Try.ntmps10
  go_wp2_with fail
  refine bodyPost_ret (results_cell_row rfl _ _ (w.heap.size + 1) 24 (instL x0 0 1 x3 x4 x5 x6 x7 x8 x9).toArray (0, 0) _ rfl ?hh Try.underlying24 rfl (by kernel_rfl)) rfl ?hp
  case hh => exact mid_block _ _ _ _ _
  case hp => exact ⟨rfl, below_3 _ _ _ _⟩
set_option maxHeartbeats 2000000 in
theorem RefStep_811 (x0 x1 x2 x3 x4 x5 x6 x7 x8 x9 : Int) (w : World) (h0 : x0 ≠ 0) (h2 : x2 ≠ 0) :
    Calls Try.prog 10 #[.int .i64 8, .agg (instL x0 x1 x2 x3 x4 x5 x6 x7 x8 x9).toArray] w fun e w' => e = .returned (.agg (instL x0 0 1 x3 x4 x5 x6 x7 x8 x9).toArray) ∧ Below w.heap.size w w' := by
  have b0 : (x0 != 0) = true := bne_iff_ne.2 h0
  have d0 : (x0 == 0) = false := beq_eq_false_iff_ne.2 h0
  have b2 : (x2 != 0) = true := bne_iff_ne.2 h2
  have d2 : (x2 == 0) = false := beq_eq_false_iff_ne.2 h2
  unfold instL
  go_enter Try.func10, Try.ntmps10
  go_wp2_with fail
  refine bodyPost_ret (results_cell_row rfl _ _ (w.heap.size + 1) 24 (instL x0 0 1 x3 x4 x5 x6 x7 x8 x9).toArray (0, 0) _ rfl ?hh Try.underlying24 rfl (by kernel_rfl)) rfl ?hp
  case hh => exact mid_block _ _ _ _ _
  case hp => exact ⟨rfl, below_3 _ _ _ _⟩
set_option maxHeartbeats 2000000 in
theorem RefStep_other (kind x0 x1 x2 x3 x4 x5 x6 x7 x8 x9 : Int) (w : World) (hk : kind ≠ 7) (hk8 : kind ≠ 8) :
    Calls Try.prog 10 #[.int .i64 kind, .agg (instL x0 x1 x2 x3 x4 x5 x6 x7 x8 x9).toArray] w fun e w' => e = .returned (.agg (instL x0 x1 x2 x3 x4 x5 x6 x7 x8 x9).toArray) ∧ Below w.heap.size w w' := by
  have e7 : (kind != 7) = true := bne_iff_ne.2 hk
  have e8 : (kind != 8) = true := bne_iff_ne.2 hk8
  unfold instL
  go_enter Try.func10, Try.ntmps10
  go_wp2_with fail
  refine bodyPost_ret (results_cell_row rfl _ _ (w.heap.size + 1) 24 (instL x0 x1 x2 x3 x4 x5 x6 x7 x8 x9).toArray (0, 0) _ rfl ?hh Try.underlying24 rfl (by kernel_rfl)) rfl ?hp
  case hh => exact mid_block2 _ _ _ _
  case hp => exact ⟨rfl, below_2 _ _ _⟩
theorem RefStep_calls (kind x0 x1 x2 x3 x4 x5 x6 x7 x8 x9 : Int) (w : World) :
    Calls Try.prog 10 #[.int .i64 kind, .agg (instL x0 x1 x2 x3 x4 x5 x6 x7 x8 x9).toArray] w fun e w' => e = .returned (.agg (stepped kind x0 x1 x2 x3 x4 x5 x6 x7 x8 x9).toArray) ∧ Below w.heap.size w w' := by
  unfold stepped edge truth
  by_cases h7 : kind = 7
  · subst h7
    by_cases h0 : x0 = 0 <;> by_cases h2 : x2 = 0 <;> simp only [h0, h2] <;> simp [h0, h2]
    · exact RefStep_700 x1  x3 x4 x5 x6 x7 x8 x9 w  
    · exact RefStep_701 x1 x2 x3 x4 x5 x6 x7 x8 x9 w  h2
    · exact RefStep_710 x0 x1  x3 x4 x5 x6 x7 x8 x9 w h0 
    · exact RefStep_711 x0 x1 x2 x3 x4 x5 x6 x7 x8 x9 w h0 h2
  by_cases h8 : kind = 8
  · subst h8
    by_cases h0 : x0 = 0 <;> by_cases h2 : x2 = 0 <;> simp only [h0, h2] <;> simp [h0, h2]
    · exact RefStep_800 x1  x3 x4 x5 x6 x7 x8 x9 w  
    · exact RefStep_801 x1 x2 x3 x4 x5 x6 x7 x8 x9 w  h2
    · exact RefStep_810 x0 x1  x3 x4 x5 x6 x7 x8 x9 w h0 
    · exact RefStep_811 x0 x1 x2 x3 x4 x5 x6 x7 x8 x9 w h0 h2
  · simp only [h7, h8]
    simp
    exact RefStep_other kind x0 x1 x2 x3 x4 x5 x6 x7 x8 x9 w h7 h8
theorem Is_calls (kind : Int) (w : World) : Calls Try.prog 11 #[.int .i64 kind] w fun e w' => e = .returned (.bool (decide (kind = 7 ∨ kind = 8))) ∧ w' = w := by
  by_cases h7 : kind = 7
  · subst h7
    go_enter Try.func11, Try.ntmps11
    go_wp2
    go_ret
    exact ⟨rfl, rfl⟩
  · by_cases h8 : kind = 8
    · subst h8
      go_enter Try.func11, Try.ntmps11
      go_wp2
      go_ret
      exact ⟨rfl, rfl⟩
    · go_enter Try.func11, Try.ntmps11
      have e7 : (kind == 7) = false := beq_eq_false_iff_ne.2 h7
      have e8 : (kind == 8) = false := beq_eq_false_iff_ne.2 h8
      go_wp2
      go_ret
      exact ⟨by simp [h7, h8], rfl⟩
theorem awake_calls (w : World) : Calls Try.prog 12 #[] w fun e w' => e = .returned (.bool true) ∧ Below w.heap.size w w' := by
  have hS := Aside0.mk (Step_calls 7 1 0 0 0 0 0 0 0 0 0)
  have hI := Aside0.mk (Is_calls 8)
  have hs : stepped 7 1 0 0 0 0 0 0 0 0 0 = instL 1 1 1 0 0 0 0 0 0 0 := by (unfold stepped edge truth; simp)
  rw [hs] at hS
  clear hs
  unfold instL at hS
  go_enter Try.func12, Try.ntmps12
  go_wp2_with fail
  refine (hS.out _).mono ?_
  rintro e w1 ⟨rfl, hb⟩
  go_wp2_with fail
  refine (hI.out _).mono ?_
  rintro e w2 ⟨rfl, rfl⟩
  go_wp2
  go_ret
  exact ⟨rfl, hb.alloc hb.size _⟩
end Go.Proofs.Ytohdabkhafcdkaa
