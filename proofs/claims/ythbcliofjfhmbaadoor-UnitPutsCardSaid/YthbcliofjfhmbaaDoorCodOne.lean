/- Five bytes as an instruction, as the program reads them; any five bytes, the operations' table as the program lays it. -/
import Derived.Test.YthbcliofjfhmbaaDoorRdrAll
import Derived.Test.YthbcliofjfhmbaaDoorPOpx1
namespace Go.Proofs.YthbcliofjfhmbaaDoor.Given
set_option linter.unusedVariables false
set_option linter.unusedSimpArgs false
open Go.RowKit Go.Proofs.YthbcliofjfhmbaaDoorW.PrintWords Go.Proofs.YthbcliofjfhmbaaDoorW.PrintLast Go.Proofs.YthbcliofjfhmbaaDoorW.PrintMore
open Go.Proofs.YthbcliofjfhmbaaDoor
def right3 (x y z : Int) : Bool := POp.op_Right.f x y z == some true
def isReal (x : Int) : Bool := POp.op_Real.f x == some true
theorem right_some (x y z : Int) : POp.op_Right.f x y z = some (right3 x y z) := by
  have : ∃ r, POp.op_Right.f x y z = some r := by
    unfold POp.op_Right.f op_Shape.f POp.op_Is.f POp.op_may.f
    simp only [Option.bind_some]
    repeat' split
    all_goals first | exact ⟨_, rfl⟩ | (simp only [Option.bind_some]; repeat' split) 
    all_goals first | exact ⟨_, rfl⟩ | (simp only [Option.bind_some]; repeat' split) 
    all_goals exact ⟨_, rfl⟩
  obtain ⟨r, hr⟩ := this
  unfold right3
  rw [hr]
  cases r <;> rfl
theorem real_some (x : Int) : POp.op_Real.f x = some (isReal x) := by
  have : ∃ r, POp.op_Real.f x = some r := by
    unfold POp.op_Real.f
    split <;> exact ⟨_, rfl⟩
  obtain ⟨r, hr⟩ := this
  unfold isReal
  rw [hr]
  cases r <;> rfl
/-- The error of an instruction. -/
def errI (x y z : Int) : Int := if isReal x then 6 else if right3 x y z then 0 else 7
set_option maxHeartbeats 2000000 in
theorem one_calls (A0 : Option Addr) (c0 : Nat) (L : List Int) (x y z : Int) (w : World) (hr0 : Kd.C (Kd.int .u8) w A0 L.length L) (hc0 : L.length ≤ c0) (hl : L.length ≤ 1000000000) (hb : okB L = true)
    (n1 : numR L 0 false 1 = (x, 1, false)) (n2 : numR L 1 false 2 = (y, 3, false)) (n3 : numR L 3 false 2 = (z, 5, false)) (hL : LaidOps w) :
    Calls Tryd.prog 29 #[.slice A0 L.length c0] w fun e w' => e = .returned (.tuple #[.agg #[.int .i64 x, .int .i64 y, .int .i64 z], .int .i64 (errI x y z)]) ∧ Below w.heap.size w w' := by
  have N1 := Aside0.mk n1
  have N2 := Aside0.mk n2
  have N3 := Aside0.mk n3
  have OB := Aside0.mk hb
  have HL := Aside0.mk hL
  clear n1 n2 n3 hb hL
  go_enter Tryd.func29, Tryd.ntmps29
  go_wp2_with fail
  have hW := (Below.refl w.heap.size w).alloc (Nat.le_refl _) (.cells #[.int .i64 0, .int .i64 0, .int .i64 0] 47)
  have hbox : (w.alloc (.cells #[.int .i64 0, .int .i64 0, .int .i64 0] 47)).heap[w.heap.size]? = some (.cells #[.int .i64 0, .int .i64 0, .int .i64 0] 47 (0, 0)) := heap_alloc_new w _
  refine (new_calls A0 c0 L _ (Kd.C_below hr0 hW) hc0 hl).mono ?_
  rintro e w8 ⟨w7, g, rfl, hI8, hb7, hb8⟩
  have hb7' := hb7.size
  have hg : w.heap.size ≠ g := by
    have := hI8.ge
    simp at hb7'
    omega
  have hB7 := hW.trans (hb7.mono hW.size)
  have hx := (hb8.block w.heap.size (by have := hb7.size; simp at this; omega)).trans ((hb7.block w.heap.size (by simp)).trans hbox)
  clear hbox hb7 hb7'
  go_wp2_with fail
  refine (num_calls g w7 _ L 0 false 1 hI8 hb8 OB.out).mono ?_
  rw [N1.out]
  rintro e w9 ⟨rfl, hI9, hb9, hk9⟩
  go_wp2_with fail
  refine (num_calls g w7 _ L 1 false 2 hI9 hb9 OB.out).mono ?_
  rw [N2.out]
  rintro e w10 ⟨rfl, hI10, hb10, hk10⟩
  go_wp2_with fail
  refine (num_calls g w7 _ L 3 false 2 hI10 hb10 OB.out).mono ?_
  rw [N3.out]
  rintro e w11 ⟨rfl, hI11, hb11, hk11⟩
  have hx2 := hk11.blk (hk10.blk (hk9.blk hx hg (by simp)) hg (by simp)) hg (by simp)
  have hB11 := hB7.trans (hb11.mono hB7.size)
  clear hI8 hI9 hI10 hI11 hb8 hb9 hb10 hb11 hk9 hk10 hk11 hx hr0
  have HX := Aside0.mk (((Below.refl w11.heap.size w11).alloc (Nat.le_refl _) (.cells #[.int .i64 x, .int .i64 y, .int .i64 z] 47)).block w.heap.size (blk_lt hx2) |>.trans hx2)
  have hi : (Tryd.prog.info? 47).map (·.size) = some 3 := by kernel_rfl
  have HB := Aside0.mk (hB11.alloc hB11.size (.cells #[.int .i64 x, .int .i64 y, .int .i64 z] 47))
  clear hB11
  have hre := real_some x
  have hri := right_some x y z
  cases hr : isReal x
  · rw [hr] at hre
    have HRe := Aside0.mk hre
    clear hre
    cases hq : right3 x y z
    all_goals (
      rw [hq] at hri
      have HRi := Aside0.mk hri
      first | have HE := Aside0.mk (show errI x y z = 0 by unfold errI; rw [hr, hq]; rfl) | have HE := Aside0.mk (show errI x y z = 7 by unfold errI; rw [hr, hq]; rfl)
      clear hri hq hr
      go_wp2_with fail
      refine (POp.op_Real.calls x false _ HRe.out).mono ?_
      rintro e w12 ⟨rfl, m, rfl⟩
      go_wp2_with fail
      refine (POp.op_Right.calls x y z _ _ HRi.out (HL.out.below (pw_below_drewN HB.out m))).mono ?_
      rintro e w13 ⟨rfl, hb13⟩
      have hB13 := (pw_below_drewN HB.out m).trans (hb13.mono (pw_below_drewN HB.out m).size)
      have hbi : w13.heap[w11.heap.size]? = some (.cells #[.int .i64 x, .int .i64 y, .int .i64 z] 47 (0, 0)) := (hb13.block w11.heap.size (blk_lt (w := (w11.alloc (.cells #[.int .i64 x, .int .i64 y, .int .i64 z] 47)).drewN m) (heap_alloc_new w11 _))).trans (heap_alloc_new w11 _)
      have q0 : w13.cell? ⟨w11.heap.size, 0, none⟩ = some (.int .i64 x) := (blk_cell hbi 0).trans rfl
      have q1 : w13.cell? ⟨w11.heap.size, 1, none⟩ = some (.int .i64 y) := (blk_cell hbi 1).trans rfl
      have q2 : w13.cell? ⟨w11.heap.size, 2, none⟩ = some (.int .i64 z) := (blk_cell hbi 2).trans rfl
      have hx3 := (hb13.block w.heap.size (blk_lt (w := (w11.alloc (.cells #[.int .i64 x, .int .i64 y, .int .i64 z] 47)).drewN m) HX.out)).trans HX.out
      go_wp2_with (first | ((with_reducible refine gate_store (t := 47) (p := 2) (v := .tmp 24) rfl ?_); refine wpList_store_row rfl 47 (.tmp 2) (.tmp 24) rfl w.heap.size #[.int .i64 x, .int .i64 y, .int .i64 z] rfl rfl 47 _ hx3 (by rw [hi]; rfl) rfl (by kernel_rfl) ?_) | ((with_reducible refine gate_store (t := 47) (p := 2) (v := .tmp 25) rfl ?_); refine wpList_store_row rfl 47 (.tmp 2) (.tmp 25) rfl w.heap.size #[.int .i64 x, .int .i64 y, .int .i64 z] rfl rfl 47 _ hx3 (by rw [hi]; rfl) rfl (by kernel_rfl) ?_))
      refine bodyPost_ret (results_ct rfl _ _ w.heap.size 47 #[.int .i64 x, .int .i64 y, .int .i64 z] (0, 0) _ rfl (setRow_heap _ _ _ _ _ _ hx3) Tryd.underlying47 rfl hi) rfl ?_
      rw [HE.out]
      exact ⟨rfl, below_setRow hB13 (Nat.le_refl _) _⟩)
  · rw [hr] at hre
    have HRe := Aside0.mk hre
    have HE := Aside0.mk (show errI x y z = 6 by unfold errI; rw [hr]; rfl)
    clear hre hr hri
    go_wp2_with fail
    refine (POp.op_Real.calls x true _ HRe.out).mono ?_
    rintro e w12 ⟨rfl, m, rfl⟩
    go_wp2_with ((with_reducible refine gate_store (t := 47) (p := 2) (v := .tmp 19) rfl ?_); refine wpList_store_row rfl 47 (.tmp 2) (.tmp 19) rfl w.heap.size #[.int .i64 x, .int .i64 y, .int .i64 z] rfl rfl 47 _ HX.out (by rw [hi]; rfl) rfl (by kernel_rfl) ?_)
    refine bodyPost_ret (results_ct rfl _ _ w.heap.size 47 #[.int .i64 x, .int .i64 y, .int .i64 z] (0, 0) _ rfl (setRow_heap _ _ _ _ _ _ (show ((w11.alloc (.cells #[.int .i64 x, .int .i64 y, .int .i64 z] 47)).drewN m).heap[w.heap.size]? = _ from HX.out)) Tryd.underlying47 rfl hi) rfl ?_
    rw [HE.out]
    exact ⟨rfl, below_setRow (pw_below_drewN HB.out m) (Nat.le_refl _) _⟩
end Go.Proofs.YthbcliofjfhmbaaDoor.Given
