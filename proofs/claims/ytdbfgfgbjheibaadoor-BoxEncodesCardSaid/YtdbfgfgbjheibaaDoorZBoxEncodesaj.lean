/- Printed by a program of this session (wip/pg.py, over the print of the kit): functions, their Lean twins, and the proofs that the calls come to them; each under the conditions that it names. -/
import Derived.Test.YtdbfgfgbjheibaaDoorZBoxEncodesq
import Derived.Test.YtdbfgfgbjheibaaDoorZBoxEncodesab
import Derived.Test.YtdbfgfgbjheibaaDoorZBoxEncodesai
/- Printed by a program of this session (wip/pg.py, over the print of the kit): functions, their Lean twins, and the proofs that the calls come to them; each under the conditions that it names. -/
namespace Go.Proofs.YtdbfgfgbjheibaaDoor.PBx
open Go.RowKit Go.Proofs.YtdbfgfgbjheibaaDoorW.PrintWords Go.Proofs.YtdbfgfgbjheibaaDoorW.PrintLast Go.Proofs.YtdbfgfgbjheibaaDoorW.PrintMore
attribute [local go_sem] max2_int min2_int max_two min_two max_three min_three max_four min_four   -- for this text's walks alone
set_option linter.unusedVariables false
set_option linter.unusedSimpArgs false

/-! ### r14_Blocks: function 32 -/
def r14_Blocks.l0 : Nat → List (S43) → List Int → Int → Option (List Int × Bool)
 | 0, _, _, _ => none
 | k + 1, x0, x4, x5 => if x5 < (x0.length : Int) then (if 0 ≤ x5 then (if (((rd_T43 x0 x5).f0).size : Int) > 255 then (some (([] : List Int), false)) else ((r14_small.f ((rd_T43 x0 x5).f1)).bind fun t366 => (if t366 = true then ((r03_Text.f k x4 ((rd_T43 x0 x5).f0)).bind fun t368 => ((some (([((rd_T43 x0 x5).f1) % 256] : List Int) : List Int)).bind fun y372 => (if t368.length + y372.length < 140737488355328 then (r14_Blocks.l0 k x0 (t368 ++ y372) (wrap64 (x5 + 1))) else (none)))) else (some (([] : List Int), false))))) else (none)) else (some (x4, true))
def r14_Blocks.f (k : Nat) (l0 : List (S43)) : Option (List Int × Bool) := if (l0.length : Int) > 32 then (some (([] : List Int), false)) else ((r03_Put.f k ([] : List Int) 2 (l0.length : Int)).bind fun t361 => (r14_Blocks.l0 k l0 t361 0))
def r14_Blocks.T9 : Bool × List (List Nat × List Nat) := (true, [([], []), ([], []), ([], []), ([1, 2], [1, 2]), ([3], [3]), ([4], [4]), ([0, 5], [0, 5]), ([], []), ([], []), ([7, 8], [7, 8]), ([9], [9]), ([10], [10]), ([11], [11]), ([12], [12]), ([6, 13, 6], [6, 13]), ([14, 14, 0, 1, 2, 3, 4, 5, 6, 7, 8, 9, 10, 11, 12, 13, 14], [0, 14])])
def r14_Blocks.B9 : List Nat := [0, 0, 0, 6, 14, 30, 63, 0, 0, 384, 896, 1920, 3968, 8064, 16383, 32767]
theorem r14_Blocks.tab9 : rtab .any (opsOf Tryd.f32 9) = r14_Blocks.T9 := by kernel_rfl
theorem r14_Blocks.bits9 : waitsOk r14_Blocks.T9.2 r14_Blocks.B9 = true := by kernel_rfl
set_option maxHeartbeats 8000000 in
set_option maxRecDepth 100000 in
theorem r14_Blocks.calls (k : Nat) (A0 : Option Addr) (c0 : Nat) (l0 : List (S43)) (r1 : List Int) (r2 : Bool) (w : World) (hr0 : Kd.C k43 w A0 l0.length l0) (hc0 : l0.length ≤ c0) (h : r14_Blocks.f k l0 = some (r1, r2)) :
  Calls Tryd.prog 32 #[.slice A0 l0.length c0] w fun e w' => ∃ v0_ : Value, e = .returned (.tuple #[v0_, .bool r2]) ∧ Kd.R (Kd.int .u8) 5 w' w.heap.size (fun _ => True) v0_ r1 ∧ Below w.heap.size w w' := by
 have HR0 := zA hr0
 have HC0 := zA hc0
 clear hr0 hc0
 have HB := zA (zX w.heap.size w)
 have H : (if (l0.length : Int) > 32 then (some (([] : List Int), false)) else ((r03_Put.f k ([] : List Int) 2 (l0.length : Int)).bind fun t361 => (r14_Blocks.l0 k l0 t361 0))) = some (r1, r2) := h
 clear h
 by_cases c2 : (l0.length : Int) > 32
 ·rw [if_pos c2] at H
  have c2b0 : decide (32 < (l0.length : Int)) = true := decide_eq_true c2
  have c2b1 : decide (32 < l0.length) = true := decide_eq_true (by omega)
  clear c2
  simp only [Option.some.injEq, Prod.mk.injEq] at H
  obtain ⟨rfl, rfl⟩ := H
  go_enter Tryd.func32, Tryd.ntmps32
  go_wp2
  go_ret2
  exact ⟨_, by first | rfl | (simp [errW_none, errW_some] <;> rfl) | (simp [*, errW_none, errW_some] <;> rfl), by first | exact Kd.R_nil _ _ _ _ _ | exact Kd.N_nil _ _ _ _ _ | exact Kd.V_nil _ _ _ _ _ | exact Kd.Q_nil _ _ _ _ _ | exact Kd.S_nil _ _ _ _ _, by repeat (first | (with_reducible first | exact HB.out | apply zB | apply zN | apply below_drew1) | exact HB.out)⟩
 ·rw [if_neg c2] at H
  have c2b0 : decide (32 < (l0.length : Int)) = false := decide_eq_false c2
  have c2b1 : decide (32 < l0.length) = false := decide_eq_false (by omega)
  clear c2
  replace H := Option.bind_eq_some_iff.mp H
  obtain ⟨t361, A30, H⟩ := H
  replace H : (r14_Blocks.l0 k l0 t361 0) = some (r1, r2) := H
  have A3 := zA A30
  clear A30
  have H' := zA H
  clear H
  go_enter Tryd.func32, Tryd.ntmps32
  go_wp2_with (first | ((with_reducible refine gate_callee (f := 34) rfl ?_); refine goesL_ (some 11) rfl rfl Tryd.func34 (by kernel_rfl) rfl #[.slice none 0 0, .int .i64 2, .int .i64 (l0.length : Int)] rfl (by (try simp only [zm, zc, zn]); first | done | rfl | (simp only [zd, zt]; rfl)) ?_; (refine (r03_Put.calls k _ _ ([] : List Int) 2 (l0.length : Int) t361 _ ?side1 ?side2 A3.out).mono ?_); (case side1 => exact Kd.C_nil _ _); (case side2 => exact z5 _); rintro e w4 ⟨v362, rfl, ho0, hb⟩; refine ⟨_, rfl, ?_⟩; have HO363 := zA (Kd.R_lower ho0 (below_size (by repeat (first | (with_reducible first | exact HB.out | apply zB | apply zN | apply below_drew1) | exact HB.out)))); replace HB := zA (below_step (by repeat (first | (with_reducible first | exact HB.out | apply zB | apply zN | apply below_drew1) | exact HB.out)) hb); (try clear hb); (try clear hb2); (try clear hk); (try clear hi); (try clear ho0)))
  go_loopg [4, 5] k (fun kq v4 v5 w' => ∃ (x4_1 : List Int) (x5_1 : Int), v5 = .int .i64 x5_1 ∧ Aside0 (r14_Blocks.l0 kq l0 x4_1 x5_1 = some (r1, r2)) ∧ Aside0 (kq ≤ k) ∧ Aside0 (Kd.R (Kd.int .u8) 5 w' w.heap.size (fun _ => True) v4 x4_1) ∧ Aside0 (Below w.heap.size w w'))
  case atStart => exact ⟨(t361), (0), (by first | rfl | (simp; done) | (simp [*]; done)), H', ⟨z5 _⟩, ⟨by (with_reducible repeat (first | apply zS | apply zT)); exact HO363.out⟩, ⟨by repeat (first | (with_reducible first | exact HB.out | apply zB | apply zN | apply below_drew1) | exact HB.out)⟩⟩
  case round =>
   clear H'
   try clear c2
   try clear c2b0
   try clear c2b1
   try clear p2
   try clear c3
   obtain ⟨x4_1, x5_1, rfl, HA, HK1, HO_4, HB⟩ := hrel
   cases gk with
   | zero => exact absurd HA.out (by simp [r14_Blocks.l0])
   | succ k1 =>
    have H := HA.out
    clear HA
    simp only [r14_Blocks.l0] at H
    by_cases c5 : x5_1 < (l0.length : Int)
    ·rw [if_pos c5] at H
     have c5b0 : decide (x5_1 < (l0.length : Int)) = true := decide_eq_true c5
     clear c5
     by_cases c6 : 0 ≤ x5_1
     ·rw [if_pos c6] at H
      have c6b0 : decide (0 ≤ x5_1) = true := decide_eq_true c6
      clear c6
      by_cases c7 : (((rd_T43 l0 x5_1).f0).size : Int) > 255
      ·rw [if_pos c7] at H
       have c7b0 : decide (255 < (((rd_T43 l0 x5_1).f0).size : Int)) = true := decide_eq_true c7
       have c7b1 : decide (255 < ((rd_T43 l0 x5_1).f0).size) = true := decide_eq_true (by omega)
       clear c7
       simp only [Option.some.injEq, Prod.mk.injEq] at H
       obtain ⟨rfl, rfl⟩ := H
       have p364 : 0 ≤ (x5_1 : Int) := zO (by first | (with_reducible assumption) | assumption)
       have q364 : x5_1 < (l0.length : Int) := zO (by first | (with_reducible assumption) | assumption)
       obtain ⟨ad364, e364, hx364_0, hx364_1⟩ := at_T43 HR0.out x5_1 p364 q364
       cases e364
       replace hx364_0 := (HB.out.cell (zL w _ hx364_0)).trans hx364_0
       replace hx364_1 := (HB.out.cell (zL w _ hx364_1)).trans hx364_1
       replace p364 := eq_true p364
       replace q364 := eq_true q364
       go_wp2
       go_ret2
       exact ⟨_, by first | rfl | (simp [errW_none, errW_some] <;> rfl) | (simp [*, errW_none, errW_some] <;> rfl), by first | exact Kd.R_nil _ _ _ _ _ | exact Kd.N_nil _ _ _ _ _ | exact Kd.V_nil _ _ _ _ _ | exact Kd.Q_nil _ _ _ _ _ | exact Kd.S_nil _ _ _ _ _, by repeat (first | (with_reducible first | exact HB.out | apply zB | apply zN | apply below_drew1) | exact HB.out)⟩
      ·rw [if_neg c7] at H
       have c7b0 : decide (255 < (((rd_T43 l0 x5_1).f0).size : Int)) = false := decide_eq_false c7
       have c7b1 : decide (255 < ((rd_T43 l0 x5_1).f0).size) = false := decide_eq_false (by omega)
       clear c7
       replace H := Option.bind_eq_some_iff.mp H
       obtain ⟨t366, A80, H⟩ := H
       replace H : (if t366 = true then ((r03_Text.f k1 x4_1 ((rd_T43 l0 x5_1).f0)).bind fun t368 => ((some (([((rd_T43 l0 x5_1).f1) % 256] : List Int) : List Int)).bind fun y372 => (if t368.length + y372.length < 140737488355328 then (r14_Blocks.l0 k1 l0 (t368 ++ y372) (wrap64 (x5_1 + 1))) else (none)))) else (some (([] : List Int), false))) = some (r1, r2) := H
       have A8 := zA A80
       clear A80
       by_cases c9 : t366 = true
       ·subst c9
        have H1 : ((r03_Text.f k1 x4_1 ((rd_T43 l0 x5_1).f0)).bind fun t368 => ((some (([((rd_T43 l0 x5_1).f1) % 256] : List Int) : List Int)).bind fun y372 => (if t368.length + y372.length < 140737488355328 then (r14_Blocks.l0 k1 l0 (t368 ++ y372) (wrap64 (x5_1 + 1))) else (none)))) = some (r1, r2) := by rw [if_pos rfl] at H; exact H
        clear H
        have H := H1
        clear H1
        replace H := Option.bind_eq_some_iff.mp H
        obtain ⟨t368, A100, H⟩ := H
        replace H : ((some (([((rd_T43 l0 x5_1).f1) % 256] : List Int) : List Int)).bind fun y372 => (if t368.length + y372.length < 140737488355328 then (r14_Blocks.l0 k1 l0 (t368 ++ y372) (wrap64 (x5_1 + 1))) else (none))) = some (r1, r2) := H
        have A10 := zA A100
        clear A100
        obtain ⟨y372, hy372⟩ : ∃ y_ : List Int, y_ = (([((rd_T43 l0 x5_1).f1) % 256] : List Int)) := ⟨_, rfl⟩
        replace H : (if t368.length + y372.length < 140737488355328 then (r14_Blocks.l0 k1 l0 (t368 ++ y372) (wrap64 (x5_1 + 1))) else (none)) = some (r1, r2) := by first | (rw [hy372]; with_reducible exact H) | (have H2_ := (zP _ _).symm.trans H; rw [hy372]; with_reducible exact H2_) | (have H2_ := (zP _ _).symm.trans H; with_reducible exact H2_) | with_reducible exact H | (rw [hy372]; exact H) | exact H
        have Ny372 := zA hy372
        clear hy372
        by_cases c11 : t368.length + y372.length < 140737488355328
        ·rw [if_pos c11] at H
         have LMc11 := zA c11
         clear c11
         obtain ⟨y375, hy375⟩ : ∃ y_ : List Int, y_ = (t368 ++ y372) := ⟨_, rfl⟩
         replace H : (r14_Blocks.l0 k1 l0 y375 (wrap64 (x5_1 + 1))) = some (r1, r2) := by first | (rw [hy375]; with_reducible exact H) | (have H2_ := (zP _ _).symm.trans H; rw [hy375]; with_reducible exact H2_) | (have H2_ := (zP _ _).symm.trans H; with_reducible exact H2_) | with_reducible exact H | (rw [hy375]; exact H) | exact H
         have Ny375 := zA hy375
         clear hy375
         have H' := zA H
         clear H
         have p364 : 0 ≤ (x5_1 : Int) := zO (by first | (with_reducible assumption) | assumption)
         have q364 : x5_1 < (l0.length : Int) := zO (by first | (with_reducible assumption) | assumption)
         obtain ⟨ad364, e364, hx364_0, hx364_1⟩ := at_T43 HR0.out x5_1 p364 q364
         cases e364
         replace hx364_0 := (HB.out.cell (zL w _ hx364_0)).trans hx364_0
         replace hx364_1 := (HB.out.cell (zL w _ hx364_1)).trans hx364_1
         replace p364 := eq_true p364
         replace q364 := eq_true q364
         have p365 : 0 ≤ (x5_1 : Int) := zO (by first | (with_reducible assumption) | assumption)
         have q365 : x5_1 < (l0.length : Int) := zO (by first | (with_reducible assumption) | assumption)
         obtain ⟨ad365, e365, hx365_0, hx365_1⟩ := at_T43 HR0.out x5_1 p365 q365
         obtain rfl : ad364 = ad365 := (by injection e365)
         replace hx365_0 := (HB.out.cell (zL w _ hx365_0)).trans hx365_0
         replace hx365_1 := (HB.out.cell (zL w _ hx365_1)).trans hx365_1
         replace p365 := eq_true p365
         replace q365 := eq_true q365
         try go_wp2_with (first | (go_at_call 69; (with_reducible refine (r14_small.calls ((rd_T43 l0 x5_1).f1) true _ A8.out).mono ?_); rintro e w' ⟨rfl, ⟨nd, rfl⟩⟩; obtain ⟨Ao12, co12, eo12⟩ := Kd.R_slice HO_4.out; subst eo12))
         (try (rw [drewN_self wr]; generalize hq_ : World.drewN wr _ = wr; have n0_ : Aside0 (Kd.R (Kd.int .u8) 5 wr w.heap.size (fun _ => True) (.slice Ao12 x4_1.length co12) x4_1) := ⟨by rw [← hq_]; exact (by (with_reducible repeat (first | apply zS | apply zT)); exact HO_4.out)⟩; have n1_ : Aside0 (Below w.heap.size w wr) := ⟨by rw [← hq_]; exact (by repeat (first | (with_reducible first | exact HB.out | apply zB | apply zN | apply below_drew1) | exact HB.out))⟩; clear HO_4 HB hq_; have HO_4 := n0_; have HB := n1_; clear n0_ n1_))
         replace HO_4 := zA (zT HO_4.out)
         replace HB := zA (below_drew1 HB.out)
         have p367 : 0 ≤ (x5_1 : Int) := zO (by first | (with_reducible assumption) | assumption)
         have q367 : x5_1 < (l0.length : Int) := zO (by first | (with_reducible assumption) | assumption)
         obtain ⟨ad367, e367, hx367_0, hx367_1⟩ := at_T43 HR0.out x5_1 p367 q367
         have hw367_1 := hx367_1
         have hw367_0 := hx367_0
         obtain rfl : ad364 = ad367 := (by injection e367)
         replace hx367_0 := (HB.out.cell (zL w _ hx367_0)).trans hx367_0
         replace hx367_1 := (HB.out.cell (zL w _ hx367_1)).trans hx367_1
         replace p367 := eq_true p367
         replace q367 := eq_true q367
         have p371 : 0 ≤ (x5_1 : Int) := zO (by first | (with_reducible assumption) | assumption)
         have q371 : x5_1 < (l0.length : Int) := zO (by first | (with_reducible assumption) | assumption)
         obtain ⟨ad371, e371, hx371_0, hx371_1⟩ := at_T43 HR0.out x5_1 p371 q371
         have hw371_1 := hx371_1
         have hw371_0 := hx371_0
         obtain rfl : ad364 = ad371 := (by injection e371)
         replace hx371_0 := (HB.out.cell (zL w _ hx371_0)).trans hx371_0
         replace hx371_1 := (HB.out.cell (zL w _ hx371_1)).trans hx371_1
         replace p371 := eq_true p371
         replace q371 := eq_true q371
         refine start_ (n := 16) (S := fun w' => w'.cell? (ad364.add ((x5_1).toNat * 2)) = some (.string ((rd_T43 l0 x5_1).f0)) ∧ w'.cell? ⟨(ad364.add ((x5_1).toNat * 2)).block, (ad364.add ((x5_1).toNat * 2)).off + 1, none⟩ = some (.int .i64 ((rd_T43 l0 x5_1).f1)) ∧ w'.cell? (ad364.add ((x5_1).toNat * 2)) = some (.string ((rd_T43 l0 x5_1).f0)) ∧ w'.cell? ⟨(ad364.add ((x5_1).toNat * 2)).block, (ad364.add ((x5_1).toNat * 2)).off + 1, none⟩ = some (.int .i64 ((rd_T43 l0 x5_1).f1))) (ds := []) #[false, false, false, false, false, false, false, false, false, false, false, false, false, false, false, false] (by kernel_rfl) rfl rfl ⟨((HB.out.cell (zL w _ hw367_0)).trans hw367_0), ((HB.out.cell (zL w _ hw367_1)).trans hw367_1), ((HB.out.cell (zL w _ hw371_0)).trans hw371_0), ((HB.out.cell (zL w _ hw371_1)).trans hw371_1)⟩ (fun hHeld => ?_); refine with_tabW r14_Blocks.tab9 r14_Blocks.bits9 (fun HT_ HW_ => ?_)
         generalize wr.drew = w13 at HO_4 HB hx367_0 hx367_1 hx371_0 hx371_1 hHeld ⊢
         refine pure_ (i := 0) (N := some 34) (v := ?_) (a' := ?_) #[true, false, false, false, false, false, false, false, false, false, false, false, false, false, false, false] rfl rfl (any_of HT_.out (by kernel_rfl)) (fun _ _ _ h => h) (Or.inl ⟨by rfl, ?_⟩) ?_ ?_
         rotate_left
         ·intro w'
          go_simp
          with_reducible rfl
         rotate_left
         ·simp only [Act.put, zY, List.set_cons_zero, z2, i64_w, i32_w]
          rfl
         refine pure_ (i := 1) (N := some 35) (v := ?_) (a' := ?_) #[true, true, false, false, false, false, false, false, false, false, false, false, false, false, false, false] rfl rfl (any_of HT_.out (by kernel_rfl)) (fun _ _ _ h => h) (Or.inl ⟨by rfl, ?_⟩) ?_ ?_
         rotate_left
         ·intro w'
          go_simp
          with_reducible rfl
         rotate_left
         ·simp only [Act.put, zY, List.set_cons_zero, z2, i64_w, i32_w]
          rfl
         refine pure_ (i := 2) (N := some 36) (v := ?_) (a' := ?_) #[true, true, true, false, false, false, false, false, false, false, false, false, false, false, false, false] rfl rfl (any_of HT_.out (by kernel_rfl)) (fun _ _ _ h => h) (Or.inl ⟨by rfl, ?_⟩) ?_ ?_
         rotate_left
         ·intro w'
          go_simp
          with_reducible rfl
         rotate_left
         ·simp only [Act.put, zY, List.set_cons_zero, z2, i64_w, i32_w]
          rfl
         refine pure_ (i := 3) (N := some 37) (v := ?_) (a' := ?_) #[true, true, true, true, false, false, false, false, false, false, false, false, false, false, false, false] rfl rfl (any_of HT_.out (by kernel_rfl)) (fun _ _ _ h => h) (Or.inl ⟨by rfl, ?_⟩) ?_ ?_
         rotate_left
         ·intro w'
          go_simp
          with_reducible rfl
         rotate_left
         ·simp only [Act.put, zY, List.set_cons_zero, z2, i64_w, i32_w]
          rfl
         refine pure_ (i := 4) (N := some 38) (v := ?_) (a' := ?_) #[true, true, true, true, true, false, false, false, false, false, false, false, false, false, false, false] rfl rfl (any_of HT_.out (by kernel_rfl)) (fun _ _ _ h => h) (Or.inl ⟨by rfl, ?_⟩) ?_ ?_
         rotate_left
         ·intro w'
          go_simp
          with_reducible rfl
         rotate_left
         ·simp only [Act.put, zY, List.set_cons_zero, z2, i64_w, i32_w]
          rfl
         refine pure_ (i := 7) (N := some 41) (v := ?_) (a' := ?_) #[true, true, true, true, true, false, false, true, false, false, false, false, false, false, false, false] rfl rfl (any_of HT_.out (by kernel_rfl)) (fun _ _ _ h => h) (Or.inl ⟨by rfl, ?_⟩) ?_ ?_
         rotate_left
         ·intro w'
          go_simp
          with_reducible rfl
         rotate_left
         ·simp only [Act.put, zY, List.set_cons_zero, z2, i64_w, i32_w]
          rfl
         refine pure_ (i := 8) (N := some 42) (v := ?_) (a' := ?_) #[true, true, true, true, true, false, false, true, true, false, false, false, false, false, false, false] rfl rfl (any_of HT_.out (by kernel_rfl)) (fun _ _ _ h => h) (Or.inl ⟨by rfl, ?_⟩) ?_ ?_
         rotate_left
         ·intro w'
          go_simp
          with_reducible rfl
         rotate_left
         ·simp only [Act.put, zY, List.set_cons_zero, z2, i64_w, i32_w]
          rfl
         refine pure_ (i := 9) (N := some 43) (v := ?_) (a' := ?_) #[true, true, true, true, true, false, false, true, true, true, false, false, false, false, false, false] rfl rfl (any_of HT_.out (by kernel_rfl)) (fun _ _ _ h => h) (Or.inl ⟨by rfl, ?_⟩) ?_ ?_
         rotate_left
         ·intro w'
          go_simp
          with_reducible rfl
         rotate_left
         ·simp only [Act.put, zY, List.set_cons_zero, z2, i64_w, i32_w]
          rfl
         refine pure_ (i := 10) (N := some 44) (v := ?_) (a' := ?_) #[true, true, true, true, true, false, false, true, true, true, true, false, false, false, false, false] rfl rfl (any_of HT_.out (by kernel_rfl)) (fun _ _ _ h => h) (Or.inl ⟨by rfl, ?_⟩) ?_ ?_
         rotate_left
         ·intro w'
          go_simp
          with_reducible rfl
         rotate_left
         ·simp only [Act.put, zY, List.set_cons_zero, z2, i64_w, i32_w]
          rfl
         refine take_ (i := 5) (N := some 39) (v := ?_) (a' := ?_) #[true, true, true, true, true, true, false, true, true, true, true, false, false, false, false, false] rfl rfl (take_ofW HT_.out HW_.out (by kernel_rfl)) (fun _ _ _ h => h) (Or.inl ⟨by rfl, ?_⟩) hHeld ?_ ?_
         rotate_left
         ·rintro w' ⟨s0, s1, s2, s3⟩
          go_simp
          with_reducible rfl
         rotate_left
         ·simp only [Act.put, zY, List.set_cons_zero, z2, i64_w, i32_w]
          rfl
         refine take_ (i := 11) (N := some 45) (v := ?_) (a' := ?_) #[true, true, true, true, true, true, false, true, true, true, true, true, false, false, false, false] rfl rfl (take_ofW HT_.out HW_.out (by kernel_rfl)) (fun _ _ _ h => h) (Or.inl ⟨by rfl, ?_⟩) hHeld ?_ ?_
         rotate_left
         ·rintro w' ⟨s0, s1, s2, s3⟩
          go_simp
          with_reducible rfl
         rotate_left
         ·simp only [Act.put, zY, List.set_cons_zero, z2, i64_w, i32_w]
          rfl
         refine pure_ (i := 12) (N := some 46) (v := ?_) (a' := ?_) #[true, true, true, true, true, true, false, true, true, true, true, true, true, false, false, false] rfl rfl (any_of HT_.out (by kernel_rfl)) (fun _ _ _ h => h) (Or.inl ⟨by rfl, ?_⟩) ?_ ?_
         rotate_left
         ·intro w'
          go_simp
          with_reducible rfl
         rotate_left
         ·simp only [Act.put, zY, List.set_cons_zero, z2, i64_w, i32_w]
          rfl
         refine join_ (σ := Value × Value) 2 #[true, true, true, true, true, true, true, true, true, true, true, true, true, true, false, false] (fun s_ => [(40, s_.1), (47, s_.2)]) (fun s_ w' => (w'.cell? (ad364.add ((x5_1).toNat * 2)) = some (.string ((rd_T43 l0 x5_1).f0)) ∧ w'.cell? ⟨(ad364.add ((x5_1).toNat * 2)).block, (ad364.add ((x5_1).toNat * 2)).off + 1, none⟩ = some (.int .i64 ((rd_T43 l0 x5_1).f1)) ∧ w'.cell? (ad364.add ((x5_1).toNat * 2)) = some (.string ((rd_T43 l0 x5_1).f0)) ∧ w'.cell? ⟨(ad364.add ((x5_1).toNat * 2)).block, (ad364.add ((x5_1).toNat * 2)).off + 1, none⟩ = some (.int .i64 ((rd_T43 l0 x5_1).f1))) ∧ (Kd.R (Kd.int .u8) 5 w' w.heap.size (fun k_ => some k_ ≠ (s_.2 : Value).ownBlock ∧ some k_ ≠ (.slice Ao12 x4_1.length co12 : Value).ownBlock) s_.1 t368) ∧ (Kd.R (Kd.int .u8) 5 w' w.heap.size (fun k_ => some k_ ≠ (s_.1 : Value).ownBlock ∧ some k_ ≠ (.slice Ao12 x4_1.length co12 : Value).ownBlock) s_.2 y372) ∧ (Kd.R (Kd.int .u8) 5 w' w.heap.size (fun k_ => some k_ ≠ (s_.1 : Value).ownBlock ∧ some k_ ≠ (s_.2 : Value).ownBlock) (.slice Ao12 x4_1.length co12) x4_1) ∧ (Below w.heap.size w w')) ?_ ?_
         rotate_left
         ·intro hCont
          refine two_ (i := 6) (j := 13) (Ni := some 40) (Nj := some 47) #[true, true, true, true, true, true, true, true, true, true, true, true, true, false, false, false] #[true, true, true, true, true, true, false, true, true, true, true, true, true, true, false, false] rfl rfl rfl rfl (two_of HT_.out (by kernel_rfl)) (by decide) (by decide) (fun K hK => ?_) (fun K hK => ?_)
          ·skip
           refine goes_ Tryd.func70 (by kernel_rfl) rfl #[.slice Ao12 x4_1.length co12, .string ((rd_T43 l0 x5_1).f0)] (by rfl) rfl rfl (by (try simp only [zm, zc, zn]); first | done | rfl | (simp only [zd, zt]; rfl)) ?_
           with_reducible refine (r03_Text.calls k1 _ _ x4_1 ((rd_T43 l0 x5_1).f0) t368 _ ?side1 ?side2 A10.out).mono ?_
           (case side1 => repeat (first | exact (Kd.R_reads' HO_4.out).2.2))
           (case side2 => exact (Kd.R_reads' HO_4.out).2.1)
           rintro e w14 ⟨v369, rfl, ho0, hb⟩
           refine ⟨_, rfl, ?_⟩
           have HO370 := zA (Kd.R_lower (Kd.R_new' ho0 (Kd.R_lt (by (with_reducible repeat (first | apply zS | apply zT)); exact HO_4.out))) (below_size (by repeat (first | (with_reducible first | exact HB.out | apply zB | apply zN | apply below_drew1) | exact HB.out))))
           replace HO_4 := zA (zK (by (with_reducible repeat (first | apply zS | apply zT)); exact HO_4.out) (zM ho0) hb)
           replace HB := zA (below_step (by repeat (first | (with_reducible first | exact HB.out | apply zB | apply zN | apply below_drew1) | exact HB.out)) hb)
           (try clear hb)
           (try clear hb2)
           (try clear hk)
           (try clear hi)
           (try clear ho0)
           refine hK.out _ _ ⟨((HB.out.cell (zL w _ hw367_0)).trans hw367_0), ((HB.out.cell (zL w _ hw367_1)).trans hw367_1), ((HB.out.cell (zL w _ hw371_0)).trans hw371_0), ((HB.out.cell (zL w _ hw371_1)).trans hw371_1)⟩ (fun hHeld => ?_)
           clear hK K
           refine norm_ (a' := ?_) ?_ ?_
           rotate_left
           ·show Act.put _ (some 40) _ = _
            simp only [Act.put, zY, List.set_cons_zero, z2, i64_w, i32_w]
            rfl
           refine one_ (i := 13) (N := some 47) #[true, true, true, true, true, true, true, true, true, true, true, true, true, true, false, false] rfl rfl (one_of HT_.out (by kernel_rfl)) (by decide) (fun K hK => ?_)
           refine Kd.R_lit_step (Kd.int .u8) _ 5 ?hg (N := 47) ?hd (xs := ([((rd_T43 l0 x5_1).f1) % 256] : List Int)) (inner := [.int .u8 (((rd_T43 l0 x5_1).f1) % 256)]) (ok := fun _ => True) (okp := fun _ => True) ?hr ?hp (fun _ hk => hk) trivial (zX _ _) (z5 _) (by simp) ?_; (case hd => rfl); (case hg => rfl); (case hr => first | (go_simp; done) | (go_simp; rfl)); (case hp => exact (Reps.one (show Kd.M (Kd.int .u8) _ _ _ (((rd_T43 l0 x5_1).f1) % 256) [.int .u8 (((rd_T43 l0 x5_1).f1) % 256)] from rfl) (Reps.none _ _)))
           intro v373 w15 ho16 hb hg_ hnew_
           clear hg_ hnew_
           (first | rw [← Ny372.out] at ho16 | (simp only [Int.reduceToNat] at ho16; rw [← Ny372.out] at ho16))
           have HO374 := zA (Kd.R_lower (Kd.R_new' (Kd.R_new' ho16 (Kd.R_lt (by (with_reducible repeat (first | apply zS | apply zT)); exact HO_4.out))) (Kd.R_lt (by (with_reducible repeat (first | apply zS | apply zT)); exact HO370.out))) (below_size (by repeat (first | (with_reducible first | exact HB.out | apply zB | apply zN | apply below_drew1) | exact HB.out))))
           replace HO_4 := zA (zK (by (with_reducible repeat (first | apply zS | apply zT)); exact HO_4.out) (zM ho16) hb)
           replace HO370 := zA (zK (by (with_reducible repeat (first | apply zS | apply zT)); exact HO370.out) (zM ho16) hb)
           replace HB := zA (below_step (by repeat (first | (with_reducible first | exact HB.out | apply zB | apply zN | apply below_drew1) | exact HB.out)) hb)
           clear hb ho16
           refine hK.out _ _ ⟨((HB.out.cell (zL w _ hw367_0)).trans hw367_0), ((HB.out.cell (zL w _ hw367_1)).trans hw367_1), ((HB.out.cell (zL w _ hw371_0)).trans hw371_0), ((HB.out.cell (zL w _ hw371_1)).trans hw371_1)⟩ (fun hHeld => ?_)
           clear hK K
           refine norm_ (a' := ?_) ?_ ?_
           rotate_left
           ·show Act.put _ (some 47) _ = _
            simp only [Act.put, zY, List.set_cons_zero, z2, i64_w, i32_w]
            rfl
           exact norm_ (by simp only [putAll, Act.put, zY, List.set_cons_zero, z2]) (hCont (v369, v373) _ ⟨hHeld, (by (with_reducible repeat (first | apply zS | apply zT)); exact Kd.R_mono HO370.out (fun _ hk => ⟨hk.2, hk.1.2⟩)), (by (with_reducible repeat (first | apply zS | apply zT)); exact Kd.R_mono HO374.out (fun _ hk => ⟨hk.2, hk.1.2⟩)), (by (with_reducible repeat (first | apply zS | apply zT)); exact Kd.R_mono HO_4.out (fun _ hk => ⟨hk.1.2, hk.2⟩)), (by repeat (first | (with_reducible first | exact HB.out | apply zB | apply zN | apply below_drew1) | exact HB.out))⟩)
          ·skip
           refine Kd.R_lit_step (Kd.int .u8) _ 5 ?hg (N := 47) ?hd (xs := ([((rd_T43 l0 x5_1).f1) % 256] : List Int)) (inner := [.int .u8 (((rd_T43 l0 x5_1).f1) % 256)]) (ok := fun _ => True) (okp := fun _ => True) ?hr ?hp (fun _ hk => hk) trivial (zX _ _) (z5 _) (by simp) ?_; (case hd => rfl); (case hg => rfl); (case hr => first | (go_simp; done) | (go_simp; rfl)); (case hp => exact (Reps.one (show Kd.M (Kd.int .u8) _ _ _ (((rd_T43 l0 x5_1).f1) % 256) [.int .u8 (((rd_T43 l0 x5_1).f1) % 256)] from rfl) (Reps.none _ _)))
           intro v373 w14 ho15 hb hg_ hnew_
           clear hg_ hnew_
           (first | rw [← Ny372.out] at ho15 | (simp only [Int.reduceToNat] at ho15; rw [← Ny372.out] at ho15))
           have HO374 := zA (Kd.R_lower (Kd.R_new' ho15 (Kd.R_lt (by (with_reducible repeat (first | apply zS | apply zT)); exact HO_4.out))) (below_size (by repeat (first | (with_reducible first | exact HB.out | apply zB | apply zN | apply below_drew1) | exact HB.out))))
           replace HO_4 := zA (zK (by (with_reducible repeat (first | apply zS | apply zT)); exact HO_4.out) (zM ho15) hb)
           replace HB := zA (below_step (by repeat (first | (with_reducible first | exact HB.out | apply zB | apply zN | apply below_drew1) | exact HB.out)) hb)
           clear hb ho15
           refine hK.out _ _ ⟨((HB.out.cell (zL w _ hw367_0)).trans hw367_0), ((HB.out.cell (zL w _ hw367_1)).trans hw367_1), ((HB.out.cell (zL w _ hw371_0)).trans hw371_0), ((HB.out.cell (zL w _ hw371_1)).trans hw371_1)⟩ (fun hHeld => ?_)
           clear hK K
           refine norm_ (a' := ?_) ?_ ?_
           rotate_left
           ·show Act.put _ (some 47) _ = _
            simp only [Act.put, zY, List.set_cons_zero, z2, i64_w, i32_w]
            rfl
           refine one_ (i := 6) (N := some 40) #[true, true, true, true, true, true, true, true, true, true, true, true, true, true, false, false] rfl rfl (one_of HT_.out (by kernel_rfl)) (by decide) (fun K hK => ?_)
           refine goes_ Tryd.func70 (by kernel_rfl) rfl #[.slice Ao12 x4_1.length co12, .string ((rd_T43 l0 x5_1).f0)] (by rfl) rfl rfl (by (try simp only [zm, zc, zn]); first | done | rfl | (simp only [zd, zt]; rfl)) ?_
           with_reducible refine (r03_Text.calls k1 _ _ x4_1 ((rd_T43 l0 x5_1).f0) t368 _ ?side1 ?side2 A10.out).mono ?_
           (case side1 => repeat (first | exact (Kd.R_reads' HO_4.out).2.2))
           (case side2 => exact (Kd.R_reads' HO_4.out).2.1)
           rintro e w16 ⟨v369, rfl, ho0, hb⟩
           refine ⟨_, rfl, ?_⟩
           have HO370 := zA (Kd.R_lower (Kd.R_new' (Kd.R_new' ho0 (Kd.R_lt (by (with_reducible repeat (first | apply zS | apply zT)); exact HO_4.out))) (Kd.R_lt (by (with_reducible repeat (first | apply zS | apply zT)); exact HO374.out))) (below_size (by repeat (first | (with_reducible first | exact HB.out | apply zB | apply zN | apply below_drew1) | exact HB.out))))
           replace HO_4 := zA (zK (by (with_reducible repeat (first | apply zS | apply zT)); exact HO_4.out) (zM ho0) hb)
           replace HO374 := zA (zK (by (with_reducible repeat (first | apply zS | apply zT)); exact HO374.out) (zM ho0) hb)
           replace HB := zA (below_step (by repeat (first | (with_reducible first | exact HB.out | apply zB | apply zN | apply below_drew1) | exact HB.out)) hb)
           (try clear hb)
           (try clear hb2)
           (try clear hk)
           (try clear hi)
           (try clear ho0)
           refine hK.out _ _ ⟨((HB.out.cell (zL w _ hw367_0)).trans hw367_0), ((HB.out.cell (zL w _ hw367_1)).trans hw367_1), ((HB.out.cell (zL w _ hw371_0)).trans hw371_0), ((HB.out.cell (zL w _ hw371_1)).trans hw371_1)⟩ (fun hHeld => ?_)
           clear hK K
           refine norm_ (a' := ?_) ?_ ?_
           rotate_left
           ·show Act.put _ (some 40) _ = _
            simp only [Act.put, zY, List.set_cons_zero, z2, i64_w, i32_w]
            rfl
           exact norm_ (by simp only [putAll, Act.put, zY, List.set_cons_zero, z2]) (hCont (v369, v373) _ ⟨hHeld, (by (with_reducible repeat (first | apply zS | apply zT)); exact Kd.R_mono HO370.out (fun _ hk => ⟨hk.2, hk.1.2⟩)), (by (with_reducible repeat (first | apply zS | apply zT)); exact Kd.R_mono HO374.out (fun _ hk => ⟨hk.2, hk.1.2⟩)), (by (with_reducible repeat (first | apply zS | apply zT)); exact Kd.R_mono HO_4.out (fun _ hk => ⟨hk.2, hk.1.2⟩)), (by repeat (first | (with_reducible first | exact HB.out | apply zB | apply zN | apply below_drew1) | exact HB.out))⟩)
         rintro ⟨v369, v373⟩ w17 ⟨hS_, h0_, h1_, h2_, h3_⟩
         have n0_ : Aside0 (Kd.R (Kd.int .u8) 5 w17 w.heap.size (fun k_ => some k_ ≠ (v373 : Value).ownBlock ∧ some k_ ≠ (.slice Ao12 x4_1.length co12 : Value).ownBlock) v369 t368) := ⟨h0_⟩
         have n1_ : Aside0 (Kd.R (Kd.int .u8) 5 w17 w.heap.size (fun k_ => some k_ ≠ (v369 : Value).ownBlock ∧ some k_ ≠ (.slice Ao12 x4_1.length co12 : Value).ownBlock) v373 y372) := ⟨h1_⟩
         have n2_ : Aside0 (Kd.R (Kd.int .u8) 5 w17 w.heap.size (fun k_ => some k_ ≠ (v369 : Value).ownBlock ∧ some k_ ≠ (v373 : Value).ownBlock) (.slice Ao12 x4_1.length co12) x4_1) := ⟨h2_⟩
         have n3_ : Aside0 (Below w.heap.size w w17) := ⟨h3_⟩
         clear HO_4
         clear HB
         clear h0_ h1_ h2_ h3_
         have HO370 := n0_
         have HO374 := n1_
         have HO_4 := n2_
         have HB := n3_
         clear n0_ n1_ n2_ n3_
         have hHeld : w17.cell? (ad364.add ((x5_1).toNat * 2)) = some (.string ((rd_T43 l0 x5_1).f0)) ∧ w17.cell? ⟨(ad364.add ((x5_1).toNat * 2)).block, (ad364.add ((x5_1).toNat * 2)).off + 1, none⟩ = some (.int .i64 ((rd_T43 l0 x5_1).f1)) ∧ w17.cell? (ad364.add ((x5_1).toNat * 2)) = some (.string ((rd_T43 l0 x5_1).f0)) ∧ w17.cell? ⟨(ad364.add ((x5_1).toNat * 2)).block, (ad364.add ((x5_1).toNat * 2)).off + 1, none⟩ = some (.int .i64 ((rd_T43 l0 x5_1).f1)) := hS_
         obtain ⟨Ao19, co19, eo19⟩ := Kd.R_slice HO374.out
         (first | subst eo19 | (injection eo19 with f1_ f2_ f3_; have f4_ := f1_.symm; have f5_ := f3_.symm; clear f1_ f2_ f3_; subst f4_; subst f5_))
         refine norm_ (a' := ?_) ?_ ?_
         rotate_left
         ·simp only [putAll, Act.put, zY, List.set_cons_zero, z2]
          rfl
         refine one_ (i := 14) (N := some 48) #[true, true, true, true, true, true, true, true, true, true, true, true, true, true, true, false] rfl rfl (one_of HT_.out (by kernel_rfl)) (by decide) (fun K hK => ?_)
         refine Kd.R_append_rows_step (Kd.int .u8) (w0 := w) w.heap.size (by rfl) (.tmp 40) (.tmp 47) 28 5 (.int .u8 0) 1 rfl Tryd.underlying28 info5 rfl (by decide) (by omega) v369 t368 y372 _ _ _ (fun k_ => some k_ ≠ (.slice Ao12 x4_1.length co12 : Value).ownBlock ∧ some k_ ≠ (.slice Ao19 y372.length co19 : Value).ownBlock) (fun _ => False) rfl rfl ?aO ?aR (fun _ _ h => h) (fun _ h => h.elim) ?aF ?aB ?aS ?aL ?_
         (case aR => repeat (first | exact (Kd.R_reads' HO374.out).2.2))
         (case aB => exact (by repeat (first | (with_reducible first | exact HB.out | apply zB | apply zN | apply below_drew1) | exact HB.out)))
         (case aF => exact (fun k_ hk => ⟨Kd.fresh' (Kd.R_lt (by (with_reducible repeat (first | apply zS | apply zT)); exact HO_4.out)) k_ hk, Kd.fresh' (Kd.R_lt (by (with_reducible repeat (first | apply zS | apply zT)); exact HO374.out)) k_ hk⟩))
         (case aO => exact (by (with_reducible repeat (first | apply zS | apply zT)); exact Kd.R_mono HO370.out (fun _ hk => ⟨hk.2, hk.1⟩)))
         (case aS => exact (below_size (by repeat (first | (with_reducible first | exact HB.out | apply zB | apply zN | apply below_drew1) | exact HB.out))))
         (case aL => have := LMc11.out; omega)
         intro v376 w18 ho hb hg hat
         rw [← Ny375.out] at ho
         replace HO_4 := zA (Kd.R_after (ok := (fun k_ => some k_ ≠ (.slice Ao19 y372.length co19 : Value).ownBlock)) (by (with_reducible repeat (first | apply zS | apply zT)); exact Kd.R_mono HO_4.out (fun _ hk => ⟨hk.2, hk.1⟩)) hg hat)
         replace HO374 := zA (Kd.R_after (ok := (fun k_ => some k_ ≠ (.slice Ao12 x4_1.length co12 : Value).ownBlock)) (by (with_reducible repeat (first | apply zS | apply zT)); exact Kd.R_mono HO374.out (fun _ hk => ⟨hk.2, hk.1⟩)) hg hat)
         replace HB := zA (hb)
         have HO377 := zA (ho)
         clear HO370
         clear ho hb hg hat
         refine hK.out _ _ ⟨((HB.out.cell (zL w _ hw367_0)).trans hw367_0), ((HB.out.cell (zL w _ hw367_1)).trans hw367_1), ((HB.out.cell (zL w _ hw371_0)).trans hw371_0), ((HB.out.cell (zL w _ hw371_1)).trans hw371_1)⟩ (fun hHeld => ?_)
         clear hK K
         refine norm_ (a' := ?_) ?_ ?_
         rotate_left
         ·show Act.put _ (some 48) _ = _
          simp only [Act.put, zY, List.set_cons_zero, z2, i64_w, i32_w]
          rfl
         refine pure_ (i := 15) (N := some 4) (v := ?_) (a' := ?_) #[true, true, true, true, true, true, true, true, true, true, true, true, true, true, true, true] rfl rfl (any_of HT_.out (by kernel_rfl)) (fun _ _ _ h => h) (Or.inl ⟨by rfl, ?_⟩) ?_ ?_
         rotate_left
         ·intro w'
          go_simp
          with_reducible rfl
         rotate_left
         ·simp only [Act.put, zY, List.set_cons_zero, z2, i64_w, i32_w]
          rfl
         refine done_ (done_of HT_.out (by kernel_rfl)) ?_
         try go_wp2
         go_roundg k1
         case measure => have := HK1.out; omega
         case rel => exact ⟨(y375), (wrap64 (x5_1 + 1)), (by first | rfl | (simp; done) | (simp [*]; done)), H', ⟨by have := HK1.out; omega⟩, ⟨by (with_reducible repeat (first | apply zS | apply zT)); exact Kd.R_mono HO377.out (fun _ hk => trivial)⟩, ⟨by repeat (first | (with_reducible first | exact HB.out | apply zB | apply zN | apply below_drew1) | exact HB.out)⟩⟩
        ·rw [if_neg c11] at H
         exact absurd H (by simp)
       ·replace c9 := Bool.eq_false_iff.mpr c9
        subst c9
        have H1 : (some (([] : List Int), false)) = some (r1, r2) := by rw [if_neg (show ¬ (false = true) by decide)] at H; exact H
        clear H
        have H := H1
        clear H1
        simp only [Option.some.injEq, Prod.mk.injEq] at H
        obtain ⟨rfl, rfl⟩ := H
        have p364 : 0 ≤ (x5_1 : Int) := zO (by first | (with_reducible assumption) | assumption)
        have q364 : x5_1 < (l0.length : Int) := zO (by first | (with_reducible assumption) | assumption)
        obtain ⟨ad364, e364, hx364_0, hx364_1⟩ := at_T43 HR0.out x5_1 p364 q364
        cases e364
        replace hx364_0 := (HB.out.cell (zL w _ hx364_0)).trans hx364_0
        replace hx364_1 := (HB.out.cell (zL w _ hx364_1)).trans hx364_1
        replace p364 := eq_true p364
        replace q364 := eq_true q364
        have p365 : 0 ≤ (x5_1 : Int) := zO (by first | (with_reducible assumption) | assumption)
        have q365 : x5_1 < (l0.length : Int) := zO (by first | (with_reducible assumption) | assumption)
        obtain ⟨ad365, e365, hx365_0, hx365_1⟩ := at_T43 HR0.out x5_1 p365 q365
        obtain rfl : ad364 = ad365 := (by injection e365)
        replace hx365_0 := (HB.out.cell (zL w _ hx365_0)).trans hx365_0
        replace hx365_1 := (HB.out.cell (zL w _ hx365_1)).trans hx365_1
        replace p365 := eq_true p365
        replace q365 := eq_true q365
        go_wp2_with (first | (go_at_call 69; (with_reducible refine (r14_small.calls ((rd_T43 l0 x5_1).f1) false _ A8.out).mono ?_); rintro e w' ⟨rfl, ⟨nd, rfl⟩⟩))
        go_ret2
        exact ⟨_, by first | rfl | (simp [errW_none, errW_some] <;> rfl) | (simp [*, errW_none, errW_some] <;> rfl), by first | exact Kd.R_nil _ _ _ _ _ | exact Kd.N_nil _ _ _ _ _ | exact Kd.V_nil _ _ _ _ _ | exact Kd.Q_nil _ _ _ _ _ | exact Kd.S_nil _ _ _ _ _, by repeat (first | (with_reducible first | exact HB.out | apply zB | apply zN | apply below_drew1) | exact HB.out)⟩
     ·rw [if_neg c6] at H
      exact absurd H (by simp)
    ·rw [if_neg c5] at H
     have c5b0 : decide (x5_1 < (l0.length : Int)) = false := decide_eq_false c5
     clear c5
     simp only [Option.some.injEq, Prod.mk.injEq] at H
     obtain ⟨rfl, rfl⟩ := H
     go_wp2
     go_ret2
     exact ⟨_, by first | rfl | (simp [errW_none, errW_some] <;> rfl) | (simp [*, errW_none, errW_some] <;> rfl), by (with_reducible repeat (first | apply zS | apply zT)); exact HO_4.out, by repeat (first | (with_reducible first | exact HB.out | apply zB | apply zN | apply below_drew1) | exact HB.out)⟩

/-! ### r12_Shape: function 111 -/
mutual
def r12_Shape.j0 : Nat → Int → Bool → Option (Int × Int)
 | 0, _, _ => none
 | k + 1, x0, x10 => if x10 = true then (some (0, 0)) else ((some (([10, 1, 2, 2, 3, 3, 2, 2] : List Int) : List Int)).bind fun y378 => (if x0 < 8 then (if x0 = 0 then (some (10, 10)) else (if 0 ≤ x0 then (if x0 < (y378.length : Int) then (some (rd y378 x0, 0)) else (none)) else (none))) else (if x0 < 26 then (some (4, 0)) else (if x0 = 26 then (some (4, 4)) else (if x0 < 30 then (r12_Shape.j1 k x0 true) else (r12_Shape.j1 k x0 (x0 == 34)))))))
def r12_Shape.j1 : Nat → Int → Bool → Option (Int × Int)
 | 0, _, _ => none
 | k + 1, x0, x29 => if x29 = true then (some (0, 0)) else (if x0 < 32 then (some (5, 10)) else (if x0 = 32 then (some (6, 10)) else (if x0 = 33 then (some (7, 0)) else (if x0 = 36 then (some (8, 0)) else (some (8, 9))))))
end
def r12_Shape.f (k : Nat) (a0 : Int) : Option (Int × Int) := if a0 < 0 then (r12_Shape.j0 k a0 true) else (r12_Shape.j0 k a0 (decide (a0 > 37)))
theorem r12_Shape.mono_l : ∀ k, (∀ y0 y1, LeO (r12_Shape.j0 k y0 y1) (r12_Shape.j0 (k + 1) y0 y1)) ∧ (∀ y0 y1, LeO (r12_Shape.j1 k y0 y1) (r12_Shape.j1 (k + 1) y0 y1))
 | 0 => ⟨fun _ _ r h => by simp [r12_Shape.j0] at h, fun _ _ r h => by simp [r12_Shape.j1] at h⟩
 | k + 1 => by
  obtain ⟨ih0, ih1⟩ := r12_Shape.mono_l k
  refine ⟨?_, ?_⟩
  ·intro y0 y1
   unfold r12_Shape.j0
   repeat' first
   | (with_reducible exact ih0 _ _)
   | (with_reducible exact ih1 _ _)
   | (with_reducible exact LeO.refl _)
   | (with_reducible exact LeO.none _)
   | (with_reducible refine LeO.ite ?_ ?_)
   | (with_reducible refine LeO.bind ?_ (fun _ => ?_))
   | exact ih0 _ _
   | exact ih1 _ _
   | exact LeO.none _
   | refine LeO.ite ?_ ?_
   | refine LeO.bind ?_ (fun _ => ?_)
  ·intro y0 y1
   unfold r12_Shape.j1
   repeat' first
   | (with_reducible exact ih0 _ _)
   | (with_reducible exact ih1 _ _)
   | (with_reducible exact LeO.refl _)
   | (with_reducible exact LeO.none _)
   | (with_reducible refine LeO.ite ?_ ?_)
   | (with_reducible refine LeO.bind ?_ (fun _ => ?_))
   | exact ih0 _ _
   | exact ih1 _ _
   | exact LeO.none _
   | refine LeO.ite ?_ ?_
   | refine LeO.bind ?_ (fun _ => ?_)
theorem r12_Shape.mono : ∀ a0 k, LeO (r12_Shape.f k a0) (r12_Shape.f (k + 1) a0) := by
 intro a0 k
 obtain ⟨ih0, ih1⟩ := r12_Shape.mono_l k
 unfold r12_Shape.f
 repeat' first
   | (with_reducible exact ih0 _ _)
   | (with_reducible exact ih1 _ _)
   | (with_reducible exact LeO.refl _)
   | (with_reducible exact LeO.none _)
   | (with_reducible refine LeO.ite ?_ ?_)
   | (with_reducible refine LeO.bind ?_ (fun _ => ?_))
   | exact ih0 _ _
   | exact ih1 _ _
   | exact LeO.none _
   | refine LeO.ite ?_ ?_
   | refine LeO.bind ?_ (fun _ => ?_)
set_option maxHeartbeats 8000000 in
set_option maxRecDepth 100000 in
theorem r12_Shape.calls (k : Nat) (a0 : Int) (r1 : Int) (r2 : Int) (w : World) (h : r12_Shape.f k a0 = some (r1, r2)) :
  Calls Tryd.prog 111 #[.int .i64 a0] w fun e w' => e = .returned (.tuple #[.int .i64 r1, .int .i64 r2]) ∧ Below w.heap.size w w' := by
 have HB := zA (zX w.heap.size w)
 have H : (if a0 < 0 then (r12_Shape.j0 k a0 true) else (r12_Shape.j0 k a0 (decide (a0 > 37)))) = some (r1, r2) := h
 clear h
 have HC2 := zA H
 clear H
 go_enter Tryd.func111, Tryd.ntmps111
 go_upto_region 1 with (fail)
 go_cut [10] (fun v10 wc => ∃ (kq : Nat) (x10_1 : Bool), v10 = .bool x10_1 ∧ Aside0 (r12_Shape.j0 kq a0 x10_1 = some (r1, r2)) ∧ Aside0 (kq ≤ k) ∧ Aside0 (Below w.heap.size w wc))
 case first =>
  have H := HC2.out
  clear HC2
  by_cases c3 : a0 < 0
  ·rw [if_pos c3] at H
   have c3b0 : decide (a0 < 0) = true := decide_eq_true c3
   clear c3
   (first | rw [c3b0] | (simp only [i64_w, i32_w]; rw [c3b0]) | skip)
   have H' := zA H
   clear H
   go_wp2
   go_meet
   case rel => exact ⟨_, (true), (by first | rfl | (simp; done) | (simp [*]; done)), H', ⟨by first | omega | exact z5 _⟩, ⟨by repeat (first | (with_reducible first | exact HB.out | apply zB | apply zN | apply below_drew1) | exact HB.out)⟩⟩
  ·rw [if_neg c3] at H
   have c3b0 : decide (a0 < 0) = false := decide_eq_false c3
   clear c3
   (first | rw [c3b0] | (simp only [i64_w, i32_w]; rw [c3b0]) | skip)
   have H' := zA H
   clear H
   go_wp2
   go_meet
   case rel => exact ⟨_, (decide (a0 > 37)), (by first | rfl | (simp; done) | (simp [*]; done)), H', ⟨by first | omega | exact z5 _⟩, ⟨by repeat (first | (with_reducible first | exact HB.out | apply zB | apply zN | apply below_drew1) | exact HB.out)⟩⟩
 case rest =>
  clear HC2
  try clear c1
  try clear p2
  try clear c3
  try clear c3b0
  obtain ⟨kq, x10_1, rfl, HA, HJ1, HB⟩ := hcut
  cases kq with
  | zero => exact absurd HA.out (by simp [r12_Shape.j0])
  | succ kj1 =>
   have H := HA.out
   clear HA
   simp only [r12_Shape.j0] at H
   by_cases c4 : x10_1 = true
   ·subst c4
    have H1 : (some (0, 0)) = some (r1, r2) := by rw [if_pos rfl] at H; exact H
    clear H
    have H := H1
    clear H1
    simp only [Option.some.injEq, Prod.mk.injEq] at H
    obtain ⟨rfl, rfl⟩ := H
    go_wp2
    go_ret2
    exact ⟨by first | rfl | (simp [errW_none, errW_some] <;> rfl) | (simp [*, errW_none, errW_some] <;> rfl), by repeat (first | (with_reducible first | exact HB.out | apply zB | apply zN | apply below_drew1) | exact HB.out)⟩
   ·replace c4 := Bool.eq_false_iff.mpr c4
    subst c4
    have H1 : ((some (([10, 1, 2, 2, 3, 3, 2, 2] : List Int) : List Int)).bind fun y378 => (if a0 < 8 then (if a0 = 0 then (some (10, 10)) else (if 0 ≤ a0 then (if a0 < (y378.length : Int) then (some (rd y378 a0, 0)) else (none)) else (none))) else (if a0 < 26 then (some (4, 0)) else (if a0 = 26 then (some (4, 4)) else (if a0 < 30 then (r12_Shape.j1 kj1 a0 true) else (r12_Shape.j1 kj1 a0 (a0 == 34))))))) = some (r1, r2) := by rw [if_neg (show ¬ (false = true) by decide)] at H; exact H
    clear H
    have H := H1
    clear H1
    obtain ⟨y378, hy378⟩ : ∃ y_ : List Int, y_ = (([10, 1, 2, 2, 3, 3, 2, 2] : List Int)) := ⟨_, rfl⟩
    replace H : (if a0 < 8 then (if a0 = 0 then (some (10, 10)) else (if 0 ≤ a0 then (if a0 < (y378.length : Int) then (some (rd y378 a0, 0)) else (none)) else (none))) else (if a0 < 26 then (some (4, 0)) else (if a0 = 26 then (some (4, 4)) else (if a0 < 30 then (r12_Shape.j1 kj1 a0 true) else (r12_Shape.j1 kj1 a0 (a0 == 34)))))) = some (r1, r2) := by first | (rw [hy378]; with_reducible exact H) | (have H2_ := (zP _ _).symm.trans H; rw [hy378]; with_reducible exact H2_) | (have H2_ := (zP _ _).symm.trans H; with_reducible exact H2_) | with_reducible exact H | (rw [hy378]; exact H) | exact H
    have Ny378 := zA hy378
    clear hy378
    by_cases c5 : a0 < 8
    ·rw [if_pos c5] at H
     have c5b0 : decide (a0 < 8) = true := decide_eq_true c5
     clear c5
     by_cases c6 : a0 = 0
     ·rw [if_pos c6] at H
      have c6b0 : (a0 == 0) = true := beq_iff_eq.mpr c6
      have c6b1 : (a0 != 0) = false := bne_eq_false_iff_eq.mpr c6
      clear c6
      simp only [Option.some.injEq, Prod.mk.injEq] at H
      obtain ⟨rfl, rfl⟩ := H
      go_wp2_with (first | ((with_reducible refine gate_dst (N := 11) rfl ?_); refine Kd.R_lit (Kd.int .i64) _ 3 ?hg (N := 11) ?hd (xs := ([10, 1, 2, 2, 3, 3, 2, 2] : List Int)) (inner := [.int .i64 10, .int .i64 1, .int .i64 2, .int .i64 2, .int .i64 3, .int .i64 3, .int .i64 2, .int .i64 2]) (ok := fun _ => True) (okp := fun _ => True) ?hr ?hp (fun _ hk => hk) trivial (zX _ _) (z5 _) (by simp) ?_; (case hd => rfl); (case hg => rfl); (case hr => first | (go_simp; done) | (go_simp; rfl)); (case hp => exact (Reps.one (show Kd.M (Kd.int .i64) _ _ _ 10 [.int .i64 10] from rfl) (Reps.one (show Kd.M (Kd.int .i64) _ _ _ 1 [.int .i64 1] from rfl) (Reps.one (show Kd.M (Kd.int .i64) _ _ _ 2 [.int .i64 2] from rfl) (Reps.one (show Kd.M (Kd.int .i64) _ _ _ 2 [.int .i64 2] from rfl) (Reps.one (show Kd.M (Kd.int .i64) _ _ _ 3 [.int .i64 3] from rfl) (Reps.one (show Kd.M (Kd.int .i64) _ _ _ 3 [.int .i64 3] from rfl) (Reps.one (show Kd.M (Kd.int .i64) _ _ _ 2 [.int .i64 2] from rfl) (Reps.one (show Kd.M (Kd.int .i64) _ _ _ 2 [.int .i64 2] from rfl) (Reps.none _ _)))))))))); intro v379 w7 ho8 hb hg_ hnew_; clear hg_ hnew_; (first | rw [← Ny378.out] at ho8 | (simp only [Int.reduceToNat] at ho8; rw [← Ny378.out] at ho8)); have HO380 := zA (Kd.R_lower ho8 (below_size (by repeat (first | (with_reducible first | exact HB.out | apply zB | apply zN | apply below_drew1) | exact HB.out)))); replace HB := zA (below_step (by repeat (first | (with_reducible first | exact HB.out | apply zB | apply zN | apply below_drew1) | exact HB.out)) hb); clear hb ho8))
      go_ret2
      exact ⟨by first | rfl | (simp [errW_none, errW_some] <;> rfl) | (simp [*, errW_none, errW_some] <;> rfl), by repeat (first | (with_reducible first | exact HB.out | apply zB | apply zN | apply below_drew1) | exact HB.out)⟩
     ·rw [if_neg c6] at H
      have c6b0 : (a0 == 0) = false := beq_eq_false_iff_ne.mpr c6
      have c6b1 : (a0 != 0) = true := bne_iff_ne.mpr c6
      by_cases c9 : 0 ≤ a0
      ·rw [if_pos c9] at H
       have c9b0 : decide (0 ≤ a0) = true := decide_eq_true c9
       clear c9
       by_cases c10 : a0 < (y378.length : Int)
       ·rw [if_pos c10] at H
        have c10b0 : decide (a0 < (y378.length : Int)) = true := decide_eq_true c10
        clear c10
        simp only [Option.some.injEq, Prod.mk.injEq] at H
        obtain ⟨rfl, rfl⟩ := H
        go_wp2_with (first | ((with_reducible refine gate_dst (N := 11) rfl ?_); refine Kd.R_lit (Kd.int .i64) _ 3 ?hg (N := 11) ?hd (xs := ([10, 1, 2, 2, 3, 3, 2, 2] : List Int)) (inner := [.int .i64 10, .int .i64 1, .int .i64 2, .int .i64 2, .int .i64 3, .int .i64 3, .int .i64 2, .int .i64 2]) (ok := fun _ => True) (okp := fun _ => True) ?hr ?hp (fun _ hk => hk) trivial (zX _ _) (z5 _) (by simp) ?_; (case hd => rfl); (case hg => rfl); (case hr => first | (go_simp; done) | (go_simp; rfl)); (case hp => exact (Reps.one (show Kd.M (Kd.int .i64) _ _ _ 10 [.int .i64 10] from rfl) (Reps.one (show Kd.M (Kd.int .i64) _ _ _ 1 [.int .i64 1] from rfl) (Reps.one (show Kd.M (Kd.int .i64) _ _ _ 2 [.int .i64 2] from rfl) (Reps.one (show Kd.M (Kd.int .i64) _ _ _ 2 [.int .i64 2] from rfl) (Reps.one (show Kd.M (Kd.int .i64) _ _ _ 3 [.int .i64 3] from rfl) (Reps.one (show Kd.M (Kd.int .i64) _ _ _ 3 [.int .i64 3] from rfl) (Reps.one (show Kd.M (Kd.int .i64) _ _ _ 2 [.int .i64 2] from rfl) (Reps.one (show Kd.M (Kd.int .i64) _ _ _ 2 [.int .i64 2] from rfl) (Reps.none _ _)))))))))); intro v379 w11 ho12 hb hg_ hnew_; clear hg_ hnew_; (first | rw [← Ny378.out] at ho12 | (simp only [Int.reduceToNat] at ho12; rw [← Ny378.out] at ho12)); have HO380 := zA (Kd.R_lower ho12 (below_size (by repeat (first | (with_reducible first | exact HB.out | apply zB | apply zN | apply below_drew1) | exact HB.out)))); replace HB := zA (below_step (by repeat (first | (with_reducible first | exact HB.out | apply zB | apply zN | apply below_drew1) | exact HB.out)) hb); clear hb ho12; obtain ⟨Ao13, co13, eo13⟩ := Kd.R_slice HO380.out; subst eo13; have p381 : 0 ≤ (a0 : Int) := zO (by first | (with_reducible assumption) | assumption); have q381 : a0 < (y378.length : Int) := zO (by first | (with_reducible assumption) | assumption); obtain ⟨ad381, e381, hx381_0⟩ := Kd.at_int (Kd.R_reads' HO380.out).2.2 a0 p381 q381; cases e381; replace p381 := eq_true p381; replace q381 := eq_true q381))
        go_ret2
        exact ⟨by first | rfl | (simp [errW_none, errW_some] <;> rfl) | (simp [*, errW_none, errW_some] <;> rfl), by repeat (first | (with_reducible first | exact HB.out | apply zB | apply zN | apply below_drew1) | exact HB.out)⟩
       ·rw [if_neg c10] at H
        exact absurd H (by simp)
      ·rw [if_neg c9] at H
       exact absurd H (by simp)
    ·rw [if_neg c5] at H
     have c5b0 : decide (a0 < 8) = false := decide_eq_false c5
     clear c5
     by_cases c14 : a0 < 26
     ·rw [if_pos c14] at H
      have c14b0 : decide (a0 < 26) = true := decide_eq_true c14
      clear c14
      simp only [Option.some.injEq, Prod.mk.injEq] at H
      obtain ⟨rfl, rfl⟩ := H
      go_wp2_with (first | ((with_reducible refine gate_dst (N := 11) rfl ?_); refine Kd.R_lit (Kd.int .i64) _ 3 ?hg (N := 11) ?hd (xs := ([10, 1, 2, 2, 3, 3, 2, 2] : List Int)) (inner := [.int .i64 10, .int .i64 1, .int .i64 2, .int .i64 2, .int .i64 3, .int .i64 3, .int .i64 2, .int .i64 2]) (ok := fun _ => True) (okp := fun _ => True) ?hr ?hp (fun _ hk => hk) trivial (zX _ _) (z5 _) (by simp) ?_; (case hd => rfl); (case hg => rfl); (case hr => first | (go_simp; done) | (go_simp; rfl)); (case hp => exact (Reps.one (show Kd.M (Kd.int .i64) _ _ _ 10 [.int .i64 10] from rfl) (Reps.one (show Kd.M (Kd.int .i64) _ _ _ 1 [.int .i64 1] from rfl) (Reps.one (show Kd.M (Kd.int .i64) _ _ _ 2 [.int .i64 2] from rfl) (Reps.one (show Kd.M (Kd.int .i64) _ _ _ 2 [.int .i64 2] from rfl) (Reps.one (show Kd.M (Kd.int .i64) _ _ _ 3 [.int .i64 3] from rfl) (Reps.one (show Kd.M (Kd.int .i64) _ _ _ 3 [.int .i64 3] from rfl) (Reps.one (show Kd.M (Kd.int .i64) _ _ _ 2 [.int .i64 2] from rfl) (Reps.one (show Kd.M (Kd.int .i64) _ _ _ 2 [.int .i64 2] from rfl) (Reps.none _ _)))))))))); intro v379 w15 ho16 hb hg_ hnew_; clear hg_ hnew_; (first | rw [← Ny378.out] at ho16 | (simp only [Int.reduceToNat] at ho16; rw [← Ny378.out] at ho16)); have HO380 := zA (Kd.R_lower ho16 (below_size (by repeat (first | (with_reducible first | exact HB.out | apply zB | apply zN | apply below_drew1) | exact HB.out)))); replace HB := zA (below_step (by repeat (first | (with_reducible first | exact HB.out | apply zB | apply zN | apply below_drew1) | exact HB.out)) hb); clear hb ho16))
      go_ret2
      exact ⟨by first | rfl | (simp [errW_none, errW_some] <;> rfl) | (simp [*, errW_none, errW_some] <;> rfl), by repeat (first | (with_reducible first | exact HB.out | apply zB | apply zN | apply below_drew1) | exact HB.out)⟩
     ·rw [if_neg c14] at H
      have c14b0 : decide (a0 < 26) = false := decide_eq_false c14
      clear c14
      by_cases c17 : a0 = 26
      ·rw [if_pos c17] at H
       have c17b0 : (a0 == 26) = true := beq_iff_eq.mpr c17
       have c17b1 : (a0 != 26) = false := bne_eq_false_iff_eq.mpr c17
       clear c17
       simp only [Option.some.injEq, Prod.mk.injEq] at H
       obtain ⟨rfl, rfl⟩ := H
       go_wp2_with (first | ((with_reducible refine gate_dst (N := 11) rfl ?_); refine Kd.R_lit (Kd.int .i64) _ 3 ?hg (N := 11) ?hd (xs := ([10, 1, 2, 2, 3, 3, 2, 2] : List Int)) (inner := [.int .i64 10, .int .i64 1, .int .i64 2, .int .i64 2, .int .i64 3, .int .i64 3, .int .i64 2, .int .i64 2]) (ok := fun _ => True) (okp := fun _ => True) ?hr ?hp (fun _ hk => hk) trivial (zX _ _) (z5 _) (by simp) ?_; (case hd => rfl); (case hg => rfl); (case hr => first | (go_simp; done) | (go_simp; rfl)); (case hp => exact (Reps.one (show Kd.M (Kd.int .i64) _ _ _ 10 [.int .i64 10] from rfl) (Reps.one (show Kd.M (Kd.int .i64) _ _ _ 1 [.int .i64 1] from rfl) (Reps.one (show Kd.M (Kd.int .i64) _ _ _ 2 [.int .i64 2] from rfl) (Reps.one (show Kd.M (Kd.int .i64) _ _ _ 2 [.int .i64 2] from rfl) (Reps.one (show Kd.M (Kd.int .i64) _ _ _ 3 [.int .i64 3] from rfl) (Reps.one (show Kd.M (Kd.int .i64) _ _ _ 3 [.int .i64 3] from rfl) (Reps.one (show Kd.M (Kd.int .i64) _ _ _ 2 [.int .i64 2] from rfl) (Reps.one (show Kd.M (Kd.int .i64) _ _ _ 2 [.int .i64 2] from rfl) (Reps.none _ _)))))))))); intro v379 w18 ho19 hb hg_ hnew_; clear hg_ hnew_; (first | rw [← Ny378.out] at ho19 | (simp only [Int.reduceToNat] at ho19; rw [← Ny378.out] at ho19)); have HO380 := zA (Kd.R_lower ho19 (below_size (by repeat (first | (with_reducible first | exact HB.out | apply zB | apply zN | apply below_drew1) | exact HB.out)))); replace HB := zA (below_step (by repeat (first | (with_reducible first | exact HB.out | apply zB | apply zN | apply below_drew1) | exact HB.out)) hb); clear hb ho19))
       go_ret2
       exact ⟨by first | rfl | (simp [errW_none, errW_some] <;> rfl) | (simp [*, errW_none, errW_some] <;> rfl), by repeat (first | (with_reducible first | exact HB.out | apply zB | apply zN | apply below_drew1) | exact HB.out)⟩
      ·rw [if_neg c17] at H
       have c17b0 : (a0 == 26) = false := beq_eq_false_iff_ne.mpr c17
       have c17b1 : (a0 != 26) = true := bne_iff_ne.mpr c17
       have HC20 := zA H
       clear H
       go_upto_region 12 with (first | ((with_reducible refine gate_dst (N := 11) rfl ?_); refine Kd.R_lit (Kd.int .i64) _ 3 ?hg (N := 11) ?hd (xs := ([10, 1, 2, 2, 3, 3, 2, 2] : List Int)) (inner := [.int .i64 10, .int .i64 1, .int .i64 2, .int .i64 2, .int .i64 3, .int .i64 3, .int .i64 2, .int .i64 2]) (ok := fun _ => True) (okp := fun _ => True) ?hr ?hp (fun _ hk => hk) trivial (zX _ _) (z5 _) (by simp) ?_; (case hd => rfl); (case hg => rfl); (case hr => first | (go_simp; done) | (go_simp; rfl)); (case hp => exact (Reps.one (show Kd.M (Kd.int .i64) _ _ _ 10 [.int .i64 10] from rfl) (Reps.one (show Kd.M (Kd.int .i64) _ _ _ 1 [.int .i64 1] from rfl) (Reps.one (show Kd.M (Kd.int .i64) _ _ _ 2 [.int .i64 2] from rfl) (Reps.one (show Kd.M (Kd.int .i64) _ _ _ 2 [.int .i64 2] from rfl) (Reps.one (show Kd.M (Kd.int .i64) _ _ _ 3 [.int .i64 3] from rfl) (Reps.one (show Kd.M (Kd.int .i64) _ _ _ 3 [.int .i64 3] from rfl) (Reps.one (show Kd.M (Kd.int .i64) _ _ _ 2 [.int .i64 2] from rfl) (Reps.one (show Kd.M (Kd.int .i64) _ _ _ 2 [.int .i64 2] from rfl) (Reps.none _ _)))))))))); intro v379 w21 ho22 hb hg_ hnew_; clear hg_ hnew_; (first | rw [← Ny378.out] at ho22 | (simp only [Int.reduceToNat] at ho22; rw [← Ny378.out] at ho22)); have HO380 := zA (Kd.R_lower ho22 (below_size (by repeat (first | (with_reducible first | exact HB.out | apply zB | apply zN | apply below_drew1) | exact HB.out)))); replace HB := zA (below_step (by repeat (first | (with_reducible first | exact HB.out | apply zB | apply zN | apply below_drew1) | exact HB.out)) hb); clear hb ho22))
       (try simp only [Act.put, zY, List.set_cons_zero, z2])
       go_cut [29] (fun v29 wc => ∃ (kq : Nat) (x29_19 : Bool), v29 = .bool x29_19 ∧ Aside0 (r12_Shape.j1 kq a0 x29_19 = some (r1, r2)) ∧ Aside0 (kq ≤ kj1) ∧ Aside0 (Below w.heap.size w wc))
       case first =>
        have H := HC20.out
        clear HC20
        by_cases c23 : a0 < 30
        ·rw [if_pos c23] at H
         have c23b0 : decide (a0 < 30) = true := decide_eq_true c23
         clear c23
         (first | rw [c23b0] | (simp only [i64_w, i32_w]; rw [c23b0]) | skip)
         have H' := zA H
         clear H
         go_wp2
         go_meet
         case rel => exact ⟨_, (true), (by first | rfl | (simp; done) | (simp [*]; done)), H', ⟨by have := HJ1.out; first | omega | exact z5 _⟩, ⟨by repeat (first | (with_reducible first | exact HB.out | apply zB | apply zN | apply below_drew1) | exact HB.out)⟩⟩
        ·rw [if_neg c23] at H
         have c23b0 : decide (a0 < 30) = false := decide_eq_false c23
         clear c23
         (first | rw [c23b0] | (simp only [i64_w, i32_w]; rw [c23b0]) | skip)
         have H' := zA H
         clear H
         go_wp2
         go_meet
         case rel => exact ⟨_, ((a0 == 34)), (by first | rfl | (simp; done) | (simp [*]; done)), H', ⟨by have := HJ1.out; first | omega | exact z5 _⟩, ⟨by repeat (first | (with_reducible first | exact HB.out | apply zB | apply zN | apply below_drew1) | exact HB.out)⟩⟩
       case rest =>
        clear HC20
        try clear c1
        try clear c2
        try clear p2
        try clear c3
        try clear c3b0
        try clear p3
        try clear q3
        try clear hx3
        try clear c4
        try clear c5
        try clear c5b0
        try clear c6
        try clear c6b0
        try clear c6b1
        try clear c9
        try clear c9b0
        try clear c10
        try clear c10b0
        try clear c11
        try clear c14
        try clear c14b0
        try clear c17
        try clear c17b0
        try clear c17b1
        try clear c23
        try clear c23b0
        try clear hx381_0
        try clear p2
        try clear p381
        try clear q381
        obtain ⟨kq, x29_19, rfl, HA, HJ19, HB⟩ := hcut
        cases kq with
        | zero => exact absurd HA.out (by simp [r12_Shape.j1])
        | succ kj19 =>
         have H := HA.out
         clear HA
         simp only [r12_Shape.j1] at H
         by_cases c24 : x29_19 = true
         ·subst c24
          have H1 : (some (0, 0)) = some (r1, r2) := by rw [if_pos rfl] at H; exact H
          clear H
          have H := H1
          clear H1
          simp only [Option.some.injEq, Prod.mk.injEq] at H
          obtain ⟨rfl, rfl⟩ := H
          go_wp2
          go_ret2
          exact ⟨by first | rfl | (simp [errW_none, errW_some] <;> rfl) | (simp [*, errW_none, errW_some] <;> rfl), by repeat (first | (with_reducible first | exact HB.out | apply zB | apply zN | apply below_drew1) | exact HB.out)⟩
         ·replace c24 := Bool.eq_false_iff.mpr c24
          subst c24
          have H1 : (if a0 < 32 then (some (5, 10)) else (if a0 = 32 then (some (6, 10)) else (if a0 = 33 then (some (7, 0)) else (if a0 = 36 then (some (8, 0)) else (some (8, 9)))))) = some (r1, r2) := by rw [if_neg (show ¬ (false = true) by decide)] at H; exact H
          clear H
          have H := H1
          clear H1
          by_cases c25 : a0 < 32
          ·rw [if_pos c25] at H
           have c25b0 : decide (a0 < 32) = true := decide_eq_true c25
           clear c25
           simp only [Option.some.injEq, Prod.mk.injEq] at H
           obtain ⟨rfl, rfl⟩ := H
           go_wp2
           go_ret2
           exact ⟨by first | rfl | (simp [errW_none, errW_some] <;> rfl) | (simp [*, errW_none, errW_some] <;> rfl), by repeat (first | (with_reducible first | exact HB.out | apply zB | apply zN | apply below_drew1) | exact HB.out)⟩
          ·rw [if_neg c25] at H
           have c25b0 : decide (a0 < 32) = false := decide_eq_false c25
           clear c25
           by_cases c26 : a0 = 32
           ·rw [if_pos c26] at H
            have c26b0 : (a0 == 32) = true := beq_iff_eq.mpr c26
            have c26b1 : (a0 != 32) = false := bne_eq_false_iff_eq.mpr c26
            clear c26
            simp only [Option.some.injEq, Prod.mk.injEq] at H
            obtain ⟨rfl, rfl⟩ := H
            go_wp2
            go_ret2
            exact ⟨by first | rfl | (simp [errW_none, errW_some] <;> rfl) | (simp [*, errW_none, errW_some] <;> rfl), by repeat (first | (with_reducible first | exact HB.out | apply zB | apply zN | apply below_drew1) | exact HB.out)⟩
           ·rw [if_neg c26] at H
            have c26b0 : (a0 == 32) = false := beq_eq_false_iff_ne.mpr c26
            have c26b1 : (a0 != 32) = true := bne_iff_ne.mpr c26
            by_cases c27 : a0 = 33
            ·rw [if_pos c27] at H
             have c27b0 : (a0 == 33) = true := beq_iff_eq.mpr c27
             have c27b1 : (a0 != 33) = false := bne_eq_false_iff_eq.mpr c27
             clear c27
             simp only [Option.some.injEq, Prod.mk.injEq] at H
             obtain ⟨rfl, rfl⟩ := H
             go_wp2
             go_ret2
             exact ⟨by first | rfl | (simp [errW_none, errW_some] <;> rfl) | (simp [*, errW_none, errW_some] <;> rfl), by repeat (first | (with_reducible first | exact HB.out | apply zB | apply zN | apply below_drew1) | exact HB.out)⟩
            ·rw [if_neg c27] at H
             have c27b0 : (a0 == 33) = false := beq_eq_false_iff_ne.mpr c27
             have c27b1 : (a0 != 33) = true := bne_iff_ne.mpr c27
             by_cases c28 : a0 = 36
             ·rw [if_pos c28] at H
              have c28b0 : (a0 == 36) = true := beq_iff_eq.mpr c28
              have c28b1 : (a0 != 36) = false := bne_eq_false_iff_eq.mpr c28
              clear c28
              simp only [Option.some.injEq, Prod.mk.injEq] at H
              obtain ⟨rfl, rfl⟩ := H
              go_wp2
              go_ret2
              exact ⟨by first | rfl | (simp [errW_none, errW_some] <;> rfl) | (simp [*, errW_none, errW_some] <;> rfl), by repeat (first | (with_reducible first | exact HB.out | apply zB | apply zN | apply below_drew1) | exact HB.out)⟩
             ·rw [if_neg c28] at H
              have c28b0 : (a0 == 36) = false := beq_eq_false_iff_ne.mpr c28
              have c28b1 : (a0 != 36) = true := bne_iff_ne.mpr c28
              simp only [Option.some.injEq, Prod.mk.injEq] at H
              obtain ⟨rfl, rfl⟩ := H
              go_wp2
              go_ret2
              exact ⟨by first | rfl | (simp [errW_none, errW_some] <;> rfl) | (simp [*, errW_none, errW_some] <;> rfl), by repeat (first | (with_reducible first | exact HB.out | apply zB | apply zN | apply below_drew1) | exact HB.out)⟩

/-! ### r12_may: function 112 -/
def r12_may.f (a0 : Int) (a1 : Int) : Option (Bool) := if a0 = 0 then (some true) else (if a1 = 0 then (some false) else (if a0 > 0 then (some (decide (a0 < 65536))) else (some false)))
set_option maxHeartbeats 8000000 in
set_option maxRecDepth 100000 in
theorem r12_may.calls (a0 : Int) (a1 : Int) (r : Bool) (w : World) (h : r12_may.f a0 a1 = some r) :
  Calls Tryd.prog 112 #[.int .i64 a0, .int .i64 a1] w fun e w' => e = .returned (.bool r) ∧ Drawn0 w w' := by
 have H : (if a0 = 0 then (some true) else (if a1 = 0 then (some false) else (if a0 > 0 then (some (decide (a0 < 65536))) else (some false)))) = some r := h
 clear h
 by_cases c3 : a0 = 0
 ·rw [if_pos c3] at H
  have c3b0 : (a0 == 0) = true := beq_iff_eq.mpr c3
  have c3b1 : (a0 != 0) = false := bne_eq_false_iff_eq.mpr c3
  clear c3
  obtain rfl := zJ H
  go_enter Tryd.func112, Tryd.ntmps112
  go_wp2
  go_ret
  exact ⟨by first | rfl | (simp; done) | (simp [*]; done), by repeat (first | exact z4 _ | apply z3)⟩
 ·rw [if_neg c3] at H
  have c3b0 : (a0 == 0) = false := beq_eq_false_iff_ne.mpr c3
  have c3b1 : (a0 != 0) = true := bne_iff_ne.mpr c3
  by_cases c4 : a1 = 0
  ·rw [if_pos c4] at H
   have c4b0 : (a1 == 0) = true := beq_iff_eq.mpr c4
   have c4b1 : (a1 != 0) = false := bne_eq_false_iff_eq.mpr c4
   clear c4
   obtain rfl := zJ H
   go_enter Tryd.func112, Tryd.ntmps112
   go_wp2
   go_ret
   exact ⟨by first | rfl | (simp; done) | (simp [*]; done), by repeat (first | exact z4 _ | apply z3)⟩
  ·rw [if_neg c4] at H
   have c4b0 : (a1 == 0) = false := beq_eq_false_iff_ne.mpr c4
   have c4b1 : (a1 != 0) = true := bne_iff_ne.mpr c4
   by_cases c5 : a0 > 0
   ·rw [if_pos c5] at H
    have c5b0 : decide (0 < a0) = true := decide_eq_true c5
    clear c5
    obtain rfl := zJ H
    go_enter Tryd.func112, Tryd.ntmps112
    go_wp2
    go_ret
    exact ⟨by first | rfl | (simp; done) | (simp [*]; done), by repeat (first | exact z4 _ | apply z3)⟩
   ·rw [if_neg c5] at H
    have c5b0 : decide (0 < a0) = false := decide_eq_false c5
    clear c5
    obtain rfl := zJ H
    go_enter Tryd.func112, Tryd.ntmps112
    go_wp2
    go_ret
    exact ⟨by first | rfl | (simp; done) | (simp [*]; done), by repeat (first | exact z4 _ | apply z3)⟩

end Go.Proofs.YtdbfgfgbjheibaaDoor.PBx
