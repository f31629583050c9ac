/- Printed by a program of this session (wip/pg.py, over the print of the kit): functions, their Lean twins, and the proofs that the calls come to them; each under the conditions that it names. -/
import Derived.Test.YtdbfgfgbjheibaaDoorZBoxEncodesq
import Derived.Test.YtdbfgfgbjheibaaDoorZBoxEncodesab
import Derived.Test.YtdbfgfgbjheibaaDoorZBoxEncodesai
import Derived.Test.YtdbfgfgbjheibaaDoorZBoxEncodesak
/- Printed by a program of this session (wip/pg.py, over the print of the kit): functions, their Lean twins, and the proofs that the calls come to them; each under the conditions that it names. -/
namespace Go.Proofs.YtdbfgfgbjheibaaDoor.PBx
open Go.RowKit Go.Proofs.YtdbfgfgbjheibaaDoorW.PrintWords Go.Proofs.YtdbfgfgbjheibaaDoorW.PrintLast Go.Proofs.YtdbfgfgbjheibaaDoorW.PrintMore
attribute [local go_sem] max2_int min2_int max_two min_two max_three min_three max_four min_four   -- for this text's walks alone
set_option linter.unusedVariables false
set_option linter.unusedSimpArgs false

/-! ### r13_Encode: function 72 -/
def r13_Encode.l0 : Nat → List (S109) → List Int → Int → Option (List Int × Bool)
 | 0, _, _, _ => none
 | k + 1, x0, x4, x5 => if x5 < (x0.length : Int) then (if 0 ≤ x5 then ((r12_Right.f k ((rd_T109 x0 x5).f0) ((rd_T109 x0 x5).f1) ((rd_T109 x0 x5).f2)).bind fun t395 => (if t395 = true then ((r03_Put.f k x4 1 ((rd_T109 x0 x5).f0)).bind fun t397 => ((r03_Put.f k t397 2 ((rd_T109 x0 x5).f1)).bind fun t401 => ((r03_Put.f k t401 2 ((rd_T109 x0 x5).f2)).bind fun t405 => (r13_Encode.l0 k x0 t405 (wrap64 (x5 + 1)))))) else (some (([] : List Int), false)))) else (none)) else (some (x4, true))
def r13_Encode.f (k : Nat) (l0 : List (S109)) : Option (List Int × Bool) := r13_Encode.l0 k l0 ([] : List Int) 0
def r13_Encode.T7 : Bool × List (List Nat × List Nat) := (true, [([], []), ([], []), ([], []), ([1, 2], [1, 2]), ([3], [3]), ([4], [4]), ([0, 5], [0, 5]), ([], []), ([], []), ([7, 8], [7, 8]), ([9], [9]), ([10], [10]), ([6, 11, 6], [6, 11]), ([], []), ([], []), ([13, 14], [13, 14]), ([15], [15]), ([16], [16]), ([12, 17, 12], [12, 17]), ([18, 18, 0, 1, 2, 3, 4, 5, 6, 7, 8, 9, 10, 11, 12, 13, 14, 15, 16, 17, 18], [0, 18])])
def r13_Encode.B7 : List Nat := [0, 0, 0, 6, 14, 30, 63, 0, 0, 384, 896, 1920, 4095, 0, 0, 24576, 57344, 122880, 262143, 524287]
theorem r13_Encode.tab7 : rtab .any (opsOf Tryd.f72 7) = r13_Encode.T7 := by kernel_rfl
theorem r13_Encode.bits7 : waitsOk r13_Encode.T7.2 r13_Encode.B7 = true := by kernel_rfl
set_option maxHeartbeats 8000000 in
set_option maxRecDepth 100000 in
theorem r13_Encode.calls (k : Nat) (A0 : Option Addr) (c0 : Nat) (l0 : List (S109)) (r1 : List Int) (r2 : Bool) (w : World) (hr0 : Kd.C k109 w A0 l0.length l0) (hc0 : l0.length ≤ c0) (h : r13_Encode.f k l0 = some (r1, r2)) :
  Calls Tryd.prog 72 #[.slice A0 l0.length c0] w fun e w' => ∃ v0_ : Value, e = .returned (.tuple #[v0_, .bool r2]) ∧ Kd.R (Kd.int .u8) 5 w' w.heap.size (fun _ => True) v0_ r1 ∧ Below w.heap.size w w' := by
 have hu109 := Tryd.underlying109
 have HR0 := zA hr0
 have HC0 := zA hc0
 clear hr0 hc0
 have HB := zA (zX w.heap.size w)
 have H : (r13_Encode.l0 k l0 ([] : List Int) 0) = some (r1, r2) := h
 clear h
 have H' := zA H
 clear H
 go_enter Tryd.func72, Tryd.ntmps72
 go_wp2
 go_loopg [4, 5] k (fun kq v4 v5 w' => ∃ (x4_1 : List Int) (x5_1 : Int), v5 = .int .i64 x5_1 ∧ Aside0 (r13_Encode.l0 kq l0 x4_1 x5_1 = some (r1, r2)) ∧ Aside0 (kq ≤ k) ∧ Aside0 (Kd.R (Kd.int .u8) 5 w' w.heap.size (fun _ => True) v4 x4_1) ∧ Aside0 (Below w.heap.size w w'))
 case atStart => exact ⟨(([] : List Int)), (0), (by first | rfl | (simp; done) | (simp [*]; done)), H', ⟨z5 _⟩, ⟨by first | exact Kd.R_nil _ _ _ _ _ | exact Kd.N_nil _ _ _ _ _ | exact Kd.V_nil _ _ _ _ _ | exact Kd.Q_nil _ _ _ _ _ | exact Kd.S_nil _ _ _ _ _⟩, ⟨by repeat (first | (with_reducible first | exact HB.out | apply zB | apply zN | apply below_drew1) | exact HB.out)⟩⟩
 case round =>
  clear H'
  obtain ⟨x4_1, x5_1, rfl, HA, HK1, HO_4, HB⟩ := hrel
  cases gk with
  | zero => exact absurd HA.out (by simp [r13_Encode.l0])
  | succ k1 =>
   have H := HA.out
   clear HA
   simp only [r13_Encode.l0] at H
   by_cases c2 : x5_1 < (l0.length : Int)
   ·rw [if_pos c2] at H
    have c2b0 : decide (x5_1 < (l0.length : Int)) = true := decide_eq_true c2
    clear c2
    by_cases c3 : 0 ≤ x5_1
    ·rw [if_pos c3] at H
     have c3b0 : decide (0 ≤ x5_1) = true := decide_eq_true c3
     clear c3
     replace H := Option.bind_eq_some_iff.mp H
     obtain ⟨t395, A40, H⟩ := H
     replace H : (if t395 = true then ((r03_Put.f k1 x4_1 1 ((rd_T109 l0 x5_1).f0)).bind fun t397 => ((r03_Put.f k1 t397 2 ((rd_T109 l0 x5_1).f1)).bind fun t401 => ((r03_Put.f k1 t401 2 ((rd_T109 l0 x5_1).f2)).bind fun t405 => (r13_Encode.l0 k1 l0 t405 (wrap64 (x5_1 + 1)))))) else (some (([] : List Int), false))) = some (r1, r2) := H
     have A4 := zA A40
     clear A40
     by_cases c5 : t395 = true
     ·subst c5
      have H1 : ((r03_Put.f k1 x4_1 1 ((rd_T109 l0 x5_1).f0)).bind fun t397 => ((r03_Put.f k1 t397 2 ((rd_T109 l0 x5_1).f1)).bind fun t401 => ((r03_Put.f k1 t401 2 ((rd_T109 l0 x5_1).f2)).bind fun t405 => (r13_Encode.l0 k1 l0 t405 (wrap64 (x5_1 + 1)))))) = some (r1, r2) := by rw [if_pos rfl] at H; exact H
      clear H
      have H := H1
      clear H1
      replace H := Option.bind_eq_some_iff.mp H
      obtain ⟨t397, A60, H⟩ := H
      replace H : ((r03_Put.f k1 t397 2 ((rd_T109 l0 x5_1).f1)).bind fun t401 => ((r03_Put.f k1 t401 2 ((rd_T109 l0 x5_1).f2)).bind fun t405 => (r13_Encode.l0 k1 l0 t405 (wrap64 (x5_1 + 1))))) = some (r1, r2) := H
      have A6 := zA A60
      clear A60
      replace H := Option.bind_eq_some_iff.mp H
      obtain ⟨t401, A70, H⟩ := H
      replace H : ((r03_Put.f k1 t401 2 ((rd_T109 l0 x5_1).f2)).bind fun t405 => (r13_Encode.l0 k1 l0 t405 (wrap64 (x5_1 + 1)))) = some (r1, r2) := H
      have A7 := zA A70
      clear A70
      replace H := Option.bind_eq_some_iff.mp H
      obtain ⟨t405, A80, H⟩ := H
      replace H : (r13_Encode.l0 k1 l0 t405 (wrap64 (x5_1 + 1))) = some (r1, r2) := H
      have A8 := zA A80
      clear A80
      have H' := zA H
      clear H
      have p394 : 0 ≤ (x5_1 : Int) := zO (by first | (with_reducible assumption) | assumption)
      have q394 : x5_1 < (l0.length : Int) := zO (by first | (with_reducible assumption) | assumption)
      obtain ⟨ad394, e394, hx394_0, hx394_1, hx394_2⟩ := at_T109 HR0.out x5_1 p394 q394
      cases e394
      replace hx394_0 := (HB.out.cell (zL w _ hx394_0)).trans hx394_0
      replace hx394_1 := (HB.out.cell (zL w _ hx394_1)).trans hx394_1
      replace hx394_2 := (HB.out.cell (zL w _ hx394_2)).trans hx394_2
      replace p394 := eq_true p394
      replace q394 := eq_true q394
      try go_wp2_with (first | ((with_reducible refine gate_callee (f := 98) rfl ?_); refine goesL_ (some 16) rfl rfl Tryd.func98 (by kernel_rfl) rfl #[.agg #[.int .i64 ((rd_T109 l0 x5_1).f0), .int .i64 ((rd_T109 l0 x5_1).f1), .int .i64 ((rd_T109 l0 x5_1).f2)]] rfl (by (try simp only [zm, zc, zn]); first | done | rfl | (simp only [zd, zt]; rfl)) ?_; (with_reducible refine (r12_Right.calls k1 ((rd_T109 l0 x5_1).f0) ((rd_T109 l0 x5_1).f1) ((rd_T109 l0 x5_1).f2) true _ A4.out).mono ?_); rintro e w9 ⟨rfl, hb⟩; refine ⟨_, rfl, ?_⟩; replace HO_4 := zA (Kd.R_below (by (with_reducible repeat (first | apply zS | apply zT)); exact HO_4.out) hb); replace HB := zA (below_step (by repeat (first | (with_reducible first | exact HB.out | apply zB | apply zN | apply below_drew1) | exact HB.out)) hb); (try clear hb); (try clear hb2); (try clear hk); (try clear hi)))
      replace HO_4 := zA (zT HO_4.out)
      replace HB := zA (below_drew1 HB.out)
      have p396 : 0 ≤ (x5_1 : Int) := zO (by first | (with_reducible assumption) | assumption)
      have q396 : x5_1 < (l0.length : Int) := zO (by first | (with_reducible assumption) | assumption)
      obtain ⟨ad396, e396, hx396_0, hx396_1, hx396_2⟩ := at_T109 HR0.out x5_1 p396 q396
      have hw396_2 := hx396_2
      have hw396_1 := hx396_1
      have hw396_0 := hx396_0
      obtain rfl : ad394 = ad396 := (by injection e396)
      replace hx396_0 := (HB.out.cell (zL w _ hx396_0)).trans hx396_0
      replace hx396_1 := (HB.out.cell (zL w _ hx396_1)).trans hx396_1
      replace hx396_2 := (HB.out.cell (zL w _ hx396_2)).trans hx396_2
      replace p396 := eq_true p396
      replace q396 := eq_true q396
      have p400 : 0 ≤ (x5_1 : Int) := zO (by first | (with_reducible assumption) | assumption)
      have q400 : x5_1 < (l0.length : Int) := zO (by first | (with_reducible assumption) | assumption)
      obtain ⟨ad400, e400, hx400_0, hx400_1, hx400_2⟩ := at_T109 HR0.out x5_1 p400 q400
      have hw400_2 := hx400_2
      have hw400_1 := hx400_1
      have hw400_0 := hx400_0
      obtain rfl : ad394 = ad400 := (by injection e400)
      replace hx400_0 := (HB.out.cell (zL w _ hx400_0)).trans hx400_0
      replace hx400_1 := (HB.out.cell (zL w _ hx400_1)).trans hx400_1
      replace hx400_2 := (HB.out.cell (zL w _ hx400_2)).trans hx400_2
      replace p400 := eq_true p400
      replace q400 := eq_true q400
      have p404 : 0 ≤ (x5_1 : Int) := zO (by first | (with_reducible assumption) | assumption)
      have q404 : x5_1 < (l0.length : Int) := zO (by first | (with_reducible assumption) | assumption)
      obtain ⟨ad404, e404, hx404_0, hx404_1, hx404_2⟩ := at_T109 HR0.out x5_1 p404 q404
      have hw404_2 := hx404_2
      have hw404_1 := hx404_1
      have hw404_0 := hx404_0
      obtain rfl : ad394 = ad404 := (by injection e404)
      replace hx404_0 := (HB.out.cell (zL w _ hx404_0)).trans hx404_0
      replace hx404_1 := (HB.out.cell (zL w _ hx404_1)).trans hx404_1
      replace hx404_2 := (HB.out.cell (zL w _ hx404_2)).trans hx404_2
      replace p404 := eq_true p404
      replace q404 := eq_true q404
      obtain ⟨Ao11, co11, eo11⟩ := Kd.R_slice HO_4.out
      (first | subst eo11 | (injection eo11 with f1_ f2_ f3_; have f4_ := f1_.symm; have f5_ := f3_.symm; clear f1_ f2_ f3_; subst f4_; subst f5_))
      refine start_ (n := 20) (S := fun w' => w'.cell? (ad394.add ((x5_1).toNat * 3)) = some (.int .i64 ((rd_T109 l0 x5_1).f0)) ∧ w'.cell? ⟨(ad394.add ((x5_1).toNat * 3)).block, (ad394.add ((x5_1).toNat * 3)).off + 1, none⟩ = some (.int .i64 ((rd_T109 l0 x5_1).f1)) ∧ w'.cell? ⟨(ad394.add ((x5_1).toNat * 3)).block, (ad394.add ((x5_1).toNat * 3)).off + 2, none⟩ = some (.int .i64 ((rd_T109 l0 x5_1).f2)) ∧ w'.cell? (ad394.add ((x5_1).toNat * 3)) = some (.int .i64 ((rd_T109 l0 x5_1).f0)) ∧ w'.cell? ⟨(ad394.add ((x5_1).toNat * 3)).block, (ad394.add ((x5_1).toNat * 3)).off + 1, none⟩ = some (.int .i64 ((rd_T109 l0 x5_1).f1)) ∧ w'.cell? ⟨(ad394.add ((x5_1).toNat * 3)).block, (ad394.add ((x5_1).toNat * 3)).off + 2, none⟩ = some (.int .i64 ((rd_T109 l0 x5_1).f2)) ∧ w'.cell? (ad394.add ((x5_1).toNat * 3)) = some (.int .i64 ((rd_T109 l0 x5_1).f0)) ∧ w'.cell? ⟨(ad394.add ((x5_1).toNat * 3)).block, (ad394.add ((x5_1).toNat * 3)).off + 1, none⟩ = some (.int .i64 ((rd_T109 l0 x5_1).f1)) ∧ w'.cell? ⟨(ad394.add ((x5_1).toNat * 3)).block, (ad394.add ((x5_1).toNat * 3)).off + 2, none⟩ = some (.int .i64 ((rd_T109 l0 x5_1).f2))) (ds := []) #[false, false, false, false, false, false, false, false, false, false, false, false, false, false, false, false, false, false, false, false] (by kernel_rfl) rfl rfl ⟨((HB.out.cell (zL w _ hw396_0)).trans hw396_0), ((HB.out.cell (zL w _ hw396_1)).trans hw396_1), ((HB.out.cell (zL w _ hw396_2)).trans hw396_2), ((HB.out.cell (zL w _ hw400_0)).trans hw400_0), ((HB.out.cell (zL w _ hw400_1)).trans hw400_1), ((HB.out.cell (zL w _ hw400_2)).trans hw400_2), ((HB.out.cell (zL w _ hw404_0)).trans hw404_0), ((HB.out.cell (zL w _ hw404_1)).trans hw404_1), ((HB.out.cell (zL w _ hw404_2)).trans hw404_2)⟩ (fun hHeld => ?_); refine with_tabW r13_Encode.tab7 r13_Encode.bits7 (fun HT_ HW_ => ?_)
      generalize w9.drew = w10 at HO_4 HB hx396_0 hx396_1 hx396_2 hx400_0 hx400_1 hx400_2 hx404_0 hx404_1 hx404_2 hHeld ⊢
      refine pure_ (i := 0) (N := some 18) (v := ?_) (a' := ?_) #[true, false, false, false, false, false, false, false, false, false, false, false, false, false, false, false, false, false, false, false] rfl rfl (any_of HT_.out (by kernel_rfl)) (fun _ _ _ h => h) (Or.inl ⟨by rfl, ?_⟩) ?_ ?_
      rotate_left
      ·intro w'
       go_simp
       with_reducible rfl
      rotate_left
      ·simp only [Act.put, zY, List.set_cons_zero, z2, i64_w, i32_w]
       rfl
      refine pure_ (i := 1) (N := some 19) (v := ?_) (a' := ?_) #[true, true, false, false, false, false, false, false, false, false, false, false, false, false, false, false, false, false, false, false] rfl rfl (any_of HT_.out (by kernel_rfl)) (fun _ _ _ h => h) (Or.inl ⟨by rfl, ?_⟩) ?_ ?_
      rotate_left
      ·intro w'
       go_simp
       with_reducible rfl
      rotate_left
      ·simp only [Act.put, zY, List.set_cons_zero, z2, i64_w, i32_w]
       rfl
      refine pure_ (i := 2) (N := some 20) (v := ?_) (a' := ?_) #[true, true, true, false, false, false, false, false, false, false, false, false, false, false, false, false, false, false, false, false] rfl rfl (any_of HT_.out (by kernel_rfl)) (fun _ _ _ h => h) (Or.inl ⟨by rfl, ?_⟩) ?_ ?_
      rotate_left
      ·intro w'
       go_simp
       with_reducible rfl
      rotate_left
      ·simp only [Act.put, zY, List.set_cons_zero, z2, i64_w, i32_w]
       rfl
      refine pure_ (i := 3) (N := some 21) (v := ?_) (a' := ?_) #[true, true, true, true, false, false, false, false, false, false, false, false, false, false, false, false, false, false, false, false] rfl rfl (any_of HT_.out (by kernel_rfl)) (fun _ _ _ h => h) (Or.inl ⟨by rfl, ?_⟩) ?_ ?_
      rotate_left
      ·intro w'
       go_simp
       with_reducible rfl
      rotate_left
      ·simp only [Act.put, zY, List.set_cons_zero, z2, i64_w, i32_w]
       rfl
      refine pure_ (i := 4) (N := some 22) (v := ?_) (a' := ?_) #[true, true, true, true, true, false, false, false, false, false, false, false, false, false, false, false, false, false, false, false] rfl rfl (any_of HT_.out (by kernel_rfl)) (fun _ _ _ h => h) (Or.inl ⟨by rfl, ?_⟩) ?_ ?_
      rotate_left
      ·intro w'
       go_simp
       with_reducible rfl
      rotate_left
      ·simp only [Act.put, zY, List.set_cons_zero, z2, i64_w, i32_w]
       rfl
      refine pure_ (i := 7) (N := some 25) (v := ?_) (a' := ?_) #[true, true, true, true, true, false, false, true, false, false, false, false, false, false, false, false, false, false, false, false] rfl rfl (any_of HT_.out (by kernel_rfl)) (fun _ _ _ h => h) (Or.inl ⟨by rfl, ?_⟩) ?_ ?_
      rotate_left
      ·intro w'
       go_simp
       with_reducible rfl
      rotate_left
      ·simp only [Act.put, zY, List.set_cons_zero, z2, i64_w, i32_w]
       rfl
      refine pure_ (i := 8) (N := some 26) (v := ?_) (a' := ?_) #[true, true, true, true, true, false, false, true, true, false, false, false, false, false, false, false, false, false, false, false] rfl rfl (any_of HT_.out (by kernel_rfl)) (fun _ _ _ h => h) (Or.inl ⟨by rfl, ?_⟩) ?_ ?_
      rotate_left
      ·intro w'
       go_simp
       with_reducible rfl
      rotate_left
      ·simp only [Act.put, zY, List.set_cons_zero, z2, i64_w, i32_w]
       rfl
      refine pure_ (i := 9) (N := some 27) (v := ?_) (a' := ?_) #[true, true, true, true, true, false, false, true, true, true, false, false, false, false, false, false, false, false, false, false] rfl rfl (any_of HT_.out (by kernel_rfl)) (fun _ _ _ h => h) (Or.inl ⟨by rfl, ?_⟩) ?_ ?_
      rotate_left
      ·intro w'
       go_simp
       with_reducible rfl
      rotate_left
      ·simp only [Act.put, zY, List.set_cons_zero, z2, i64_w, i32_w]
       rfl
      refine pure_ (i := 10) (N := some 28) (v := ?_) (a' := ?_) #[true, true, true, true, true, false, false, true, true, true, true, false, false, false, false, false, false, false, false, false] rfl rfl (any_of HT_.out (by kernel_rfl)) (fun _ _ _ h => h) (Or.inl ⟨by rfl, ?_⟩) ?_ ?_
      rotate_left
      ·intro w'
       go_simp
       with_reducible rfl
      rotate_left
      ·simp only [Act.put, zY, List.set_cons_zero, z2, i64_w, i32_w]
       rfl
      refine pure_ (i := 13) (N := some 31) (v := ?_) (a' := ?_) #[true, true, true, true, true, false, false, true, true, true, true, false, false, true, false, false, false, false, false, false] rfl rfl (any_of HT_.out (by kernel_rfl)) (fun _ _ _ h => h) (Or.inl ⟨by rfl, ?_⟩) ?_ ?_
      rotate_left
      ·intro w'
       go_simp
       with_reducible rfl
      rotate_left
      ·simp only [Act.put, zY, List.set_cons_zero, z2, i64_w, i32_w]
       rfl
      refine pure_ (i := 14) (N := some 32) (v := ?_) (a' := ?_) #[true, true, true, true, true, false, false, true, true, true, true, false, false, true, true, false, false, false, false, false] rfl rfl (any_of HT_.out (by kernel_rfl)) (fun _ _ _ h => h) (Or.inl ⟨by rfl, ?_⟩) ?_ ?_
      rotate_left
      ·intro w'
       go_simp
       with_reducible rfl
      rotate_left
      ·simp only [Act.put, zY, List.set_cons_zero, z2, i64_w, i32_w]
       rfl
      refine pure_ (i := 15) (N := some 33) (v := ?_) (a' := ?_) #[true, true, true, true, true, false, false, true, true, true, true, false, false, true, true, true, false, false, false, false] rfl rfl (any_of HT_.out (by kernel_rfl)) (fun _ _ _ h => h) (Or.inl ⟨by rfl, ?_⟩) ?_ ?_
      rotate_left
      ·intro w'
       go_simp
       with_reducible rfl
      rotate_left
      ·simp only [Act.put, zY, List.set_cons_zero, z2, i64_w, i32_w]
       rfl
      refine pure_ (i := 16) (N := some 34) (v := ?_) (a' := ?_) #[true, true, true, true, true, false, false, true, true, true, true, false, false, true, true, true, true, false, false, false] rfl rfl (any_of HT_.out (by kernel_rfl)) (fun _ _ _ h => h) (Or.inl ⟨by rfl, ?_⟩) ?_ ?_
      rotate_left
      ·intro w'
       go_simp
       with_reducible rfl
      rotate_left
      ·simp only [Act.put, zY, List.set_cons_zero, z2, i64_w, i32_w]
       rfl
      refine take_ (i := 5) (N := some 23) (v := ?_) (a' := ?_) #[true, true, true, true, true, true, false, true, true, true, true, false, false, true, true, true, true, false, false, false] rfl rfl (take_ofW HT_.out HW_.out (by kernel_rfl)) (fun _ _ _ h => h) (Or.inl ⟨by rfl, ?_⟩) hHeld ?_ ?_
      rotate_left
      ·rintro w' ⟨s0, s1, s2, s3, s4, s5, s6, s7, s8⟩
       go_simp
       with_reducible rfl
      rotate_left
      ·simp only [Act.put, zY, List.set_cons_zero, z2, i64_w, i32_w]
       rfl
      refine take_ (i := 11) (N := some 29) (v := ?_) (a' := ?_) #[true, true, true, true, true, true, false, true, true, true, true, true, false, true, true, true, true, false, false, false] rfl rfl (take_ofW HT_.out HW_.out (by kernel_rfl)) (fun _ _ _ h => h) (Or.inl ⟨by rfl, ?_⟩) hHeld ?_ ?_
      rotate_left
      ·rintro w' ⟨s0, s1, s2, s3, s4, s5, s6, s7, s8⟩
       go_simp
       with_reducible rfl
      rotate_left
      ·simp only [Act.put, zY, List.set_cons_zero, z2, i64_w, i32_w]
       rfl
      refine take_ (i := 17) (N := some 35) (v := ?_) (a' := ?_) #[true, true, true, true, true, true, false, true, true, true, true, true, false, true, true, true, true, true, false, false] rfl rfl (take_ofW HT_.out HW_.out (by kernel_rfl)) (fun _ _ _ h => h) (Or.inl ⟨by rfl, ?_⟩) hHeld ?_ ?_
      rotate_left
      ·rintro w' ⟨s0, s1, s2, s3, s4, s5, s6, s7, s8⟩
       go_simp
       with_reducible rfl
      rotate_left
      ·simp only [Act.put, zY, List.set_cons_zero, z2, i64_w, i32_w]
       rfl
      refine one_ (i := 6) (N := some 24) #[true, true, true, true, true, true, true, true, true, true, true, true, false, true, true, true, true, true, false, false] rfl rfl (one_of HT_.out (by kernel_rfl)) (by decide) (fun K hK => ?_)
      refine goes_ Tryd.func34 (by kernel_rfl) rfl #[.slice Ao11 x4_1.length co11, .int .i64 1, .int .i64 ((rd_T109 l0 x5_1).f0)] (by rfl) rfl rfl (by (try simp only [zm, zc, zn]); first | done | rfl | (simp only [zd, zt]; rfl)) ?_
      with_reducible refine (r03_Put.calls k1 _ _ x4_1 1 ((rd_T109 l0 x5_1).f0) t397 _ ?side1 ?side2 A6.out).mono ?_
      (case side1 => repeat (first | exact (Kd.R_reads' HO_4.out).2.2))
      (case side2 => exact (Kd.R_reads' HO_4.out).2.1)
      rintro e w12 ⟨v398, rfl, ho0, hb⟩
      refine ⟨_, rfl, ?_⟩
      have HO399 := zA (Kd.R_lower (Kd.R_new' ho0 (Kd.R_lt (by (with_reducible repeat (first | apply zS | apply zT)); exact HO_4.out))) (below_size (by repeat (first | (with_reducible first | exact HB.out | apply zB | apply zN | apply below_drew1) | exact HB.out))))
      replace HO_4 := zA (zK (by (with_reducible repeat (first | apply zS | apply zT)); exact HO_4.out) (zM ho0) hb)
      replace HB := zA (below_step (by repeat (first | (with_reducible first | exact HB.out | apply zB | apply zN | apply below_drew1) | exact HB.out)) hb)
      (try clear hb)
      (try clear hb2)
      (try clear hk)
      (try clear hi)
      (try clear ho0)
      obtain ⟨Ao13, co13, eo13⟩ := Kd.R_slice HO399.out
      (first | subst eo13 | (injection eo13 with f1_ f2_ f3_; have f4_ := f1_.symm; have f5_ := f3_.symm; clear f1_ f2_ f3_; subst f4_; subst f5_))
      refine hK.out _ _ ⟨((HB.out.cell (zL w _ hw396_0)).trans hw396_0), ((HB.out.cell (zL w _ hw396_1)).trans hw396_1), ((HB.out.cell (zL w _ hw396_2)).trans hw396_2), ((HB.out.cell (zL w _ hw400_0)).trans hw400_0), ((HB.out.cell (zL w _ hw400_1)).trans hw400_1), ((HB.out.cell (zL w _ hw400_2)).trans hw400_2), ((HB.out.cell (zL w _ hw404_0)).trans hw404_0), ((HB.out.cell (zL w _ hw404_1)).trans hw404_1), ((HB.out.cell (zL w _ hw404_2)).trans hw404_2)⟩ (fun hHeld => ?_)
      clear hK K
      refine norm_ (a' := ?_) ?_ ?_
      rotate_left
      ·show Act.put _ (some 24) _ = _
       simp only [Act.put, zY, List.set_cons_zero, z2, i64_w, i32_w]
       rfl
      refine one_ (i := 12) (N := some 30) #[true, true, true, true, true, true, true, true, true, true, true, true, true, true, true, true, true, true, false, false] rfl rfl (one_of HT_.out (by kernel_rfl)) (by decide) (fun K hK => ?_)
      refine goes_ Tryd.func34 (by kernel_rfl) rfl #[.slice Ao13 t397.length co13, .int .i64 2, .int .i64 ((rd_T109 l0 x5_1).f1)] (by rfl) rfl rfl (by (try simp only [zm, zc, zn]); first | done | rfl | (simp only [zd, zt]; rfl)) ?_
      with_reducible refine (r03_Put.calls k1 _ _ t397 2 ((rd_T109 l0 x5_1).f1) t401 _ ?side1 ?side2 A7.out).mono ?_
      (case side1 => repeat (first | exact (Kd.R_reads' HO399.out).2.2))
      (case side2 => exact (Kd.R_reads' HO399.out).2.1)
      rintro e w14 ⟨v402, rfl, ho0, hb⟩
      refine ⟨_, rfl, ?_⟩
      have HO403 := zA (Kd.R_lower (Kd.R_new' (Kd.R_new' ho0 (Kd.R_lt (by (with_reducible repeat (first | apply zS | apply zT)); exact HO_4.out))) (Kd.R_lt (by (with_reducible repeat (first | apply zS | apply zT)); exact HO399.out))) (below_size (by repeat (first | (with_reducible first | exact HB.out | apply zB | apply zN | apply below_drew1) | exact HB.out))))
      replace HO_4 := zA (zK (by (with_reducible repeat (first | apply zS | apply zT)); exact HO_4.out) (zM ho0) hb)
      replace HO399 := zA (zK (by (with_reducible repeat (first | apply zS | apply zT)); exact HO399.out) (zM ho0) hb)
      replace HB := zA (below_step (by repeat (first | (with_reducible first | exact HB.out | apply zB | apply zN | apply below_drew1) | exact HB.out)) hb)
      (try clear hb)
      (try clear hb2)
      (try clear hk)
      (try clear hi)
      (try clear ho0)
      obtain ⟨Ao15, co15, eo15⟩ := Kd.R_slice HO403.out
      (first | subst eo15 | (injection eo15 with f1_ f2_ f3_; have f4_ := f1_.symm; have f5_ := f3_.symm; clear f1_ f2_ f3_; subst f4_; subst f5_))
      refine hK.out _ _ ⟨((HB.out.cell (zL w _ hw396_0)).trans hw396_0), ((HB.out.cell (zL w _ hw396_1)).trans hw396_1), ((HB.out.cell (zL w _ hw396_2)).trans hw396_2), ((HB.out.cell (zL w _ hw400_0)).trans hw400_0), ((HB.out.cell (zL w _ hw400_1)).trans hw400_1), ((HB.out.cell (zL w _ hw400_2)).trans hw400_2), ((HB.out.cell (zL w _ hw404_0)).trans hw404_0), ((HB.out.cell (zL w _ hw404_1)).trans hw404_1), ((HB.out.cell (zL w _ hw404_2)).trans hw404_2)⟩ (fun hHeld => ?_)
      clear hK K
      refine norm_ (a' := ?_) ?_ ?_
      rotate_left
      ·show Act.put _ (some 30) _ = _
       simp only [Act.put, zY, List.set_cons_zero, z2, i64_w, i32_w]
       rfl
      refine one_ (i := 18) (N := some 36) #[true, true, true, true, true, true, true, true, true, true, true, true, true, true, true, true, true, true, true, false] rfl rfl (one_of HT_.out (by kernel_rfl)) (by decide) (fun K hK => ?_)
      refine goes_ Tryd.func34 (by kernel_rfl) rfl #[.slice Ao15 t401.length co15, .int .i64 2, .int .i64 ((rd_T109 l0 x5_1).f2)] (by rfl) rfl rfl (by (try simp only [zm, zc, zn]); first | done | rfl | (simp only [zd, zt]; rfl)) ?_
      with_reducible refine (r03_Put.calls k1 _ _ t401 2 ((rd_T109 l0 x5_1).f2) t405 _ ?side1 ?side2 A8.out).mono ?_
      (case side1 => repeat (first | exact (Kd.R_reads' HO403.out).2.2))
      (case side2 => exact (Kd.R_reads' HO403.out).2.1)
      rintro e w16 ⟨v406, rfl, ho0, hb⟩
      refine ⟨_, rfl, ?_⟩
      have HO407 := zA (Kd.R_lower (Kd.R_new' (Kd.R_new' (Kd.R_new' ho0 (Kd.R_lt (by (with_reducible repeat (first | apply zS | apply zT)); exact HO_4.out))) (Kd.R_lt (by (with_reducible repeat (first | apply zS | apply zT)); exact HO399.out))) (Kd.R_lt (by (with_reducible repeat (first | apply zS | apply zT)); exact HO403.out))) (below_size (by repeat (first | (with_reducible first | exact HB.out | apply zB | apply zN | apply below_drew1) | exact HB.out))))
      replace HO_4 := zA (zK (by (with_reducible repeat (first | apply zS | apply zT)); exact HO_4.out) (zM ho0) hb)
      replace HO399 := zA (zK (by (with_reducible repeat (first | apply zS | apply zT)); exact HO399.out) (zM ho0) hb)
      replace HO403 := zA (zK (by (with_reducible repeat (first | apply zS | apply zT)); exact HO403.out) (zM ho0) hb)
      replace HB := zA (below_step (by repeat (first | (with_reducible first | exact HB.out | apply zB | apply zN | apply below_drew1) | exact HB.out)) hb)
      (try clear hb)
      (try clear hb2)
      (try clear hk)
      (try clear hi)
      (try clear ho0)
      refine hK.out _ _ ⟨((HB.out.cell (zL w _ hw396_0)).trans hw396_0), ((HB.out.cell (zL w _ hw396_1)).trans hw396_1), ((HB.out.cell (zL w _ hw396_2)).trans hw396_2), ((HB.out.cell (zL w _ hw400_0)).trans hw400_0), ((HB.out.cell (zL w _ hw400_1)).trans hw400_1), ((HB.out.cell (zL w _ hw400_2)).trans hw400_2), ((HB.out.cell (zL w _ hw404_0)).trans hw404_0), ((HB.out.cell (zL w _ hw404_1)).trans hw404_1), ((HB.out.cell (zL w _ hw404_2)).trans hw404_2)⟩ (fun hHeld => ?_)
      clear hK K
      refine norm_ (a' := ?_) ?_ ?_
      rotate_left
      ·show Act.put _ (some 36) _ = _
       simp only [Act.put, zY, List.set_cons_zero, z2, i64_w, i32_w]
       rfl
      refine pure_ (i := 19) (N := some 4) (v := ?_) (a' := ?_) #[true, true, true, true, true, true, true, true, true, true, true, true, true, true, true, true, true, true, true, true] rfl rfl (any_of HT_.out (by kernel_rfl)) (fun _ _ _ h => h) (Or.inl ⟨by rfl, ?_⟩) ?_ ?_
      rotate_left
      ·intro w'
       go_simp
       with_reducible rfl
      rotate_left
      ·simp only [Act.put, zY, List.set_cons_zero, z2, i64_w, i32_w]
       rfl
      refine done_ (done_of HT_.out (by kernel_rfl)) ?_
      try go_wp2
      go_roundg k1
      case measure => have := HK1.out; omega
      case rel => exact ⟨(t405), (wrap64 (x5_1 + 1)), (by first | rfl | (simp; done) | (simp [*]; done)), H', ⟨by have := HK1.out; omega⟩, ⟨by (with_reducible repeat (first | apply zS | apply zT)); exact Kd.R_mono HO407.out (fun _ hk => trivial)⟩, ⟨by repeat (first | (with_reducible first | exact HB.out | apply zB | apply zN | apply below_drew1) | exact HB.out)⟩⟩
     ·replace c5 := Bool.eq_false_iff.mpr c5
      subst c5
      have H1 : (some (([] : List Int), false)) = some (r1, r2) := by rw [if_neg (show ¬ (false = true) by decide)] at H; exact H
      clear H
      have H := H1
      clear H1
      simp only [Option.some.injEq, Prod.mk.injEq] at H
      obtain ⟨rfl, rfl⟩ := H
      have p394 : 0 ≤ (x5_1 : Int) := zO (by first | (with_reducible assumption) | assumption)
      have q394 : x5_1 < (l0.length : Int) := zO (by first | (with_reducible assumption) | assumption)
      obtain ⟨ad394, e394, hx394_0, hx394_1, hx394_2⟩ := at_T109 HR0.out x5_1 p394 q394
      cases e394
      replace hx394_0 := (HB.out.cell (zL w _ hx394_0)).trans hx394_0
      replace hx394_1 := (HB.out.cell (zL w _ hx394_1)).trans hx394_1
      replace hx394_2 := (HB.out.cell (zL w _ hx394_2)).trans hx394_2
      replace p394 := eq_true p394
      replace q394 := eq_true q394
      go_wp2_with (first | ((with_reducible refine gate_callee (f := 98) rfl ?_); refine goesL_ (some 16) rfl rfl Tryd.func98 (by kernel_rfl) rfl #[.agg #[.int .i64 ((rd_T109 l0 x5_1).f0), .int .i64 ((rd_T109 l0 x5_1).f1), .int .i64 ((rd_T109 l0 x5_1).f2)]] rfl (by (try simp only [zm, zc, zn]); first | done | rfl | (simp only [zd, zt]; rfl)) ?_; (with_reducible refine (r12_Right.calls k1 ((rd_T109 l0 x5_1).f0) ((rd_T109 l0 x5_1).f1) ((rd_T109 l0 x5_1).f2) false _ A4.out).mono ?_); rintro e w17 ⟨rfl, hb⟩; refine ⟨_, rfl, ?_⟩; replace HO_4 := zA (Kd.R_below (by (with_reducible repeat (first | apply zS | apply zT)); exact HO_4.out) hb); replace HB := zA (below_step (by repeat (first | (with_reducible first | exact HB.out | apply zB | apply zN | apply below_drew1) | exact HB.out)) hb); (try clear hb); (try clear hb2); (try clear hk); (try clear hi)))
      go_ret2
      exact ⟨_, by first | rfl | (simp [errW_none, errW_some] <;> rfl) | (simp [*, errW_none, errW_some] <;> rfl), by first | exact Kd.R_nil _ _ _ _ _ | exact Kd.N_nil _ _ _ _ _ | exact Kd.V_nil _ _ _ _ _ | exact Kd.Q_nil _ _ _ _ _ | exact Kd.S_nil _ _ _ _ _, by repeat (first | (with_reducible first | exact HB.out | apply zB | apply zN | apply below_drew1) | exact HB.out)⟩
    ·rw [if_neg c3] at H
     exact absurd H (by simp)
   ·rw [if_neg c2] at H
    have c2b0 : decide (x5_1 < (l0.length : Int)) = false := decide_eq_false c2
    clear c2
    simp only [Option.some.injEq, Prod.mk.injEq] at H
    obtain ⟨rfl, rfl⟩ := H
    go_wp2
    go_ret2
    exact ⟨_, by first | rfl | (simp [errW_none, errW_some] <;> rfl) | (simp [*, errW_none, errW_some] <;> rfl), by (with_reducible repeat (first | apply zS | apply zT)); exact HO_4.out, by repeat (first | (with_reducible first | exact HB.out | apply zB | apply zN | apply below_drew1) | exact HB.out)⟩

/-! ### r15_Put: function 33 -/
mutual
def r15_Put.l0 : Nat → List Int → Int → ByteArray → List Int → Int → List Int → List (S109) → Option (List Int × Bool)
 | 0, _, _, _, _, _, _, _ => none
 | k + 1, x4, x5, x409000, x409001, x409002, x409003, x409004 => if x5 < (x409001.length : Int) then (if 0 ≤ x5 then (if x4.length < 140737488355328 then (r15_Put.l0 k (x4 ++ [(rd x409001 x5) % 256]) (wrap64 (x5 + 1)) x409000 x409001 x409002 x409003 x409004) else (none)) else (none)) else (if x4.length < 140737488355328 then ((r03_Put.f k (x4 ++ [(x409002) % 256]) 2 (x409003.length : Int)).bind fun t423 => (r15_Put.l1 k t423 0 x409000 x409001 x409002 x409003 x409004)) else (none))
def r15_Put.l1 : Nat → List Int → Int → ByteArray → List Int → Int → List Int → List (S109) → Option (List Int × Bool)
 | 0, _, _, _, _, _, _, _ => none
 | k + 1, x4, x6, x409000, x409001, x409002, x409003, x409004 => if x6 < (x409003.length : Int) then (if 0 ≤ x6 then (if x4.length < 140737488355328 then (r15_Put.l1 k (x4 ++ [(rd x409003 x6) % 256]) (wrap64 (x6 + 1)) x409000 x409001 x409002 x409003 x409004) else (none)) else (none)) else ((r03_Put.f k x4 2 (x409004.length : Int)).bind fun t430 => ((r13_Encode.f k x409004).bind fun bt433 => (if t430.length + bt433.1.length < 140737488355328 then (some ((t430 ++ bt433.1), true)) else (none))))
end
def r15_Put.f (k : Nat) (a0_0 : ByteArray) (l0_1 : List Int) (a0_2 : Int) (l0_3 : List Int) (l0_4 : List (S109)) : Option (List Int × Bool) := (r15_Fits.f k a0_0 l0_1 a0_2 l0_3 l0_4).bind fun t409 => (if t409 = true then ((r03_Text.f k ([] : List Int) a0_0).bind fun t410 => (if t410.length < 140737488355328 then (r15_Put.l0 k (t410 ++ [((l0_1.length : Int)) % 256]) 0 a0_0 l0_1 a0_2 l0_3 l0_4) else (none))) else (some (([] : List Int), false)))
set_option maxHeartbeats 8000000 in
set_option maxRecDepth 100000 in
theorem r15_Put.calls (k : Nat) (a0_0 : ByteArray) (A0_1 : Option Addr) (c0_1 : Nat) (l0_1 : List Int) (a0_2 : Int) (A0_3 : Option Addr) (c0_3 : Nat) (l0_3 : List Int) (A0_4 : Option Addr) (c0_4 : Nat) (l0_4 : List (S109)) (r1 : List Int) (r2 : Bool) (w : World) (hr0_1 : Kd.C (Kd.int .i64) w A0_1 l0_1.length l0_1) (hc0_1 : l0_1.length ≤ c0_1) (hr0_3 : Kd.C (Kd.int .i64) w A0_3 l0_3.length l0_3) (hc0_3 : l0_3.length ≤ c0_3) (hr0_4 : Kd.C k109 w A0_4 l0_4.length l0_4) (hc0_4 : l0_4.length ≤ c0_4) (h : r15_Put.f k a0_0 l0_1 a0_2 l0_3 l0_4 = some (r1, r2)) :
  Calls Tryd.prog 33 #[.agg #[.string a0_0, .slice A0_1 l0_1.length c0_1, .int .i64 a0_2, .slice A0_3 l0_3.length c0_3, .slice A0_4 l0_4.length c0_4]] w fun e w' => ∃ v0_ : Value, e = .returned (.tuple #[v0_, .bool r2]) ∧ Kd.R (Kd.int .u8) 5 w' w.heap.size (fun _ => True) v0_ r1 ∧ Below w.heap.size w w' := by
 have hu48 := Tryd.underlying48
 have HR0_1 := zA hr0_1
 have HC0_1 := zA hc0_1
 clear hr0_1 hc0_1
 have HR0_3 := zA hr0_3
 have HC0_3 := zA hc0_3
 clear hr0_3 hc0_3
 have HR0_4 := zA hr0_4
 have HC0_4 := zA hc0_4
 clear hr0_4 hc0_4
 have HB := zA (zX w.heap.size w)
 have H : ((r15_Fits.f k a0_0 l0_1 a0_2 l0_3 l0_4).bind fun t409 => (if t409 = true then ((r03_Text.f k ([] : List Int) a0_0).bind fun t410 => (if t410.length < 140737488355328 then (r15_Put.l0 k (t410 ++ [((l0_1.length : Int)) % 256]) 0 a0_0 l0_1 a0_2 l0_3 l0_4) else (none))) else (some (([] : List Int), false)))) = some (r1, r2) := h
 clear h
 replace H := Option.bind_eq_some_iff.mp H
 obtain ⟨t409, A20, H⟩ := H
 replace H : (if t409 = true then ((r03_Text.f k ([] : List Int) a0_0).bind fun t410 => (if t410.length < 140737488355328 then (r15_Put.l0 k (t410 ++ [((l0_1.length : Int)) % 256]) 0 a0_0 l0_1 a0_2 l0_3 l0_4) else (none))) else (some (([] : List Int), false))) = some (r1, r2) := H
 have A2 := zA A20
 clear A20
 by_cases c3 : t409 = true
 ·subst c3
  have H1 : ((r03_Text.f k ([] : List Int) a0_0).bind fun t410 => (if t410.length < 140737488355328 then (r15_Put.l0 k (t410 ++ [((l0_1.length : Int)) % 256]) 0 a0_0 l0_1 a0_2 l0_3 l0_4) else (none))) = some (r1, r2) := by rw [if_pos rfl] at H; exact H
  clear H
  have H := H1
  clear H1
  replace H := Option.bind_eq_some_iff.mp H
  obtain ⟨t410, A40, H⟩ := H
  replace H : (if t410.length < 140737488355328 then (r15_Put.l0 k (t410 ++ [((l0_1.length : Int)) % 256]) 0 a0_0 l0_1 a0_2 l0_3 l0_4) else (none)) = some (r1, r2) := H
  have A4 := zA A40
  clear A40
  by_cases c5 : t410.length < 140737488355328
  ·rw [if_pos c5] at H
   have LMc5 := zA c5
   clear c5
   obtain ⟨y413, hy413⟩ : ∃ y_ : List Int, y_ = (t410 ++ [((l0_1.length : Int)) % 256]) := ⟨_, rfl⟩
   replace H : (r15_Put.l0 k y413 0 a0_0 l0_1 a0_2 l0_3 l0_4) = some (r1, r2) := by first | (rw [hy413]; with_reducible exact H) | (have H2_ := (zP _ _).symm.trans H; rw [hy413]; with_reducible exact H2_) | (have H2_ := (zP _ _).symm.trans H; with_reducible exact H2_) | with_reducible exact H | (rw [hy413]; exact H) | exact H
   have Ny413 := zA hy413
   clear hy413
   have H' := zA H
   clear H
   go_enter Tryd.func33, Tryd.ntmps33
   go_wp2_with (first | ((with_reducible refine gate_dst (N := 1) rfl ?_); refine box_event ?hg (N := 1) ?hd (cs := #[.string a0_0, .slice A0_1 l0_1.length c0_1, .int .i64 a0_2, .slice A0_3 l0_3.length c0_3, .slice A0_4 l0_4.length c0_4]) (t := 48) ?hr ?_; (case hd => rfl); (case hg => rfl); (case hr => first | (go_simp; done) | (go_simp; rfl)); intro gb408 hg w6 hbox hb; have BK408 := zA (hbox); have GW408 := zA ((by rw [hg]; exact (below_size (by repeat (first | (with_reducible first | exact HB.out | apply zB | apply zN | apply below_drew1) | exact HB.out))) : w.heap.size ≤ gb408)); have GE408 := GW408; replace HB := zA (below_step (by repeat (first | (with_reducible first | exact HB.out | apply zB | apply zN | apply below_drew1) | exact HB.out)) hb); clear hb hbox hg; have hcz7_0 : w6.cell? ⟨gb408, 0, none⟩ = some (.string a0_0) := (zC BK408.out 0).trans rfl; have hcz7_1 : w6.cell? ⟨gb408, 1, none⟩ = some (.slice A0_1 l0_1.length c0_1) := (zC BK408.out 1).trans rfl; have hcz7_2 : w6.cell? ⟨gb408, 2, none⟩ = some (.int .i64 a0_2) := (zC BK408.out 2).trans rfl; have hcz7_3 : w6.cell? ⟨gb408, 3, none⟩ = some (.slice A0_3 l0_3.length c0_3) := (zC BK408.out 3).trans rfl; have hcz7_4 : w6.cell? ⟨gb408, 4, none⟩ = some (.slice A0_4 l0_4.length c0_4) := (zC BK408.out 4).trans rfl; have hfz7_0 := zF BK408.out 0; have hfz7_1 := zF BK408.out 1; have hfz7_2 := zF BK408.out 2; have hfz7_3 := zF BK408.out 3; have hfz7_4 := zF BK408.out 4) | ((with_reducible refine gate_callee (f := 71) rfl ?_); refine goesL_ (some 10) rfl rfl Tryd.func71 (by kernel_rfl) rfl #[.agg #[.string a0_0, .slice A0_1 l0_1.length c0_1, .int .i64 a0_2, .slice A0_3 l0_3.length c0_3, .slice A0_4 l0_4.length c0_4]] rfl (by (try simp only [zm, zc, zn]); first | done | rfl | (simp only [zd, zt]; rfl)) ?_; (with_reducible refine (r15_Fits.calls k a0_0 _ _ l0_1 a0_2 _ _ l0_3 _ _ l0_4 true _ ?side1 ?side2 ?side3 ?side4 ?side5 ?side6 A2.out).mono ?_); (case side1 => repeat (first | exact (zD HR0_1.out HB.out))); (case side2 => exact HC0_1.out); (case side3 => repeat (first | exact (zD HR0_3.out HB.out))); (case side4 => exact HC0_3.out); (case side5 => repeat (first | exact (zD HR0_4.out HB.out))); (case side6 => exact HC0_4.out); rintro e w8 ⟨rfl, hb⟩; refine ⟨_, rfl, ?_⟩; replace BK408 := zA (zQ (g := gb408) (o := .cells #[.string a0_0, .slice A0_1 l0_1.length c0_1, .int .i64 a0_2, .slice A0_3 l0_3.length c0_3, .slice A0_4 l0_4.length c0_4] 48 (0, 0)) (by (with_reducible repeat (first | refine zG ?_ _ | refine zH ?_)); exact BK408.out) hb); replace HB := zA (below_step (by repeat (first | (with_reducible first | exact HB.out | apply zB | apply zN | apply below_drew1 | refine zE ?_ GE408.out) | exact HB.out)) hb); (try clear hb); (try clear hb2); (try clear hk); (try clear hi); have hcz9_0 : w8.cell? ⟨gb408, 0, none⟩ = some (.string a0_0) := (zC BK408.out 0).trans rfl; have hcz9_1 : w8.cell? ⟨gb408, 1, none⟩ = some (.slice A0_1 l0_1.length c0_1) := (zC BK408.out 1).trans rfl; have hcz9_2 : w8.cell? ⟨gb408, 2, none⟩ = some (.int .i64 a0_2) := (zC BK408.out 2).trans rfl; have hcz9_3 : w8.cell? ⟨gb408, 3, none⟩ = some (.slice A0_3 l0_3.length c0_3) := (zC BK408.out 3).trans rfl; have hcz9_4 : w8.cell? ⟨gb408, 4, none⟩ = some (.slice A0_4 l0_4.length c0_4) := (zC BK408.out 4).trans rfl; have hfz9_0 := zF BK408.out 0; have hfz9_1 := zF BK408.out 1; have hfz9_2 := zF BK408.out 2; have hfz9_3 := zF BK408.out 3; have hfz9_4 := zF BK408.out 4) | ((with_reducible refine gate_callee (f := 70) rfl ?_); refine goesL_ (some 14) rfl rfl Tryd.func70 (by kernel_rfl) rfl #[.slice none 0 0, .string a0_0] rfl (by (try simp only [zm, zc, zn]); first | done | rfl | (simp only [zd, zt]; rfl)) ?_; (refine (r03_Text.calls k _ _ ([] : List Int) a0_0 t410 _ ?side1 ?side2 A4.out).mono ?_); (case side1 => exact Kd.C_nil _ _); (case side2 => exact z5 _); rintro e w10 ⟨v411, rfl, ho0, hb⟩; refine ⟨_, rfl, ?_⟩; have HO412 := zA (Kd.R_lower ho0 (below_size (by repeat (first | (with_reducible first | exact HB.out | apply zB | apply zN | apply below_drew1 | refine zE ?_ GE408.out) | exact HB.out)))); replace BK408 := zA (zQ (g := gb408) (o := .cells #[.string a0_0, .slice A0_1 l0_1.length c0_1, .int .i64 a0_2, .slice A0_3 l0_3.length c0_3, .slice A0_4 l0_4.length c0_4] 48 (0, 0)) (by (with_reducible repeat (first | refine zG ?_ _ | refine zH ?_)); exact BK408.out) hb); replace HB := zA (below_step (by repeat (first | (with_reducible first | exact HB.out | apply zB | apply zN | apply below_drew1 | refine zE ?_ GE408.out) | exact HB.out)) hb); (try clear hb); (try clear hb2); (try clear hk); (try clear hi); (try clear ho0); have hcz11_0 : w10.cell? ⟨gb408, 0, none⟩ = some (.string a0_0) := (zC BK408.out 0).trans rfl; have hcz11_1 : w10.cell? ⟨gb408, 1, none⟩ = some (.slice A0_1 l0_1.length c0_1) := (zC BK408.out 1).trans rfl; have hcz11_2 : w10.cell? ⟨gb408, 2, none⟩ = some (.int .i64 a0_2) := (zC BK408.out 2).trans rfl; have hcz11_3 : w10.cell? ⟨gb408, 3, none⟩ = some (.slice A0_3 l0_3.length c0_3) := (zC BK408.out 3).trans rfl; have hcz11_4 : w10.cell? ⟨gb408, 4, none⟩ = some (.slice A0_4 l0_4.length c0_4) := (zC BK408.out 4).trans rfl; have hfz11_0 := zF BK408.out 0; have hfz11_1 := zF BK408.out 1; have hfz11_2 := zF BK408.out 2; have hfz11_3 := zF BK408.out 3; have hfz11_4 := zF BK408.out 4) | ((with_reducible refine gate_builtin (b := .append) (xs := #[.tmp 15, .tmp 20]) rfl ?_); at_builtin; refine Kd.R_append (Kd.int .u8) (w0 := w) w.heap.size rfl (.tmp 15) (.tmp 20) 28 5 (.int .u8 0) 1 rfl Tryd.underlying28 info5 rfl (by decide) (by omega) v411 t410 (((l0_1.length : Int)) % 256) [.int .u8 (((l0_1.length : Int)) % 256)] (fun _ => True) (fun _ => False) rfl rfl ?aP (fun _ hk => hk.elim) ?aF ?aO ?aB ?aS ?aL ?_; (case aP => exact rfl); (case aB => exact (by repeat (first | (with_reducible first | exact HB.out | apply zB | apply zN | apply below_drew1 | refine zE ?_ GE408.out) | exact HB.out))); (case aF => exact (fun _ _ => trivial)); (case aO => exact (by (with_reducible repeat (first | apply zS | apply zT)); exact HO412.out)); (case aS => exact (below_size (by repeat (first | (with_reducible first | exact HB.out | apply zB | apply zN | apply below_drew1 | refine zE ?_ GE408.out) | exact HB.out)))); (case aL => have := LMc5.out; omega); intro v414 w12 ho hb hg hat; rw [← Ny413.out] at ho; replace BK408 := zA (blk_grown (g := gb408) (o := .cells #[.string a0_0, .slice A0_1 l0_1.length c0_1, .int .i64 a0_2, .slice A0_3 l0_3.length c0_3, .slice A0_4 l0_4.length c0_4] 48 (0, 0)) (by (with_reducible repeat (first | refine zG ?_ _ | refine zH ?_)); exact BK408.out) hg (Kd.R_ne HO412.out BK408.out (by decide))); replace HB := zA (hb); have HO415 := zA (ho); clear HO412; clear ho hb hg hat))
   go_loopg [4, 5] k (fun kq v4 v5 w' => ∃ (x4_1 : List Int) (x5_1 : Int), v5 = .int .i64 x5_1 ∧ Aside0 (r15_Put.l0 kq x4_1 x5_1 a0_0 l0_1 a0_2 l0_3 l0_4 = some (r1, r2)) ∧ Aside0 (kq ≤ k) ∧ Aside0 (Kd.R (Kd.int .u8) 5 w' w.heap.size (fun _ => True) v4 x4_1) ∧ Aside0 (w'.heap[gb408]? = some (.cells #[.string a0_0, (.slice A0_1 l0_1.length c0_1), .int .i64 a0_2, (.slice A0_3 l0_3.length c0_3), (.slice A0_4 l0_4.length c0_4)] 48 (0, 0))) ∧ Aside0 (Below w.heap.size w w'))
   case atStart => exact ⟨(y413), (0), (by first | rfl | (simp; done) | (simp [*]; done)), H', ⟨z5 _⟩, ⟨by (with_reducible repeat (first | apply zS | apply zT)); exact HO415.out⟩, ⟨by (with_reducible repeat (first | refine zG ?_ _ | refine zH ?_)); exact BK408.out⟩, ⟨by repeat (first | (with_reducible first | exact HB.out | apply zB | apply zN | apply below_drew1 | refine zE ?_ GE408.out) | exact HB.out)⟩⟩
   case round =>
    clear H'
    try clear p2
    try clear c3
    try clear c5
    try clear c7
    try clear hcz11_0
    try clear hcz11_1
    try clear hcz11_2
    try clear hcz11_3
    try clear hcz11_4
    try clear hcz7_0
    try clear hcz7_1
    try clear hcz7_2
    try clear hcz7_3
    try clear hcz7_4
    try clear hcz9_0
    try clear hcz9_1
    try clear hcz9_2
    try clear hcz9_3
    try clear hcz9_4
    try clear hfz11_0
    try clear hfz11_1
    try clear hfz11_2
    try clear hfz11_3
    try clear hfz11_4
    try clear hfz7_0
    try clear hfz7_1
    try clear hfz7_2
    try clear hfz7_3
    try clear hfz7_4
    try clear hfz9_0
    try clear hfz9_1
    try clear hfz9_2
    try clear hfz9_3
    try clear hfz9_4
    obtain ⟨x4_1, x5_1, rfl, HA, HK1, HO_4, BK408, HB⟩ := hrel
    cases gk with
    | zero => exact absurd HA.out (by simp [r15_Put.l0])
    | succ k1 =>
     have H := HA.out
     clear HA
     simp only [r15_Put.l0] at H
     by_cases c13 : x5_1 < (l0_1.length : Int)
     ·rw [if_pos c13] at H
      have c13b0 : decide (x5_1 < (l0_1.length : Int)) = true := decide_eq_true c13
      clear c13
      by_cases c14 : 0 ≤ x5_1
      ·rw [if_pos c14] at H
       have c14b0 : decide (0 ≤ x5_1) = true := decide_eq_true c14
       clear c14
       by_cases c15 : x4_1.length < 140737488355328
       ·rw [if_pos c15] at H
        have LMc15 := zA c15
        clear c15
        obtain ⟨y417, hy417⟩ : ∃ y_ : List Int, y_ = (x4_1 ++ [(rd l0_1 x5_1) % 256]) := ⟨_, rfl⟩
        replace H : (r15_Put.l0 k1 y417 (wrap64 (x5_1 + 1)) a0_0 l0_1 a0_2 l0_3 l0_4) = some (r1, r2) := by first | (rw [hy417]; with_reducible exact H) | (have H2_ := (zP _ _).symm.trans H; rw [hy417]; with_reducible exact H2_) | (have H2_ := (zP _ _).symm.trans H; with_reducible exact H2_) | with_reducible exact H | (rw [hy417]; exact H) | exact H
        have Ny417 := zA hy417
        clear hy417
        have H' := zA H
        clear H
        have hcz16_0 : wr.cell? ⟨gb408, 0, none⟩ = some (.string a0_0) := (zC BK408.out 0).trans rfl
        have hcz16_1 : wr.cell? ⟨gb408, 1, none⟩ = some (.slice A0_1 l0_1.length c0_1) := (zC BK408.out 1).trans rfl
        have hcz16_2 : wr.cell? ⟨gb408, 2, none⟩ = some (.int .i64 a0_2) := (zC BK408.out 2).trans rfl
        have hcz16_3 : wr.cell? ⟨gb408, 3, none⟩ = some (.slice A0_3 l0_3.length c0_3) := (zC BK408.out 3).trans rfl
        have hcz16_4 : wr.cell? ⟨gb408, 4, none⟩ = some (.slice A0_4 l0_4.length c0_4) := (zC BK408.out 4).trans rfl
        have hfz16_0 := zF BK408.out 0
        have hfz16_1 := zF BK408.out 1
        have hfz16_2 := zF BK408.out 2
        have hfz16_3 := zF BK408.out 3
        have hfz16_4 := zF BK408.out 4
        have p416 : 0 ≤ (x5_1 : Int) := zO (by first | (with_reducible assumption) | assumption)
        have q416 : x5_1 < (l0_1.length : Int) := zO (by first | (with_reducible assumption) | assumption)
        obtain ⟨ad416, e416, hx416_0⟩ := Kd.at_int HR0_1.out x5_1 p416 q416
        cases e416
        replace hx416_0 := (HB.out.cell (zL w _ hx416_0)).trans hx416_0
        replace p416 := eq_true p416
        replace q416 := eq_true q416
        go_wp2_with (first | ((with_reducible refine gate_builtin (b := .append) (xs := #[.tmp 29, .tmp 36]) rfl ?_); at_builtin; refine Kd.R_append (Kd.int .u8) (w0 := w) w.heap.size rfl (.tmp 29) (.tmp 36) 28 5 (.int .u8 0) 1 rfl Tryd.underlying28 info5 rfl (by decide) (by omega) u4 x4_1 ((rd l0_1 x5_1) % 256) [.int .u8 ((rd l0_1 x5_1) % 256)] (fun _ => True) (fun _ => False) rfl rfl ?aP (fun _ hk => hk.elim) ?aF ?aO ?aB ?aS ?aL ?_; (case aP => exact rfl); (case aB => exact (by repeat (first | (with_reducible first | exact HB.out | apply zB | apply zN | apply below_drew1 | refine zE ?_ GE408.out) | exact HB.out))); (case aF => exact (fun _ _ => trivial)); (case aO => exact (by (with_reducible repeat (first | apply zS | apply zT)); exact HO_4.out)); (case aS => exact (below_size (by repeat (first | (with_reducible first | exact HB.out | apply zB | apply zN | apply below_drew1 | refine zE ?_ GE408.out) | exact HB.out)))); (case aL => have := LMc15.out; omega); intro v418 w17 ho hb hg hat; rw [← Ny417.out] at ho; replace BK408 := zA (blk_grown (g := gb408) (o := .cells #[.string a0_0, .slice (some ad416) l0_1.length c0_1, .int .i64 a0_2, .slice A0_3 l0_3.length c0_3, .slice A0_4 l0_4.length c0_4] 48 (0, 0)) (by (with_reducible repeat (first | refine zG ?_ _ | refine zH ?_)); exact BK408.out) hg (Kd.R_ne HO_4.out BK408.out (by decide))); replace HB := zA (hb); have HO419 := zA (ho); clear HO_4; clear ho hb hg hat))
        go_roundg k1
        case measure => have := HK1.out; omega
        case rel => exact ⟨(y417), (wrap64 (x5_1 + 1)), (by first | rfl | (simp; done) | (simp [*]; done)), H', ⟨by have := HK1.out; omega⟩, ⟨by (with_reducible repeat (first | apply zS | apply zT)); exact HO419.out⟩, ⟨by (with_reducible repeat (first | refine zG ?_ _ | refine zH ?_)); exact BK408.out⟩, ⟨by repeat (first | (with_reducible first | exact HB.out | apply zB | apply zN | apply below_drew1 | refine zE ?_ GE408.out) | exact HB.out)⟩⟩
       ·rw [if_neg c15] at H
        exact absurd H (by simp)
      ·rw [if_neg c14] at H
       exact absurd H (by simp)
     ·rw [if_neg c13] at H
      have c13b0 : decide (x5_1 < (l0_1.length : Int)) = false := decide_eq_false c13
      clear c13
      by_cases c18 : x4_1.length < 140737488355328
      ·rw [if_pos c18] at H
       have LMc18 := zA c18
       clear c18
       obtain ⟨y420, hy420⟩ : ∃ y_ : List Int, y_ = (x4_1 ++ [(a0_2) % 256]) := ⟨_, rfl⟩
       replace H : ((r03_Put.f k1 y420 2 (l0_3.length : Int)).bind fun t423 => (r15_Put.l1 k1 t423 0 a0_0 l0_1 a0_2 l0_3 l0_4)) = some (r1, r2) := by first | (rw [hy420]; with_reducible exact H) | (have H2_ := (zP _ _).symm.trans H; rw [hy420]; with_reducible exact H2_) | (have H2_ := (zP _ _).symm.trans H; with_reducible exact H2_) | with_reducible exact H | (rw [hy420]; exact H) | exact H
       have Ny420 := zA hy420
       clear hy420
       replace H := Option.bind_eq_some_iff.mp H
       obtain ⟨t423, A190, H⟩ := H
       replace H : (r15_Put.l1 k1 t423 0 a0_0 l0_1 a0_2 l0_3 l0_4) = some (r1, r2) := H
       have A19 := zA A190
       clear A190
       have H' := zA H
       clear H
       have hcz20_0 : wr.cell? ⟨gb408, 0, none⟩ = some (.string a0_0) := (zC BK408.out 0).trans rfl
       have hcz20_1 : wr.cell? ⟨gb408, 1, none⟩ = some (.slice A0_1 l0_1.length c0_1) := (zC BK408.out 1).trans rfl
       have hcz20_2 : wr.cell? ⟨gb408, 2, none⟩ = some (.int .i64 a0_2) := (zC BK408.out 2).trans rfl
       have hcz20_3 : wr.cell? ⟨gb408, 3, none⟩ = some (.slice A0_3 l0_3.length c0_3) := (zC BK408.out 3).trans rfl
       have hcz20_4 : wr.cell? ⟨gb408, 4, none⟩ = some (.slice A0_4 l0_4.length c0_4) := (zC BK408.out 4).trans rfl
       have hfz20_0 := zF BK408.out 0
       have hfz20_1 := zF BK408.out 1
       have hfz20_2 := zF BK408.out 2
       have hfz20_3 := zF BK408.out 3
       have hfz20_4 := zF BK408.out 4
       go_wp2_with (first | ((with_reducible refine gate_builtin (b := .append) (xs := #[.tmp 38, .tmp 42]) rfl ?_); at_builtin; refine Kd.R_append (Kd.int .u8) (w0 := w) w.heap.size rfl (.tmp 38) (.tmp 42) 28 5 (.int .u8 0) 1 rfl Tryd.underlying28 info5 rfl (by decide) (by omega) u4 x4_1 ((a0_2) % 256) [.int .u8 ((a0_2) % 256)] (fun _ => True) (fun _ => False) rfl rfl ?aP (fun _ hk => hk.elim) ?aF ?aO ?aB ?aS ?aL ?_; (case aP => exact rfl); (case aB => exact (by repeat (first | (with_reducible first | exact HB.out | apply zB | apply zN | apply below_drew1 | refine zE ?_ GE408.out) | exact HB.out))); (case aF => exact (fun _ _ => trivial)); (case aO => exact (by (with_reducible repeat (first | apply zS | apply zT)); exact HO_4.out)); (case aS => exact (below_size (by repeat (first | (with_reducible first | exact HB.out | apply zB | apply zN | apply below_drew1 | refine zE ?_ GE408.out) | exact HB.out)))); (case aL => have := LMc18.out; omega); intro v421 w21 ho hb hg hat; rw [← Ny420.out] at ho; replace BK408 := zA (blk_grown (g := gb408) (o := .cells #[.string a0_0, .slice A0_1 l0_1.length c0_1, .int .i64 a0_2, .slice A0_3 l0_3.length c0_3, .slice A0_4 l0_4.length c0_4] 48 (0, 0)) (by (with_reducible repeat (first | refine zG ?_ _ | refine zH ?_)); exact BK408.out) hg (Kd.R_ne HO_4.out BK408.out (by decide))); replace HB := zA (hb); have HO422 := zA (ho); clear HO_4; clear ho hb hg hat; have hcz22_0 : w21.cell? ⟨gb408, 0, none⟩ = some (.string a0_0) := (zC BK408.out 0).trans rfl; have hcz22_1 : w21.cell? ⟨gb408, 1, none⟩ = some (.slice A0_1 l0_1.length c0_1) := (zC BK408.out 1).trans rfl; have hcz22_2 : w21.cell? ⟨gb408, 2, none⟩ = some (.int .i64 a0_2) := (zC BK408.out 2).trans rfl; have hcz22_3 : w21.cell? ⟨gb408, 3, none⟩ = some (.slice A0_3 l0_3.length c0_3) := (zC BK408.out 3).trans rfl; have hcz22_4 : w21.cell? ⟨gb408, 4, none⟩ = some (.slice A0_4 l0_4.length c0_4) := (zC BK408.out 4).trans rfl; have hfz22_0 := zF BK408.out 0; have hfz22_1 := zF BK408.out 1; have hfz22_2 := zF BK408.out 2; have hfz22_3 := zF BK408.out 3; have hfz22_4 := zF BK408.out 4; obtain ⟨Ao23, co23, eo23⟩ := Kd.R_slice HO422.out; subst eo23) | ((with_reducible refine gate_callee (f := 34) rfl ?_); refine goesL_ (some 48) rfl rfl Tryd.func34 (by kernel_rfl) rfl #[.slice Ao23 y420.length co23, .int .i64 2, .int .i64 (l0_3.length : Int)] rfl (by (try simp only [zm, zc, zn]); first | done | rfl | (simp only [zd, zt]; rfl)) ?_; (with_reducible refine (r03_Put.calls k1 _ _ y420 2 (l0_3.length : Int) t423 _ ?side1 ?side2 A19.out).mono ?_); (case side1 => repeat (first | exact (Kd.R_reads' HO422.out).2.2)); (case side2 => exact (Kd.R_reads' HO422.out).2.1); rintro e w24 ⟨v424, rfl, ho0, hb⟩; refine ⟨_, rfl, ?_⟩; have HO425 := zA (Kd.R_lower (Kd.R_new' ho0 (Kd.R_lt (by (with_reducible repeat (first | apply zS | apply zT)); exact HO422.out))) (below_size (by repeat (first | (with_reducible first | exact HB.out | apply zB | apply zN | apply below_drew1 | refine zE ?_ GE408.out) | exact HB.out)))); replace HO422 := zA (zK (by (with_reducible repeat (first | apply zS | apply zT)); exact HO422.out) (zM ho0) hb); replace BK408 := zA (zQ (g := gb408) (o := .cells #[.string a0_0, .slice A0_1 l0_1.length c0_1, .int .i64 a0_2, .slice A0_3 l0_3.length c0_3, .slice A0_4 l0_4.length c0_4] 48 (0, 0)) (by (with_reducible repeat (first | refine zG ?_ _ | refine zH ?_)); exact BK408.out) hb); replace HB := zA (below_step (by repeat (first | (with_reducible first | exact HB.out | apply zB | apply zN | apply below_drew1 | refine zE ?_ GE408.out) | exact HB.out)) hb); (try clear hb); (try clear hb2); (try clear hk); (try clear hi); (try clear ho0)))
       go_loopg [4, 6] k1 (fun kq v4 v6 w' => ∃ (x4_2 : List Int) (x6_2 : Int), v6 = .int .i64 x6_2 ∧ Aside0 (r15_Put.l1 kq x4_2 x6_2 a0_0 l0_1 a0_2 l0_3 l0_4 = some (r1, r2)) ∧ Aside0 (kq ≤ k1) ∧ Aside0 (Kd.R (Kd.int .u8) 5 w' w.heap.size (fun _ => True) v4 x4_2) ∧ Aside0 (w'.heap[gb408]? = some (.cells #[.string a0_0, (.slice A0_1 l0_1.length c0_1), .int .i64 a0_2, (.slice A0_3 l0_3.length c0_3), (.slice A0_4 l0_4.length c0_4)] 48 (0, 0))) ∧ Aside0 (Below w.heap.size w w'))
       case atStart => exact ⟨(t423), (0), (by first | rfl | (simp; done) | (simp [*]; done)), H', ⟨z5 _⟩, ⟨by (with_reducible repeat (first | apply zS | apply zT)); exact Kd.R_mono HO425.out (fun _ hk => trivial)⟩, ⟨by (with_reducible repeat (first | refine zG ?_ _ | refine zH ?_)); exact BK408.out⟩, ⟨by repeat (first | (with_reducible first | exact HB.out | apply zB | apply zN | apply below_drew1 | refine zE ?_ GE408.out) | exact HB.out)⟩⟩
       case round =>
        clear H'
        try clear c1
        try clear p2
        try clear c3
        try clear p4
        try clear q4
        try clear hx4
        try clear c5
        try clear p6
        try clear c7
        try clear c13
        try clear c13b0
        try clear c14
        try clear c14b0
        try clear c15
        try clear c18
        try clear hcz11_0
        try clear hcz11_1
        try clear hcz11_2
        try clear hcz11_3
        try clear hcz11_4
        try clear hcz16_0
        try clear hcz16_1
        try clear hcz16_2
        try clear hcz16_3
        try clear hcz16_4
        try clear hcz20_0
        try clear hcz20_1
        try clear hcz20_2
        try clear hcz20_3
        try clear hcz20_4
        try clear hcz22_0
        try clear hcz22_1
        try clear hcz22_2
        try clear hcz22_3
        try clear hcz22_4
        try clear hcz7_0
        try clear hcz7_1
        try clear hcz7_2
        try clear hcz7_3
        try clear hcz7_4
        try clear hcz9_0
        try clear hcz9_1
        try clear hcz9_2
        try clear hcz9_3
        try clear hcz9_4
        try clear hfz11_0
        try clear hfz11_1
        try clear hfz11_2
        try clear hfz11_3
        try clear hfz11_4
        try clear hfz16_0
        try clear hfz16_1
        try clear hfz16_2
        try clear hfz16_3
        try clear hfz16_4
        try clear hfz20_0
        try clear hfz20_1
        try clear hfz20_2
        try clear hfz20_3
        try clear hfz20_4
        try clear hfz22_0
        try clear hfz22_1
        try clear hfz22_2
        try clear hfz22_3
        try clear hfz22_4
        try clear hfz7_0
        try clear hfz7_1
        try clear hfz7_2
        try clear hfz7_3
        try clear hfz7_4
        try clear hfz9_0
        try clear hfz9_1
        try clear hfz9_2
        try clear hfz9_3
        try clear hfz9_4
        try clear hx416_0
        try clear p2
        try clear p416
        try clear q416
        obtain ⟨x4_2, x6_2, rfl, HA, HK2, HO_4, BK408, HB⟩ := hrel
        cases gk with
        | zero => exact absurd HA.out (by simp [r15_Put.l1])
        | succ k2 =>
         have H := HA.out
         clear HA
         simp only [r15_Put.l1] at H
         by_cases c25 : x6_2 < (l0_3.length : Int)
         ·rw [if_pos c25] at H
          have c25b0 : decide (x6_2 < (l0_3.length : Int)) = true := decide_eq_true c25
          clear c25
          by_cases c26 : 0 ≤ x6_2
          ·rw [if_pos c26] at H
           have c26b0 : decide (0 ≤ x6_2) = true := decide_eq_true c26
           clear c26
           by_cases c27 : x4_2.length < 140737488355328
           ·rw [if_pos c27] at H
            have LMc27 := zA c27
            clear c27
            obtain ⟨y427, hy427⟩ : ∃ y_ : List Int, y_ = (x4_2 ++ [(rd l0_3 x6_2) % 256]) := ⟨_, rfl⟩
            replace H : (r15_Put.l1 k2 y427 (wrap64 (x6_2 + 1)) a0_0 l0_1 a0_2 l0_3 l0_4) = some (r1, r2) := by first | (rw [hy427]; with_reducible exact H) | (have H2_ := (zP _ _).symm.trans H; rw [hy427]; with_reducible exact H2_) | (have H2_ := (zP _ _).symm.trans H; with_reducible exact H2_) | with_reducible exact H | (rw [hy427]; exact H) | exact H
            have Ny427 := zA hy427
            clear hy427
            have H' := zA H
            clear H
            have hcz28_0 : wr.cell? ⟨gb408, 0, none⟩ = some (.string a0_0) := (zC BK408.out 0).trans rfl
            have hcz28_1 : wr.cell? ⟨gb408, 1, none⟩ = some (.slice A0_1 l0_1.length c0_1) := (zC BK408.out 1).trans rfl
            have hcz28_2 : wr.cell? ⟨gb408, 2, none⟩ = some (.int .i64 a0_2) := (zC BK408.out 2).trans rfl
            have hcz28_3 : wr.cell? ⟨gb408, 3, none⟩ = some (.slice A0_3 l0_3.length c0_3) := (zC BK408.out 3).trans rfl
            have hcz28_4 : wr.cell? ⟨gb408, 4, none⟩ = some (.slice A0_4 l0_4.length c0_4) := (zC BK408.out 4).trans rfl
            have hfz28_0 := zF BK408.out 0
            have hfz28_1 := zF BK408.out 1
            have hfz28_2 := zF BK408.out 2
            have hfz28_3 := zF BK408.out 3
            have hfz28_4 := zF BK408.out 4
            have p426 : 0 ≤ (x6_2 : Int) := zO (by first | (with_reducible assumption) | assumption)
            have q426 : x6_2 < (l0_3.length : Int) := zO (by first | (with_reducible assumption) | assumption)
            obtain ⟨ad426, e426, hx426_0⟩ := Kd.at_int HR0_3.out x6_2 p426 q426
            cases e426
            replace hx426_0 := (HB.out.cell (zL w _ hx426_0)).trans hx426_0
            replace p426 := eq_true p426
            replace q426 := eq_true q426
            go_wp2_with (first | ((with_reducible refine gate_builtin (b := .append) (xs := #[.tmp 56, .tmp 63]) rfl ?_); at_builtin; refine Kd.R_append (Kd.int .u8) (w0 := w) w.heap.size rfl (.tmp 56) (.tmp 63) 28 5 (.int .u8 0) 1 rfl Tryd.underlying28 info5 rfl (by decide) (by omega) u4 x4_2 ((rd l0_3 x6_2) % 256) [.int .u8 ((rd l0_3 x6_2) % 256)] (fun _ => True) (fun _ => False) rfl rfl ?aP (fun _ hk => hk.elim) ?aF ?aO ?aB ?aS ?aL ?_; (case aP => exact rfl); (case aB => exact (by repeat (first | (with_reducible first | exact HB.out | apply zB | apply zN | apply below_drew1 | refine zE ?_ GE408.out) | exact HB.out))); (case aF => exact (fun _ _ => trivial)); (case aO => exact (by (with_reducible repeat (first | apply zS | apply zT)); exact HO_4.out)); (case aS => exact (below_size (by repeat (first | (with_reducible first | exact HB.out | apply zB | apply zN | apply below_drew1 | refine zE ?_ GE408.out) | exact HB.out)))); (case aL => have := LMc27.out; omega); intro v428 w29 ho hb hg hat; rw [← Ny427.out] at ho; replace BK408 := zA (blk_grown (g := gb408) (o := .cells #[.string a0_0, .slice A0_1 l0_1.length c0_1, .int .i64 a0_2, .slice (some ad426) l0_3.length c0_3, .slice A0_4 l0_4.length c0_4] 48 (0, 0)) (by (with_reducible repeat (first | refine zG ?_ _ | refine zH ?_)); exact BK408.out) hg (Kd.R_ne HO_4.out BK408.out (by decide))); replace HB := zA (hb); have HO429 := zA (ho); clear HO_4; clear ho hb hg hat))
            go_roundg k2
            case measure => have := HK1.out; have := HK2.out; omega
            case rel => exact ⟨(y427), (wrap64 (x6_2 + 1)), (by first | rfl | (simp; done) | (simp [*]; done)), H', ⟨by have := HK1.out; have := HK2.out; omega⟩, ⟨by (with_reducible repeat (first | apply zS | apply zT)); exact HO429.out⟩, ⟨by (with_reducible repeat (first | refine zG ?_ _ | refine zH ?_)); exact BK408.out⟩, ⟨by repeat (first | (with_reducible first | exact HB.out | apply zB | apply zN | apply below_drew1 | refine zE ?_ GE408.out) | exact HB.out)⟩⟩
           ·rw [if_neg c27] at H
            exact absurd H (by simp)
          ·rw [if_neg c26] at H
           exact absurd H (by simp)
         ·rw [if_neg c25] at H
          have c25b0 : decide (x6_2 < (l0_3.length : Int)) = false := decide_eq_false c25
          clear c25
          replace H := Option.bind_eq_some_iff.mp H
          obtain ⟨t430, A300, H⟩ := H
          replace H : ((r13_Encode.f k2 l0_4).bind fun bt433 => (if t430.length + bt433.1.length < 140737488355328 then (some ((t430 ++ bt433.1), true)) else (none))) = some (r1, r2) := H
          have A30 := zA A300
          clear A300
          replace H := Option.bind_eq_some_iff.mp H
          obtain ⟨⟨t433, t434⟩, A310, H⟩ := H
          replace H : (if t430.length + t433.length < 140737488355328 then (some ((t430 ++ t433), true)) else (none)) = some (r1, r2) := H
          have A31 := zA A310
          clear A310
          by_cases c32 : t430.length + t433.length < 140737488355328
          ·rw [if_pos c32] at H
           have LMc32 := zA c32
           clear c32
           obtain ⟨y437, hy437⟩ : ∃ y_ : List Int, y_ = (t430 ++ t433) := ⟨_, rfl⟩
           replace H : (some (y437, true)) = some (r1, r2) := by first | (rw [hy437]; with_reducible exact H) | (have H2_ := (zP _ _).symm.trans H; rw [hy437]; with_reducible exact H2_) | (have H2_ := (zP _ _).symm.trans H; with_reducible exact H2_) | with_reducible exact H | (rw [hy437]; exact H) | exact H
           have Ny437 := zA hy437
           clear hy437
           simp only [Option.some.injEq, Prod.mk.injEq] at H
           obtain ⟨rfl, rfl⟩ := H
           have hcz33_0 : wr.cell? ⟨gb408, 0, none⟩ = some (.string a0_0) := (zC BK408.out 0).trans rfl
           have hcz33_1 : wr.cell? ⟨gb408, 1, none⟩ = some (.slice A0_1 l0_1.length c0_1) := (zC BK408.out 1).trans rfl
           have hcz33_2 : wr.cell? ⟨gb408, 2, none⟩ = some (.int .i64 a0_2) := (zC BK408.out 2).trans rfl
           have hcz33_3 : wr.cell? ⟨gb408, 3, none⟩ = some (.slice A0_3 l0_3.length c0_3) := (zC BK408.out 3).trans rfl
           have hcz33_4 : wr.cell? ⟨gb408, 4, none⟩ = some (.slice A0_4 l0_4.length c0_4) := (zC BK408.out 4).trans rfl
           have hfz33_0 := zF BK408.out 0
           have hfz33_1 := zF BK408.out 1
           have hfz33_2 := zF BK408.out 2
           have hfz33_3 := zF BK408.out 3
           have hfz33_4 := zF BK408.out 4
           obtain ⟨Ao34, co34, eo34⟩ := Kd.R_slice HO_4.out
           subst eo34
           go_wp2_with (first | ((with_reducible refine gate_callee (f := 34) rfl ?_); refine goesL_ (some 69) rfl rfl Tryd.func34 (by kernel_rfl) rfl #[.slice Ao34 x4_2.length co34, .int .i64 2, .int .i64 (l0_4.length : Int)] rfl (by (try simp only [zm, zc, zn]); first | done | rfl | (simp only [zd, zt]; rfl)) ?_; (with_reducible refine (r03_Put.calls k2 _ _ x4_2 2 (l0_4.length : Int) t430 _ ?side1 ?side2 A30.out).mono ?_); (case side1 => repeat (first | exact (Kd.R_reads' HO_4.out).2.2)); (case side2 => exact (Kd.R_reads' HO_4.out).2.1); rintro e w35 ⟨v431, rfl, ho0, hb⟩; refine ⟨_, rfl, ?_⟩; have HO432 := zA (Kd.R_lower (Kd.R_new' ho0 (Kd.R_lt (by (with_reducible repeat (first | apply zS | apply zT)); exact HO_4.out))) (below_size (by repeat (first | (with_reducible first | exact HB.out | apply zB | apply zN | apply below_drew1 | refine zE ?_ GE408.out) | exact HB.out)))); replace HO_4 := zA (zK (by (with_reducible repeat (first | apply zS | apply zT)); exact HO_4.out) (zM ho0) hb); replace BK408 := zA (zQ (g := gb408) (o := .cells #[.string a0_0, .slice A0_1 l0_1.length c0_1, .int .i64 a0_2, .slice A0_3 l0_3.length c0_3, .slice A0_4 l0_4.length c0_4] 48 (0, 0)) (by (with_reducible repeat (first | refine zG ?_ _ | refine zH ?_)); exact BK408.out) hb); replace HB := zA (below_step (by repeat (first | (with_reducible first | exact HB.out | apply zB | apply zN | apply below_drew1 | refine zE ?_ GE408.out) | exact HB.out)) hb); (try clear hb); (try clear hb2); (try clear hk); (try clear hi); (try clear ho0); have hcz36_0 : w35.cell? ⟨gb408, 0, none⟩ = some (.string a0_0) := (zC BK408.out 0).trans rfl; have hcz36_1 : w35.cell? ⟨gb408, 1, none⟩ = some (.slice A0_1 l0_1.length c0_1) := (zC BK408.out 1).trans rfl; have hcz36_2 : w35.cell? ⟨gb408, 2, none⟩ = some (.int .i64 a0_2) := (zC BK408.out 2).trans rfl; have hcz36_3 : w35.cell? ⟨gb408, 3, none⟩ = some (.slice A0_3 l0_3.length c0_3) := (zC BK408.out 3).trans rfl; have hcz36_4 : w35.cell? ⟨gb408, 4, none⟩ = some (.slice A0_4 l0_4.length c0_4) := (zC BK408.out 4).trans rfl; have hfz36_0 := zF BK408.out 0; have hfz36_1 := zF BK408.out 1; have hfz36_2 := zF BK408.out 2; have hfz36_3 := zF BK408.out 3; have hfz36_4 := zF BK408.out 4) | ((with_reducible refine gate_callee (f := 72) rfl ?_); refine goesL_ (some 73) rfl rfl Tryd.func72 (by kernel_rfl) rfl #[.slice A0_4 l0_4.length c0_4] rfl (by (try simp only [zm, zc, zn]); first | done | rfl | (simp only [zd, zt]; rfl)) ?_; (with_reducible refine (r13_Encode.calls k2 _ _ l0_4 t433 t434 _ ?side1 ?side2 A31.out).mono ?_); (case side1 => repeat (first | exact (zD HR0_4.out HB.out))); (case side2 => exact HC0_4.out); rintro e w37 ⟨v435, rfl, ho0, hb⟩; refine ⟨_, rfl, ?_⟩; have HO436 := zA (Kd.R_lower (Kd.R_new' (Kd.R_new' ho0 (Kd.R_lt (by (with_reducible repeat (first | apply zS | apply zT)); exact HO_4.out))) (Kd.R_lt (by (with_reducible repeat (first | apply zS | apply zT)); exact HO432.out))) (below_size (by repeat (first | (with_reducible first | exact HB.out | apply zB | apply zN | apply below_drew1 | refine zE ?_ GE408.out) | exact HB.out)))); replace HO_4 := zA (zK (by (with_reducible repeat (first | apply zS | apply zT)); exact HO_4.out) (zM ho0) hb); replace HO432 := zA (zK (by (with_reducible repeat (first | apply zS | apply zT)); exact HO432.out) (zM ho0) hb); replace BK408 := zA (zQ (g := gb408) (o := .cells #[.string a0_0, .slice A0_1 l0_1.length c0_1, .int .i64 a0_2, .slice A0_3 l0_3.length c0_3, .slice A0_4 l0_4.length c0_4] 48 (0, 0)) (by (with_reducible repeat (first | refine zG ?_ _ | refine zH ?_)); exact BK408.out) hb); replace HB := zA (below_step (by repeat (first | (with_reducible first | exact HB.out | apply zB | apply zN | apply below_drew1 | refine zE ?_ GE408.out) | exact HB.out)) hb); (try clear hb); (try clear hb2); (try clear hk); (try clear hi); (try clear ho0); obtain ⟨Ao39, co39, eo39⟩ := Kd.R_slice HO436.out; subst eo39) | ((with_reducible refine gate_builtin (b := .append) (xs := #[.tmp 76, .tmp 77]) rfl ?_); at_builtin; refine Kd.R_append_rows (Kd.int .u8) (w0 := w) w.heap.size rfl (.tmp 76) (.tmp 77) 28 5 (.int .u8 0) 1 rfl Tryd.underlying28 info5 rfl (by decide) (by omega) v431 t430 t433 _ _ _ (fun k_ => some k_ ≠ (.slice Ao34 x4_2.length co34 : Value).ownBlock ∧ some k_ ≠ (.slice Ao39 t433.length co39 : Value).ownBlock) (fun _ => False) rfl rfl ?aO ?aR (fun _ _ h => h) (fun _ h => h.elim) ?aF ?aB ?aS ?aL ?_; (case aR => repeat (first | exact (Kd.R_reads' HO436.out).2.2)); (case aB => exact (by repeat (first | (with_reducible first | exact HB.out | apply zB | apply zN | apply below_drew1 | refine zE ?_ GE408.out) | exact HB.out))); (case aF => exact (fun k_ hk => ⟨Kd.fresh' (Kd.R_lt (by (with_reducible repeat (first | apply zS | apply zT)); exact HO_4.out)) k_ hk, Kd.fresh' (Kd.R_lt (by (with_reducible repeat (first | apply zS | apply zT)); exact HO436.out)) k_ hk⟩)); (case aO => exact (by (with_reducible repeat (first | apply zS | apply zT)); exact Kd.R_mono HO432.out (fun _ hk => ⟨hk.1.2, hk.2⟩))); (case aS => exact (below_size (by repeat (first | (with_reducible first | exact HB.out | apply zB | apply zN | apply below_drew1 | refine zE ?_ GE408.out) | exact HB.out)))); (case aL => have := LMc32.out; omega); intro v438 w38 ho hb hg hat; rw [← Ny437.out] at ho; replace HO_4 := zA (Kd.R_after (ok := (fun k_ => some k_ ≠ (.slice Ao39 t433.length co39 : Value).ownBlock)) (by (with_reducible repeat (first | apply zS | apply zT)); exact Kd.R_mono HO_4.out (fun _ hk => ⟨hk.2, hk.1.2⟩)) hg hat); replace BK408 := zA (blk_grown (g := gb408) (o := .cells #[.string a0_0, .slice A0_1 l0_1.length c0_1, .int .i64 a0_2, .slice A0_3 l0_3.length c0_3, .slice A0_4 l0_4.length c0_4] 48 (0, 0)) (by (with_reducible repeat (first | refine zG ?_ _ | refine zH ?_)); exact BK408.out) hg (Kd.R_ne HO432.out BK408.out (by decide))); replace HO436 := zA (Kd.R_after (ok := (fun k_ => some k_ ≠ (.slice Ao34 x4_2.length co34 : Value).ownBlock)) (by (with_reducible repeat (first | apply zS | apply zT)); exact Kd.R_mono HO436.out (fun _ hk => ⟨hk.1.2, hk.2⟩)) hg hat); replace HB := zA (hb); have HO439 := zA (ho); clear HO432; clear ho hb hg hat))
           go_ret2
           exact ⟨_, by first | rfl | (simp [errW_none, errW_some] <;> rfl) | (simp [*, errW_none, errW_some] <;> rfl), by (with_reducible repeat (first | apply zS | apply zT)); exact Kd.R_mono HO439.out (fun _ hk => trivial), by repeat (first | (with_reducible first | exact HB.out | apply zB | apply zN | apply below_drew1 | refine zE ?_ GE408.out) | exact HB.out)⟩
          ·rw [if_neg c32] at H
           exact absurd H (by simp)
      ·rw [if_neg c18] at H
       exact absurd H (by simp)
  ·rw [if_neg c5] at H
   exact absurd H (by simp)
 ·replace c3 := Bool.eq_false_iff.mpr c3
  subst c3
  have H1 : (some (([] : List Int), false)) = some (r1, r2) := by rw [if_neg (show ¬ (false = true) by decide)] at H; exact H
  clear H
  have H := H1
  clear H1
  simp only [Option.some.injEq, Prod.mk.injEq] at H
  obtain ⟨rfl, rfl⟩ := H
  go_enter Tryd.func33, Tryd.ntmps33
  go_wp2_with (first | ((with_reducible refine gate_dst (N := 1) rfl ?_); refine box_event ?hg (N := 1) ?hd (cs := #[.string a0_0, .slice A0_1 l0_1.length c0_1, .int .i64 a0_2, .slice A0_3 l0_3.length c0_3, .slice A0_4 l0_4.length c0_4]) (t := 48) ?hr ?_; (case hd => rfl); (case hg => rfl); (case hr => first | (go_simp; done) | (go_simp; rfl)); intro gb408 hg w40 hbox hb; have BK408 := zA (hbox); have GW408 := zA ((by rw [hg]; exact (below_size (by repeat (first | (with_reducible first | exact HB.out | apply zB | apply zN | apply below_drew1) | exact HB.out))) : w.heap.size ≤ gb408)); have GE408 := GW408; replace HB := zA (below_step (by repeat (first | (with_reducible first | exact HB.out | apply zB | apply zN | apply below_drew1) | exact HB.out)) hb); clear hb hbox hg; have hcz41_0 : w40.cell? ⟨gb408, 0, none⟩ = some (.string a0_0) := (zC BK408.out 0).trans rfl; have hcz41_1 : w40.cell? ⟨gb408, 1, none⟩ = some (.slice A0_1 l0_1.length c0_1) := (zC BK408.out 1).trans rfl; have hcz41_2 : w40.cell? ⟨gb408, 2, none⟩ = some (.int .i64 a0_2) := (zC BK408.out 2).trans rfl; have hcz41_3 : w40.cell? ⟨gb408, 3, none⟩ = some (.slice A0_3 l0_3.length c0_3) := (zC BK408.out 3).trans rfl; have hcz41_4 : w40.cell? ⟨gb408, 4, none⟩ = some (.slice A0_4 l0_4.length c0_4) := (zC BK408.out 4).trans rfl; have hfz41_0 := zF BK408.out 0; have hfz41_1 := zF BK408.out 1; have hfz41_2 := zF BK408.out 2; have hfz41_3 := zF BK408.out 3; have hfz41_4 := zF BK408.out 4) | ((with_reducible refine gate_callee (f := 71) rfl ?_); refine goesL_ (some 10) rfl rfl Tryd.func71 (by kernel_rfl) rfl #[.agg #[.string a0_0, .slice A0_1 l0_1.length c0_1, .int .i64 a0_2, .slice A0_3 l0_3.length c0_3, .slice A0_4 l0_4.length c0_4]] rfl (by (try simp only [zm, zc, zn]); first | done | rfl | (simp only [zd, zt]; rfl)) ?_; (with_reducible refine (r15_Fits.calls k a0_0 _ _ l0_1 a0_2 _ _ l0_3 _ _ l0_4 false _ ?side1 ?side2 ?side3 ?side4 ?side5 ?side6 A2.out).mono ?_); (case side1 => repeat (first | exact (zD HR0_1.out HB.out))); (case side2 => exact HC0_1.out); (case side3 => repeat (first | exact (zD HR0_3.out HB.out))); (case side4 => exact HC0_3.out); (case side5 => repeat (first | exact (zD HR0_4.out HB.out))); (case side6 => exact HC0_4.out); rintro e w42 ⟨rfl, hb⟩; refine ⟨_, rfl, ?_⟩; replace BK408 := zA (zQ (g := gb408) (o := .cells #[.string a0_0, .slice A0_1 l0_1.length c0_1, .int .i64 a0_2, .slice A0_3 l0_3.length c0_3, .slice A0_4 l0_4.length c0_4] 48 (0, 0)) (by (with_reducible repeat (first | refine zG ?_ _ | refine zH ?_)); exact BK408.out) hb); replace HB := zA (below_step (by repeat (first | (with_reducible first | exact HB.out | apply zB | apply zN | apply below_drew1 | refine zE ?_ GE408.out) | exact HB.out)) hb); (try clear hb); (try clear hb2); (try clear hk); (try clear hi)))
  go_ret2
  exact ⟨_, by first | rfl | (simp [errW_none, errW_some] <;> rfl) | (simp [*, errW_none, errW_some] <;> rfl), by first | exact Kd.R_nil _ _ _ _ _ | exact Kd.N_nil _ _ _ _ _ | exact Kd.V_nil _ _ _ _ _ | exact Kd.Q_nil _ _ _ _ _ | exact Kd.S_nil _ _ _ _ _, by repeat (first | (with_reducible first | exact HB.out | apply zB | apply zN | apply below_drew1 | refine zE ?_ GE408.out) | exact HB.out)⟩

end Go.Proofs.YtdbfgfgbjheibaaDoor.PBx
