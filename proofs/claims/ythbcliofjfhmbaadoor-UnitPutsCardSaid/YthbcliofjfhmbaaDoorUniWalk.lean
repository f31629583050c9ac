/- The walk of UnitPuts: for any two units its call returns true; the operations' table as the program lays it. -/
import Derived.Test.YthbcliofjfhmbaaDoorUniRec
import Derived.Test.YthbcliofjfhmbaaDoorReg
import Derived.Test.YthbcliofjfhmbaaDoorWInvWords
namespace Go.Proofs.YthbcliofjfhmbaaDoor.UPure
open Go Go.RowKit Go.Proofs.YthbcliofjfhmbaaDoor.PUni Go.Proofs.YthbcliofjfhmbaaDoor.Given Go.Proofs.YthbcliofjfhmbaaDoorW.PrintWords Go.Proofs.YthbcliofjfhmbaaDoorW.PrintLast Go.Proofs.YthbcliofjfhmbaaDoorW.PrintMore
set_option linter.unusedVariables false
set_option linter.unusedSimpArgs false
theorem eval_tmp {a : Act} {t : Nat} {v : Value} (h : a.tmps[t]? = some v) : a.eval (.tmp t) = v := by simp [Act.eval, h]
theorem cells_5 (u : UR) : u.cells.size = 5 := rfl
theorem cell_all {u : UR} {W : World} {g : Nat} (h : W.heap[g]? = some (.cells u.cells 37 (0, 0))) : W.cell? ⟨g, 0, none⟩ = some (.string u.n) ∧ W.cell? ⟨g, 1, none⟩ = some (.slice u.A1 u.P.length u.c1) ∧ W.cell? ⟨g, 2, none⟩ = some (.int .i64 u.R) ∧ W.cell? ⟨g, 3, none⟩ = some (.slice u.A3 u.L.length u.c3) ∧ W.cell? ⟨g, 4, none⟩ = some (.slice u.A4 u.C.length u.c4) :=
  ⟨(blk_cell h 0).trans rfl, (blk_cell h 1).trans rfl, (blk_cell h 2).trans rfl, (blk_cell h 3).trans rfl, (blk_cell h 4).trans rfl⟩
set_option maxHeartbeats 4000000 in
set_option maxRecDepth 100000 in
theorem unitPuts_w (u v : UR) (w : World) (hu : u.Ok w) (hv : v.Ok w) (hL : LaidOps w) :
    Calls Tryd.prog 6 #[.agg u.cells, .agg v.cells] w fun e w' => e = .returned (.bool true) ∧ Below w.heap.size w w' := by
  have hi : (Tryd.prog.info? 37).map (·.size) = some 5 := by kernel_rfl
  have HU := Aside0.mk hu
  have HV := Aside0.mk hv
  have HL := Aside0.mk hL
  have HB2 := Aside0.mk (((Below.refl w.heap.size w).alloc (Nat.le_refl _) (.cells u.cells 37)).alloc (by simp) (.cells v.cells 37))
  have hgu : ((w.alloc (.cells u.cells 37)).alloc (.cells v.cells 37)).heap[w.heap.size]? = some (.cells u.cells 37 (0, 0)) := ((Below.refl _ (w.alloc (.cells u.cells 37))).alloc (Nat.le_refl _) (.cells v.cells 37)).block w.heap.size (by simp) |>.trans (heap_alloc_new w _)
  have hgv : ((w.alloc (.cells u.cells 37)).alloc (.cells v.cells 37)).heap[w.heap.size + 1]? = some (.cells v.cells 37 (0, 0)) := by
    have := heap_alloc_new (w.alloc (.cells u.cells 37)) (.cells v.cells 37)
    simpa using this
  have HGU := Aside0.mk hgu
  have HGV := Aside0.mk hgv
  have HU0 := Aside0.mk (hu.below HB2.out)
  have HV0 := Aside0.mk (hv.below HB2.out)
  clear hu hv hL hgu hgv HU HV
  have step : ∀ {W W2 : World}, Below w.heap.size w W → Below W.heap.size W W2 → Below w.heap.size w W2 := fun h h2 => h.trans (h2.mono h.size)
  have hes : Tryd.prog.underlying 37 = _ := Tryd.underlying37
  cases hfu : u.few
  · have HF := Aside0.mk hfu
    clear hfu hes
    go_enter Tryd.func6, Tryd.ntmps6
    go_wp2_with ((with_reducible refine gate_dst (N := 9) rfl ?_); refine wpList_load_row rfl 37 (.tmp 2) rfl w.heap.size rfl 37 _ (0, 0) _ HGU.out Tryd.underlying37 rfl (by rw [hi]; rfl) ?_)
    refine (few_c u _ HU0.out).mono ?_
    rw [HF.out]
    rintro e w1 ⟨rfl, hb1⟩
    have HB3 := Aside0.mk (step HB2.out hb1)
    go_wp2_with fail
    refine (awake_c _ (HL.out.below HB3.out)).mono ?_
    rintro e w2 ⟨rfl, hb2⟩
    have hb3 := step HB3.out hb2
    go_wp2
    go_ret
    exact ⟨rfl, hb3⟩
  · cases hfv : v.few
    · have HF := Aside0.mk hfu
      have HG := Aside0.mk hfv
      clear hfu hfv hes
      go_enter Tryd.func6, Tryd.ntmps6
      go_wp2_with ((with_reducible refine gate_dst (N := 9) rfl ?_); refine wpList_load_row rfl 37 (.tmp 2) rfl w.heap.size rfl 37 _ (0, 0) _ HGU.out Tryd.underlying37 rfl (by rw [hi]; rfl) ?_)
      refine (few_c u _ HU0.out).mono ?_
      rw [HF.out]
      rintro e w1 ⟨rfl, hb1⟩
      have HB3 := Aside0.mk (step HB2.out hb1)
      have HV1 := Aside0.mk (HV0.out.below hb1)
      have HGV1 := Aside0.mk ((hb1.block _ (blk_lt HGV.out)).trans HGV.out)
      obtain ⟨q0, q1, q2, q3, q4⟩ := cell_all HGV1.out
      go_wp2_with fail
      refine (few_c v _ HV1.out).mono ?_
      rw [HG.out]
      rintro e w2 ⟨rfl, hb2⟩
      have HB4 := Aside0.mk (step HB3.out hb2)
      clear q0 q1 q2 q3 q4
      go_wp2_with fail
      refine (awake_c _ (HL.out.below HB4.out)).mono ?_
      rintro e w3 ⟨rfl, hb3⟩
      have hb4 := step HB4.out hb3
      go_wp2
      go_ret
      exact ⟨rfl, hb4⟩
    · have HF := Aside0.mk hfu
      have HG := Aside0.mk hfv
      obtain ⟨X, hX⟩ : ∃ X, X = u.put := ⟨_, rfl⟩
      obtain ⟨F, hF⟩ : ∃ F, F = u.fits := ⟨_, rfl⟩
      obtain ⟨SL, hSL⟩ : ∃ SL, SL = u.slots := ⟨_, rfl⟩
      obtain ⟨SM, hSM⟩ : ∃ SM, SM = u.same v := ⟨_, rfl⟩
      have P1 : ∀ W, u.Ok W → LaidOps W → Calls Tryd.prog 19 #[.agg u.cells] W fun e w' => ∃ v0_ : Value, e = .returned (.tuple #[v0_, .bool F]) ∧ Kd.R (Kd.int .u8) 5 w' W.heap.size (fun _ => True) v0_ X ∧ Below W.heap.size W w' := fun W h hl => by rw [hX, hF]; exact put_c u W h hfu hl
      have P2 : ∀ W, u.Ok W → Calls Tryd.prog 20 #[.agg u.cells] W fun e w' => ∃ v0_ : Value, e = .returned (.tuple #[v0_, .bool F]) ∧ Kd.R (Kd.int .u8) 5 w' W.heap.size (fun _ => True) v0_ X ∧ Below W.heap.size W w' := fun W h => by rw [hX, hF]; exact rput_c u W h hfu
      have P3 : ∀ W, u.Ok W → LaidOps W → Calls Tryd.prog 21 #[.agg u.cells] W fun e w' => e = .returned (.bool F) ∧ Below W.heap.size W w' := fun W h hl => by rw [hF]; exact fits_c u W h hfu hl
      have P4 : ∀ W, u.Ok W → Calls Tryd.prog 23 #[.agg u.cells] W fun e w' => ∃ v0_ : Value, e = .returned v0_ ∧ Kd.R (Kd.int .i64) 3 w' W.heap.size (fun _ => True) v0_ SL ∧ Below W.heap.size W w' := fun W h => by rw [hSL]; exact slots_c u W h hfu
      have P5 : ∀ W, u.Ok W → Calls Tryd.prog 24 #[.agg u.cells] W fun e w' => ∃ v0_ : Value, e = .returned v0_ ∧ Kd.R (Kd.int .i64) 3 w' W.heap.size (fun _ => True) v0_ SL ∧ Below W.heap.size W w' := fun W h => by rw [hSL]; exact rslots_c u W h hfu
      have P6 : ∀ W, u.Ok W → v.Ok W → Calls Tryd.prog 25 #[.agg u.cells, .agg v.cells] W fun e w' => e = .returned (.bool SM) ∧ Below W.heap.size W w' := fun W h h' => by rw [hSM]; exact same_c u v W h h' hfu
      have P7 : ∀ W, u.Ok W → v.Ok W → Calls Tryd.prog 26 #[.agg u.cells, .agg v.cells] W fun e w' => e = .returned (.bool SM) ∧ Below W.heap.size W w' := fun W h h' => by rw [hSM]; exact rsame_c u v W h h' hfu
      have P8 : ∀ W, u.Ok W → Calls Tryd.prog 25 #[.agg u.cells, .agg u.cells] W fun e w' => e = .returned (.bool true) ∧ Below W.heap.size W w' := fun W h => by rw [← UR.same_self u]; exact same_c u u W h h hfu
      have hSZ := slots_len hfu
      rw [← hSL] at hSZ
      have P9 := Aside0.mk (show ∀ (A : Option Addr) (c : Nat) (A' : Option Addr) (c' : Nat) (W : World), Kd.C (Kd.int .i64) W A SL.length SL → SL.length ≤ c → Kd.C (Kd.int .i64) W A' SL.length SL → SL.length ≤ c' → Calls Tryd.prog 22 #[.slice A SL.length c, .slice A' SL.length c'] W fun e w' => e = .returned (.bool true) ∧ Below W.heap.size W w' from fun A c A' c' W h1 h2 h3 h4 => ints_c A c A' c' SL W (by omega) h1 h2 h3 h4)
      have P1 := Aside0.mk P1
      have P2 := Aside0.mk P2
      have P3 := Aside0.mk P3
      have P4 := Aside0.mk P4
      have P5 := Aside0.mk P5
      have P6 := Aside0.mk P6
      have P7 := Aside0.mk P7
      have P8 := Aside0.mk P8
      clear hfu hfv hes hX hF hSL hSM hSZ
      go_enter Tryd.func6, Tryd.ntmps6
      go_wp2_with ((with_reducible refine gate_dst (N := 9) rfl ?_); refine wpList_load_row rfl 37 (.tmp 2) rfl w.heap.size rfl 37 _ (0, 0) _ HGU.out Tryd.underlying37 rfl (by rw [hi]; rfl) ?_)
      refine (few_c u _ HU0.out).mono ?_
      rw [HF.out]
      rintro e w1 ⟨rfl, hb1⟩
      have HB3 := Aside0.mk (step HB2.out hb1)
      have HV1 := Aside0.mk (HV0.out.below hb1)
      have HU1 := Aside0.mk (HU0.out.below hb1)
      have HGV1 := Aside0.mk ((hb1.block _ (blk_lt HGV.out)).trans HGV.out)
      have HGU1 := Aside0.mk ((hb1.block _ (blk_lt HGU.out)).trans HGU.out)
      clear HB2 HU0 HV0 HGU HGV hb1
      obtain ⟨q0, q1, q2, q3, q4⟩ := cell_all HGV1.out
      go_wp2_with fail
      refine (few_c v _ HV1.out).mono ?_
      rw [HG.out]
      rintro e w2 ⟨rfl, hb2⟩
      have HB4 := Aside0.mk (step HB3.out hb2)
      have HV2 := Aside0.mk (HV1.out.below hb2)
      have HU2 := Aside0.mk (HU1.out.below hb2)
      have HGV2 := Aside0.mk ((hb2.block _ (blk_lt HGV1.out)).trans HGV1.out)
      have HGU2 := Aside0.mk ((hb2.block _ (blk_lt HGU1.out)).trans HGU1.out)
      clear q0 q1 q2 q3 q4 HB3 HU1 HV1 HGU1 HGV1 hb2
      go_wp2_with ((with_reducible refine gate_dst (N := 19) rfl ?_); refine wpList_load_row rfl 37 (.tmp 2) rfl w.heap.size rfl 37 _ (0, 0) _ HGU2.out Tryd.underlying37 rfl (by rw [hi]; rfl) ?_)
      refine (P1.out _ HU2.out (HL.out.below HB4.out)).mono ?_
      rintro e w3 ⟨vb, rfl, ho3, hb3⟩
      obtain ⟨Ab, cb, rfl, hlb, hCb⟩ := Kd.R_reads ho3
      have HB5 := Aside0.mk (step HB4.out hb3)
      have HV3 := Aside0.mk (HV2.out.below hb3)
      have HU3 := Aside0.mk (HU2.out.below hb3)
      have HGV3 := Aside0.mk ((hb3.block _ (blk_lt HGV2.out)).trans HGV2.out)
      have HGU3 := Aside0.mk ((hb3.block _ (blk_lt HGU2.out)).trans HGU2.out)
      have HCb := Aside0.mk hCb
      clear HB4 HU2 HV2 HGU2 HGV2 hb3 ho3 hCb
      go_wp2_with ((with_reducible refine gate_dst (N := 24) rfl ?_); refine wpList_load_row rfl 37 (.tmp 2) rfl w.heap.size rfl 37 _ (0, 0) _ HGU3.out Tryd.underlying37 rfl (by rw [hi]; rfl) ?_)
      refine (P2.out _ HU3.out).mono ?_
      rintro e w4 ⟨vx, rfl, ho4, hb4⟩
      obtain ⟨Ax, cx, rfl, hlx, hCx⟩ := Kd.R_reads ho4
      have HB6 := Aside0.mk (step HB5.out hb4)
      have HV4 := Aside0.mk (HV3.out.below hb4)
      have HU4 := Aside0.mk (HU3.out.below hb4)
      have HGV4 := Aside0.mk ((hb4.block _ (blk_lt HGV3.out)).trans HGV3.out)
      have HGU4 := Aside0.mk ((hb4.block _ (blk_lt HGU3.out)).trans HGU3.out)
      have HCb4 := Aside0.mk (Kd.C_below HCb.out hb4)
      have HCx := Aside0.mk hCx
      clear HB5 HU3 HV3 HGU3 HGV3 HCb hb4 ho4 hCx
      go_wp2_with fail
      obtain ⟨g1, hg1⟩ : ∃ g, g = w.heap.size + 1 := ⟨_, rfl⟩
      rw [← hg1] at HGV4 ⊢
      obtain ⟨g0, hg0⟩ : ∃ g, g = w.heap.size := ⟨_, rfl⟩
      rw [← hg0] at HGU4 ⊢
      refine Reg.region_any [some 28, some 29, some 30, some 31, some 32, some 33, some 34, some 35, some 36, some 37, some 38, some 39, some 40, some 41, some 42, some 43, some 44, some 45, some 46, some 47, some 48, some 49, some 50, some 51, some 52, some 53, some 54, some 55, some 56, some 57, some 58, some 59, some 60, some 61, some 62, some 63, some 64, some 65, some 66, some 67, some 4] [0, 1, 0, 4, 15, 31, 63, 63, 255, 511, 1023, 2047, 4095, 2047, 16383, 32767, 65535, 131071, 262143, 131071, 1048575, 2097151, 4194303, 8388607, 16777215, 16777215, 67108863, 16777215, 16777215, 536870911, 1073741823, 2147483647, 4294967295, 8589934591, 8589934591, 34359738367, 68719476735, 137438953471, 274877906943, 549755813887, 1099511627775] (true, [([], []), ([0], [0]), ([], []), ([2], [2]), ([1, 3], [1, 3]), ([4], [4]), ([5], [5]), ([5], [5]), ([6, 7, 5], [5, 6, 7]), ([5, 8], [5, 8]), ([9, 5], [9]), ([10], [10]), ([11, 10, 10], [10, 11]), ([10], [10]), ([12, 13, 10], [10, 12, 13]), ([10, 14], [10, 14]), ([15, 12], [15]), ([16], [16]), ([17, 16, 16], [16, 17]), ([16], [16]), ([19, 18, 16], [16, 19]), ([18, 20, 20, 16], [16, 18, 20]), ([16, 21], [16, 21]), ([22, 21], [22]), ([23], [23]), ([23], [23]), ([24, 25, 23, 23], [23, 24, 25]), ([23], [23]), ([23], [23]), ([27, 28, 26, 23], [23, 27, 28]), ([26, 29, 23], [23, 26, 29]), ([23, 30], [23, 30]), ([31, 29], [31]), ([32], [32]), ([32], [32]), ([33, 34, 32, 32], [32, 33, 34]), ([32, 35], [32, 35]), ([36, 35], [36]), ([37, 37], [37]), ([37, 38], [37, 38]), ([39, 38, 0, 1, 2, 3, 4, 5, 6, 7, 8, 9, 10, 11, 12, 13, 14, 15, 16, 17, 18, 19, 20, 21, 22, 23, 24, 25, 26, 27, 28, 29, 30, 31, 32, 33, 34, 35, 36, 37, 38, 39], [39])]) (fun i => ([(fun _ v_ => v_ = (.slice Ab X.length cb)), (fun _ v_ => v_ = (.string (strOfNums X))), (fun _ v_ => v_ = (.slice Ax X.length cx)), (fun _ v_ => v_ = (.string (strOfNums X))), (fun _ v_ => v_ = (.bool true)), (fun _ v_ => v_ = (.bool true)), (fun _ v_ => v_ = (.bool F)), (fun _ v_ => v_ = (.bool F)), (fun _ v_ => v_ = (.bool true)), (fun _ v_ => v_ = (.bool true)), (fun _ v_ => v_ = (.bool true)), (fun _ v_ => v_ = (.agg u.cells)), (fun _ v_ => v_ = (.bool F)), (fun _ v_ => v_ = (.bool F)), (fun _ v_ => v_ = (.bool true)), (fun _ v_ => v_ = (.bool true)), (fun _ v_ => v_ = (.bool true)), (fun _ v_ => v_ = (.agg u.cells)), (fun w_ v_ => Reg.Rs (Kd.int .i64) w_ v_ SL), (fun _ v_ => v_ = (.agg u.cells)), (fun w_ v_ => Reg.Rs (Kd.int .i64) w_ v_ SL), (fun _ v_ => v_ = (.bool true)), (fun _ v_ => v_ = (.bool true)), (fun _ v_ => v_ = (.bool true)), (fun _ v_ => v_ = (.agg u.cells)), (fun _ v_ => v_ = (.agg v.cells)), (fun _ v_ => v_ = (.bool SM)), (fun _ v_ => v_ = (.agg u.cells)), (fun _ v_ => v_ = (.agg v.cells)), (fun _ v_ => v_ = (.bool SM)), (fun _ v_ => v_ = (.bool true)), (fun _ v_ => v_ = (.bool true)), (fun _ v_ => v_ = (.bool true)), (fun _ v_ => v_ = (.agg u.cells)), (fun _ v_ => v_ = (.agg u.cells)), (fun _ v_ => v_ = (.bool true)), (fun _ v_ => v_ = (.bool true)), (fun _ v_ => v_ = (.bool true)), (fun _ v_ => v_ = (.bool true)), (fun _ v_ => v_ = (.bool true)), (fun _ v_ => v_ = (.bool true))] : List (World → Value → Prop)).getD i (fun _ _ => False))
          (by kernel_rfl) (by kernel_rfl) (by kernel_rfl) (by kernel_rfl) (by kernel_rfl) (by decide) (by rfl) (Reg.mono_getD ?_) [0, 1, 2, 3, 4, 5, 6, 7, 8, 9, 10, 11, 12, 13, 14, 15, 16, 17, 18, 19, 20, 21, 22, 23, 24, 25, 26, 27, 28, 29, 30, 31, 32, 33, 34, 35, 36, 37, 38, 39, 40] (by kernel_rfl) ?_ ?_
      · exact Reg.monoS_cons (Reg.monoS_eq _) (Reg.monoS_cons (Reg.monoS_eq _) (Reg.monoS_cons (Reg.monoS_eq _) (Reg.monoS_cons (Reg.monoS_eq _) (Reg.monoS_cons (Reg.monoS_eq _) (Reg.monoS_cons (Reg.monoS_eq _) (Reg.monoS_cons (Reg.monoS_eq _) (Reg.monoS_cons (Reg.monoS_eq _) (Reg.monoS_cons (Reg.monoS_eq _) (Reg.monoS_cons (Reg.monoS_eq _) (Reg.monoS_cons (Reg.monoS_eq _) (Reg.monoS_cons (Reg.monoS_eq _) (Reg.monoS_cons (Reg.monoS_eq _) (Reg.monoS_cons (Reg.monoS_eq _) (Reg.monoS_cons (Reg.monoS_eq _) (Reg.monoS_cons (Reg.monoS_eq _) (Reg.monoS_cons (Reg.monoS_eq _) (Reg.monoS_cons (Reg.monoS_eq _) (Reg.monoS_cons (Reg.monoS_rs _ _) (Reg.monoS_cons (Reg.monoS_eq _) (Reg.monoS_cons (Reg.monoS_rs _ _) (Reg.monoS_cons (Reg.monoS_eq _) (Reg.monoS_cons (Reg.monoS_eq _) (Reg.monoS_cons (Reg.monoS_eq _) (Reg.monoS_cons (Reg.monoS_eq _) (Reg.monoS_cons (Reg.monoS_eq _) (Reg.monoS_cons (Reg.monoS_eq _) (Reg.monoS_cons (Reg.monoS_eq _) (Reg.monoS_cons (Reg.monoS_eq _) (Reg.monoS_cons (Reg.monoS_eq _) (Reg.monoS_cons (Reg.monoS_eq _) (Reg.monoS_cons (Reg.monoS_eq _) (Reg.monoS_cons (Reg.monoS_eq _) (Reg.monoS_cons (Reg.monoS_eq _) (Reg.monoS_cons (Reg.monoS_eq _) (Reg.monoS_cons (Reg.monoS_eq _) (Reg.monoS_cons (Reg.monoS_eq _) (Reg.monoS_cons (Reg.monoS_eq _) (Reg.monoS_cons (Reg.monoS_eq _) (Reg.monoS_cons (Reg.monoS_eq _) (Reg.monoS_cons (Reg.monoS_eq _) Reg.monoS_nil))))))))))))))))))))))))))))))))))))))))
      · skip
        refine Reg.rs_cons ?_ ?_
        · intro a w hb hs hel hon
          have e5 : a.tmps[5]? = some (.slice Ab X.length cb) := (hel 5 (by decide)).trans rfl
          obtain ⟨_, g5⟩ := Array.getElem?_eq_some_iff.1 e5
          refine ⟨_, rfl, fun K hK => ?_⟩
          refine value_ (w1 := w) (v := .slice Ab X.length cb) (by rfl) rfl ?_ (hK.out _ _ (Below.refl _ _) (rfl))
          · go_simp
            (try simp only [i64_w, g5])
            (try go_simp)
            try rfl
        refine Reg.rs_cons ?_ ?_
        · intro a w hb hs hel hon
          obtain ⟨_, e28, rfl⟩ := hon 0 28 (by kernel_rfl) rfl
          obtain ⟨_, g28⟩ := Array.getElem?_eq_some_iff.1 e28
          refine ⟨_, rfl, fun K hK => ?_⟩
          have hs := Kd.C_string (c := cb) (P := Tryd.prog) Tryd.underlying22 Tryd.underlying5 Tryd.underlying9 (Kd.C_below HCb4.out hb)
          refine value_ (w1 := w) (v := .string (strOfNums X)) (by rfl) rfl ?_ (hK.out _ _ (Below.refl _ _) (rfl))
          · go_simp
            (try simp only [i64_w, g28])
            (try go_simp)
            try rfl
        refine Reg.rs_cons ?_ ?_
        · intro a w hb hs hel hon
          have e7 : a.tmps[7]? = some (.slice Ax X.length cx) := (hel 7 (by decide)).trans rfl
          obtain ⟨_, g7⟩ := Array.getElem?_eq_some_iff.1 e7
          refine ⟨_, rfl, fun K hK => ?_⟩
          refine value_ (w1 := w) (v := .slice Ax X.length cx) (by rfl) rfl ?_ (hK.out _ _ (Below.refl _ _) (rfl))
          · go_simp
            (try simp only [i64_w, g7])
            (try go_simp)
            try rfl
        refine Reg.rs_cons ?_ ?_
        · intro a w hb hs hel hon
          obtain ⟨_, e30, rfl⟩ := hon 2 30 (by kernel_rfl) rfl
          obtain ⟨_, g30⟩ := Array.getElem?_eq_some_iff.1 e30
          refine ⟨_, rfl, fun K hK => ?_⟩
          have hs := Kd.C_string (c := cx) (P := Tryd.prog) Tryd.underlying22 Tryd.underlying5 Tryd.underlying9 (Kd.C_below HCx.out hb)
          refine value_ (w1 := w) (v := .string (strOfNums X)) (by rfl) rfl ?_ (hK.out _ _ (Below.refl _ _) (rfl))
          · go_simp
            (try simp only [i64_w, g30])
            (try go_simp)
            try rfl
        refine Reg.rs_cons ?_ ?_
        · intro a w hb hs hel hon
          obtain ⟨_, e29, rfl⟩ := hon 1 29 (by kernel_rfl) rfl
          obtain ⟨_, e31, rfl⟩ := hon 3 31 (by kernel_rfl) rfl
          obtain ⟨_, g29⟩ := Array.getElem?_eq_some_iff.1 e29
          obtain ⟨_, g31⟩ := Array.getElem?_eq_some_iff.1 e31
          refine ⟨_, rfl, fun K hK => ?_⟩
          refine value_ (w1 := w) (v := .bool true) (by rfl) rfl ?_ (hK.out _ _ (Below.refl _ _) (rfl))
          · go_simp
            (try simp only [i64_w, g29, g31])
            (try go_simp)
            try rfl
        refine Reg.rs_cons ?_ ?_
        · intro a w hb hs hel hon
          obtain ⟨_, e32, rfl⟩ := hon 4 32 (by kernel_rfl) rfl
          obtain ⟨_, g32⟩ := Array.getElem?_eq_some_iff.1 e32
          refine ⟨_, rfl, fun K hK => ?_⟩
          refine value_ (w1 := w) (v := .bool true) (by rfl) rfl ?_ (hK.out _ _ (Below.refl _ _) (rfl))
          · go_simp
            (try simp only [i64_w, g32])
            (try go_simp)
            try rfl
        refine Reg.rs_cons ?_ ?_
        · intro a w hb hs hel hon
          have e6 : a.tmps[6]? = some (.bool F) := (hel 6 (by decide)).trans rfl
          obtain ⟨_, e33, rfl⟩ := hon 5 33 (by kernel_rfl) rfl
          obtain ⟨_, g6⟩ := Array.getElem?_eq_some_iff.1 e6
          obtain ⟨_, g33⟩ := Array.getElem?_eq_some_iff.1 e33
          refine ⟨_, rfl, fun K hK => ?_⟩
          refine value_ (w1 := w) (v := .bool F) (wanted_on rfl rfl rfl e33) rfl ?_ (hK.out _ _ (Below.refl _ _) (rfl))
          · go_simp
            (try simp only [i64_w, g6, g33])
            (try go_simp)
            try rfl
        refine Reg.rs_cons ?_ ?_
        · intro a w hb hs hel hon
          have e8 : a.tmps[8]? = some (.bool F) := (hel 8 (by decide)).trans rfl
          obtain ⟨_, e33, rfl⟩ := hon 5 33 (by kernel_rfl) rfl
          obtain ⟨_, g8⟩ := Array.getElem?_eq_some_iff.1 e8
          obtain ⟨_, g33⟩ := Array.getElem?_eq_some_iff.1 e33
          refine ⟨_, rfl, fun K hK => ?_⟩
          refine value_ (w1 := w) (v := .bool F) (wanted_on rfl rfl rfl e33) rfl ?_ (hK.out _ _ (Below.refl _ _) (rfl))
          · go_simp
            (try simp only [i64_w, g8, g33])
            (try go_simp)
            try rfl
        refine Reg.rs_cons ?_ ?_
        · intro a w hb hs hel hon
          obtain ⟨_, e34, rfl⟩ := hon 6 34 (by kernel_rfl) rfl
          obtain ⟨_, e35, rfl⟩ := hon 7 35 (by kernel_rfl) rfl
          obtain ⟨_, e33, rfl⟩ := hon 5 33 (by kernel_rfl) rfl
          obtain ⟨_, g34⟩ := Array.getElem?_eq_some_iff.1 e34
          obtain ⟨_, g35⟩ := Array.getElem?_eq_some_iff.1 e35
          obtain ⟨_, g33⟩ := Array.getElem?_eq_some_iff.1 e33
          refine ⟨_, rfl, fun K hK => ?_⟩
          refine value_ (w1 := w) (v := .bool true) (wanted_on rfl rfl rfl e33) rfl ?_ (hK.out _ _ (Below.refl _ _) (rfl))
          · go_simp
            (try simp only [i64_w, g34, g35, g33])
            (try go_simp)
            try rfl
        refine Reg.rs_cons ?_ ?_
        · intro a w hb hs hel hon
          obtain ⟨_, e33, rfl⟩ := hon 5 33 (by kernel_rfl) rfl
          obtain ⟨_, e36, rfl⟩ := hon 8 36 (by kernel_rfl) rfl
          obtain ⟨_, g33⟩ := Array.getElem?_eq_some_iff.1 e33
          obtain ⟨_, g36⟩ := Array.getElem?_eq_some_iff.1 e36
          refine ⟨_, rfl, fun K hK => ?_⟩
          refine value_ (w1 := w) (v := .bool true) (by rfl) rfl ?_ (hK.out _ _ (Below.refl _ _) (rfl))
          · go_simp
            (try simp only [i64_w, g33, g36])
            (try go_simp)
            try rfl
        refine Reg.rs_cons ?_ ?_
        · intro a w hb hs hel hon
          obtain ⟨_, e37, rfl⟩ := hon 9 37 (by kernel_rfl) rfl
          obtain ⟨_, g37⟩ := Array.getElem?_eq_some_iff.1 e37
          refine ⟨_, rfl, fun K hK => ?_⟩
          refine value_ (w1 := w) (v := .bool true) (by rfl) rfl ?_ (hK.out _ _ (Below.refl _ _) (rfl))
          · go_simp
            (try simp only [i64_w, g37])
            (try go_simp)
            try rfl
        refine Reg.rs_cons ?_ ?_
        · intro a w hb hs hel hon
          have e2 : a.tmps[2]? = some (.pointer (some ⟨g0, 0, none⟩)) := (hel 2 (by decide)).trans rfl
          obtain ⟨_, e38, rfl⟩ := hon 10 38 (by kernel_rfl) rfl
          refine ⟨_, rfl, fun K hK => ?_⟩
          rw [if_pos (wanted_on rfl rfl rfl e38)]
          exact wp_load_row 37 (.tmp 2) rfl g0 (eval_tmp e2) 37 _ (0, 0) _ ((hb.block _ (blk_lt HGU4.out)).trans HGU4.out) Tryd.underlying37 rfl (by rw [hi]; rfl) (hK.out _ _ (Below.refl _ _) rfl)
        refine Reg.rs_cons ?_ ?_
        · intro a w hb hs hel hon
          obtain ⟨_, e39, rfl⟩ := hon 11 39 (by kernel_rfl) rfl
          obtain ⟨_, e38, rfl⟩ := hon 10 38 (by kernel_rfl) rfl
          refine ⟨_, rfl, fun K hK => ?_⟩
          refine goes_ Tryd.func21 (by kernel_rfl) rfl #[.agg u.cells] (wanted_on rfl rfl rfl e38) rfl rfl (by first | (simp only [List.map_toArray, List.map_cons, List.map_nil, Act.eval, Array.getD_eq_getD_getElem?, Option.getD_some, e39, e38]; done) | (simp only [List.map_toArray, List.map_cons, List.map_nil, Act.eval, Array.getD_eq_getD_getElem?, Option.getD_some, e39, e38]; rfl) | rfl) ?_
          refine (P3.out w (HU4.out.below hb) (HL.out.below (HB6.out.trans (hb.mono HB6.out.size)))).mono ?_
          rintro e w2 ⟨rfl, hb2⟩
          exact ⟨_, rfl, hK.out _ _ hb2 rfl⟩
        refine Reg.rs_cons ?_ ?_
        · intro a w hb hs hel hon
          have e8 : a.tmps[8]? = some (.bool F) := (hel 8 (by decide)).trans rfl
          obtain ⟨_, e38, rfl⟩ := hon 10 38 (by kernel_rfl) rfl
          obtain ⟨_, g8⟩ := Array.getElem?_eq_some_iff.1 e8
          obtain ⟨_, g38⟩ := Array.getElem?_eq_some_iff.1 e38
          refine ⟨_, rfl, fun K hK => ?_⟩
          refine value_ (w1 := w) (v := .bool F) (wanted_on rfl rfl rfl e38) rfl ?_ (hK.out _ _ (Below.refl _ _) (rfl))
          · go_simp
            (try simp only [i64_w, g8, g38])
            (try go_simp)
            try rfl
        refine Reg.rs_cons ?_ ?_
        · intro a w hb hs hel hon
          obtain ⟨_, e40, rfl⟩ := hon 12 40 (by kernel_rfl) rfl
          obtain ⟨_, e41, rfl⟩ := hon 13 41 (by kernel_rfl) rfl
          obtain ⟨_, e38, rfl⟩ := hon 10 38 (by kernel_rfl) rfl
          obtain ⟨_, g40⟩ := Array.getElem?_eq_some_iff.1 e40
          obtain ⟨_, g41⟩ := Array.getElem?_eq_some_iff.1 e41
          obtain ⟨_, g38⟩ := Array.getElem?_eq_some_iff.1 e38
          refine ⟨_, rfl, fun K hK => ?_⟩
          refine value_ (w1 := w) (v := .bool true) (wanted_on rfl rfl rfl e38) rfl ?_ (hK.out _ _ (Below.refl _ _) (rfl))
          · go_simp
            (try simp only [i64_w, g40, g41, g38])
            (try go_simp)
            try rfl
        refine Reg.rs_cons ?_ ?_
        · intro a w hb hs hel hon
          obtain ⟨_, e38, rfl⟩ := hon 10 38 (by kernel_rfl) rfl
          obtain ⟨_, e42, rfl⟩ := hon 14 42 (by kernel_rfl) rfl
          obtain ⟨_, g38⟩ := Array.getElem?_eq_some_iff.1 e38
          obtain ⟨_, g42⟩ := Array.getElem?_eq_some_iff.1 e42
          refine ⟨_, rfl, fun K hK => ?_⟩
          refine value_ (w1 := w) (v := .bool true) (by rfl) rfl ?_ (hK.out _ _ (Below.refl _ _) (rfl))
          · go_simp
            (try simp only [i64_w, g38, g42])
            (try go_simp)
            try rfl
        refine Reg.rs_cons ?_ ?_
        · intro a w hb hs hel hon
          obtain ⟨_, e43, rfl⟩ := hon 15 43 (by kernel_rfl) rfl
          obtain ⟨_, g43⟩ := Array.getElem?_eq_some_iff.1 e43
          refine ⟨_, rfl, fun K hK => ?_⟩
          refine value_ (w1 := w) (v := .bool true) (by rfl) rfl ?_ (hK.out _ _ (Below.refl _ _) (rfl))
          · go_simp
            (try simp only [i64_w, g43])
            (try go_simp)
            try rfl
        refine Reg.rs_cons ?_ ?_
        · intro a w hb hs hel hon
          have e2 : a.tmps[2]? = some (.pointer (some ⟨g0, 0, none⟩)) := (hel 2 (by decide)).trans rfl
          obtain ⟨_, e44, rfl⟩ := hon 16 44 (by kernel_rfl) rfl
          refine ⟨_, rfl, fun K hK => ?_⟩
          rw [if_pos (wanted_on rfl rfl rfl e44)]
          exact wp_load_row 37 (.tmp 2) rfl g0 (eval_tmp e2) 37 _ (0, 0) _ ((hb.block _ (blk_lt HGU4.out)).trans HGU4.out) Tryd.underlying37 rfl (by rw [hi]; rfl) (hK.out _ _ (Below.refl _ _) rfl)
        refine Reg.rs_cons ?_ ?_
        · intro a w hb hs hel hon
          obtain ⟨_, e45, rfl⟩ := hon 17 45 (by kernel_rfl) rfl
          obtain ⟨_, e44, rfl⟩ := hon 16 44 (by kernel_rfl) rfl
          refine ⟨_, rfl, fun K hK => ?_⟩
          refine goes_ Tryd.func23 (by kernel_rfl) rfl #[.agg u.cells] (wanted_on rfl rfl rfl e44) rfl rfl (by first | (simp only [List.map_toArray, List.map_cons, List.map_nil, Act.eval, Array.getD_eq_getD_getElem?, Option.getD_some, e45, e44]; done) | (simp only [List.map_toArray, List.map_cons, List.map_nil, Act.eval, Array.getD_eq_getD_getElem?, Option.getD_some, e45, e44]; rfl) | rfl) ?_
          refine (P4.out w (HU4.out.below hb)).mono ?_
          rintro e w2 ⟨v, rfl, ho, hb2⟩
          exact ⟨_, rfl, hK.out _ _ hb2 (Kd.R_reads ho)⟩
        refine Reg.rs_cons ?_ ?_
        · intro a w hb hs hel hon
          have e2 : a.tmps[2]? = some (.pointer (some ⟨g0, 0, none⟩)) := (hel 2 (by decide)).trans rfl
          obtain ⟨_, e44, rfl⟩ := hon 16 44 (by kernel_rfl) rfl
          refine ⟨_, rfl, fun K hK => ?_⟩
          rw [if_pos (wanted_on rfl rfl rfl e44)]
          exact wp_load_row 37 (.tmp 2) rfl g0 (eval_tmp e2) 37 _ (0, 0) _ ((hb.block _ (blk_lt HGU4.out)).trans HGU4.out) Tryd.underlying37 rfl (by rw [hi]; rfl) (hK.out _ _ (Below.refl _ _) rfl)
        refine Reg.rs_cons ?_ ?_
        · intro a w hb hs hel hon
          obtain ⟨_, e47, rfl⟩ := hon 19 47 (by kernel_rfl) rfl
          obtain ⟨_, e44, rfl⟩ := hon 16 44 (by kernel_rfl) rfl
          refine ⟨_, rfl, fun K hK => ?_⟩
          refine goes_ Tryd.func24 (by kernel_rfl) rfl #[.agg u.cells] (wanted_on rfl rfl rfl e44) rfl rfl (by first | (simp only [List.map_toArray, List.map_cons, List.map_nil, Act.eval, Array.getD_eq_getD_getElem?, Option.getD_some, e47, e44]; done) | (simp only [List.map_toArray, List.map_cons, List.map_nil, Act.eval, Array.getD_eq_getD_getElem?, Option.getD_some, e47, e44]; rfl) | rfl) ?_
          refine (P5.out w (HU4.out.below hb)).mono ?_
          rintro e w2 ⟨v, rfl, ho, hb2⟩
          exact ⟨_, rfl, hK.out _ _ hb2 (Kd.R_reads ho)⟩
        refine Reg.rs_cons ?_ ?_
        · intro a w hb hs hel hon
          obtain ⟨x46, e46, ⟨A_18, c_18, rfl, hl_18, hC_18⟩⟩ := hon 18 46 (by kernel_rfl) rfl
          obtain ⟨x48, e48, ⟨A_20, c_20, rfl, hl_20, hC_20⟩⟩ := hon 20 48 (by kernel_rfl) rfl
          obtain ⟨_, e44, rfl⟩ := hon 16 44 (by kernel_rfl) rfl
          refine ⟨_, rfl, fun K hK => ?_⟩
          refine goes_ Tryd.func22 (by kernel_rfl) rfl #[.slice A_18 SL.length c_18, .slice A_20 SL.length c_20] (wanted_on rfl rfl rfl e44) rfl rfl (by first | (simp only [List.map_toArray, List.map_cons, List.map_nil, Act.eval, Array.getD_eq_getD_getElem?, Option.getD_some, e46, e48, e44]; done) | (simp only [List.map_toArray, List.map_cons, List.map_nil, Act.eval, Array.getD_eq_getD_getElem?, Option.getD_some, e46, e48, e44]; rfl) | rfl) ?_
          refine (P9.out A_18 c_18 A_20 c_20 w hC_18 hl_18 hC_20 hl_20).mono ?_
          rintro e w2 ⟨rfl, hb2⟩
          exact ⟨_, rfl, hK.out _ _ hb2 rfl⟩
        refine Reg.rs_cons ?_ ?_
        · intro a w hb hs hel hon
          obtain ⟨_, e44, rfl⟩ := hon 16 44 (by kernel_rfl) rfl
          obtain ⟨_, e49, rfl⟩ := hon 21 49 (by kernel_rfl) rfl
          obtain ⟨_, g44⟩ := Array.getElem?_eq_some_iff.1 e44
          obtain ⟨_, g49⟩ := Array.getElem?_eq_some_iff.1 e49
          refine ⟨_, rfl, fun K hK => ?_⟩
          refine value_ (w1 := w) (v := .bool true) (by rfl) rfl ?_ (hK.out _ _ (Below.refl _ _) (rfl))
          · go_simp
            (try simp only [i64_w, g44, g49])
            (try go_simp)
            try rfl
        refine Reg.rs_cons ?_ ?_
        · intro a w hb hs hel hon
          obtain ⟨_, e50, rfl⟩ := hon 22 50 (by kernel_rfl) rfl
          obtain ⟨_, g50⟩ := Array.getElem?_eq_some_iff.1 e50
          refine ⟨_, rfl, fun K hK => ?_⟩
          refine value_ (w1 := w) (v := .bool true) (by rfl) rfl ?_ (hK.out _ _ (Below.refl _ _) (rfl))
          · go_simp
            (try simp only [i64_w, g50])
            (try go_simp)
            try rfl
        refine Reg.rs_cons ?_ ?_
        · intro a w hb hs hel hon
          have e2 : a.tmps[2]? = some (.pointer (some ⟨g0, 0, none⟩)) := (hel 2 (by decide)).trans rfl
          obtain ⟨_, e51, rfl⟩ := hon 23 51 (by kernel_rfl) rfl
          refine ⟨_, rfl, fun K hK => ?_⟩
          rw [if_pos (wanted_on rfl rfl rfl e51)]
          exact wp_load_row 37 (.tmp 2) rfl g0 (eval_tmp e2) 37 _ (0, 0) _ ((hb.block _ (blk_lt HGU4.out)).trans HGU4.out) Tryd.underlying37 rfl (by rw [hi]; rfl) (hK.out _ _ (Below.refl _ _) rfl)
        refine Reg.rs_cons ?_ ?_
        · intro a w hb hs hel hon
          have e3 : a.tmps[3]? = some (.pointer (some ⟨g1, 0, none⟩)) := (hel 3 (by decide)).trans rfl
          obtain ⟨_, e51, rfl⟩ := hon 23 51 (by kernel_rfl) rfl
          refine ⟨_, rfl, fun K hK => ?_⟩
          rw [if_pos (wanted_on rfl rfl rfl e51)]
          exact wp_load_row 37 (.tmp 3) rfl g1 (eval_tmp e3) 37 _ (0, 0) _ ((hb.block _ (blk_lt HGV4.out)).trans HGV4.out) Tryd.underlying37 rfl (by rw [hi]; rfl) (hK.out _ _ (Below.refl _ _) rfl)
        refine Reg.rs_cons ?_ ?_
        · intro a w hb hs hel hon
          obtain ⟨_, e52, rfl⟩ := hon 24 52 (by kernel_rfl) rfl
          obtain ⟨_, e53, rfl⟩ := hon 25 53 (by kernel_rfl) rfl
          obtain ⟨_, e51, rfl⟩ := hon 23 51 (by kernel_rfl) rfl
          refine ⟨_, rfl, fun K hK => ?_⟩
          refine goes_ Tryd.func25 (by kernel_rfl) rfl #[.agg u.cells, .agg v.cells] (wanted_on rfl rfl rfl e51) rfl rfl (by first | (simp only [List.map_toArray, List.map_cons, List.map_nil, Act.eval, Array.getD_eq_getD_getElem?, Option.getD_some, e52, e53, e51]; done) | (simp only [List.map_toArray, List.map_cons, List.map_nil, Act.eval, Array.getD_eq_getD_getElem?, Option.getD_some, e52, e53, e51]; rfl) | rfl) ?_
          refine (P6.out w (HU4.out.below hb) (HV4.out.below hb)).mono ?_
          rintro e w2 ⟨rfl, hb2⟩
          exact ⟨_, rfl, hK.out _ _ hb2 rfl⟩
        refine Reg.rs_cons ?_ ?_
        · intro a w hb hs hel hon
          have e2 : a.tmps[2]? = some (.pointer (some ⟨g0, 0, none⟩)) := (hel 2 (by decide)).trans rfl
          obtain ⟨_, e51, rfl⟩ := hon 23 51 (by kernel_rfl) rfl
          refine ⟨_, rfl, fun K hK => ?_⟩
          rw [if_pos (wanted_on rfl rfl rfl e51)]
          exact wp_load_row 37 (.tmp 2) rfl g0 (eval_tmp e2) 37 _ (0, 0) _ ((hb.block _ (blk_lt HGU4.out)).trans HGU4.out) Tryd.underlying37 rfl (by rw [hi]; rfl) (hK.out _ _ (Below.refl _ _) rfl)
        refine Reg.rs_cons ?_ ?_
        · intro a w hb hs hel hon
          have e3 : a.tmps[3]? = some (.pointer (some ⟨g1, 0, none⟩)) := (hel 3 (by decide)).trans rfl
          obtain ⟨_, e51, rfl⟩ := hon 23 51 (by kernel_rfl) rfl
          refine ⟨_, rfl, fun K hK => ?_⟩
          rw [if_pos (wanted_on rfl rfl rfl e51)]
          exact wp_load_row 37 (.tmp 3) rfl g1 (eval_tmp e3) 37 _ (0, 0) _ ((hb.block _ (blk_lt HGV4.out)).trans HGV4.out) Tryd.underlying37 rfl (by rw [hi]; rfl) (hK.out _ _ (Below.refl _ _) rfl)
        refine Reg.rs_cons ?_ ?_
        · intro a w hb hs hel hon
          obtain ⟨_, e55, rfl⟩ := hon 27 55 (by kernel_rfl) rfl
          obtain ⟨_, e56, rfl⟩ := hon 28 56 (by kernel_rfl) rfl
          obtain ⟨_, e51, rfl⟩ := hon 23 51 (by kernel_rfl) rfl
          refine ⟨_, rfl, fun K hK => ?_⟩
          refine goes_ Tryd.func26 (by kernel_rfl) rfl #[.agg u.cells, .agg v.cells] (wanted_on rfl rfl rfl e51) rfl rfl (by first | (simp only [List.map_toArray, List.map_cons, List.map_nil, Act.eval, Array.getD_eq_getD_getElem?, Option.getD_some, e55, e56, e51]; done) | (simp only [List.map_toArray, List.map_cons, List.map_nil, Act.eval, Array.getD_eq_getD_getElem?, Option.getD_some, e55, e56, e51]; rfl) | rfl) ?_
          refine (P7.out w (HU4.out.below hb) (HV4.out.below hb)).mono ?_
          rintro e w2 ⟨rfl, hb2⟩
          exact ⟨_, rfl, hK.out _ _ hb2 rfl⟩
        refine Reg.rs_cons ?_ ?_
        · intro a w hb hs hel hon
          obtain ⟨_, e54, rfl⟩ := hon 26 54 (by kernel_rfl) rfl
          obtain ⟨_, e57, rfl⟩ := hon 29 57 (by kernel_rfl) rfl
          obtain ⟨_, e51, rfl⟩ := hon 23 51 (by kernel_rfl) rfl
          obtain ⟨_, g54⟩ := Array.getElem?_eq_some_iff.1 e54
          obtain ⟨_, g57⟩ := Array.getElem?_eq_some_iff.1 e57
          obtain ⟨_, g51⟩ := Array.getElem?_eq_some_iff.1 e51
          refine ⟨_, rfl, fun K hK => ?_⟩
          refine value_ (w1 := w) (v := .bool true) (wanted_on rfl rfl rfl e51) rfl ?_ (hK.out _ _ (Below.refl _ _) (rfl))
          · go_simp
            (try simp only [i64_w, g54, g57, g51])
            (try go_simp)
            try rfl
        refine Reg.rs_cons ?_ ?_
        · intro a w hb hs hel hon
          obtain ⟨_, e51, rfl⟩ := hon 23 51 (by kernel_rfl) rfl
          obtain ⟨_, e58, rfl⟩ := hon 30 58 (by kernel_rfl) rfl
          obtain ⟨_, g51⟩ := Array.getElem?_eq_some_iff.1 e51
          obtain ⟨_, g58⟩ := Array.getElem?_eq_some_iff.1 e58
          refine ⟨_, rfl, fun K hK => ?_⟩
          refine value_ (w1 := w) (v := .bool true) (by rfl) rfl ?_ (hK.out _ _ (Below.refl _ _) (rfl))
          · go_simp
            (try simp only [i64_w, g51, g58])
            (try go_simp)
            try rfl
        refine Reg.rs_cons ?_ ?_
        · intro a w hb hs hel hon
          obtain ⟨_, e59, rfl⟩ := hon 31 59 (by kernel_rfl) rfl
          obtain ⟨_, g59⟩ := Array.getElem?_eq_some_iff.1 e59
          refine ⟨_, rfl, fun K hK => ?_⟩
          refine value_ (w1 := w) (v := .bool true) (by rfl) rfl ?_ (hK.out _ _ (Below.refl _ _) (rfl))
          · go_simp
            (try simp only [i64_w, g59])
            (try go_simp)
            try rfl
        refine Reg.rs_cons ?_ ?_
        · intro a w hb hs hel hon
          have e2 : a.tmps[2]? = some (.pointer (some ⟨g0, 0, none⟩)) := (hel 2 (by decide)).trans rfl
          obtain ⟨_, e60, rfl⟩ := hon 32 60 (by kernel_rfl) rfl
          refine ⟨_, rfl, fun K hK => ?_⟩
          rw [if_pos (wanted_on rfl rfl rfl e60)]
          exact wp_load_row 37 (.tmp 2) rfl g0 (eval_tmp e2) 37 _ (0, 0) _ ((hb.block _ (blk_lt HGU4.out)).trans HGU4.out) Tryd.underlying37 rfl (by rw [hi]; rfl) (hK.out _ _ (Below.refl _ _) rfl)
        refine Reg.rs_cons ?_ ?_
        · intro a w hb hs hel hon
          have e2 : a.tmps[2]? = some (.pointer (some ⟨g0, 0, none⟩)) := (hel 2 (by decide)).trans rfl
          obtain ⟨_, e60, rfl⟩ := hon 32 60 (by kernel_rfl) rfl
          refine ⟨_, rfl, fun K hK => ?_⟩
          rw [if_pos (wanted_on rfl rfl rfl e60)]
          exact wp_load_row 37 (.tmp 2) rfl g0 (eval_tmp e2) 37 _ (0, 0) _ ((hb.block _ (blk_lt HGU4.out)).trans HGU4.out) Tryd.underlying37 rfl (by rw [hi]; rfl) (hK.out _ _ (Below.refl _ _) rfl)
        refine Reg.rs_cons ?_ ?_
        · intro a w hb hs hel hon
          obtain ⟨_, e61, rfl⟩ := hon 33 61 (by kernel_rfl) rfl
          obtain ⟨_, e62, rfl⟩ := hon 34 62 (by kernel_rfl) rfl
          obtain ⟨_, e60, rfl⟩ := hon 32 60 (by kernel_rfl) rfl
          refine ⟨_, rfl, fun K hK => ?_⟩
          refine goes_ Tryd.func25 (by kernel_rfl) rfl #[.agg u.cells, .agg u.cells] (wanted_on rfl rfl rfl e60) rfl rfl (by first | (simp only [List.map_toArray, List.map_cons, List.map_nil, Act.eval, Array.getD_eq_getD_getElem?, Option.getD_some, e61, e62, e60]; done) | (simp only [List.map_toArray, List.map_cons, List.map_nil, Act.eval, Array.getD_eq_getD_getElem?, Option.getD_some, e61, e62, e60]; rfl) | rfl) ?_
          refine (P8.out w (HU4.out.below hb)).mono ?_
          rintro e w2 ⟨rfl, hb2⟩
          exact ⟨_, rfl, hK.out _ _ hb2 rfl⟩
        refine Reg.rs_cons ?_ ?_
        · intro a w hb hs hel hon
          obtain ⟨_, e60, rfl⟩ := hon 32 60 (by kernel_rfl) rfl
          obtain ⟨_, e63, rfl⟩ := hon 35 63 (by kernel_rfl) rfl
          obtain ⟨_, g60⟩ := Array.getElem?_eq_some_iff.1 e60
          obtain ⟨_, g63⟩ := Array.getElem?_eq_some_iff.1 e63
          refine ⟨_, rfl, fun K hK => ?_⟩
          refine value_ (w1 := w) (v := .bool true) (by rfl) rfl ?_ (hK.out _ _ (Below.refl _ _) (rfl))
          · go_simp
            (try simp only [i64_w, g60, g63])
            (try go_simp)
            try rfl
        refine Reg.rs_cons ?_ ?_
        · intro a w hb hs hel hon
          obtain ⟨_, e64, rfl⟩ := hon 36 64 (by kernel_rfl) rfl
          obtain ⟨_, g64⟩ := Array.getElem?_eq_some_iff.1 e64
          refine ⟨_, rfl, fun K hK => ?_⟩
          refine value_ (w1 := w) (v := .bool true) (by rfl) rfl ?_ (hK.out _ _ (Below.refl _ _) (rfl))
          · go_simp
            (try simp only [i64_w, g64])
            (try go_simp)
            try rfl
        refine Reg.rs_cons ?_ ?_
        · intro a w hb hs hel hon
          obtain ⟨_, e65, rfl⟩ := hon 37 65 (by kernel_rfl) rfl
          refine ⟨_, rfl, fun K hK => ?_⟩
          refine goes_ Tryd.func18 (by kernel_rfl) rfl #[] (wanted_on rfl rfl rfl e65) rfl rfl (by first | (simp only [List.map_toArray, List.map_cons, List.map_nil, Act.eval, Array.getD_eq_getD_getElem?, Option.getD_some, e65]; done) | (simp only [List.map_toArray, List.map_cons, List.map_nil, Act.eval, Array.getD_eq_getD_getElem?, Option.getD_some, e65]; rfl) | rfl) ?_
          refine (awake_c w (HL.out.below (HB6.out.trans (hb.mono HB6.out.size)))).mono ?_
          rintro e w2 ⟨rfl, hb2⟩
          exact ⟨_, rfl, hK.out _ _ hb2 rfl⟩
        refine Reg.rs_cons ?_ ?_
        · intro a w hb hs hel hon
          obtain ⟨_, e65, rfl⟩ := hon 37 65 (by kernel_rfl) rfl
          obtain ⟨_, e66, rfl⟩ := hon 38 66 (by kernel_rfl) rfl
          obtain ⟨_, g65⟩ := Array.getElem?_eq_some_iff.1 e65
          obtain ⟨_, g66⟩ := Array.getElem?_eq_some_iff.1 e66
          refine ⟨_, rfl, fun K hK => ?_⟩
          refine value_ (w1 := w) (v := .bool true) (by rfl) rfl ?_ (hK.out _ _ (Below.refl _ _) (rfl))
          · go_simp
            (try simp only [i64_w, g65, g66])
            (try go_simp)
            try rfl
        refine Reg.rs_cons ?_ ?_
        · intro a w hb hs hel hon
          obtain ⟨_, e67, rfl⟩ := hon 39 67 (by kernel_rfl) rfl
          obtain ⟨_, g67⟩ := Array.getElem?_eq_some_iff.1 e67
          refine ⟨_, rfl, fun K hK => ?_⟩
          refine value_ (w1 := w) (v := .bool true) (by rfl) rfl ?_ (hK.out _ _ (Below.refl _ _) (rfl))
          · go_simp
            (try simp only [i64_w, g67])
            (try go_simp)
            try rfl
        exact Reg.rs_nil
      · intro a w hI
        rename_i K_ hK_
        refine hK_ a w ?_
        go_wp2
        obtain ⟨v4, e4, rfl⟩ := hI.vals 40 4 rfl rfl
        exact Reg.ret_slot (R := fun e w' => e = .returned (.bool true) ∧ Below _ _ w') (by kernel_rfl) hI.defers e4 ⟨rfl, HB6.out.trans (hI.below.mono HB6.out.size)⟩
end Go.Proofs.YthbcliofjfhmbaaDoor.UPure
