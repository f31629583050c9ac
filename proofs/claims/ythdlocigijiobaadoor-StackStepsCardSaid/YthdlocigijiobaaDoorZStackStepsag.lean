/- stack.effect, walked by hand: what an instruction whose operands are there takes, and leaves. The tables lie as the program lays them. -/
import Derived.Test.YthdlocigijiobaaDoorZStackStepsaf
/- stack.effect, walked by hand: what an instruction whose operands are there takes, and leaves. The tables lie as the program lays them. -/
namespace Go.Proofs.YthdlocigijiobaaDoor.Given
open Go Go.RowKit Go.Proofs.YthdlocigijiobaaDoor.PSk Go.Proofs.YthdlocigijiobaaDoor.RPure Go.Proofs.YthdlocigijiobaaDoorW.PrintWords Go.Proofs.YthdlocigijiobaaDoorW.PrintLast Go.Proofs.YthdlocigijiobaaDoorW.PrintMore
set_option linter.unusedVariables false
set_option linter.unusedSimpArgs false
theorem Two.lit1 {w w' : World} {r : List Int} {g : Nat} (l : w.heap.size ≤ g) (b : w'.heap[g]? = some (.cells (r.map (Value.int .i64)).toArray 3 (0, 0))) (m : r.length ≤ 1000) (hb : Below w.heap.size w w') : Two w w' (.returned (.tuple #[.slice (some ⟨g, 0, none⟩) r.length r.length, .slice none 0 0])) r [] :=
  ⟨_, _, rfl, Reg.lit_own l b m (fun e : some g = none => by cases e), Kd.R_nil _ _ _ _ _, hb⟩
theorem Two.lit2 {w w' : World} {r : List Int} {g : Nat} (l : w.heap.size ≤ g) (b : w'.heap[g]? = some (.cells (r.map (Value.int .i64)).toArray 3 (0, 0))) (m : r.length ≤ 1000) (hb : Below w.heap.size w w') : Two w w' (.returned (.tuple #[.slice none 0 0, .slice (some ⟨g, 0, none⟩) r.length r.length])) [] r :=
  ⟨_, _, rfl, Kd.R_nil _ _ _ _ _, Reg.lit_own l b m (fun e : some g = none => by cases e), hb⟩
/-- A literal, handed through stack.of. -/
theorem of_lit (w w1 : World) (g : Nat) (hg : g = w1.heap.size) (xs : List Int) (cs : Array Value) (hc : cs = (xs.map (Value.int .i64)).toArray) (h : Below w.heap.size w w1) :
    Calls Tryd.prog 23 #[.slice (some ⟨g, 0, none⟩) xs.length xs.length] (w1.alloc (.cells cs 3)) fun e w2 => e = .returned (.slice (some ⟨g, 0, none⟩) xs.length xs.length) ∧ Below w.heap.size w w2 ∧ Below w1.heap.size w1 w2 ∧ w2.heap[g]? = some (.cells (xs.map (Value.int .i64)).toArray 3 (0, 0)) ∧ g < w2.heap.size := by
  subst hg
  refine (Reg.of_w _ _ _ _).mono ?_
  rintro e w2 ⟨rfl, hd⟩
  have hb := drewN_of hd
  have h1 : Below w1.heap.size w1 w2 := ((Below.refl _ _).alloc (Nat.le_refl _) _).trans (hb.mono (by simp))
  have h2 : w2.heap[w1.heap.size]? = some (.cells (xs.map (Value.int .i64)).toArray 3 (0, 0)) := by
    rw [← hc]; exact (hb.block _ (blk_lt (heap_alloc_new w1 (.cells cs 3)))).trans (heap_alloc_new w1 _)
  exact ⟨rfl, h.trans (h1.mono h.size), h1, h2, blk_lt h2⟩
def stack_effect.f (C : LC) (V : LV) (B : LB) (U : LU) (u x y z : Int) : Option (List Int × List Int) :=
  if shapeA x = 4 then stack_typed.f x y z else
  if x = 1 then (if 0 ≤ y ∧ y < (C.length : Int) then some ([], [(rd_T35 C y).f0]) else none) else
  if x = 2 then (if 0 ≤ y ∧ y < (V.length : Int) then some ([], [(rd_T37 V y).f1]) else none) else
  if x = 3 then (if 0 ≤ y ∧ y < (V.length : Int) then some ([(rd_T37 V y).f1], []) else none) else
  if x = 4 then (if 0 ≤ u ∧ u < (U.length : Int) ∧ (rd_T43 U u).f1.length ≤ 20 ∧ (rd_T43 U u).f3.length ≤ 1100 ∧ 0 ≤ y ∧ y < ((slotsF (rd_T43 U u).f1 (rd_T43 U u).f2 (rd_T43 U u).f3).length : Int) then some ([], [rd (slotsF (rd_T43 U u).f1 (rd_T43 U u).f2 (rd_T43 U u).f3) y]) else none) else
  if x = 5 then (if 0 ≤ u ∧ u < (U.length : Int) ∧ (rd_T43 U u).f1.length ≤ 20 ∧ (rd_T43 U u).f3.length ≤ 1100 ∧ 0 ≤ y ∧ y < ((slotsF (rd_T43 U u).f1 (rd_T43 U u).f2 (rd_T43 U u).f3).length : Int) then some ([rd (slotsF (rd_T43 U u).f1 (rd_T43 U u).f2 (rd_T43 U u).f3) y], []) else none) else
  if x = 6 then (if 0 ≤ y ∧ y < (V.length : Int) then some ([2], [(rd_T37 V y).f1]) else none) else
  if x = 7 then (if 0 ≤ y ∧ y < (V.length : Int) then some ([2, (rd_T37 V y).f1], []) else none) else
  if x = 27 then some ([0], [0, 0]) else
  if x = 28 then some ([0], []) else
  if x = 29 then some ([0, 0], [0, 0]) else
  if x = 31 then some ([1], []) else
  if x = 32 then some ([2], []) else
  if x = 33 then (if 0 ≤ y ∧ y < (U.length : Int) ∧ (rd_T43 U y).f1.length ≤ 20 then some ((rd_T43 U y).f1, if (rd_T43 U y).f2 = 0 then [] else [(rd_T43 U y).f2]) else none) else
  if x = 35 then (stack_field.f C V B U x y z).bind fun t => some ([t], []) else
  if x = 37 then (stack_field.f C V B U x y z).bind fun t => some ([], [t]) else some ([], [])
set_option maxHeartbeats 8000000 in
set_option maxRecDepth 100000 in
theorem effect_w (A0 : Option Addr) (c0 : Nat) (C : LC) (A1 : Option Addr) (c1 : Nat) (V : LV) (A2 : Option Addr) (c2 : Nat) (B : LB) (A3 : Option Addr) (c3 : Nat) (U : LU) (u x y z : Int) (r1 r2 : List Int) (w : World)
    (g0 : Kd.C k35 w A0 C.length C) (g1 : Kd.C k37 w A1 V.length V) (g2 : Kd.C k39 w A2 B.length B) (g3 : Kd.C k43 w A3 U.length U) (h : stack_effect.f C V B U u x y z = some (r1, r2)) (hL : LaidAll w) :
    Calls Tryd.prog 22 #[.agg #[.slice A0 C.length c0, .slice A1 V.length c1, .slice A2 B.length c2, .slice A3 U.length c3], .int .i64 u, .agg #[.int .i64 x, .int .i64 y, .int .i64 z]] w fun e w' => Two w w' e r1 r2 := by
  unfold stack_effect.f at h
  have m0 := g0.2.1
  have m1 := g1.2.1
  have m3 := g3.2.1
  have HX := Aside0.mk (show Boxes w ((w.alloc (.cells #[.slice A0 C.length c0, .slice A1 V.length c1, .slice A2 B.length c2, .slice A3 U.length c3] 27)).alloc (.cells #[.int .i64 x, .int .i64 y, .int .i64 z] 29)) A0 C.length c0 A1 V.length c1 A2 B.length c2 A3 U.length c3 x y z from ⟨((Below.refl w.heap.size w).alloc (Nat.le_refl _) _).alloc (by simp) _, heap_alloc2_old w _ _, heap_alloc2_new w _ _⟩)
  have HL := Aside0.mk hL
  have G0 := Aside0.mk g0
  have G1 := Aside0.mk g1
  have G2 := Aside0.mk g2
  have G3 := Aside0.mk g3
  clear g0 g1 g2 g3 hL
  by_cases t4 : shapeA x = 4
  · rw [if_pos t4] at h
    have PS := Aside0.mk (fun W (hL : LaidOps W) => op_Shape.calls x 4 (shapeB x) W (by unfold op_Shape.f; rw [t4]) hL)
    have PT := Aside0.mk (fun W hL => stack_typed.calls x y z r1 r2 W h hL)
    go_enter Tryd.func22, Tryd.ntmps22
    go_wp2_with fail
    refine (PS.out _ (HL.out.below HX.out.below).ops).mono ?_
    rintro e w1 ⟨rfl, hb⟩
    have HX1 := Aside0.mk (HX.out.step hb)
    clear hb PS
    obtain ⟨⟨q0, q1, q2, q3⟩, i0, i1, i2⟩ := HX1.out.cells
    go_wp2_with fail
    refine (PT.out _ (HL.out.below HX1.out.below)).mono ?_
    rintro e w2 ⟨v0, v1, rfl, ho0, ho1, hb⟩
    have HE := Aside0.mk (show Two w w2 (.returned (.tuple #[v0, v1])) r1 r2 from ⟨_, _, rfl, Kd.R_lower ho0 HX1.out.below.size, Kd.R_lower ho1 HX1.out.below.size, HX1.out.below.trans (hb.mono HX1.out.below.size)⟩)
    clear ho0 ho1 hb q0 q1 q2 q3 i0 i1 i2
    go_wp2_with fail
    go_ret2
    exact HE.out
  rw [if_neg t4] at h
  by_cases a1 : x = 1
  · rw [if_pos a1] at h
    subst a1
    have PS := Aside0.mk (fun W (hL : LaidOps W) => op_Shape.calls 1 1 0 W (by rfl) hL)
    by_cases b0 : 0 ≤ y ∧ y < (C.length : Int)
    rotate_left
    · rw [if_neg b0] at h; cases h
    rw [if_pos b0] at h
    obtain ⟨rfl, rfl⟩ := Prod.mk.inj (Option.some.inj h)
    obtain ⟨m, rfl⟩ : ∃ m : Nat, y = m := ⟨y.toNat, by omega⟩
    have hm : m < C.length := by omega
    clear h b0
    go_enter Tryd.func22, Tryd.ntmps22
    go_wp2_with fail
    refine (PS.out _ (HL.out.below HX.out.below).ops).mono ?_
    rintro e w1 ⟨rfl, hb⟩
    have HX1 := Aside0.mk (HX.out.step hb)
    clear hb PS
    obtain ⟨⟨q0, q1, q2, q3⟩, i0, i1, i2⟩ := HX1.out.cells
    obtain ⟨ad, rfl, k0, k1⟩ := at_T35 (Kd.C_below G0.out HX1.out.below) (m : Int) (by omega) (by omega)
    rw [Int.toNat_natCast] at k0 k1
    go_wp2_with fail
    refine (of_lit w w1 _ rfl ([(rd_T35 C (m : Int)).f0] : List Int) _ rfl HX1.out.below).mono ?_
    rintro e w9 ⟨rfl, hb, -, hl, -⟩
    have HE := Aside0.mk (Two.lit2 (HX1.out.below).size hl (by simp) hb)
    clear hb hl
    go_wp2_with fail
    go_ret2
    exact HE.out
  rw [if_neg a1] at h
  by_cases a2 : x = 2
  · rw [if_pos a2] at h
    subst a2
    have PS := Aside0.mk (fun W (hL : LaidOps W) => op_Shape.calls 2 2 0 W (by rfl) hL)
    by_cases b0 : 0 ≤ y ∧ y < (V.length : Int)
    rotate_left
    · rw [if_neg b0] at h; cases h
    rw [if_pos b0] at h
    obtain ⟨rfl, rfl⟩ := Prod.mk.inj (Option.some.inj h)
    obtain ⟨m, rfl⟩ : ∃ m : Nat, y = m := ⟨y.toNat, by omega⟩
    have hm : m < V.length := by omega
    clear h b0
    go_enter Tryd.func22, Tryd.ntmps22
    go_wp2_with fail
    refine (PS.out _ (HL.out.below HX.out.below).ops).mono ?_
    rintro e w1 ⟨rfl, hb⟩
    have HX1 := Aside0.mk (HX.out.step hb)
    clear hb PS
    obtain ⟨⟨q0, q1, q2, q3⟩, i0, i1, i2⟩ := HX1.out.cells
    obtain ⟨ad, rfl, k0, k1, k2, k3, k4⟩ := at_T37 (Kd.C_below G1.out HX1.out.below) (m : Int) (by omega) (by omega)
    rw [Int.toNat_natCast] at k0 k1 k2 k3 k4
    go_wp2_with fail
    refine (of_lit w w1 _ rfl ([(rd_T37 V (m : Int)).f1] : List Int) _ rfl HX1.out.below).mono ?_
    rintro e w9 ⟨rfl, hb, -, hl, -⟩
    have HE := Aside0.mk (Two.lit2 (HX1.out.below).size hl (by simp) hb)
    clear hb hl
    go_wp2_with fail
    go_ret2
    exact HE.out
  rw [if_neg a2] at h
  by_cases a3 : x = 3
  · rw [if_pos a3] at h
    subst a3
    have PS := Aside0.mk (fun W (hL : LaidOps W) => op_Shape.calls 3 2 0 W (by rfl) hL)
    by_cases b0 : 0 ≤ y ∧ y < (V.length : Int)
    rotate_left
    · rw [if_neg b0] at h; cases h
    rw [if_pos b0] at h
    obtain ⟨rfl, rfl⟩ := Prod.mk.inj (Option.some.inj h)
    obtain ⟨m, rfl⟩ : ∃ m : Nat, y = m := ⟨y.toNat, by omega⟩
    have hm : m < V.length := by omega
    clear h b0
    go_enter Tryd.func22, Tryd.ntmps22
    go_wp2_with fail
    refine (PS.out _ (HL.out.below HX.out.below).ops).mono ?_
    rintro e w1 ⟨rfl, hb⟩
    have HX1 := Aside0.mk (HX.out.step hb)
    clear hb PS
    obtain ⟨⟨q0, q1, q2, q3⟩, i0, i1, i2⟩ := HX1.out.cells
    obtain ⟨ad, rfl, k0, k1, k2, k3, k4⟩ := at_T37 (Kd.C_below G1.out HX1.out.below) (m : Int) (by omega) (by omega)
    rw [Int.toNat_natCast] at k0 k1 k2 k3 k4
    go_wp2_with fail
    refine (of_lit w w1 _ rfl ([(rd_T37 V (m : Int)).f1] : List Int) _ rfl HX1.out.below).mono ?_
    rintro e w9 ⟨rfl, hb, -, hl, -⟩
    have HE := Aside0.mk (Two.lit1 (HX1.out.below).size hl (by simp) hb)
    clear hb hl
    go_wp2_with fail
    go_ret2
    exact HE.out
  rw [if_neg a3] at h
  by_cases a4 : x = 4
  · rw [if_pos a4] at h
    subst a4
    have PS := Aside0.mk (fun W (hL : LaidOps W) => op_Shape.calls 4 3 0 W (by rfl) hL)
    by_cases bg : 0 ≤ u ∧ u < (U.length : Int) ∧ (rd_T43 U u).f1.length ≤ 20 ∧ (rd_T43 U u).f3.length ≤ 1100 ∧ 0 ≤ y ∧ y < ((slotsF (rd_T43 U u).f1 (rd_T43 U u).f2 (rd_T43 U u).f3).length : Int)
    rotate_left
    · rw [if_neg bg] at h; cases h
    rw [if_pos bg] at h
    obtain ⟨rfl, rfl⟩ := Prod.mk.inj (Option.some.inj h)
    clear h
    obtain ⟨m, rfl⟩ : ∃ m : Nat, u = m := ⟨u.toNat, by omega⟩
    have hm : m < U.length := by omega
    have hs := slots_is (rd_T43 U (m : Int)).f0 (rd_T43 U (m : Int)).f1 (rd_T43 U (m : Int)).f2 (rd_T43 U (m : Int)).f3 (rd_T43 U (m : Int)).f4 (by omega) (by omega)
    have hy0 := bg.2.2.2.2.1
    have hy1 := bg.2.2.2.2.2
    clear bg
    generalize slotsF (rd_T43 U (m : Int)).f1 (rd_T43 U (m : Int)).f2 (rd_T43 U (m : Int)).f3 = SL at *
    generalize hX_ : rd_T43 U (m : Int) = X at *
    have HXX := Aside0.mk hX_
    have PSL := Aside0.mk hs
    clear hX_ hs
    go_enter Tryd.func22, Tryd.ntmps22
    go_wp2_with fail
    refine (PS.out _ (HL.out.below HX.out.below).ops).mono ?_
    rintro e w1 ⟨rfl, hb⟩
    have HX1 := Aside0.mk (HX.out.step hb)
    clear hb PS
    obtain ⟨⟨q0, q1, q2, q3⟩, i0, i1, i2⟩ := HX1.out.cells
    go_wp2_with fail
    clear q0 q1 q2 q3 i0 i1 i2
    have HXB := Aside0.mk HX1.out.below
    have HP := Aside0.mk HX1.out.p
    have HI := Aside0.mk HX1.out.i
    have HG := Aside0.mk (Kd.C_below G3.out HX1.out.below)
    clear G0 G1 G2 G3
    clear HX1
    obtain ⟨b1, hb1⟩ : ∃ b, b = w.heap.size + 1 := ⟨_, rfl⟩
    rw [← hb1] at HI ⊢
    obtain ⟨b0, hb0⟩ : ∃ b, b = w.heap.size := ⟨_, rfl⟩
    rw [← hb0] at HP ⊢
    clear hb1 hb0
    have HSZ := Aside0.mk HXB.out.size
    have HLX := Aside0.mk (HL.out.below HXB.out)
    obtain ⟨ad, B1, d1, B3, d3, B4, d4, rfl, k0, k1, k2, k3, k4, hd1, hC1, hd3, hC3, hd4, hC4⟩ := at_T43 HG.out (m : Int) (by omega) (by omega)
    rw [Int.toNat_natCast] at k0 k1 k2 k3 k4
    rw [HXX.out] at k0 k1 k2 k3 k4 hC1 hd1 hC3 hd3 hC4 hd4
    have HK := Aside0.mk (fun (W : World) (hb : Below w1.heap.size w1 W) => And.intro (pw_cell_below hb k0) (And.intro (pw_cell_below hb k1) (And.intro (pw_cell_below hb k2) (And.intro (pw_cell_below hb k3) (pw_cell_below hb k4)))))
    have HC1 := Aside0.mk hC1
    have HC3 := Aside0.mk hC3
    have HC4 := Aside0.mk hC4
    clear k0 k1 k2 k3 k4 hC1 hC3 hC4 HG
    generalize hb0_ : w.heap.size = b0_ at HSZ
    refine Reg.region_e (Reg.Dis [] [70, 71, 7]) [some 60, some 61, some 62, some 63, some 64, some 65, some 66, some 67, some 68, some 69, some 70, some 71, some 6, some 7] [0, 1, 0, 7, 15, 31, 0, 64, 255, 511, 1023, 2047, 4095, 8191] (true, [([], []), ([0], [0]), ([], []), ([1, 2], [1, 2]), ([3], [3]), ([4], [4]), ([], []), ([6], [6]), ([5, 7], [5, 7]), ([8], [8]), ([9], [9]), ([10, 5], [10]), ([11], []), ([11, 12, 0, 1, 2, 3, 4, 5, 6, 7, 8, 9, 10, 11, 12], [11])]) (fun i => ([(fun _ v_ => v_ = (.pointer (some ⟨b0, 3, none⟩))), (fun _ v_ => v_ = (.slice (some ad) U.length c3)), (fun _ v_ => v_ = (.int .i64 (m : Int))), (fun _ v_ => v_ = (.pointer (some (ad.add (m * 5))))), (fun _ v_ => v_ = (.agg #[.string X.f0, .slice B1 X.f1.length d1, .int .i64 X.f2, .slice B3 X.f3.length d3, .slice B4 X.f4.length d4])), (fun w_ v_ => Reg.Rs (Kd.int .i64) w_ v_ SL), (fun _ v_ => v_ = (.pointer (some ⟨b1, 1, none⟩))), (fun _ v_ => v_ = (.int .i64 y)), (Reg.PtrTo (.int .i64 (rd SL y))), (fun _ v_ => v_ = (.int .i64 (rd SL y))), (Reg.Lit b0_ ([rd SL y] : List Int)), (Reg.Lit b0_ ([rd SL y] : List Int)), (fun _ v_ => v_ = (.slice none 0 0)), (Reg.Lit b0_ ([rd SL y] : List Int))] : List (World → Value → Prop)).getD i (fun _ _ => False))
        (by kernel_rfl) (by kernel_rfl) (by kernel_rfl) (by kernel_rfl) (by kernel_rfl) (by decide) (by rfl) (Reg.mono_getD ?_) [0, 1, 2, 3, 4, 5, 6, 7, 8, 9, 10, 11, 12, 13] (by kernel_rfl) ?_ ?_ ?_
    · exact Reg.monoS_cons (Reg.monoS_eq _) (Reg.monoS_cons (Reg.monoS_eq _) (Reg.monoS_cons (Reg.monoS_eq _) (Reg.monoS_cons (Reg.monoS_eq _) (Reg.monoS_cons (Reg.monoS_eq _) (Reg.monoS_cons (Reg.monoS_rs _ _) (Reg.monoS_cons (Reg.monoS_eq _) (Reg.monoS_cons (Reg.monoS_eq _) (Reg.monoS_cons (Reg.ptr_mono _) (Reg.monoS_cons (Reg.monoS_eq _) (Reg.monoS_cons (Reg.lit_mono _ _) (Reg.monoS_cons (Reg.lit_mono _ _) (Reg.monoS_cons (Reg.monoS_eq _) (Reg.monoS_cons (Reg.lit_mono _ _) Reg.monoS_nil)))))))))))))
    · intro w hw; exact Reg.dis_start (by rfl)
    · skip
      refine Reg.re_cons (Reg.RStepE.of_r (fun oi hoi a w v w' he hs => by cases hoi; exact Reg.dis_keep he (by decide) hs) ?_) ?_
      · intro a w hb hs hel hon
        have e3 : a.tmps[3]? = some (.pointer (some ⟨b0, 0, none⟩)) := (hel 3 (by decide)).trans rfl
        obtain ⟨_, g3⟩ := Array.getElem?_eq_some_iff.1 e3
        refine ⟨_, rfl, fun K hK => ?_⟩
        refine value_ (w1 := w) (v := .pointer (some ⟨b0, 3, none⟩)) (by rfl) rfl ?_ (hK.out _ _ (Below.refl _ _) (rfl))
        · go_simp
          (try simp only [i64_w, g3])
          (try go_simp)
          try rfl
      refine Reg.re_cons (Reg.RStepE.of_r (fun oi hoi a w v w' he hs => by cases hoi; exact Reg.dis_keep he (by decide) hs) ?_) ?_
      · intro a w hb hs hel hon
        obtain ⟨_, e60, rfl⟩ := hon 0 60 (by kernel_rfl) rfl
        obtain ⟨_, g60⟩ := Array.getElem?_eq_some_iff.1 e60
        refine ⟨_, rfl, fun K hK => ?_⟩
        have q_HP3 : w.cell? ⟨b0, 3, none⟩ = some (.slice (some ad) U.length c3) := (blk_cell ((hb.block _ (blk_lt HP.out)).trans HP.out) 3).trans rfl
        refine value_ (w1 := w) (v := .slice (some ad) U.length c3) (by rfl) rfl ?_ (hK.out _ _ (Below.refl _ _) (rfl))
        · go_simp
          (try simp only [i64_w, g60])
          (try go_simp)
          try rfl
      refine Reg.re_cons (Reg.RStepE.of_r (fun oi hoi a w v w' he hs => by cases hoi; exact Reg.dis_keep he (by decide) hs) ?_) ?_
      · intro a w hb hs hel hon
        have e1 : a.tmps[1]? = some (.int .i64 (m : Int)) := (hel 1 (by decide)).trans rfl
        obtain ⟨_, g1⟩ := Array.getElem?_eq_some_iff.1 e1
        refine ⟨_, rfl, fun K hK => ?_⟩
        refine value_ (w1 := w) (v := .int .i64 (m : Int)) (by rfl) rfl ?_ (hK.out _ _ (Below.refl _ _) (rfl))
        · go_simp
          (try simp only [i64_w, g1])
          (try go_simp)
          try rfl
      refine Reg.re_cons (Reg.RStepE.of_r (fun oi hoi a w v w' he hs => by cases hoi; exact Reg.dis_keep he (by decide) hs) ?_) ?_
      · intro a w hb hs hel hon
        obtain ⟨_, e61, rfl⟩ := hon 1 61 (by kernel_rfl) rfl
        obtain ⟨_, e62, rfl⟩ := hon 2 62 (by kernel_rfl) rfl
        obtain ⟨_, g61⟩ := Array.getElem?_eq_some_iff.1 e61
        obtain ⟨_, g62⟩ := Array.getElem?_eq_some_iff.1 e62
        refine ⟨_, rfl, fun K hK => ?_⟩
        have hm2_ : (m : Int) < (U.length : Int) := by omega
        refine value_ (w1 := w) (v := .pointer (some (ad.add (m * 5)))) (by rfl) rfl ?_ (hK.out _ _ (Below.refl _ _) (rfl))
        · go_simp
          (try simp only [i64_w, g61, g62])
          (try go_simp)
          try rfl
      refine Reg.re_cons (Reg.RStepE.of_r (fun oi hoi a w v w' he hs => by cases hoi; exact Reg.dis_keep he (by decide) hs) ?_) ?_
      · intro a w hb hs hel hon
        obtain ⟨_, e63, rfl⟩ := hon 3 63 (by kernel_rfl) rfl
        obtain ⟨_, g63⟩ := Array.getElem?_eq_some_iff.1 e63
        refine ⟨_, rfl, fun K hK => ?_⟩
        obtain ⟨k0, k1, k2, k3, k4⟩ := HK.out _ hb
        refine value_ (w1 := w) (v := .agg #[.string X.f0, .slice B1 X.f1.length d1, .int .i64 X.f2, .slice B3 X.f3.length d3, .slice B4 X.f4.length d4]) (by rfl) rfl ?_ (hK.out _ _ (Below.refl _ _) (rfl))
        · go_simp
          (try simp only [i64_w, g63])
          (try go_simp)
          try rfl
      refine Reg.re_cons (Reg.RStepE.of_r (fun oi hoi a w v w' he hs => by cases hoi; exact Reg.dis_keep he (by decide) hs) ?_) ?_
      · intro a w hb hs hel hon
        obtain ⟨_, e64, rfl⟩ := hon 4 64 (by kernel_rfl) rfl
        refine ⟨_, rfl, fun K hK => ?_⟩
        refine goes_ Tryd.func36 (by kernel_rfl) rfl #[.agg #[.string X.f0, .slice B1 X.f1.length d1, .int .i64 X.f2, .slice B3 X.f3.length d3, .slice B4 X.f4.length d4]] (by rfl) rfl rfl (by first | (simp only [List.map_toArray, List.map_cons, List.map_nil, Act.eval, Array.getD_eq_getD_getElem?, Option.getD_some, e64]; done) | (simp only [List.map_toArray, List.map_cons, List.map_nil, Act.eval, Array.getD_eq_getD_getElem?, Option.getD_some, e64]; rfl) | rfl) ?_
        refine (unit_Slots.calls X.f0 B1 d1 X.f1 X.f2 B3 d3 X.f3 B4 d4 X.f4 SL w (Kd.C_below HC1.out hb) hd1 (Kd.C_below HC3.out hb) hd3 (Kd.C_below HC4.out hb) hd4 PSL.out).mono ?_
        rintro e w2 ⟨v, rfl, ho, hb2⟩
        exact ⟨_, rfl, hK.out _ _ hb2 (Kd.R_reads ho)⟩
      refine Reg.re_cons (Reg.RStepE.of_r (fun oi hoi a w v w' he hs => by cases hoi; exact Reg.dis_keep he (by decide) hs) ?_) ?_
      · intro a w hb hs hel hon
        have e5 : a.tmps[5]? = some (.pointer (some ⟨b1, 0, none⟩)) := (hel 5 (by decide)).trans rfl
        obtain ⟨_, g5⟩ := Array.getElem?_eq_some_iff.1 e5
        refine ⟨_, rfl, fun K hK => ?_⟩
        refine value_ (w1 := w) (v := .pointer (some ⟨b1, 1, none⟩)) (by rfl) rfl ?_ (hK.out _ _ (Below.refl _ _) (rfl))
        · go_simp
          (try simp only [i64_w, g5])
          (try go_simp)
          try rfl
      refine Reg.re_cons (Reg.RStepE.of_r (fun oi hoi a w v w' he hs => by cases hoi; exact Reg.dis_keep he (by decide) hs) ?_) ?_
      · intro a w hb hs hel hon
        obtain ⟨_, e66, rfl⟩ := hon 6 66 (by kernel_rfl) rfl
        obtain ⟨_, g66⟩ := Array.getElem?_eq_some_iff.1 e66
        refine ⟨_, rfl, fun K hK => ?_⟩
        have q_HI1 : w.cell? ⟨b1, 1, none⟩ = some (.int .i64 y) := (blk_cell ((hb.block _ (blk_lt HI.out)).trans HI.out) 1).trans rfl
        refine value_ (w1 := w) (v := .int .i64 y) (by rfl) rfl ?_ (hK.out _ _ (Below.refl _ _) (rfl))
        · go_simp
          (try simp only [i64_w, g66])
          (try go_simp)
          try rfl
      refine Reg.re_cons (Reg.RStepE.of_r (fun oi hoi a w v w' he hs => by cases hoi; exact Reg.dis_keep he (by decide) hs) ?_) ?_
      · intro a w hb hs hel hon
        obtain ⟨x65, e65, ⟨A_5, c_5, rfl, hl_5, hC_5⟩⟩ := hon 5 65 (by kernel_rfl) rfl
        obtain ⟨_, e67, rfl⟩ := hon 7 67 (by kernel_rfl) rfl
        obtain ⟨_, g65⟩ := Array.getElem?_eq_some_iff.1 e65
        obtain ⟨_, g67⟩ := Array.getElem?_eq_some_iff.1 e67
        refine ⟨_, rfl, fun K hK => ?_⟩
        obtain ⟨aq, rfl, hq⟩ := Kd.at_int hC_5 y hy0 hy1
        have hSL := hC_5.2.1
        refine value_ (w1 := w) (v := .pointer (some (aq.add y.toNat))) (by rfl) rfl ?_ (hK.out _ _ (Below.refl _ _) (⟨_, rfl, hq⟩))
        · go_simp
          (try simp only [i64_w, g65, g67])
          (try go_simp)
          try rfl
      refine Reg.re_cons (Reg.RStepE.of_r (fun oi hoi a w v w' he hs => by cases hoi; exact Reg.dis_keep he (by decide) hs) ?_) ?_
      · intro a w hb hs hel hon
        obtain ⟨x68, e68, ⟨p_8, rfl, hp_8⟩⟩ := hon 8 68 (by kernel_rfl) rfl
        obtain ⟨_, g68⟩ := Array.getElem?_eq_some_iff.1 e68
        refine ⟨_, rfl, fun K hK => ?_⟩
        refine value_ (w1 := w) (v := .int .i64 (rd SL y)) (by rfl) rfl ?_ (hK.out _ _ (Below.refl _ _) (rfl))
        · go_simp
          (try simp only [i64_w, g68])
          (try go_simp)
          try rfl
      refine Reg.re_cons ?_ ?_
      · intro a w hb hs hel hE hon
        obtain ⟨_, e69, rfl⟩ := hon 9 69 (by kernel_rfl) rfl
        obtain ⟨_, g69⟩ := Array.getElem?_eq_some_iff.1 e69
        refine ⟨_, rfl, fun K hK => ?_⟩
        refine value_ (w1 := w.alloc (.cells #[.int .i64 (rd SL y)] 3)) (v := .slice (some ⟨w.heap.size, 0, none⟩) ([rd SL y] : List Int).length ([rd SL y] : List Int).length) (by rfl) rfl ?_ (hK.out _ _ ((Below.refl _ _).alloc (Nat.le_refl _) _) (Reg.lit_of_alloc w ([rd SL y] : List Int) (Nat.le_trans HSZ.out hb.size) _ (by rfl)) (Reg.dis_swap (Reg.dis_new (Reg.dis_swap hE) (by decide) (by simp))))
        · go_simp
          (try simp only [i64_w, g69])
          (try go_simp)
          try rfl
      refine Reg.re_cons ?_ ?_
      · intro a w hb hs hel hE hon
        obtain ⟨_, e70, gq, rfl, hg0, hg⟩ := hon 10 70 (by kernel_rfl) rfl
        refine ⟨_, rfl, fun K hK => ?_⟩
        refine goes_ Tryd.func23 (by kernel_rfl) rfl #[.slice (some ⟨gq, 0, none⟩) ([rd SL y] : List Int).length ([rd SL y] : List Int).length] (by rfl) rfl rfl (by first | (simp only [List.map_toArray, List.map_cons, List.map_nil, Act.eval, Array.getD_eq_getD_getElem?, Option.getD_some, e70]; done) | (simp only [List.map_toArray, List.map_cons, List.map_nil, Act.eval, Array.getD_eq_getD_getElem?, Option.getD_some, e70]; rfl) | rfl) ?_
        refine (Reg.of_w _ _ _ _).mono ?_
        rintro e w2 ⟨rfl, hd⟩
        have hb2 := drewN_of hd
        exact ⟨_, rfl, hK.out _ _ hb2 ⟨gq, rfl, hg0, (hb2.block gq (blk_lt hg)).trans hg⟩ (Reg.dis_swap (Reg.dis_copy (Reg.dis_swap hE) (s := 70) (by decide) ⟨_, e70⟩ (by decide) hb2.size))⟩
      refine Reg.re_cons (Reg.RStepE.of_r (fun oi hoi a w v w' he hs => by cases hoi; exact Reg.dis_keep he (by decide) hs) ?_) ?_
      · intro a w hb hs hel hon
        refine ⟨_, rfl, fun K hK => ?_⟩
        refine value_ (w1 := w) (v := .slice none 0 0) (by rfl) rfl ?_ (hK.out _ _ (Below.refl _ _) (rfl))
        · go_simp
          (try simp only [i64_w])
          (try go_simp)
          try rfl
      refine Reg.re_cons ?_ ?_
      · intro a w hb hs hel hE hon
        obtain ⟨_, e71, gq, rfl, hg0, hg⟩ := hon 11 71 (by kernel_rfl) rfl
        obtain ⟨_, g71⟩ := Array.getElem?_eq_some_iff.1 e71
        refine ⟨_, rfl, fun K hK => ?_⟩
        refine value_ (w1 := w) (v := .slice (some ⟨gq, 0, none⟩) ([rd SL y] : List Int).length ([rd SL y] : List Int).length) (by rfl) rfl ?_ (hK.out _ _ (Below.refl _ _) ⟨gq, rfl, hg0, hg⟩ (Reg.dis_swap (Reg.dis_copy (Reg.dis_swap hE) (s := 71) (by decide) ⟨_, e71⟩ (by decide) (Nat.le_refl _))))
        · go_simp
          (try simp only [g71])
          (try go_simp)
          try rfl
      exact Reg.re_nil
    · intro a w hw_
      rename_i K_ hK_
      refine hK_ a w ?_
      obtain ⟨hI, hE⟩ := hw_
      obtain ⟨_, e7, ga, rfl, la, ba⟩ := hI.vals 13 7 rfl rfl
      obtain ⟨_, e6, rfl⟩ := hI.vals 12 6 rfl rfl
      have HE := Aside0.mk (Two.lit2 (Nat.le_trans (Nat.le_of_eq hb0_) la) ba (by simp) (HXB.out.trans (hI.below.mono HXB.out.size)))
      have G6 := Reg.getD_of e6
      have G7 := Reg.getD_of e7
      have hfr := hI.frame
      rw [hfr]
      simp only [Reg.puts, Act.put, List.setIfInBounds_toArray, List.set_cons_zero, List.set_cons_succ]
      rw [G6, G7]
      generalize a.tmps = ts_
      clear hI hE hfr hK_ e6 e7 G6 G7 ba la
      go_wp2_with fail
      go_ret2
      exact HE.out
  rw [if_neg a4] at h
  by_cases a5 : x = 5
  · rw [if_pos a5] at h
    subst a5
    have PS := Aside0.mk (fun W (hL : LaidOps W) => op_Shape.calls 5 3 0 W (by rfl) hL)
    by_cases bg : 0 ≤ u ∧ u < (U.length : Int) ∧ (rd_T43 U u).f1.length ≤ 20 ∧ (rd_T43 U u).f3.length ≤ 1100 ∧ 0 ≤ y ∧ y < ((slotsF (rd_T43 U u).f1 (rd_T43 U u).f2 (rd_T43 U u).f3).length : Int)
    rotate_left
    · rw [if_neg bg] at h; cases h
    rw [if_pos bg] at h
    obtain ⟨rfl, rfl⟩ := Prod.mk.inj (Option.some.inj h)
    clear h
    obtain ⟨m, rfl⟩ : ∃ m : Nat, u = m := ⟨u.toNat, by omega⟩
    have hm : m < U.length := by omega
    have hs := slots_is (rd_T43 U (m : Int)).f0 (rd_T43 U (m : Int)).f1 (rd_T43 U (m : Int)).f2 (rd_T43 U (m : Int)).f3 (rd_T43 U (m : Int)).f4 (by omega) (by omega)
    have hy0 := bg.2.2.2.2.1
    have hy1 := bg.2.2.2.2.2
    clear bg
    generalize slotsF (rd_T43 U (m : Int)).f1 (rd_T43 U (m : Int)).f2 (rd_T43 U (m : Int)).f3 = SL at *
    generalize hX_ : rd_T43 U (m : Int) = X at *
    have HXX := Aside0.mk hX_
    have PSL := Aside0.mk hs
    clear hX_ hs
    go_enter Tryd.func22, Tryd.ntmps22
    go_wp2_with fail
    refine (PS.out _ (HL.out.below HX.out.below).ops).mono ?_
    rintro e w1 ⟨rfl, hb⟩
    have HX1 := Aside0.mk (HX.out.step hb)
    clear hb PS
    obtain ⟨⟨q0, q1, q2, q3⟩, i0, i1, i2⟩ := HX1.out.cells
    go_wp2_with fail
    clear q0 q1 q2 q3 i0 i1 i2
    have HXB := Aside0.mk HX1.out.below
    have HP := Aside0.mk HX1.out.p
    have HI := Aside0.mk HX1.out.i
    have HG := Aside0.mk (Kd.C_below G3.out HX1.out.below)
    clear G0 G1 G2 G3
    clear HX1
    obtain ⟨b1, hb1⟩ : ∃ b, b = w.heap.size + 1 := ⟨_, rfl⟩
    rw [← hb1] at HI ⊢
    obtain ⟨b0, hb0⟩ : ∃ b, b = w.heap.size := ⟨_, rfl⟩
    rw [← hb0] at HP ⊢
    clear hb1 hb0
    have HSZ := Aside0.mk HXB.out.size
    have HLX := Aside0.mk (HL.out.below HXB.out)
    obtain ⟨ad, B1, d1, B3, d3, B4, d4, rfl, k0, k1, k2, k3, k4, hd1, hC1, hd3, hC3, hd4, hC4⟩ := at_T43 HG.out (m : Int) (by omega) (by omega)
    rw [Int.toNat_natCast] at k0 k1 k2 k3 k4
    rw [HXX.out] at k0 k1 k2 k3 k4 hC1 hd1 hC3 hd3 hC4 hd4
    have HK := Aside0.mk (fun (W : World) (hb : Below w1.heap.size w1 W) => And.intro (pw_cell_below hb k0) (And.intro (pw_cell_below hb k1) (And.intro (pw_cell_below hb k2) (And.intro (pw_cell_below hb k3) (pw_cell_below hb k4)))))
    have HC1 := Aside0.mk hC1
    have HC3 := Aside0.mk hC3
    have HC4 := Aside0.mk hC4
    clear k0 k1 k2 k3 k4 hC1 hC3 hC4 HG
    generalize hb0_ : w.heap.size = b0_ at HSZ
    refine Reg.region_e (Reg.Dis [84, 85, 6] []) [some 74, some 75, some 76, some 77, some 78, some 79, some 80, some 81, some 82, some 83, some 84, some 85, some 6, some 7] [0, 1, 0, 7, 15, 31, 0, 64, 255, 511, 1023, 2047, 4095, 8191] (true, [([], []), ([0], [0]), ([], []), ([1, 2], [1, 2]), ([3], [3]), ([4], [4]), ([], []), ([6], [6]), ([5, 7], [5, 7]), ([8], [8]), ([9], [9]), ([10, 5], [10]), ([11, 11, 0, 1, 2, 3, 4, 5, 6, 7, 8, 9, 10, 11], [11]), ([12, 0, 1, 2, 3, 4, 5, 6, 7, 8, 9, 10, 11, 12], [])]) (fun i => ([(fun _ v_ => v_ = (.pointer (some ⟨b0, 3, none⟩))), (fun _ v_ => v_ = (.slice (some ad) U.length c3)), (fun _ v_ => v_ = (.int .i64 (m : Int))), (fun _ v_ => v_ = (.pointer (some (ad.add (m * 5))))), (fun _ v_ => v_ = (.agg #[.string X.f0, .slice B1 X.f1.length d1, .int .i64 X.f2, .slice B3 X.f3.length d3, .slice B4 X.f4.length d4])), (fun w_ v_ => Reg.Rs (Kd.int .i64) w_ v_ SL), (fun _ v_ => v_ = (.pointer (some ⟨b1, 1, none⟩))), (fun _ v_ => v_ = (.int .i64 y)), (Reg.PtrTo (.int .i64 (rd SL y))), (fun _ v_ => v_ = (.int .i64 (rd SL y))), (Reg.Lit b0_ ([rd SL y] : List Int)), (Reg.Lit b0_ ([rd SL y] : List Int)), (Reg.Lit b0_ ([rd SL y] : List Int)), (fun _ v_ => v_ = (.slice none 0 0))] : List (World → Value → Prop)).getD i (fun _ _ => False))
        (by kernel_rfl) (by kernel_rfl) (by kernel_rfl) (by kernel_rfl) (by kernel_rfl) (by decide) (by rfl) (Reg.mono_getD ?_) [0, 1, 2, 3, 4, 5, 6, 7, 8, 9, 10, 11, 12, 13] (by kernel_rfl) ?_ ?_ ?_
    · exact Reg.monoS_cons (Reg.monoS_eq _) (Reg.monoS_cons (Reg.monoS_eq _) (Reg.monoS_cons (Reg.monoS_eq _) (Reg.monoS_cons (Reg.monoS_eq _) (Reg.monoS_cons (Reg.monoS_eq _) (Reg.monoS_cons (Reg.monoS_rs _ _) (Reg.monoS_cons (Reg.monoS_eq _) (Reg.monoS_cons (Reg.monoS_eq _) (Reg.monoS_cons (Reg.ptr_mono _) (Reg.monoS_cons (Reg.monoS_eq _) (Reg.monoS_cons (Reg.lit_mono _ _) (Reg.monoS_cons (Reg.lit_mono _ _) (Reg.monoS_cons (Reg.lit_mono _ _) (Reg.monoS_cons (Reg.monoS_eq _) Reg.monoS_nil)))))))))))))
    · intro w hw; exact Reg.dis_start (by rfl)
    · skip
      refine Reg.re_cons (Reg.RStepE.of_r (fun oi hoi a w v w' he hs => by cases hoi; exact Reg.dis_keep he (by decide) hs) ?_) ?_
      · intro a w hb hs hel hon
        have e3 : a.tmps[3]? = some (.pointer (some ⟨b0, 0, none⟩)) := (hel 3 (by decide)).trans rfl
        obtain ⟨_, g3⟩ := Array.getElem?_eq_some_iff.1 e3
        refine ⟨_, rfl, fun K hK => ?_⟩
        refine value_ (w1 := w) (v := .pointer (some ⟨b0, 3, none⟩)) (by rfl) rfl ?_ (hK.out _ _ (Below.refl _ _) (rfl))
        · go_simp
          (try simp only [i64_w, g3])
          (try go_simp)
          try rfl
      refine Reg.re_cons (Reg.RStepE.of_r (fun oi hoi a w v w' he hs => by cases hoi; exact Reg.dis_keep he (by decide) hs) ?_) ?_
      · intro a w hb hs hel hon
        obtain ⟨_, e74, rfl⟩ := hon 0 74 (by kernel_rfl) rfl
        obtain ⟨_, g74⟩ := Array.getElem?_eq_some_iff.1 e74
        refine ⟨_, rfl, fun K hK => ?_⟩
        have q_HP3 : w.cell? ⟨b0, 3, none⟩ = some (.slice (some ad) U.length c3) := (blk_cell ((hb.block _ (blk_lt HP.out)).trans HP.out) 3).trans rfl
        refine value_ (w1 := w) (v := .slice (some ad) U.length c3) (by rfl) rfl ?_ (hK.out _ _ (Below.refl _ _) (rfl))
        · go_simp
          (try simp only [i64_w, g74])
          (try go_simp)
          try rfl
      refine Reg.re_cons (Reg.RStepE.of_r (fun oi hoi a w v w' he hs => by cases hoi; exact Reg.dis_keep he (by decide) hs) ?_) ?_
      · intro a w hb hs hel hon
        have e1 : a.tmps[1]? = some (.int .i64 (m : Int)) := (hel 1 (by decide)).trans rfl
        obtain ⟨_, g1⟩ := Array.getElem?_eq_some_iff.1 e1
        refine ⟨_, rfl, fun K hK => ?_⟩
        refine value_ (w1 := w) (v := .int .i64 (m : Int)) (by rfl) rfl ?_ (hK.out _ _ (Below.refl _ _) (rfl))
        · go_simp
          (try simp only [i64_w, g1])
          (try go_simp)
          try rfl
      refine Reg.re_cons (Reg.RStepE.of_r (fun oi hoi a w v w' he hs => by cases hoi; exact Reg.dis_keep he (by decide) hs) ?_) ?_
      · intro a w hb hs hel hon
        obtain ⟨_, e75, rfl⟩ := hon 1 75 (by kernel_rfl) rfl
        obtain ⟨_, e76, rfl⟩ := hon 2 76 (by kernel_rfl) rfl
        obtain ⟨_, g75⟩ := Array.getElem?_eq_some_iff.1 e75
        obtain ⟨_, g76⟩ := Array.getElem?_eq_some_iff.1 e76
        refine ⟨_, rfl, fun K hK => ?_⟩
        have hm2_ : (m : Int) < (U.length : Int) := by omega
        refine value_ (w1 := w) (v := .pointer (some (ad.add (m * 5)))) (by rfl) rfl ?_ (hK.out _ _ (Below.refl _ _) (rfl))
        · go_simp
          (try simp only [i64_w, g75, g76])
          (try go_simp)
          try rfl
      refine Reg.re_cons (Reg.RStepE.of_r (fun oi hoi a w v w' he hs => by cases hoi; exact Reg.dis_keep he (by decide) hs) ?_) ?_
      · intro a w hb hs hel hon
        obtain ⟨_, e77, rfl⟩ := hon 3 77 (by kernel_rfl) rfl
        obtain ⟨_, g77⟩ := Array.getElem?_eq_some_iff.1 e77
        refine ⟨_, rfl, fun K hK => ?_⟩
        obtain ⟨k0, k1, k2, k3, k4⟩ := HK.out _ hb
        refine value_ (w1 := w) (v := .agg #[.string X.f0, .slice B1 X.f1.length d1, .int .i64 X.f2, .slice B3 X.f3.length d3, .slice B4 X.f4.length d4]) (by rfl) rfl ?_ (hK.out _ _ (Below.refl _ _) (rfl))
        · go_simp
          (try simp only [i64_w, g77])
          (try go_simp)
          try rfl
      refine Reg.re_cons (Reg.RStepE.of_r (fun oi hoi a w v w' he hs => by cases hoi; exact Reg.dis_keep he (by decide) hs) ?_) ?_
      · intro a w hb hs hel hon
        obtain ⟨_, e78, rfl⟩ := hon 4 78 (by kernel_rfl) rfl
        refine ⟨_, rfl, fun K hK => ?_⟩
        refine goes_ Tryd.func36 (by kernel_rfl) rfl #[.agg #[.string X.f0, .slice B1 X.f1.length d1, .int .i64 X.f2, .slice B3 X.f3.length d3, .slice B4 X.f4.length d4]] (by rfl) rfl rfl (by first | (simp only [List.map_toArray, List.map_cons, List.map_nil, Act.eval, Array.getD_eq_getD_getElem?, Option.getD_some, e78]; done) | (simp only [List.map_toArray, List.map_cons, List.map_nil, Act.eval, Array.getD_eq_getD_getElem?, Option.getD_some, e78]; rfl) | rfl) ?_
        refine (unit_Slots.calls X.f0 B1 d1 X.f1 X.f2 B3 d3 X.f3 B4 d4 X.f4 SL w (Kd.C_below HC1.out hb) hd1 (Kd.C_below HC3.out hb) hd3 (Kd.C_below HC4.out hb) hd4 PSL.out).mono ?_
        rintro e w2 ⟨v, rfl, ho, hb2⟩
        exact ⟨_, rfl, hK.out _ _ hb2 (Kd.R_reads ho)⟩
      refine Reg.re_cons (Reg.RStepE.of_r (fun oi hoi a w v w' he hs => by cases hoi; exact Reg.dis_keep he (by decide) hs) ?_) ?_
      · intro a w hb hs hel hon
        have e5 : a.tmps[5]? = some (.pointer (some ⟨b1, 0, none⟩)) := (hel 5 (by decide)).trans rfl
        obtain ⟨_, g5⟩ := Array.getElem?_eq_some_iff.1 e5
        refine ⟨_, rfl, fun K hK => ?_⟩
        refine value_ (w1 := w) (v := .pointer (some ⟨b1, 1, none⟩)) (by rfl) rfl ?_ (hK.out _ _ (Below.refl _ _) (rfl))
        · go_simp
          (try simp only [i64_w, g5])
          (try go_simp)
          try rfl
      refine Reg.re_cons (Reg.RStepE.of_r (fun oi hoi a w v w' he hs => by cases hoi; exact Reg.dis_keep he (by decide) hs) ?_) ?_
      · intro a w hb hs hel hon
        obtain ⟨_, e80, rfl⟩ := hon 6 80 (by kernel_rfl) rfl
        obtain ⟨_, g80⟩ := Array.getElem?_eq_some_iff.1 e80
        refine ⟨_, rfl, fun K hK => ?_⟩
        have q_HI1 : w.cell? ⟨b1, 1, none⟩ = some (.int .i64 y) := (blk_cell ((hb.block _ (blk_lt HI.out)).trans HI.out) 1).trans rfl
        refine value_ (w1 := w) (v := .int .i64 y) (by rfl) rfl ?_ (hK.out _ _ (Below.refl _ _) (rfl))
        · go_simp
          (try simp only [i64_w, g80])
          (try go_simp)
          try rfl
      refine Reg.re_cons (Reg.RStepE.of_r (fun oi hoi a w v w' he hs => by cases hoi; exact Reg.dis_keep he (by decide) hs) ?_) ?_
      · intro a w hb hs hel hon
        obtain ⟨x79, e79, ⟨A_5, c_5, rfl, hl_5, hC_5⟩⟩ := hon 5 79 (by kernel_rfl) rfl
        obtain ⟨_, e81, rfl⟩ := hon 7 81 (by kernel_rfl) rfl
        obtain ⟨_, g79⟩ := Array.getElem?_eq_some_iff.1 e79
        obtain ⟨_, g81⟩ := Array.getElem?_eq_some_iff.1 e81
        refine ⟨_, rfl, fun K hK => ?_⟩
        obtain ⟨aq, rfl, hq⟩ := Kd.at_int hC_5 y hy0 hy1
        have hSL := hC_5.2.1
        refine value_ (w1 := w) (v := .pointer (some (aq.add y.toNat))) (by rfl) rfl ?_ (hK.out _ _ (Below.refl _ _) (⟨_, rfl, hq⟩))
        · go_simp
          (try simp only [i64_w, g79, g81])
          (try go_simp)
          try rfl
      refine Reg.re_cons (Reg.RStepE.of_r (fun oi hoi a w v w' he hs => by cases hoi; exact Reg.dis_keep he (by decide) hs) ?_) ?_
      · intro a w hb hs hel hon
        obtain ⟨x82, e82, ⟨p_8, rfl, hp_8⟩⟩ := hon 8 82 (by kernel_rfl) rfl
        obtain ⟨_, g82⟩ := Array.getElem?_eq_some_iff.1 e82
        refine ⟨_, rfl, fun K hK => ?_⟩
        refine value_ (w1 := w) (v := .int .i64 (rd SL y)) (by rfl) rfl ?_ (hK.out _ _ (Below.refl _ _) (rfl))
        · go_simp
          (try simp only [i64_w, g82])
          (try go_simp)
          try rfl
      refine Reg.re_cons ?_ ?_
      · intro a w hb hs hel hE hon
        obtain ⟨_, e83, rfl⟩ := hon 9 83 (by kernel_rfl) rfl
        obtain ⟨_, g83⟩ := Array.getElem?_eq_some_iff.1 e83
        refine ⟨_, rfl, fun K hK => ?_⟩
        refine value_ (w1 := w.alloc (.cells #[.int .i64 (rd SL y)] 3)) (v := .slice (some ⟨w.heap.size, 0, none⟩) ([rd SL y] : List Int).length ([rd SL y] : List Int).length) (by rfl) rfl ?_ (hK.out _ _ ((Below.refl _ _).alloc (Nat.le_refl _) _) (Reg.lit_of_alloc w ([rd SL y] : List Int) (Nat.le_trans HSZ.out hb.size) _ (by rfl)) (Reg.dis_new hE (by decide) (by simp)))
        · go_simp
          (try simp only [i64_w, g83])
          (try go_simp)
          try rfl
      refine Reg.re_cons ?_ ?_
      · intro a w hb hs hel hE hon
        obtain ⟨_, e84, gq, rfl, hg0, hg⟩ := hon 10 84 (by kernel_rfl) rfl
        refine ⟨_, rfl, fun K hK => ?_⟩
        refine goes_ Tryd.func23 (by kernel_rfl) rfl #[.slice (some ⟨gq, 0, none⟩) ([rd SL y] : List Int).length ([rd SL y] : List Int).length] (by rfl) rfl rfl (by first | (simp only [List.map_toArray, List.map_cons, List.map_nil, Act.eval, Array.getD_eq_getD_getElem?, Option.getD_some, e84]; done) | (simp only [List.map_toArray, List.map_cons, List.map_nil, Act.eval, Array.getD_eq_getD_getElem?, Option.getD_some, e84]; rfl) | rfl) ?_
        refine (Reg.of_w _ _ _ _).mono ?_
        rintro e w2 ⟨rfl, hd⟩
        have hb2 := drewN_of hd
        exact ⟨_, rfl, hK.out _ _ hb2 ⟨gq, rfl, hg0, (hb2.block gq (blk_lt hg)).trans hg⟩ (Reg.dis_copy hE (s := 84) (by decide) ⟨_, e84⟩ (by decide) hb2.size)⟩
      refine Reg.re_cons ?_ ?_
      · intro a w hb hs hel hE hon
        obtain ⟨_, e85, gq, rfl, hg0, hg⟩ := hon 11 85 (by kernel_rfl) rfl
        obtain ⟨_, g85⟩ := Array.getElem?_eq_some_iff.1 e85
        refine ⟨_, rfl, fun K hK => ?_⟩
        refine value_ (w1 := w) (v := .slice (some ⟨gq, 0, none⟩) ([rd SL y] : List Int).length ([rd SL y] : List Int).length) (by rfl) rfl ?_ (hK.out _ _ (Below.refl _ _) ⟨gq, rfl, hg0, hg⟩ (Reg.dis_copy hE (s := 85) (by decide) ⟨_, e85⟩ (by decide) (Nat.le_refl _)))
        · go_simp
          (try simp only [g85])
          (try go_simp)
          try rfl
      refine Reg.re_cons (Reg.RStepE.of_r (fun oi hoi a w v w' he hs => by cases hoi; exact Reg.dis_keep he (by decide) hs) ?_) ?_
      · intro a w hb hs hel hon
        refine ⟨_, rfl, fun K hK => ?_⟩
        refine value_ (w1 := w) (v := .slice none 0 0) (by rfl) rfl ?_ (hK.out _ _ (Below.refl _ _) (rfl))
        · go_simp
          (try simp only [i64_w])
          (try go_simp)
          try rfl
      exact Reg.re_nil
    · intro a w hw_
      rename_i K_ hK_
      refine hK_ a w ?_
      obtain ⟨hI, hE⟩ := hw_
      obtain ⟨_, e6, ga, rfl, la, ba⟩ := hI.vals 12 6 rfl rfl
      obtain ⟨_, e7, rfl⟩ := hI.vals 13 7 rfl rfl
      have HE := Aside0.mk (Two.lit1 (Nat.le_trans (Nat.le_of_eq hb0_) la) ba (by simp) (HXB.out.trans (hI.below.mono HXB.out.size)))
      have G6 := Reg.getD_of e6
      have G7 := Reg.getD_of e7
      have hfr := hI.frame
      rw [hfr]
      simp only [Reg.puts, Act.put, List.setIfInBounds_toArray, List.set_cons_zero, List.set_cons_succ]
      rw [G6, G7]
      generalize a.tmps = ts_
      clear hI hE hfr hK_ e6 e7 G6 G7 ba la
      go_wp2_with fail
      go_ret2
      exact HE.out
  rw [if_neg a5] at h
  by_cases a6 : x = 6
  · rw [if_pos a6] at h
    subst a6
    have PS := Aside0.mk (fun W (hL : LaidOps W) => op_Shape.calls 6 2 0 W (by rfl) hL)
    by_cases b0 : 0 ≤ y ∧ y < (V.length : Int)
    rotate_left
    · rw [if_neg b0] at h; cases h
    rw [if_pos b0] at h
    obtain ⟨rfl, rfl⟩ := Prod.mk.inj (Option.some.inj h)
    obtain ⟨m, rfl⟩ : ∃ m : Nat, y = m := ⟨y.toNat, by omega⟩
    have hm : m < V.length := by omega
    clear h b0
    go_enter Tryd.func22, Tryd.ntmps22
    go_wp2_with fail
    refine (PS.out _ (HL.out.below HX.out.below).ops).mono ?_
    rintro e w1 ⟨rfl, hb⟩
    have HX1 := Aside0.mk (HX.out.step hb)
    clear hb PS
    obtain ⟨⟨q0, q1, q2, q3⟩, i0, i1, i2⟩ := HX1.out.cells
    obtain ⟨ad, rfl, k0, k1, k2, k3, k4⟩ := at_T37 (Kd.C_below G1.out HX1.out.below) (m : Int) (by omega) (by omega)
    rw [Int.toNat_natCast] at k0 k1 k2 k3 k4
    clear k0 k2 k3 k4
    go_wp2_with fail
    clear q0 q1 q2 q3 i0 i1 i2
    have HXB := Aside0.mk HX1.out.below
    have HP := Aside0.mk HX1.out.p
    have HI := Aside0.mk HX1.out.i
    clear HX1
    obtain ⟨b1, hb1⟩ : ∃ b, b = w.heap.size + 1 := ⟨_, rfl⟩
    rw [← hb1] at HI ⊢
    obtain ⟨b0, hb0⟩ : ∃ b, b = w.heap.size := ⟨_, rfl⟩
    rw [← hb0] at HP ⊢
    clear hb1 hb0
    have HSZ := Aside0.mk HXB.out.size
    have HLX := Aside0.mk (HL.out.below HXB.out)
    have HK := Aside0.mk (fun (W : World) (hb : Below w1.heap.size w1 W) => pw_cell_below hb k1)
    clear k1 G0 G1 G2 G3
    generalize hb0_ : w.heap.size = b0_ at HSZ
    refine Reg.region_e (Reg.Dis [88, 89, 6] [97, 98, 7]) [some 88, some 89, some 90, some 91, some 92, some 93, some 94, some 95, some 96, some 97, some 98, some 6, some 7] [0, 1, 0, 4, 0, 16, 60, 124, 252, 508, 1023, 2047, 4095] (true, [([], []), ([0], [0]), ([], []), ([2], [2]), ([], []), ([4], [4]), ([3, 5], [3, 5]), ([6], [6]), ([7], [7]), ([8], [8]), ([9, 1], [9]), ([1, 10, 0, 1], [1]), ([10, 11, 0, 1, 2, 3, 4, 5, 6, 7, 8, 9, 10, 11], [10])]) (fun i => ([(Reg.Lit b0_ ([2] : List Int)), (Reg.Lit b0_ ([2] : List Int)), (fun _ v_ => v_ = (.pointer (some ⟨b0, 1, none⟩))), (fun _ v_ => v_ = (.slice (some ad) V.length c1)), (fun _ v_ => v_ = (.pointer (some ⟨b1, 1, none⟩))), (fun _ v_ => v_ = (.int .i64 (m : Int))), (fun _ v_ => v_ = (.pointer (some (ad.add (m * 5))))), (fun _ v_ => v_ = (.pointer (some ⟨(ad.add (m * 5)).block, (ad.add (m * 5)).off + 1, none⟩))), (fun _ v_ => v_ = (.int .i64 ((rd_T37 V (m : Int)).f1))), (Reg.Lit b0_ ([(rd_T37 V (m : Int)).f1] : List Int)), (Reg.Lit b0_ ([(rd_T37 V (m : Int)).f1] : List Int)), (Reg.Lit b0_ ([2] : List Int)), (Reg.Lit b0_ ([(rd_T37 V (m : Int)).f1] : List Int))] : List (World → Value → Prop)).getD i (fun _ _ => False))
        (by kernel_rfl) (by kernel_rfl) (by kernel_rfl) (by kernel_rfl) (by kernel_rfl) (by decide) (by rfl) (Reg.mono_getD ?_) [0, 1, 2, 3, 4, 5, 6, 7, 8, 9, 10, 11, 12] (by kernel_rfl) ?_ ?_ ?_
    · exact Reg.monoS_cons (Reg.lit_mono _ _) (Reg.monoS_cons (Reg.lit_mono _ _) (Reg.monoS_cons (Reg.monoS_eq _) (Reg.monoS_cons (Reg.monoS_eq _) (Reg.monoS_cons (Reg.monoS_eq _) (Reg.monoS_cons (Reg.monoS_eq _) (Reg.monoS_cons (Reg.monoS_eq _) (Reg.monoS_cons (Reg.monoS_eq _) (Reg.monoS_cons (Reg.monoS_eq _) (Reg.monoS_cons (Reg.lit_mono _ _) (Reg.monoS_cons (Reg.lit_mono _ _) (Reg.monoS_cons (Reg.lit_mono _ _) (Reg.monoS_cons (Reg.lit_mono _ _) Reg.monoS_nil))))))))))))
    · intro w hw; exact Reg.dis_start (by rfl)
    · skip
      refine Reg.re_cons ?_ ?_
      · intro a w hb hs hel hE hon
        refine ⟨_, rfl, fun K hK => ?_⟩
        refine value_ (w1 := w.alloc (.cells #[.int .i64 2] 3)) (v := .slice (some ⟨w.heap.size, 0, none⟩) ([2] : List Int).length ([2] : List Int).length) (by rfl) rfl ?_ (hK.out _ _ ((Below.refl _ _).alloc (Nat.le_refl _) _) (Reg.lit_of_alloc w ([2] : List Int) (Nat.le_trans HSZ.out hb.size) _ (by rfl)) (Reg.dis_new hE (by decide) (by simp)))
        · go_simp
          (try simp only [i64_w])
          (try go_simp)
          try rfl
      refine Reg.re_cons ?_ ?_
      · intro a w hb hs hel hE hon
        obtain ⟨_, e88, gq, rfl, hg0, hg⟩ := hon 0 88 (by kernel_rfl) rfl
        refine ⟨_, rfl, fun K hK => ?_⟩
        refine goes_ Tryd.func23 (by kernel_rfl) rfl #[.slice (some ⟨gq, 0, none⟩) ([2] : List Int).length ([2] : List Int).length] (by rfl) rfl rfl (by first | (simp only [List.map_toArray, List.map_cons, List.map_nil, Act.eval, Array.getD_eq_getD_getElem?, Option.getD_some, e88]; done) | (simp only [List.map_toArray, List.map_cons, List.map_nil, Act.eval, Array.getD_eq_getD_getElem?, Option.getD_some, e88]; rfl) | rfl) ?_
        refine (Reg.of_w _ _ _ _).mono ?_
        rintro e w2 ⟨rfl, hd⟩
        have hb2 := drewN_of hd
        exact ⟨_, rfl, hK.out _ _ hb2 ⟨gq, rfl, hg0, (hb2.block gq (blk_lt hg)).trans hg⟩ (Reg.dis_copy hE (s := 88) (by decide) ⟨_, e88⟩ (by decide) hb2.size)⟩
      refine Reg.re_cons (Reg.RStepE.of_r (fun oi hoi a w v w' he hs => by cases hoi; exact Reg.dis_keep he (by decide) hs) ?_) ?_
      · intro a w hb hs hel hon
        have e3 : a.tmps[3]? = some (.pointer (some ⟨b0, 0, none⟩)) := (hel 3 (by decide)).trans rfl
        obtain ⟨_, g3⟩ := Array.getElem?_eq_some_iff.1 e3
        refine ⟨_, rfl, fun K hK => ?_⟩
        refine value_ (w1 := w) (v := .pointer (some ⟨b0, 1, none⟩)) (by rfl) rfl ?_ (hK.out _ _ (Below.refl _ _) (rfl))
        · go_simp
          (try simp only [i64_w, g3])
          (try go_simp)
          try rfl
      refine Reg.re_cons (Reg.RStepE.of_r (fun oi hoi a w v w' he hs => by cases hoi; exact Reg.dis_keep he (by decide) hs) ?_) ?_
      · intro a w hb hs hel hon
        obtain ⟨_, e90, rfl⟩ := hon 2 90 (by kernel_rfl) rfl
        obtain ⟨_, g90⟩ := Array.getElem?_eq_some_iff.1 e90
        refine ⟨_, rfl, fun K hK => ?_⟩
        have q_HP1 : w.cell? ⟨b0, 1, none⟩ = some (.slice (some ad) V.length c1) := (blk_cell ((hb.block _ (blk_lt HP.out)).trans HP.out) 1).trans rfl
        refine value_ (w1 := w) (v := .slice (some ad) V.length c1) (by rfl) rfl ?_ (hK.out _ _ (Below.refl _ _) (rfl))
        · go_simp
          (try simp only [i64_w, g90])
          (try go_simp)
          try rfl
      refine Reg.re_cons (Reg.RStepE.of_r (fun oi hoi a w v w' he hs => by cases hoi; exact Reg.dis_keep he (by decide) hs) ?_) ?_
      · intro a w hb hs hel hon
        have e5 : a.tmps[5]? = some (.pointer (some ⟨b1, 0, none⟩)) := (hel 5 (by decide)).trans rfl
        obtain ⟨_, g5⟩ := Array.getElem?_eq_some_iff.1 e5
        refine ⟨_, rfl, fun K hK => ?_⟩
        refine value_ (w1 := w) (v := .pointer (some ⟨b1, 1, none⟩)) (by rfl) rfl ?_ (hK.out _ _ (Below.refl _ _) (rfl))
        · go_simp
          (try simp only [i64_w, g5])
          (try go_simp)
          try rfl
      refine Reg.re_cons (Reg.RStepE.of_r (fun oi hoi a w v w' he hs => by cases hoi; exact Reg.dis_keep he (by decide) hs) ?_) ?_
      · intro a w hb hs hel hon
        obtain ⟨_, e92, rfl⟩ := hon 4 92 (by kernel_rfl) rfl
        obtain ⟨_, g92⟩ := Array.getElem?_eq_some_iff.1 e92
        refine ⟨_, rfl, fun K hK => ?_⟩
        have q_HI1 : w.cell? ⟨b1, 1, none⟩ = some (.int .i64 (m : Int)) := (blk_cell ((hb.block _ (blk_lt HI.out)).trans HI.out) 1).trans rfl
        refine value_ (w1 := w) (v := .int .i64 (m : Int)) (by rfl) rfl ?_ (hK.out _ _ (Below.refl _ _) (rfl))
        · go_simp
          (try simp only [i64_w, g92])
          (try go_simp)
          try rfl
      refine Reg.re_cons (Reg.RStepE.of_r (fun oi hoi a w v w' he hs => by cases hoi; exact Reg.dis_keep he (by decide) hs) ?_) ?_
      · intro a w hb hs hel hon
        obtain ⟨_, e91, rfl⟩ := hon 3 91 (by kernel_rfl) rfl
        obtain ⟨_, e93, rfl⟩ := hon 5 93 (by kernel_rfl) rfl
        obtain ⟨_, g91⟩ := Array.getElem?_eq_some_iff.1 e91
        obtain ⟨_, g93⟩ := Array.getElem?_eq_some_iff.1 e93
        refine ⟨_, rfl, fun K hK => ?_⟩
        have hm2_ : (m : Int) < (V.length : Int) := by omega
        refine value_ (w1 := w) (v := .pointer (some (ad.add (m * 5)))) (by rfl) rfl ?_ (hK.out _ _ (Below.refl _ _) (rfl))
        · go_simp
          (try simp only [i64_w, g91, g93])
          (try go_simp)
          try rfl
      refine Reg.re_cons (Reg.RStepE.of_r (fun oi hoi a w v w' he hs => by cases hoi; exact Reg.dis_keep he (by decide) hs) ?_) ?_
      · intro a w hb hs hel hon
        obtain ⟨_, e94, rfl⟩ := hon 6 94 (by kernel_rfl) rfl
        obtain ⟨_, g94⟩ := Array.getElem?_eq_some_iff.1 e94
        refine ⟨_, rfl, fun K hK => ?_⟩
        refine value_ (w1 := w) (v := .pointer (some ⟨(ad.add (m * 5)).block, (ad.add (m * 5)).off + 1, none⟩)) (by rfl) rfl ?_ (hK.out _ _ (Below.refl _ _) (rfl))
        · go_simp
          (try simp only [i64_w, g94])
          (try go_simp)
          try rfl
      refine Reg.re_cons (Reg.RStepE.of_r (fun oi hoi a w v w' he hs => by cases hoi; exact Reg.dis_keep he (by decide) hs) ?_) ?_
      · intro a w hb hs hel hon
        obtain ⟨_, e95, rfl⟩ := hon 7 95 (by kernel_rfl) rfl
        obtain ⟨_, g95⟩ := Array.getElem?_eq_some_iff.1 e95
        refine ⟨_, rfl, fun K hK => ?_⟩
        have kk_ := HK.out _ hb
        refine value_ (w1 := w) (v := .int .i64 ((rd_T37 V (m : Int)).f1)) (by rfl) rfl ?_ (hK.out _ _ (Below.refl _ _) (rfl))
        · go_simp
          (try simp only [i64_w, g95])
          (try go_simp)
          try rfl
      refine Reg.re_cons ?_ ?_
      · intro a w hb hs hel hE hon
        obtain ⟨_, e96, rfl⟩ := hon 8 96 (by kernel_rfl) rfl
        obtain ⟨_, g96⟩ := Array.getElem?_eq_some_iff.1 e96
        refine ⟨_, rfl, fun K hK => ?_⟩
        refine value_ (w1 := w.alloc (.cells #[.int .i64 ((rd_T37 V (m : Int)).f1)] 3)) (v := .slice (some ⟨w.heap.size, 0, none⟩) ([(rd_T37 V (m : Int)).f1] : List Int).length ([(rd_T37 V (m : Int)).f1] : List Int).length) (by rfl) rfl ?_ (hK.out _ _ ((Below.refl _ _).alloc (Nat.le_refl _) _) (Reg.lit_of_alloc w ([(rd_T37 V (m : Int)).f1] : List Int) (Nat.le_trans HSZ.out hb.size) _ (by rfl)) (Reg.dis_swap (Reg.dis_new (Reg.dis_swap hE) (by decide) (by simp))))
        · go_simp
          (try simp only [i64_w, g96])
          (try go_simp)
          try rfl
      refine Reg.re_cons ?_ ?_
      · intro a w hb hs hel hE hon
        obtain ⟨_, e97, gq, rfl, hg0, hg⟩ := hon 9 97 (by kernel_rfl) rfl
        refine ⟨_, rfl, fun K hK => ?_⟩
        refine goes_ Tryd.func23 (by kernel_rfl) rfl #[.slice (some ⟨gq, 0, none⟩) ([(rd_T37 V (m : Int)).f1] : List Int).length ([(rd_T37 V (m : Int)).f1] : List Int).length] (by rfl) rfl rfl (by first | (simp only [List.map_toArray, List.map_cons, List.map_nil, Act.eval, Array.getD_eq_getD_getElem?, Option.getD_some, e97]; done) | (simp only [List.map_toArray, List.map_cons, List.map_nil, Act.eval, Array.getD_eq_getD_getElem?, Option.getD_some, e97]; rfl) | rfl) ?_
        refine (Reg.of_w _ _ _ _).mono ?_
        rintro e w2 ⟨rfl, hd⟩
        have hb2 := drewN_of hd
        exact ⟨_, rfl, hK.out _ _ hb2 ⟨gq, rfl, hg0, (hb2.block gq (blk_lt hg)).trans hg⟩ (Reg.dis_swap (Reg.dis_copy (Reg.dis_swap hE) (s := 97) (by decide) ⟨_, e97⟩ (by decide) hb2.size))⟩
      refine Reg.re_cons ?_ ?_
      · intro a w hb hs hel hE hon
        obtain ⟨_, e89, gq, rfl, hg0, hg⟩ := hon 1 89 (by kernel_rfl) rfl
        obtain ⟨_, g89⟩ := Array.getElem?_eq_some_iff.1 e89
        refine ⟨_, rfl, fun K hK => ?_⟩
        refine value_ (w1 := w) (v := .slice (some ⟨gq, 0, none⟩) ([2] : List Int).length ([2] : List Int).length) (by rfl) rfl ?_ (hK.out _ _ (Below.refl _ _) ⟨gq, rfl, hg0, hg⟩ (Reg.dis_copy hE (s := 89) (by decide) ⟨_, e89⟩ (by decide) (Nat.le_refl _)))
        · go_simp
          (try simp only [g89])
          (try go_simp)
          try rfl
      refine Reg.re_cons ?_ ?_
      · intro a w hb hs hel hE hon
        obtain ⟨_, e98, gq, rfl, hg0, hg⟩ := hon 10 98 (by kernel_rfl) rfl
        obtain ⟨_, g98⟩ := Array.getElem?_eq_some_iff.1 e98
        refine ⟨_, rfl, fun K hK => ?_⟩
        refine value_ (w1 := w) (v := .slice (some ⟨gq, 0, none⟩) ([(rd_T37 V (m : Int)).f1] : List Int).length ([(rd_T37 V (m : Int)).f1] : List Int).length) (by rfl) rfl ?_ (hK.out _ _ (Below.refl _ _) ⟨gq, rfl, hg0, hg⟩ (Reg.dis_swap (Reg.dis_copy (Reg.dis_swap hE) (s := 98) (by decide) ⟨_, e98⟩ (by decide) (Nat.le_refl _))))
        · go_simp
          (try simp only [g98])
          (try go_simp)
          try rfl
      exact Reg.re_nil
    · intro a w hw_
      rename_i K_ hK_
      refine hK_ a w ?_
      obtain ⟨hI, hE⟩ := hw_
      obtain ⟨_, e6, ga, rfl, la, ba⟩ := hI.vals 11 6 rfl rfl
      obtain ⟨_, e7, gb, rfl, lb, bb⟩ := hI.vals 12 7 rfl rfl
      have hne : ga ≠ gb := fun e => hE.2 ga ⟨6, by decide, _, e6⟩ ⟨7, by decide, _, by rw [e]; exact e7⟩
      have HE := Aside0.mk (Two.lits (Nat.le_trans (Nat.le_of_eq hb0_) la) ba (by simp) (Nat.le_trans (Nat.le_of_eq hb0_) lb) bb (by simp) hne (HXB.out.trans (hI.below.mono HXB.out.size)))
      have G6 := Reg.getD_of e6
      have G7 := Reg.getD_of e7
      have hfr := hI.frame
      rw [hfr]
      simp only [Reg.puts, Act.put, List.setIfInBounds_toArray, List.set_cons_zero, List.set_cons_succ]
      rw [G6, G7]
      generalize a.tmps = ts_
      clear hI hE hfr hK_ e6 e7 G6 G7 ba bb la lb hne
      go_wp2_with fail
      go_ret2
      exact HE.out
  rw [if_neg a6] at h
  by_cases a7 : x = 7
  · rw [if_pos a7] at h
    subst a7
    have PS := Aside0.mk (fun W (hL : LaidOps W) => op_Shape.calls 7 2 0 W (by rfl) hL)
    by_cases b0 : 0 ≤ y ∧ y < (V.length : Int)
    rotate_left
    · rw [if_neg b0] at h; cases h
    rw [if_pos b0] at h
    obtain ⟨rfl, rfl⟩ := Prod.mk.inj (Option.some.inj h)
    obtain ⟨m, rfl⟩ : ∃ m : Nat, y = m := ⟨y.toNat, by omega⟩
    have hm : m < V.length := by omega
    clear h b0
    go_enter Tryd.func22, Tryd.ntmps22
    go_wp2_with fail
    refine (PS.out _ (HL.out.below HX.out.below).ops).mono ?_
    rintro e w1 ⟨rfl, hb⟩
    have HX1 := Aside0.mk (HX.out.step hb)
    clear hb PS
    obtain ⟨⟨q0, q1, q2, q3⟩, i0, i1, i2⟩ := HX1.out.cells
    obtain ⟨ad, rfl, k0, k1, k2, k3, k4⟩ := at_T37 (Kd.C_below G1.out HX1.out.below) (m : Int) (by omega) (by omega)
    rw [Int.toNat_natCast] at k0 k1 k2 k3 k4
    go_wp2_with fail
    refine (of_lit w w1 _ rfl ([2, (rd_T37 V (m : Int)).f1] : List Int) _ rfl HX1.out.below).mono ?_
    rintro e w9 ⟨rfl, hb, -, hl, -⟩
    have HE := Aside0.mk (Two.lit1 (HX1.out.below).size hl (by simp) hb)
    clear hb hl
    go_wp2_with fail
    go_ret2
    exact HE.out
  rw [if_neg a7] at h
  by_cases a27 : x = 27
  · rw [if_pos a27] at h
    subst a27
    have PS := Aside0.mk (fun W (hL : LaidOps W) => op_Shape.calls 27 0 0 W (by rfl) hL)
    obtain ⟨rfl, rfl⟩ := Prod.mk.inj (Option.some.inj h)
    clear h
    go_enter Tryd.func22, Tryd.ntmps22
    go_wp2_with fail
    refine (PS.out _ (HL.out.below HX.out.below).ops).mono ?_
    rintro e w1 ⟨rfl, hb⟩
    have HX1 := Aside0.mk (HX.out.step hb)
    clear hb PS
    obtain ⟨⟨q0, q1, q2, q3⟩, i0, i1, i2⟩ := HX1.out.cells
    go_wp2_with fail
    refine (of_lit w w1 _ rfl ([0] : List Int) _ rfl HX1.out.below).mono ?_
    rintro e w2 ⟨rfl, hb, -, hl, hlt⟩
    have HB2 := Aside0.mk hb
    have HL2 := Aside0.mk hl
    have HT2 := Aside0.mk hlt
    clear hb hl hlt
    go_wp2_with fail
    refine (of_lit w w2 _ rfl ([0, 0] : List Int) _ rfl HB2.out).mono ?_
    rintro e w9 ⟨rfl, hb, hb2, hl, hlt⟩
    have HE := Aside0.mk (Two.lits (r1 := [0]) (r2 := [0, 0]) (HX1.out.below).size ((hb2.block _ HT2.out).trans HL2.out) (by simp) HB2.out.size hl (by simp) (Nat.ne_of_lt HT2.out) hb)
    clear hb hb2 hl hlt
    go_wp2_with fail
    go_ret2
    exact HE.out
  rw [if_neg a27] at h
  by_cases a28 : x = 28
  · rw [if_pos a28] at h
    subst a28
    have PS := Aside0.mk (fun W (hL : LaidOps W) => op_Shape.calls 28 0 0 W (by rfl) hL)
    obtain ⟨rfl, rfl⟩ := Prod.mk.inj (Option.some.inj h)
    clear h
    go_enter Tryd.func22, Tryd.ntmps22
    go_wp2_with fail
    refine (PS.out _ (HL.out.below HX.out.below).ops).mono ?_
    rintro e w1 ⟨rfl, hb⟩
    have HX1 := Aside0.mk (HX.out.step hb)
    clear hb PS
    obtain ⟨⟨q0, q1, q2, q3⟩, i0, i1, i2⟩ := HX1.out.cells
    go_wp2_with fail
    refine (of_lit w w1 _ rfl ([0] : List Int) _ rfl HX1.out.below).mono ?_
    rintro e w9 ⟨rfl, hb, -, hl, -⟩
    have HE := Aside0.mk (Two.lit1 (HX1.out.below).size hl (by simp) hb)
    clear hb hl
    go_wp2_with fail
    go_ret2
    exact HE.out
  rw [if_neg a28] at h
  by_cases a29 : x = 29
  · rw [if_pos a29] at h
    subst a29
    have PS := Aside0.mk (fun W (hL : LaidOps W) => op_Shape.calls 29 0 0 W (by rfl) hL)
    obtain ⟨rfl, rfl⟩ := Prod.mk.inj (Option.some.inj h)
    clear h
    go_enter Tryd.func22, Tryd.ntmps22
    go_wp2_with fail
    refine (PS.out _ (HL.out.below HX.out.below).ops).mono ?_
    rintro e w1 ⟨rfl, hb⟩
    have HX1 := Aside0.mk (HX.out.step hb)
    clear hb PS
    obtain ⟨⟨q0, q1, q2, q3⟩, i0, i1, i2⟩ := HX1.out.cells
    go_wp2_with fail
    refine (of_lit w w1 _ rfl ([0, 0] : List Int) _ rfl HX1.out.below).mono ?_
    rintro e w2 ⟨rfl, hb, -, hl, hlt⟩
    have HB2 := Aside0.mk hb
    have HL2 := Aside0.mk hl
    have HT2 := Aside0.mk hlt
    clear hb hl hlt
    go_wp2_with fail
    refine (of_lit w w2 _ rfl ([0, 0] : List Int) _ rfl HB2.out).mono ?_
    rintro e w9 ⟨rfl, hb, hb2, hl, hlt⟩
    have HE := Aside0.mk (Two.lits (r1 := [0, 0]) (r2 := [0, 0]) (HX1.out.below).size ((hb2.block _ HT2.out).trans HL2.out) (by simp) HB2.out.size hl (by simp) (Nat.ne_of_lt HT2.out) hb)
    clear hb hb2 hl hlt
    go_wp2_with fail
    go_ret2
    exact HE.out
  rw [if_neg a29] at h
  by_cases a31 : x = 31
  · rw [if_pos a31] at h
    subst a31
    have PS := Aside0.mk (fun W (hL : LaidOps W) => op_Shape.calls 31 5 10 W (by rfl) hL)
    obtain ⟨rfl, rfl⟩ := Prod.mk.inj (Option.some.inj h)
    clear h
    go_enter Tryd.func22, Tryd.ntmps22
    go_wp2_with fail
    refine (PS.out _ (HL.out.below HX.out.below).ops).mono ?_
    rintro e w1 ⟨rfl, hb⟩
    have HX1 := Aside0.mk (HX.out.step hb)
    clear hb PS
    obtain ⟨⟨q0, q1, q2, q3⟩, i0, i1, i2⟩ := HX1.out.cells
    go_wp2_with fail
    refine (of_lit w w1 _ rfl ([1] : List Int) _ rfl HX1.out.below).mono ?_
    rintro e w9 ⟨rfl, hb, -, hl, -⟩
    have HE := Aside0.mk (Two.lit1 (HX1.out.below).size hl (by simp) hb)
    clear hb hl
    go_wp2_with fail
    go_ret2
    exact HE.out
  rw [if_neg a31] at h
  by_cases a32 : x = 32
  · rw [if_pos a32] at h
    subst a32
    have PS := Aside0.mk (fun W (hL : LaidOps W) => op_Shape.calls 32 6 10 W (by rfl) hL)
    obtain ⟨rfl, rfl⟩ := Prod.mk.inj (Option.some.inj h)
    clear h
    go_enter Tryd.func22, Tryd.ntmps22
    go_wp2_with fail
    refine (PS.out _ (HL.out.below HX.out.below).ops).mono ?_
    rintro e w1 ⟨rfl, hb⟩
    have HX1 := Aside0.mk (HX.out.step hb)
    clear hb PS
    obtain ⟨⟨q0, q1, q2, q3⟩, i0, i1, i2⟩ := HX1.out.cells
    go_wp2_with fail
    refine (of_lit w w1 _ rfl ([2] : List Int) _ rfl HX1.out.below).mono ?_
    rintro e w9 ⟨rfl, hb, -, hl, -⟩
    have HE := Aside0.mk (Two.lit1 (HX1.out.below).size hl (by simp) hb)
    clear hb hl
    go_wp2_with fail
    go_ret2
    exact HE.out
  rw [if_neg a32] at h
  by_cases a33 : x = 33
  · rw [if_pos a33] at h
    subst a33
    have PS := Aside0.mk (fun W (hL : LaidOps W) => op_Shape.calls 33 7 0 W (by rfl) hL)
    by_cases bg : 0 ≤ y ∧ y < (U.length : Int) ∧ (rd_T43 U y).f1.length ≤ 20
    rotate_left
    · rw [if_neg bg] at h; cases h
    rw [if_pos bg] at h
    obtain ⟨m, rfl⟩ : ∃ m : Nat, y = m := ⟨y.toNat, by omega⟩
    have hm : m < U.length := by omega
    have o1 := bg.2.2
    clear bg
    have h := Option.some.inj h
    generalize hX_ : rd_T43 U (m : Int) = X at *
    have HXX := Aside0.mk hX_
    clear hX_
    by_cases ez : X.f2 = 0
    · rw [if_pos ez] at h
      obtain ⟨rfl, rfl⟩ := Prod.mk.inj h
      have e9 : (X.f2 != 0) = false := bne_eq_false_iff_eq.mpr ez
      clear h ez
      go_enter Tryd.func22, Tryd.ntmps22
      go_wp2_with fail
      refine (PS.out _ (HL.out.below HX.out.below).ops).mono ?_
      rintro e w1 ⟨rfl, hb⟩
      have HX1 := Aside0.mk (HX.out.step hb)
      clear hb PS
      obtain ⟨⟨q0, q1, q2, q3⟩, i0, i1, i2⟩ := HX1.out.cells
      obtain ⟨ad, B1, d1, B3, d3, B4, d4, rfl, k0, k1, k2, k3, k4, hd1, hC1, hd3, hC3, hd4, hC4⟩ := at_T43 (Kd.C_below G3.out HX1.out.below) (m : Int) (by omega) (by omega)
      rw [HXX.out] at k0 k1 k2 k3 k4 hC1 hd1
      rw [Int.toNat_natCast] at k0 k1 k2 k3 k4
      clear hC3 hC4 hd3 hd4
      have HC1 := Aside0.mk hC1
      clear hC1
      have FR := Aside0.mk (show ∀ k, ((w1.alloc (.cells #[.string X.f0, .slice B1 X.f1.length d1, .int .i64 X.f2, .slice B3 X.f3.length d3, .slice B4 X.f4.length d4] 43)).alloc (.cells #[] 3)).heap.size ≤ k → True from fun _ _ => trivial)
      go_wp2_with ((with_reducible refine gate_builtin (b := .append) (xs := #[.tmp 149, .tmp 151]) rfl ?_); at_builtin; refine Kd.R_append_rows (Kd.int .i64) (w0 := w) w.heap.size rfl (.tmp 149) (.tmp 151) 40 3 (.int .i64 0) 8 rfl Tryd.underlying40 info3 rfl (by decide) (by omega) (.slice (some ⟨w1.heap.size + 1, 0, none⟩) 0 0) ([] : List Int) X.f1 _ _ _ (fun _ => True) (fun _ => False) rfl rfl ?aO ?aR (fun _ _ h => h) (fun _ h => h.elim) ?aF ?aB ?aS ?aL ?_; (case aO => exact (Reg.lit_own (xs := []) (Nat.le_trans HX1.out.below.size (Nat.le_succ _)) (heap_alloc2_new w1 _ _) (by simp) trivial)); (case aR => exact (Kd.C_alloc (Kd.C_alloc HC1.out _) _)); (case aF => exact FR.out); (case aB => exact ((HX1.out.below.alloc HX1.out.below.size (.cells #[.string X.f0, .slice B1 X.f1.length d1, .int .i64 X.f2, .slice B3 X.f3.length d3, .slice B4 X.f4.length d4] 43)).alloc (Nat.le_trans HX1.out.below.size (by simp)) (.cells #[] 3))); (case aS => exact (((HX1.out.below.alloc HX1.out.below.size (.cells #[.string X.f0, .slice B1 X.f1.length d1, .int .i64 X.f2, .slice B3 X.f3.length d3, .slice B4 X.f4.length d4] 43)).alloc (Nat.le_trans HX1.out.below.size (by simp)) (.cells #[] 3))).size); (case aL => simp; omega); intro v9 w9 ho hb hgr hat)
      have HE := Aside0.mk (show Two w w9 (.returned (.tuple #[v9, .slice none 0 0])) X.f1 [] from ⟨_, _, rfl, Kd.R_reok rfl ho (fun k _ => by simp [Value.ownBlock]), Kd.R_nil _ _ _ _ _, hb⟩)
      clear ho hb hgr hat
      go_wp2_with fail
      go_ret2
      exact HE.out
    · rw [if_neg ez] at h
      obtain ⟨rfl, rfl⟩ := Prod.mk.inj h
      have e9 : (X.f2 != 0) = true := bne_iff_ne.mpr ez
      clear h ez
      go_enter Tryd.func22, Tryd.ntmps22
      go_wp2_with fail
      refine (PS.out _ (HL.out.below HX.out.below).ops).mono ?_
      rintro e w1 ⟨rfl, hb⟩
      have HX1 := Aside0.mk (HX.out.step hb)
      clear hb PS
      obtain ⟨⟨q0, q1, q2, q3⟩, i0, i1, i2⟩ := HX1.out.cells
      obtain ⟨ad, B1, d1, B3, d3, B4, d4, rfl, k0, k1, k2, k3, k4, hd1, hC1, hd3, hC3, hd4, hC4⟩ := at_T43 (Kd.C_below G3.out HX1.out.below) (m : Int) (by omega) (by omega)
      rw [HXX.out] at k0 k1 k2 k3 k4 hC1 hd1
      rw [Int.toNat_natCast] at k0 k1 k2 k3 k4
      clear hC3 hC4 hd3 hd4
      have HC1 := Aside0.mk hC1
      clear hC1
      go_wp2_with fail
      refine (of_lit w (w1.alloc (.cells #[.string X.f0, .slice B1 X.f1.length d1, .int .i64 X.f2, .slice B3 X.f3.length d3, .slice B4 X.f4.length d4] 43)) (w1.heap.size + 1) (by simp) ([X.f2] : List Int) _ rfl (HX1.out.below.alloc HX1.out.below.size _)).mono ?_
      rintro e w2 ⟨rfl, hb, hb2, hl, hlt⟩
      have hu : w2.heap[w1.heap.size]? = some (.cells #[.string X.f0, .slice B1 X.f1.length d1, .int .i64 X.f2, .slice B3 X.f3.length d3, .slice B4 X.f4.length d4] 43 (0, 0)) := (hb2.block _ (by simp)).trans (heap_alloc_new w1 _)
      have HC2 := Aside0.mk (Kd.C_below (Kd.C_alloc HC1.out _) hb2)
      have HB2 := Aside0.mk hb
      have HL2 := Aside0.mk hl
      have HT2 := Aside0.mk hlt
      have u1 : (w2.alloc (.cells #[] 3)).cell? ⟨w1.heap.size, 1, none⟩ = some (.slice B1 X.f1.length d1) := (blk_cell ((heap_alloc_old w2 _ (blk_lt hu)).trans hu) 1).trans rfl
      clear hb hb2 hl hlt hu k0 k1 k2 k3 k4 q0 q1 q2 q3 i0 i1 i2
      have FR := Aside0.mk (show ∀ k, (w2.alloc (.cells #[] 3)).heap.size ≤ k → some k ≠ (Value.slice (some ⟨w1.heap.size + 1, 0, none⟩) 1 1).ownBlock from fun k hk e => by have h1 := Option.some.inj (show some k = some (w1.heap.size + 1) from e); have := HT2.out; simp at hk; omega)
      go_wp2_with ((with_reducible refine gate_builtin (b := .append) (xs := #[.tmp 149, .tmp 151]) rfl ?_); at_builtin; refine Kd.R_append_rows (Kd.int .i64) (w0 := w) w.heap.size rfl (.tmp 149) (.tmp 151) 40 3 (.int .i64 0) 8 rfl Tryd.underlying40 info3 rfl (by decide) (by omega) (.slice (some ⟨w2.heap.size, 0, none⟩) 0 0) ([] : List Int) X.f1 _ _ _ (fun k_ => some k_ ≠ (Value.slice (some ⟨w1.heap.size + 1, 0, none⟩) 1 1).ownBlock) (fun _ => False) rfl rfl ?aO ?aR (fun _ _ h => h) (fun _ h => h.elim) ?aF ?aB ?aS ?aL ?_; (case aO => exact (Reg.lit_own (xs := []) HB2.out.size (heap_alloc_new w2 _) (by simp) (fun e => by have h1 := Option.some.inj (show some w2.heap.size = some (w1.heap.size + 1) from e); have := HT2.out; omega))); (case aR => exact (Kd.C_alloc HC2.out _)); (case aF => exact FR.out); (case aB => exact (HB2.out.alloc HB2.out.size (.cells #[] 3))); (case aS => exact ((HB2.out.alloc HB2.out.size (.cells #[] 3))).size); (case aL => simp; omega); intro v9 w9 ho hb hgr hat)
      have hl9 : w9.heap[w1.heap.size + 1]? = some (.cells ([X.f2].map (Value.int .i64)).toArray 3 (0, 0)) := blk_grown ((heap_alloc_old w2 _ HT2.out).trans HL2.out) hgr (fun e => by have h1 := Option.some.inj (show some (w1.heap.size + 1) = some w2.heap.size from e); have := HT2.out; omega)
      have HE := Aside0.mk (show Two w w9 (.returned (.tuple #[v9, .slice (some ⟨w1.heap.size + 1, 0, none⟩) 1 1])) X.f1 [X.f2] from ⟨_, _, rfl, ho, Reg.lit_own (xs := [X.f2]) (Nat.le_trans HX1.out.below.size (Nat.le_succ _)) hl9 (by simp) (fun e => ho.1 _ e.symm rfl), hb⟩)
      clear ho hb hgr hat hl9
      go_wp2_with fail
      go_ret2
      exact HE.out
  rw [if_neg a33] at h
  by_cases a35 : x = 35
  · rw [if_pos a35] at h
    subst a35
    have PS := Aside0.mk (fun W (hL : LaidOps W) => op_Shape.calls 35 8 9 W (by rfl) hL)
    obtain ⟨t, hf, h⟩ := Option.bind_eq_some_iff.1 h
    obtain ⟨rfl, rfl⟩ := Prod.mk.inj (Option.some.inj h)
    clear h
    have PF := Aside0.mk (fun W hC hL => stack_field.calls A0 c0 C A1 c1 V A2 c2 B A3 c3 U 35 y z t W hC hf hL)
    clear hf
    go_enter Tryd.func22, Tryd.ntmps22
    go_wp2_with fail
    refine (PS.out _ (HL.out.below HX.out.below).ops).mono ?_
    rintro e w1 ⟨rfl, hb⟩
    have HX1 := Aside0.mk (HX.out.step hb)
    clear hb PS
    obtain ⟨⟨q0, q1, q2, q3⟩, i0, i1, i2⟩ := HX1.out.cells
    go_wp2_with fail
    refine (PF.out _ (Kd.C_below G2.out HX1.out.below) (HL.out.below HX1.out.below)).mono ?_
    rintro e w2 ⟨rfl, hb⟩
    have HX2 := Aside0.mk (HX1.out.step hb)
    clear hb PF
    go_wp2_with fail
    refine (of_lit w w2 _ rfl ([t] : List Int) _ rfl HX2.out.below).mono ?_
    rintro e w9 ⟨rfl, hb, -, hl, -⟩
    have HE := Aside0.mk (Two.lit1 (HX2.out.below).size hl (by simp) hb)
    clear hb hl
    go_wp2_with fail
    go_ret2
    exact HE.out
  rw [if_neg a35] at h
  by_cases a37 : x = 37
  · rw [if_pos a37] at h
    subst a37
    have PS := Aside0.mk (fun W (hL : LaidOps W) => op_Shape.calls 37 8 9 W (by rfl) hL)
    obtain ⟨t, hf, h⟩ := Option.bind_eq_some_iff.1 h
    obtain ⟨rfl, rfl⟩ := Prod.mk.inj (Option.some.inj h)
    clear h
    have PF := Aside0.mk (fun W hC hL => stack_field.calls A0 c0 C A1 c1 V A2 c2 B A3 c3 U 37 y z t W hC hf hL)
    clear hf
    go_enter Tryd.func22, Tryd.ntmps22
    go_wp2_with fail
    refine (PS.out _ (HL.out.below HX.out.below).ops).mono ?_
    rintro e w1 ⟨rfl, hb⟩
    have HX1 := Aside0.mk (HX.out.step hb)
    clear hb PS
    obtain ⟨⟨q0, q1, q2, q3⟩, i0, i1, i2⟩ := HX1.out.cells
    go_wp2_with fail
    refine (PF.out _ (Kd.C_below G2.out HX1.out.below) (HL.out.below HX1.out.below)).mono ?_
    rintro e w2 ⟨rfl, hb⟩
    have HX2 := Aside0.mk (HX1.out.step hb)
    clear hb PF
    go_wp2_with fail
    refine (of_lit w w2 _ rfl ([t] : List Int) _ rfl HX2.out.below).mono ?_
    rintro e w9 ⟨rfl, hb, -, hl, -⟩
    have HE := Aside0.mk (Two.lit2 (HX2.out.below).size hl (by simp) hb)
    clear hb hl
    go_wp2_with fail
    go_ret2
    exact HE.out
  rw [if_neg a37] at h
  obtain ⟨rfl, rfl⟩ := Prod.mk.inj (Option.some.inj h)
  clear h
  have e1 : (x == 1) = false := beq_eq_false_iff_ne.mpr a1
  have e2 : (x == 2) = false := beq_eq_false_iff_ne.mpr a2
  have e3 : (x == 3) = false := beq_eq_false_iff_ne.mpr a3
  have e4 : (x == 4) = false := beq_eq_false_iff_ne.mpr a4
  have e5 : (x == 5) = false := beq_eq_false_iff_ne.mpr a5
  have e6 : (x == 6) = false := beq_eq_false_iff_ne.mpr a6
  have e7 : (x == 7) = false := beq_eq_false_iff_ne.mpr a7
  have e27 : (x == 27) = false := beq_eq_false_iff_ne.mpr a27
  have e28 : (x == 28) = false := beq_eq_false_iff_ne.mpr a28
  have e29 : (x == 29) = false := beq_eq_false_iff_ne.mpr a29
  have e31 : (x == 31) = false := beq_eq_false_iff_ne.mpr a31
  have e32 : (x == 32) = false := beq_eq_false_iff_ne.mpr a32
  have e33 : (x == 33) = false := beq_eq_false_iff_ne.mpr a33
  have e35 : (x == 35) = false := beq_eq_false_iff_ne.mpr a35
  have e37 : (x == 37) = false := beq_eq_false_iff_ne.mpr a37
  have PS := Aside0.mk (fun W (hL : LaidOps W) => op_Shape.calls x (shapeA x) (shapeB x) W rfl hL)
  have e0 : (shapeA x == 4) = false := beq_eq_false_iff_ne.mpr t4
  clear t4 a1 a2 a3 a4 a5 a6 a7 a27 a28 a29 a31 a32 a33 a35 a37
  go_enter Tryd.func22, Tryd.ntmps22
  go_wp2_with fail
  refine (PS.out _ (HL.out.below HX.out.below).ops).mono ?_
  rintro e w1 ⟨rfl, hb⟩
  have HX1 := Aside0.mk (HX.out.step hb)
  clear hb PS
  obtain ⟨⟨q0, q1, q2, q3⟩, i0, i1, i2⟩ := HX1.out.cells
  have HE := Aside0.mk (show Two w w1 (.returned (.tuple #[.slice none 0 0, .slice none 0 0])) [] [] from ⟨_, _, rfl, Kd.R_nil _ _ _ _ _, Kd.R_nil _ _ _ _ _, HX1.out.below⟩)
  go_wp2_with fail
  go_ret2
  exact HE.out
/-- In the printed form. -/
theorem stack_effect.calls (A0_0 : Option Addr) (c0_0 : Nat) (l0_0 : List (S35)) (A0_1 : Option Addr) (c0_1 : Nat) (l0_1 : List (S37)) (A0_2 : Option Addr) (c0_2 : Nat) (l0_2 : List (S39)) (A0_3 : Option Addr) (c0_3 : Nat) (l0_3 : List (S43)) (a1 : Int) (a2_0 : Int) (a2_1 : Int) (a2_2 : Int) (r1 : List Int) (r2 : List Int) (w : World) (hr0_0 : Kd.C k35 w A0_0 l0_0.length l0_0) (hc0_0 : l0_0.length ≤ c0_0) (hr0_1 : Kd.C k37 w A0_1 l0_1.length l0_1) (hc0_1 : l0_1.length ≤ c0_1) (hr0_2 : Kd.C k39 w A0_2 l0_2.length l0_2) (hc0_2 : l0_2.length ≤ c0_2) (hr0_3 : Kd.C k43 w A0_3 l0_3.length l0_3) (hc0_3 : l0_3.length ≤ c0_3) (h : stack_effect.f l0_0 l0_1 l0_2 l0_3 a1 a2_0 a2_1 a2_2 = some (r1, r2)) (hL_ : LaidAll w) :
    Calls Tryd.prog 22 #[.agg #[.slice A0_0 l0_0.length c0_0, .slice A0_1 l0_1.length c0_1, .slice A0_2 l0_2.length c0_2, .slice A0_3 l0_3.length c0_3], .int .i64 a1, .agg #[.int .i64 a2_0, .int .i64 a2_1, .int .i64 a2_2]] w fun e w' => ∃ v0_ v1_ : Value, e = .returned (.tuple #[v0_, v1_]) ∧ Kd.R (Kd.int .i64) 3 w' w.heap.size (fun k_ => some k_ ≠ (v1_ : Value).ownBlock) v0_ r1 ∧ Kd.R (Kd.int .i64) 3 w' w.heap.size (fun k_ => some k_ ≠ (v0_ : Value).ownBlock) v1_ r2 ∧ Below w.heap.size w w' :=
  effect_w A0_0 c0_0 l0_0 A0_1 c0_1 l0_1 A0_2 c0_2 l0_2 A0_3 c0_3 l0_3 a1 a2_0 a2_1 a2_2 r1 r2 w hr0_0 hr0_1 hr0_2 hr0_3 h hL_
end Go.Proofs.YthdlocigijiobaaDoor.Given
