/- A region that draws its order, whose operations make rows of their own and take rows over: every block has an owner; the last operation waits for all others. No conditions. -/
import Derived.Test.YthdlocigijiobaaDoorZRefsMoreab
import Derived.Test.YthdlocigijiobaaDoorZRefsMoreac
import Derived.Test.YthdlocigijiobaaDoorZRefsMoread
import Derived.Test.YthdlocigijiobaaDoorZRefsMoreae
import Derived.Test.YthdlocigijiobaaDoorZRefsMoreaf
section
/- stack.effect, walked by hand: what an instruction whose operands are there takes, and leaves. The tables lie as the program lays them. -/
namespace Go.Proofs.YthdlocigijiobaaDoor.Given
open Go Go.RowKit Go.Proofs.YthdlocigijiobaaDoor.PSk Go.Proofs.YthdlocigijiobaaDoor.RPure Go.Proofs.YthdlocigijiobaaDoorW.PrintWords Go.Proofs.YthdlocigijiobaaDoorW.PrintLast Go.Proofs.YthdlocigijiobaaDoorW.PrintMore
set_option linter.unusedVariables false
set_option linter.unusedSimpArgs false
theorem Two.lit1 {w w' : World} {r : List Int} {g : Nat} (l : w.heap.size ≤ g) (b : w'.heap[g]? = some (.cells (r.map (Value.int .i64)).toArray 3 (0, 0))) (m : r.length ≤ 1000) (hb : Below w.heap.size w w') : Two w w' (.returned (.tuple #[.slice (some ⟨g, 0, none⟩) r.length r.length, .slice none 0 0])) r [] :=
  ⟨_, _, rfl, Reg.lit_own l b m (fun e : some g = none => by cases e), Kd.R_nil _ _ _ _ _, hb⟩
theorem Two.lit2 {w w' : World} {r : List Int} {g : Nat} (l : w.heap.size ≤ g) (b : w'.heap[g]? = some (.cells (r.map (Value.int .i64)).toArray 3 (0, 0))) (m : r.length ≤ 1000) (hb : Below w.heap.size w w') : Two w w' (.returned (.tuple #[.slice none 0 0, .slice (some ⟨g, 0, none⟩) r.length r.length])) [] r :=
  ⟨_, _, rfl, Kd.R_nil _ _ _ _ _, Reg.lit_own l b m (fun e : some g = none => by cases e), hb⟩
/-- A literal, handed through stack.of. -/
theorem of_lit (w w1 : World) (g : Nat) (hg : g = w1.heap.size) (xs : List Int) (cs : Array Value) (hc : cs = (xs.map (Value.int .i64)).toArray) (h : Below w.heap.size w w1) :
    Calls Tryd.prog 23 #[.slice (some ⟨g, 0, none⟩) xs.length xs.length] (w1.alloc (.cells cs 3)) fun e w2 => e = .returned (.slice (some ⟨g, 0, none⟩) xs.length xs.length) ∧ Below w.heap.size w w2 ∧ Below w1.heap.size w1 w2 ∧ w2.heap[g]? = some (.cells (xs.map (Value.int .i64)).toArray 3 (0, 0)) ∧ g < w2.heap.size := by
  subst hg
  refine (Reg.of_w _ _ _ _).mono ?_
  rintro e w2 ⟨rfl, hd⟩
  have hb := drewN_of hd
  have h1 : Below w1.heap.size w1 w2 := ((Below.refl _ _).alloc (Nat.le_refl _) _).trans (hb.mono (by simp))
  have h2 : w2.heap[w1.heap.size]? = some (.cells (xs.map (Value.int .i64)).toArray 3 (0, 0)) := by
    rw [← hc]; exact (hb.block _ (blk_lt (heap_alloc_new w1 (.cells cs 3)))).trans (heap_alloc_new w1 _)
  exact ⟨rfl, h.trans (h1.mono h.size), h1, h2, blk_lt h2⟩
def stack_effect.f (C : LC) (V : LV) (B : LB) (U : LU) (u x y z : Int) : Option (List Int × List Int) :=
  if shapeA x = 4 then stack_typed.f x y z else
  if x = 1 then (if 0 ≤ y ∧ y < (C.length : Int) then some ([], [(rd_T35 C y).f0]) else none) else
  if x = 2 then (if 0 ≤ y ∧ y < (V.length : Int) then some ([], [(rd_T37 V y).f1]) else none) else
  if x = 3 then (if 0 ≤ y ∧ y < (V.length : Int) then some ([(rd_T37 V y).f1], []) else none) else
  if x = 4 then (if 0 ≤ u ∧ u < (U.length : Int) ∧ (rd_T43 U u).f1.length ≤ 20 ∧ (rd_T43 U u).f3.length ≤ 1100 ∧ 0 ≤ y ∧ y < ((slotsF (rd_T43 U u).f1 (rd_T43 U u).f2 (rd_T43 U u).f3).length : Int) then some ([], [rd (slotsF (rd_T43 U u).f1 (rd_T43 U u).f2 (rd_T43 U u).f3) y]) else none) else
  if x = 5 then (if 0 ≤ u ∧ u < (U.length : Int) ∧ (rd_T43 U u).f1.length ≤ 20 ∧ (rd_T43 U u).f3.length ≤ 1100 ∧ 0 ≤ y ∧ y < ((slotsF (rd_T43 U u).f1 (rd_T43 U u).f2 (rd_T43 U u).f3).length : Int) then some ([rd (slotsF (rd_T43 U u).f1 (rd_T43 U u).f2 (rd_T43 U u).f3) y], []) else none) else
  if x = 6 then (if 0 ≤ y ∧ y < (V.length : Int) then some ([2], [(rd_T37 V y).f1]) else none) else
  if x = 7 then (if 0 ≤ y ∧ y < (V.length : Int) then some ([2, (rd_T37 V y).f1], []) else none) else
  if x = 27 then some ([0], [0, 0]) else
  if x = 28 then some ([0], []) else
  if x = 29 then some ([0, 0], [0, 0]) else
  if x = 31 then some ([1], []) else
  if x = 32 then some ([2], []) else
  if x = 33 then (if 0 ≤ y ∧ y < (U.length : Int) ∧ (rd_T43 U y).f1.length ≤ 20 then some ((rd_T43 U y).f1, if (rd_T43 U y).f2 = 0 then [] else [(rd_T43 U y).f2]) else none) else
  if x = 35 then (stack_field.f C V B U x y z).bind fun t => some ([t], []) else
  if x = 37 then (stack_field.f C V B U x y z).bind fun t => some ([], [t]) else some ([], [])
set_option maxHeartbeats 8000000 in
set_option maxRecDepth 100000 in
theorem effect_w (A0 : Option Addr) (c0 : Nat) (C : LC) (A1 : Option Addr) (c1 : Nat) (V : LV) (A2 : Option Addr) (c2 : Nat) (B : LB) (A3 : Option Addr) (c3 : Nat) (U : LU) (u x y z : Int) (r1 r2 : List Int) (w : World)
    (g0 : Kd.C k35 w A0 C.length C) (g1 : Kd.C k37 w A1 V.length V) (g2 : Kd.C k39 w A2 B.length B) (g3 : Kd.C k43 w A3 U.length U) (h : stack_effect.f C V B U u x y z = some (r1, r2)) (hL : LaidAll w) :
    Calls Tryd.prog 22 #[.agg #[.slice A0 C.length c0, .slice A1 V.length c1, .slice A2 B.length c2, .slice A3 U.length c3], .int .i64 u, .agg #[.int .i64 x, .int .i64 y, .int .i64 z]] w fun e w' => Two w w' e r1 r2 := by
  unfold stack_effect.f at h
  have m0 := g0.2.1
  have m1 := g1.2.1
  have m3 := g3.2.1
  have HX := Aside0.mk (show Boxes w ((w.alloc (.cells #[.slice A0 C.length c0, .slice A1 V.length c1, .slice A2 B.length c2, .slice A3 U.length c3] 27)).alloc (.cells #[.int .i64 x, .int .i64 y, .int .i64 z] 29)) A0 C.length c0 A1 V.length c1 A2 B.length c2 A3 U.length c3 x y z from ⟨((Below.refl w.heap.size w).alloc (Nat.le_refl _) _).alloc (by simp) _, heap_alloc2_old w _ _, heap_alloc2_new w _ _⟩)
  have HL := Aside0.mk hL
  have G0 := Aside0.mk g0
  have G1 := Aside0.mk g1
  have G2 := Aside0.mk g2
  have G3 := Aside0.mk g3
  clear g0 g1 g2 g3 hL
  by_cases t4 : shapeA x = 4
  · rw [if_pos t4] at h
    have PS := Aside0.mk (fun W (hL : LaidOps W) => op_Shape.calls x 4 (shapeB x) W (by unfold op_Shape.f; rw [t4]) hL)
    have PT := Aside0.mk (fun W hL => stack_typed.calls x y z r1 r2 W h hL)
    go_enter Tryd.func22, Tryd.ntmps22
    go_wp2_with fail
    refine (PS.out _ (HL.out.below HX.out.below).ops).mono ?_
    rintro e w1 ⟨rfl, hb⟩
    have HX1 := Aside0.mk (HX.out.step hb)
    clear hb PS
    obtain ⟨⟨q0, q1, q2, q3⟩, i0, i1, i2⟩ := HX1.out.cells
    go_wp2_with fail
    refine (PT.out _ (HL.out.below HX1.out.below)).mono ?_
    rintro e w2 ⟨v0, v1, rfl, ho0, ho1, hb⟩
    have HE := Aside0.mk (show Two w w2 (.returned (.tuple #[v0, v1])) r1 r2 from ⟨_, _, rfl, Kd.R_lower ho0 HX1.out.below.size, Kd.R_lower ho1 HX1.out.below.size, HX1.out.below.trans (hb.mono HX1.out.below.size)⟩)
    clear ho0 ho1 hb q0 q1 q2 q3 i0 i1 i2
    go_wp2_with fail
    go_ret2
    exact HE.out
  rw [if_neg t4] at h
  by_cases a1 : x = 1
  · rw [if_pos a1] at h
    subst a1
    have PS := Aside0.mk (fun W (hL : LaidOps W) => op_Shape.calls 1 1 0 W (by rfl) hL)
    by_cases b0 : 0 ≤ y ∧ y < (C.length : Int)
    rotate_left
    · rw [if_neg b0] at h; cases h
    rw [if_pos b0] at h
    obtain ⟨rfl, rfl⟩ := Prod.mk.inj (Option.some.inj h)
    obtain ⟨m, rfl⟩ : ∃ m : Nat, y = m := ⟨y.toNat, by omega⟩
    have hm : m < C.length := by omega
    clear h b0
    go_enter Tryd.func22, Tryd.ntmps22
    go_wp2_with fail
    refine (PS.out _ (HL.out.below HX.out.below).ops).mono ?_
    rintro e w1 ⟨rfl, hb⟩
    have HX1 := Aside0.mk (HX.out.step hb)
    clear hb PS
    obtain ⟨⟨q0, q1, q2, q3⟩, i0, i1, i2⟩ := HX1.out.cells
    obtain ⟨ad, rfl, k0, k1⟩ := at_T35 (Kd.C_below G0.out HX1.out.below) (m : Int) (by omega) (by omega)
    rw [Int.toNat_natCast] at k0 k1
    go_wp2_with fail
    refine (of_lit w w1 _ rfl ([(rd_T35 C (m : Int)).f0] : List Int) _ rfl HX1.out.below).mono ?_
    rintro e w9 ⟨rfl, hb, -, hl, -⟩
    have HE := Aside0.mk (Two.lit2 (HX1.out.below).size hl (by simp) hb)
    clear hb hl
    go_wp2_with fail
    go_ret2
    exact HE.out
  rw [if_neg a1] at h
  by_cases a2 : x = 2
  · rw [if_pos a2] at h
    subst a2
    have PS := Aside0.mk (fun W (hL : LaidOps W) => op_Shape.calls 2 2 0 W (by rfl) hL)
    by_cases b0 : 0 ≤ y ∧ y < (V.length : Int)
    rotate_left
    · rw [if_neg b0] at h; cases h
    rw [if_pos b0] at h
    obtain ⟨rfl, rfl⟩ := Prod.mk.inj (Option.some.inj h)
    obtain ⟨m, rfl⟩ : ∃ m : Nat, y = m := ⟨y.toNat, by omega⟩
    have hm : m < V.length := by omega
    clear h b0
    go_enter Tryd.func22, Tryd.ntmps22
    go_wp2_with fail
    refine (PS.out _ (HL.out.below HX.out.below).ops).mono ?_
    rintro e w1 ⟨rfl, hb⟩
    have HX1 := Aside0.mk (HX.out.step hb)
    clear hb PS
    obtain ⟨⟨q0, q1, q2, q3⟩, i0, i1, i2⟩ := HX1.out.cells
    obtain ⟨ad, rfl, k0, k1, k2, k3, k4⟩ := at_T37 (Kd.C_below G1.out HX1.out.below) (m : Int) (by omega) (by omega)
    rw [Int.toNat_natCast] at k0 k1 k2 k3 k4
    go_wp2_with fail
    refine (of_lit w w1 _ rfl ([(rd_T37 V (m : Int)).f1] : List Int) _ rfl HX1.out.below).mono ?_
    rintro e w9 ⟨rfl, hb, -, hl, -⟩
    have HE := Aside0.mk (Two.lit2 (HX1.out.below).size hl (by simp) hb)
    clear hb hl
    go_wp2_with fail
    go_ret2
    exact HE.out
  rw [if_neg a2] at h
  by_cases a3 : x = 3
  · rw [if_pos a3] at h
    subst a3
    have PS := Aside0.mk (fun W (hL : LaidOps W) => op_Shape.calls 3 2 0 W (by rfl) hL)
    by_cases b0 : 0 ≤ y ∧ y < (V.length : Int)
    rotate_left
    · rw [if_neg b0] at h; cases h
    rw [if_pos b0] at h
    obtain ⟨rfl, rfl⟩ := Prod.mk.inj (Option.some.inj h)
    obtain ⟨m, rfl⟩ : ∃ m : Nat, y = m := ⟨y.toNat, by omega⟩
    have hm : m < V.length := by omega
    clear h b0
    go_enter Tryd.func22, Tryd.ntmps22
    go_wp2_with fail
    refine (PS.out _ (HL.out.below HX.out.below).ops).mono ?_
    rintro e w1 ⟨rfl, hb⟩
    have HX1 := Aside0.mk (HX.out.step hb)
    clear hb PS
    obtain ⟨⟨q0, q1, q2, q3⟩, i0, i1, i2⟩ := HX1.out.cells
    obtain ⟨ad, rfl, k0, k1, k2, k3, k4⟩ := at_T37 (Kd.C_below G1.out HX1.out.below) (m : Int) (by omega) (by omega)
    rw [Int.toNat_natCast] at k0 k1 k2 k3 k4
    go_wp2_with fail
    refine (of_lit w w1 _ rfl ([(rd_T37 V (m : Int)).f1] : List Int) _ rfl HX1.out.below).mono ?_
    rintro e w9 ⟨rfl, hb, -, hl, -⟩
    have HE := Aside0.mk (Two.lit1 (HX1.out.below).size hl (by simp) hb)
    clear hb hl
    go_wp2_with fail
    go_ret2
    exact HE.out
  rw [if_neg a3] at h
  by_cases a4 : x = 4
  · rw [if_pos a4] at h
    subst a4
    have PS := Aside0.mk (fun W (hL : LaidOps W) => op_Shape.calls 4 3 0 W (by rfl) hL)
    by_cases bg : 0 ≤ u ∧ u < (U.length : Int) ∧ (rd_T43 U u).f1.length ≤ 20 ∧ (rd_T43 U u).f3.length ≤ 1100 ∧ 0 ≤ y ∧ y < ((slotsF (rd_T43 U u).f1 (rd_T43 U u).f2 (rd_T43 U u).f3).length : Int)
    rotate_left
    · rw [if_neg bg] at h; cases h
    rw [if_pos bg] at h
    obtain ⟨rfl, rfl⟩ := Prod.mk.inj (Option.some.inj h)
    clear h
    obtain ⟨m, rfl⟩ : ∃ m : Nat, u = m := ⟨u.toNat, by omega⟩
    have hm : m < U.length := by omega
    have hs := slots_is (rd_T43 U (m : Int)).f0 (rd_T43 U (m : Int)).f1 (rd_T43 U (m : Int)).f2 (rd_T43 U (m : Int)).f3 (rd_T43 U (m : Int)).f4 (by omega) (by omega)
    have hy0 := bg.2.2.2.2.1
    have hy1 := bg.2.2.2.2.2
    clear bg
    generalize slotsF (rd_T43 U (m : Int)).f1 (rd_T43 U (m : Int)).f2 (rd_T43 U (m : Int)).f3 = SL at *
    generalize hX_ : rd_T43 U (m : Int) = X at *
    have HXX := Aside0.mk hX_
    have PSL := Aside0.mk hs
    clear hX_ hs
    go_enter Tryd.func22, Tryd.ntmps22
    go_wp2_with fail
    refine (PS.out _ (HL.out.below HX.out.below).ops).mono ?_
    rintro e w1 ⟨rfl, hb⟩
    have HX1 := Aside0.mk (HX.out.step hb)
    clear hb PS
    obtain ⟨⟨q0, q1, q2, q3⟩, i0, i1, i2⟩ := HX1.out.cells
    go_wp2_with fail
    clear q0 q1 q2 q3 i0 i1 i2
    have HXB := Aside0.mk HX1.out.below
    have HP := Aside0.mk HX1.out.p
    have HI := Aside0.mk HX1.out.i
    have HG := Aside0.mk (Kd.C_below G3.out HX1.out.below)
    clear G0 G1 G2 G3
    clear HX1
    obtain ⟨b1, hb1⟩ : ∃ b, b = w.heap.size + 1 := ⟨_, rfl⟩
    rw [← hb1] at HI ⊢
    obtain ⟨b0, hb0⟩ : ∃ b, b = w.heap.size := ⟨_, rfl⟩
    rw [← hb0] at HP ⊢
    clear hb1 hb0
    have HSZ := Aside0.mk HXB.out.size
    have HLX := Aside0.mk (HL.out.below HXB.out)
    obtain ⟨ad, B1, d1, B3, d3, B4, d4, rfl, k0, k1, k2, k3, k4, hd1, hC1, hd3, hC3, hd4, hC4⟩ := at_T43 HG.out (m : Int) (by omega) (by omega)
    rw [Int.toNat_natCast] at k0 k1 k2 k3 k4
    rw [HXX.out] at k0 k1 k2 k3 k4 hC1 hd1 hC3 hd3 hC4 hd4
    have HK := Aside0.mk (fun (W : World) (hb : Below w1.heap.size w1 W) => And.intro (pw_cell_below hb k0) (And.intro (pw_cell_below hb k1) (And.intro (pw_cell_below hb k2) (And.intro (pw_cell_below hb k3) (pw_cell_below hb k4)))))
    have HC1 := Aside0.mk hC1
    have HC3 := Aside0.mk hC3
    have HC4 := Aside0.mk hC4
    clear k0 k1 k2 k3 k4 hC1 hC3 hC4 HG
    generalize hb0_ : w.heap.size = b0_ at HSZ
    refine Reg.region_e (Reg.Dis [] [70, 71, 7]) [some 60, some 61, some 62, some 63, some 64, some 65, some 66, some 67, some 68, some 69, some 70, some 71, some 6, some 7] [0, 1, 0, 7, 15, 31, 0, 64, 255, 511, 1023, 2047, 4095, 8191] (true, [([], []), ([0], [0]), ([], []), ([1, 2], [1, 2]), ([3], [3]), ([4], [4]), ([], []), ([6], [6]), ([5, 7], [5, 7]), ([8], [8]), ([9], [9]), ([10, 5], [10]), ([11], []), ([11, 12, 0, 1, 2, 3, 4, 5, 6, 7, 8, 9, 10, 11, 12], [11])]) (fun i => ([(fun _ v_ => v_ = (.pointer (some ⟨b0, 3, none⟩))), (fun _ v_ => v_ = (.slice (some ad) U.length c3)), (fun _ v_ => v_ = (.int .i64 (m : Int))), (fun _ v_ => v_ = (.pointer (some (ad.add (m * 5))))), (fun _ v_ => v_ = (.agg #[.string X.f0, .slice B1 X.f1.length d1, .int .i64 X.f2, .slice B3 X.f3.length d3, .slice B4 X.f4.length d4])), (fun w_ v_ => Reg.Rs (Kd.int .i64) w_ v_ SL), (fun _ v_ => v_ = (.pointer (some ⟨b1, 1, none⟩))), (fun _ v_ => v_ = (.int .i64 y)), (Reg.PtrTo (.int .i64 (rd SL y))), (fun _ v_ => v_ = (.int .i64 (rd SL y))), (Reg.Lit b0_ ([rd SL y] : List Int)), (Reg.Lit b0_ ([rd SL y] : List Int)), (fun _ v_ => v_ = (.slice none 0 0)), (Reg.Lit b0_ ([rd SL y] : List Int))] : List (World → Value → Prop)).getD i (fun _ _ => False))
        (by kernel_rfl) (by kernel_rfl) (by kernel_rfl) (by kernel_rfl) (by kernel_rfl) (by decide) (by rfl) (Reg.mono_getD ?_) [0, 1, 2, 3, 4, 5, 6, 7, 8, 9, 10, 11, 12, 13] (by kernel_rfl) ?_ ?_ ?_
    · exact Reg.monoS_cons (Reg.monoS_eq _) (Reg.monoS_cons (Reg.monoS_eq _) (Reg.monoS_cons (Reg.monoS_eq _) (Reg.monoS_cons (Reg.monoS_eq _) (Reg.monoS_cons (Reg.monoS_eq _) (Reg.monoS_cons (Reg.monoS_rs _ _) (Reg.monoS_cons (Reg.monoS_eq _) (Reg.monoS_cons (Reg.monoS_eq _) (Reg.monoS_cons (Reg.ptr_mono _) (Reg.monoS_cons (Reg.monoS_eq _) (Reg.monoS_cons (Reg.lit_mono _ _) (Reg.monoS_cons (Reg.lit_mono _ _) (Reg.monoS_cons (Reg.monoS_eq _) (Reg.monoS_cons (Reg.lit_mono _ _) Reg.monoS_nil)))))))))))))
    · intro w hw; exact Reg.dis_start (by rfl)
    · skip
      refine Reg.re_cons (Reg.RStepE.of_r (fun oi hoi a w v w' he hs => by cases hoi; exact Reg.dis_keep he (by decide) hs) ?_) ?_
      · intro a w hb hs hel hon
        have e3 : a.tmps[3]? = some (.pointer (some ⟨b0, 0, none⟩)) := (hel 3 (by decide)).trans rfl
        obtain ⟨_, g3⟩ := Array.getElem?_eq_some_iff.1 e3
        refine ⟨_, rfl, fun K hK => ?_⟩
        refine value_ (w1 := w) (v := .pointer (some ⟨b0, 3, none⟩)) (by rfl) rfl ?_ (hK.out _ _ (Below.refl _ _) (rfl))
        · go_simp
          (try simp only [i64_w, g3])
          (try go_simp)
          try rfl
      refine Reg.re_cons (Reg.RStepE.of_r (fun oi hoi a w v w' he hs => by cases hoi; exact Reg.dis_keep he (by decide) hs) ?_) ?_
      · intro a w hb hs hel hon
        obtain ⟨_, e60, rfl⟩ := hon 0 60 (by kernel_rfl) rfl
        obtain ⟨_, g60⟩ := Array.getElem?_eq_some_iff.1 e60
        refine ⟨_, rfl, fun K hK => ?_⟩
        have q_HP3 : w.cell? ⟨b0, 3, none⟩ = some (.slice (some ad) U.length c3) := (blk_cell ((hb.block _ (blk_lt HP.out)).trans HP.out) 3).trans rfl
        refine value_ (w1 := w) (v := .slice (some ad) U.length c3) (by rfl) rfl ?_ (hK.out _ _ (Below.refl _ _) (rfl))
        · go_simp
          (try simp only [i64_w, g60])
          (try go_simp)
          try rfl
      refine Reg.re_cons (Reg.RStepE.of_r (fun oi hoi a w v w' he hs => by cases hoi; exact Reg.dis_keep he (by decide) hs) ?_) ?_
      · intro a w hb hs hel hon
        have e1 : a.tmps[1]? = some (.int .i64 (m : Int)) := (hel 1 (by decide)).trans rfl
        obtain ⟨_, g1⟩ := Array.getElem?_eq_some_iff.1 e1
        refine ⟨_, rfl, fun K hK => ?_⟩
        refine value_ (w1 := w) (v := .int .i64 (m : Int)) (by rfl) rfl ?_ (hK.out _ _ (Below.refl _ _) (rfl))
        · go_simp
          (try simp only [i64_w, g1])
          (try go_simp)
          try rfl
      refine Reg.re_cons (Reg.RStepE.of_r (fun oi hoi a w v w' he hs => by cases hoi; exact Reg.dis_keep he (by decide) hs) ?_) ?_
      · intro a w hb hs hel hon
        obtain ⟨_, e61, rfl⟩ := hon 1 61 (by kernel_rfl) rfl
        obtain ⟨_, e62, rfl⟩ := hon 2 62 (by kernel_rfl) rfl
        obtain ⟨_, g61⟩ := Array.getElem?_eq_some_iff.1 e61
        obtain ⟨_, g62⟩ := Array.getElem?_eq_some_iff.1 e62
        refine ⟨_, rfl, fun K hK => ?_⟩
        have hm2_ : (m : Int) < (U.length : Int) := by omega
        refine value_ (w1 := w) (v := .pointer (some (ad.add (m * 5)))) (by rfl) rfl ?_ (hK.out _ _ (Below.refl _ _) (rfl))
        · go_simp
          (try simp only [i64_w, g61, g62])
          (try go_simp)
          try rfl
      refine Reg.re_cons (Reg.RStepE.of_r (fun oi hoi a w v w' he hs => by cases hoi; exact Reg.dis_keep he (by decide) hs) ?_) ?_
      · intro a w hb hs hel hon
        obtain ⟨_, e63, rfl⟩ := hon 3 63 (by kernel_rfl) rfl
        obtain ⟨_, g63⟩ := Array.getElem?_eq_some_iff.1 e63
        refine ⟨_, rfl, fun K hK => ?_⟩
        obtain ⟨k0, k1, k2, k3, k4⟩ := HK.out _ hb
        refine value_ (w1 := w) (v := .agg #[.string X.f0, .slice B1 X.f1.length d1, .int .i64 X.f2, .slice B3 X.f3.length d3, .slice B4 X.f4.length d4]) (by rfl) rfl ?_ (hK.out _ _ (Below.refl _ _) (rfl))
        · go_simp
          (try simp only [i64_w, g63])
          (try go_simp)
          try rfl
      refine Reg.re_cons (Reg.RStepE.of_r (fun oi hoi a w v w' he hs => by cases hoi; exact Reg.dis_keep he (by decide) hs) ?_) ?_
      · intro a w hb hs hel hon
        obtain ⟨_, e64, rfl⟩ := hon 4 64 (by kernel_rfl) rfl
        refine ⟨_, rfl, fun K hK => ?_⟩
        refine goes_ Tryd.func36 (by kernel_rfl) rfl #[.agg #[.string X.f0, .slice B1 X.f1.length d1, .int .i64 X.f2, .slice B3 X.f3.length d3, .slice B4 X.f4.length d4]] (by rfl) rfl rfl (by first | (simp only [List.map_toArray, List.map_cons, List.map_nil, Act.eval, Array.getD_eq_getD_getElem?, Option.getD_some, e64]; done) | (simp only [List.map_toArray, List.map_cons, List.map_nil, Act.eval, Array.getD_eq_getD_getElem?, Option.getD_some, e64]; rfl) | rfl) ?_
        refine (unit_Slots.calls X.f0 B1 d1 X.f1 X.f2 B3 d3 X.f3 B4 d4 X.f4 SL w (Kd.C_below HC1.out hb) hd1 (Kd.C_below HC3.out hb) hd3 (Kd.C_below HC4.out hb) hd4 PSL.out).mono ?_
        rintro e w2 ⟨v, rfl, ho, hb2⟩
        exact ⟨_, rfl, hK.out _ _ hb2 (Kd.R_reads ho)⟩
      refine Reg.re_cons (Reg.RStepE.of_r (fun oi hoi a w v w' he hs => by cases hoi; exact Reg.dis_keep he (by decide) hs) ?_) ?_
      · intro a w hb hs hel hon
        have e5 : a.tmps[5]? = some (.pointer (some ⟨b1, 0, none⟩)) := (hel 5 (by decide)).trans rfl
        obtain ⟨_, g5⟩ := Array.getElem?_eq_some_iff.1 e5
        refine ⟨_, rfl, fun K hK => ?_⟩
        refine value_ (w1 := w) (v := .pointer (some ⟨b1, 1, none⟩)) (by rfl) rfl ?_ (hK.out _ _ (Below.refl _ _) (rfl))
        · go_simp
          (try simp only [i64_w, g5])
          (try go_simp)
          try rfl
      refine Reg.re_cons (Reg.RStepE.of_r (fun oi hoi a w v w' he hs => by cases hoi; exact Reg.dis_keep he (by decide) hs) ?_) ?_
      · intro a w hb hs hel hon
        obtain ⟨_, e66, rfl⟩ := hon 6 66 (by kernel_rfl) rfl
        obtain ⟨_, g66⟩ := Array.getElem?_eq_some_iff.1 e66
        refine ⟨_, rfl, fun K hK => ?_⟩
        have q_HI1 : w.cell? ⟨b1, 1, none⟩ = some (.int .i64 y) := (blk_cell ((hb.block _ (blk_lt HI.out)).trans HI.out) 1).trans rfl
        refine value_ (w1 := w) (v := .int .i64 y) (by rfl) rfl ?_ (hK.out _ _ (Below.refl _ _) (rfl))
        · go_simp
          (try simp only [i64_w, g66])
          (try go_simp)
          try rfl
      refine Reg.re_cons (Reg.RStepE.of_r (fun oi hoi a w v w' he hs => by cases hoi; exact Reg.dis_keep he (by decide) hs) ?_) ?_
      · intro a w hb hs hel hon
        obtain ⟨x65, e65, ⟨A_5, c_5, rfl, hl_5, hC_5⟩⟩ := hon 5 65 (by kernel_rfl) rfl
        obtain ⟨_, e67, rfl⟩ := hon 7 67 (by kernel_rfl) rfl
        obtain ⟨_, g65⟩ := Array.getElem?_eq_some_iff.1 e65
        obtain ⟨_, g67⟩ := Array.getElem?_eq_some_iff.1 e67
        refine ⟨_, rfl, fun K hK => ?_⟩
        obtain ⟨aq, rfl, hq⟩ := Kd.at_int hC_5 y hy0 hy1
        have hSL := hC_5.2.1
        refine value_ (w1 := w) (v := .pointer (some (aq.add y.toNat))) (by rfl) rfl ?_ (hK.out _ _ (Below.refl _ _) (⟨_, rfl, hq⟩))
        · go_simp
          (try simp only [i64_w, g65, g67])
          (try go_simp)
          try rfl
      refine Reg.re_cons (Reg.RStepE.of_r (fun oi hoi a w v w' he hs => by cases hoi; exact Reg.dis_keep he (by decide) hs) ?_) ?_
      · intro a w hb hs hel hon
        obtain ⟨x68, e68, ⟨p_8, rfl, hp_8⟩⟩ := hon 8 68 (by kernel_rfl) rfl
        obtain ⟨_, g68⟩ := Array.getElem?_eq_some_iff.1 e68
        refine ⟨_, rfl, fun K hK => ?_⟩
        refine value_ (w1 := w) (v := .int .i64 (rd SL y)) (by rfl) rfl ?_ (hK.out _ _ (Below.refl _ _) (rfl))
        · go_simp
          (try simp only [i64_w, g68])
          (try go_simp)
          try rfl
      refine Reg.re_cons ?_ ?_
      · intro a w hb hs hel hE hon
        obtain ⟨_, e69, rfl⟩ := hon 9 69 (by kernel_rfl) rfl
        obtain ⟨_, g69⟩ := Array.getElem?_eq_some_iff.1 e69
        refine ⟨_, rfl, fun K hK => ?_⟩
        refine value_ (w1 := w.alloc (.cells #[.int .i64 (rd SL y)] 3)) (v := .slice (some ⟨w.heap.size, 0, none⟩) ([rd SL y] : List Int).length ([rd SL y] : List Int).length) (by rfl) rfl ?_ (hK.out _ _ ((Below.refl _ _).alloc (Nat.le_refl _) _) (Reg.lit_of_alloc w ([rd SL y] : List Int) (Nat.le_trans HSZ.out hb.size) _ (by rfl)) (Reg.dis_swap (Reg.dis_new (Reg.dis_swap hE) (by decide) (by simp))))
        · go_simp
          (try simp only [i64_w, g69])
          (try go_simp)
          try rfl
      refine Reg.re_cons ?_ ?_
      · intro a w hb hs hel hE hon
        obtain ⟨_, e70, gq, rfl, hg0, hg⟩ := hon 10 70 (by kernel_rfl) rfl
        refine ⟨_, rfl, fun K hK => ?_⟩
        refine goes_ Tryd.func23 (by kernel_rfl) rfl #[.slice (some ⟨gq, 0, none⟩) ([rd SL y] : List Int).length ([rd SL y] : List Int).length] (by rfl) rfl rfl (by first | (simp only [List.map_toArray, List.map_cons, List.map_nil, Act.eval, Array.getD_eq_getD_getElem?, Option.getD_some, e70]; done) | (simp only [List.map_toArray, List.map_cons, List.map_nil, Act.eval, Array.getD_eq_getD_getElem?, Option.getD_some, e70]; rfl) | rfl) ?_
        refine (Reg.of_w _ _ _ _).mono ?_
        rintro e w2 ⟨rfl, hd⟩
        have hb2 := drewN_of hd
        exact ⟨_, rfl, hK.out _ _ hb2 ⟨gq, rfl, hg0, (hb2.block gq (blk_lt hg)).trans hg⟩ (Reg.dis_swap (Reg.dis_copy (Reg.dis_swap hE) (s := 70) (by decide) ⟨_, e70⟩ (by decide) hb2.size))⟩
      refine Reg.re_cons (Reg.RStepE.of_r (fun oi hoi a w v w' he hs => by cases hoi; exact Reg.dis_keep he (by decide) hs) ?_) ?_
      · intro a w hb hs hel hon
        refine ⟨_, rfl, fun K hK => ?_⟩
        refine value_ (w1 := w) (v := .slice none 0 0) (by rfl) rfl ?_ (hK.out _ _ (Below.refl _ _) (rfl))
        · go_simp
          (try simp only [i64_w])
          (try go_simp)
          try rfl
      refine Reg.re_cons ?_ ?_
      · intro a w hb hs hel hE hon
        obtain ⟨_, e71, gq, rfl, hg0, hg⟩ := hon 11 71 (by kernel_rfl) rfl
        obtain ⟨_, g71⟩ := Array.getElem?_eq_some_iff.1 e71
        refine ⟨_, rfl, fun K hK => ?_⟩
        refine value_ (w1 := w) (v := .slice (some ⟨gq, 0, none⟩) ([rd SL y] : List Int).length ([rd SL y] : List Int).length) (by rfl) rfl ?_ (hK.out _ _ (Below.refl _ _) ⟨gq, rfl, hg0, hg⟩ (Reg.dis_swap (Reg.dis_copy (Reg.dis_swap hE) (s := 71) (by decide) ⟨_, e71⟩ (by decide) (Nat.le_refl _))))
        · go_simp
          (try simp only [g71])
          (try go_simp)
          try rfl
      exact Reg.re_nil
    · intro a w hw_
      rename_i K_ hK_
      refine hK_ a w ?_
      obtain ⟨hI, hE⟩ := hw_
      obtain ⟨_, e7, ga, rfl, la, ba⟩ := hI.vals 13 7 rfl rfl
      obtain ⟨_, e6, rfl⟩ := hI.vals 12 6 rfl rfl
      have HE := Aside0.mk (Two.lit2 (Nat.le_trans (Nat.le_of_eq hb0_) la) ba (by simp) (HXB.out.trans (hI.below.mono HXB.out.size)))
      have G6 := Reg.getD_of e6
      have G7 := Reg.getD_of e7
      have hfr := hI.frame
      rw [hfr]
      simp only [Reg.puts, Act.put, List.setIfInBounds_toArray, List.set_cons_zero, List.set_cons_succ]
      rw [G6, G7]
      generalize a.tmps = ts_
      clear hI hE hfr hK_ e6 e7 G6 G7 ba la
      go_wp2_with fail
      go_ret2
      exact HE.out
  rw [if_neg a4] at h
  by_cases a5 : x = 5
  · rw [if_pos a5] at h
    subst a5
    have PS := Aside0.mk (fun W (hL : LaidOps W) => op_Shape.calls 5 3 0 W (by rfl) hL)
    by_cases bg : 0 ≤ u ∧ u < (U.length : Int) ∧ (rd_T43 U u).f1.length ≤ 20 ∧ (rd_T43 U u).f3.length ≤ 1100 ∧ 0 ≤ y ∧ y < ((slotsF (rd_T43 U u).f1 (rd_T43 U u).f2 (rd_T43 U u).f3).length : Int)
    rotate_left
    · rw [if_neg bg] at h; cases h
    rw [if_pos bg] at h
    obtain ⟨rfl, rfl⟩ := Prod.mk.inj (Option.some.inj h)
    clear h
    obtain ⟨m, rfl⟩ : ∃ m : Nat, u = m := ⟨u.toNat, by omega⟩
    have hm : m < U.length := by omega
    have hs := slots_is (rd_T43 U (m : Int)).f0 (rd_T43 U (m : Int)).f1 (rd_T43 U (m : Int)).f2 (rd_T43 U (m : Int)).f3 (rd_T43 U (m : Int)).f4 (by omega) (by omega)
    have hy0 := bg.2.2.2.2.1
    have hy1 := bg.2.2.2.2.2
    clear bg
    generalize slotsF (rd_T43 U (m : Int)).f1 (rd_T43 U (m : Int)).f2 (rd_T43 U (m : Int)).f3 = SL at *
    generalize hX_ : rd_T43 U (m : Int) = X at *
    have HXX := Aside0.mk hX_
    have PSL := Aside0.mk hs
    clear hX_ hs
    go_enter Tryd.func22, Tryd.ntmps22
    go_wp2_with fail
    refine (PS.out _ (HL.out.below HX.out.below).ops).mono ?_
    rintro e w1 ⟨rfl, hb⟩
    have HX1 := Aside0.mk (HX.out.step hb)
    clear hb PS
    obtain ⟨⟨q0, q1, q2, q3⟩, i0, i1, i2⟩ := HX1.out.cells
    go_wp2_with fail
    clear q0 q1 q2 q3 i0 i1 i2
    have HXB := Aside0.mk HX1.out.below
    have HP := Aside0.mk HX1.out.p
    have HI := Aside0.mk HX1.out.i
    have HG := Aside0.mk (Kd.C_below G3.out HX1.out.below)
    clear G0 G1 G2 G3
    clear HX1
    obtain ⟨b1, hb1⟩ : ∃ b, b = w.heap.size + 1 := ⟨_, rfl⟩
    rw [← hb1] at HI ⊢
    obtain ⟨b0, hb0⟩ : ∃ b, b = w.heap.size := ⟨_, rfl⟩
    rw [← hb0] at HP ⊢
    clear hb1 hb0
    have HSZ := Aside0.mk HXB.out.size
    have HLX := Aside0.mk (HL.out.below HXB.out)
    obtain ⟨ad, B1, d1, B3, d3, B4, d4, rfl, k0, k1, k2, k3, k4, hd1, hC1, hd3, hC3, hd4, hC4⟩ := at_T43 HG.out (m : Int) (by omega) (by omega)
    rw [Int.toNat_natCast] at k0 k1 k2 k3 k4
    rw [HXX.out] at k0 k1 k2 k3 k4 hC1 hd1 hC3 hd3 hC4 hd4
    have HK := Aside0.mk (fun (W : World) (hb : Below w1.heap.size w1 W) => And.intro (pw_cell_below hb k0) (And.intro (pw_cell_below hb k1) (And.intro (pw_cell_below hb k2) (And.intro (pw_cell_below hb k3) (pw_cell_below hb k4)))))
    have HC1 := Aside0.mk hC1
    have HC3 := Aside0.mk hC3
    have HC4 := Aside0.mk hC4
    clear k0 k1 k2 k3 k4 hC1 hC3 hC4 HG
    generalize hb0_ : w.heap.size = b0_ at HSZ
    refine Reg.region_e (Reg.Dis [84, 85, 6] []) [some 74, some 75, some 76, some 77, some 78, some 79, some 80, some 81, some 82, some 83, some 84, some 85, some 6, some 7] [0, 1, 0, 7, 15, 31, 0, 64, 255, 511, 1023, 2047, 4095, 8191] (true, [([], []), ([0], [0]), ([], []), ([1, 2], [1, 2]), ([3], [3]), ([4], [4]), ([], []), ([6], [6]), ([5, 7], [5, 7]), ([8], [8]), ([9], [9]), ([10, 5], [10]), ([11, 11, 0, 1, 2, 3, 4, 5, 6, 7, 8, 9, 10, 11], [11]), ([12, 0, 1, 2, 3, 4, 5, 6, 7, 8, 9, 10, 11, 12], [])]) (fun i => ([(fun _ v_ => v_ = (.pointer (some ⟨b0, 3, none⟩))), (fun _ v_ => v_ = (.slice (some ad) U.length c3)), (fun _ v_ => v_ = (.int .i64 (m : Int))), (fun _ v_ => v_ = (.pointer (some (ad.add (m * 5))))), (fun _ v_ => v_ = (.agg #[.string X.f0, .slice B1 X.f1.length d1, .int .i64 X.f2, .slice B3 X.f3.length d3, .slice B4 X.f4.length d4])), (fun w_ v_ => Reg.Rs (Kd.int .i64) w_ v_ SL), (fun _ v_ => v_ = (.pointer (some ⟨b1, 1, none⟩))), (fun _ v_ => v_ = (.int .i64 y)), (Reg.PtrTo (.int .i64 (rd SL y))), (fun _ v_ => v_ = (.int .i64 (rd SL y))), (Reg.Lit b0_ ([rd SL y] : List Int)), (Reg.Lit b0_ ([rd SL y] : List Int)), (Reg.Lit b0_ ([rd SL y] : List Int)), (fun _ v_ => v_ = (.slice none 0 0))] : List (World → Value → Prop)).getD i (fun _ _ => False))
        (by kernel_rfl) (by kernel_rfl) (by kernel_rfl) (by kernel_rfl) (by kernel_rfl) (by decide) (by rfl) (Reg.mono_getD ?_) [0, 1, 2, 3, 4, 5, 6, 7, 8, 9, 10, 11, 12, 13] (by kernel_rfl) ?_ ?_ ?_
    · exact Reg.monoS_cons (Reg.monoS_eq _) (Reg.monoS_cons (Reg.monoS_eq _) (Reg.monoS_cons (Reg.monoS_eq _) (Reg.monoS_cons (Reg.monoS_eq _) (Reg.monoS_cons (Reg.monoS_eq _) (Reg.monoS_cons (Reg.monoS_rs _ _) (Reg.monoS_cons (Reg.monoS_eq _) (Reg.monoS_cons (Reg.monoS_eq _) (Reg.monoS_cons (Reg.ptr_mono _) (Reg.monoS_cons (Reg.monoS_eq _) (Reg.monoS_cons (Reg.lit_mono _ _) (Reg.monoS_cons (Reg.lit_mono _ _) (Reg.monoS_cons (Reg.lit_mono _ _) (Reg.monoS_cons (Reg.monoS_eq _) Reg.monoS_nil)))))))))))))
    · intro w hw; exact Reg.dis_start (by rfl)
    · skip
      refine Reg.re_cons (Reg.RStepE.of_r (fun oi hoi a w v w' he hs => by cases hoi; exact Reg.dis_keep he (by decide) hs) ?_) ?_
      · intro a w hb hs hel hon
        have e3 : a.tmps[3]? = some (.pointer (some ⟨b0, 0, none⟩)) := (hel 3 (by decide)).trans rfl
        obtain ⟨_, g3⟩ := Array.getElem?_eq_some_iff.1 e3
        refine ⟨_, rfl, fun K hK => ?_⟩
        refine value_ (w1 := w) (v := .pointer (some ⟨b0, 3, none⟩)) (by rfl) rfl ?_ (hK.out _ _ (Below.refl _ _) (rfl))
        · go_simp
          (try simp only [i64_w, g3])
          (try go_simp)
          try rfl
      refine Reg.re_cons (Reg.RStepE.of_r (fun oi hoi a w v w' he hs => by cases hoi; exact Reg.dis_keep he (by decide) hs) ?_) ?_
      · intro a w hb hs hel hon
        obtain ⟨_, e74, rfl⟩ := hon 0 74 (by kernel_rfl) rfl
        obtain ⟨_, g74⟩ := Array.getElem?_eq_some_iff.1 e74
        refine ⟨_, rfl, fun K hK => ?_⟩
        have q_HP3 : w.cell? ⟨b0, 3, none⟩ = some (.slice (some ad) U.length c3) := (blk_cell ((hb.block _ (blk_lt HP.out)).trans HP.out) 3).trans rfl
        refine value_ (w1 := w) (v := .slice (some ad) U.length c3) (by rfl) rfl ?_ (hK.out _ _ (Below.refl _ _) (rfl))
        · go_simp
          (try simp only [i64_w, g74])
          (try go_simp)
          try rfl
      refine Reg.re_cons (Reg.RStepE.of_r (fun oi hoi a w v w' he hs => by cases hoi; exact Reg.dis_keep he (by decide) hs) ?_) ?_
      · intro a w hb hs hel hon
        have e1 : a.tmps[1]? = some (.int .i64 (m : Int)) := (hel 1 (by decide)).trans rfl
        obtain ⟨_, g1⟩ := Array.getElem?_eq_some_iff.1 e1
        refine ⟨_, rfl, fun K hK => ?_⟩
        refine value_ (w1 := w) (v := .int .i64 (m : Int)) (by rfl) rfl ?_ (hK.out _ _ (Below.refl _ _) (rfl))
        · go_simp
          (try simp only [i64_w, g1])
          (try go_simp)
          try rfl
      refine Reg.re_cons (Reg.RStepE.of_r (fun oi hoi a w v w' he hs => by cases hoi; exact Reg.dis_keep he (by decide) hs) ?_) ?_
      · intro a w hb hs hel hon
        obtain ⟨_, e75, rfl⟩ := hon 1 75 (by kernel_rfl) rfl
        obtain ⟨_, e76, rfl⟩ := hon 2 76 (by kernel_rfl) rfl
        obtain ⟨_, g75⟩ := Array.getElem?_eq_some_iff.1 e75
        obtain ⟨_, g76⟩ := Array.getElem?_eq_some_iff.1 e76
        refine ⟨_, rfl, fun K hK => ?_⟩
        have hm2_ : (m : Int) < (U.length : Int) := by omega
        refine value_ (w1 := w) (v := .pointer (some (ad.add (m * 5)))) (by rfl) rfl ?_ (hK.out _ _ (Below.refl _ _) (rfl))
        · go_simp
          (try simp only [i64_w, g75, g76])
          (try go_simp)
          try rfl
      refine Reg.re_cons (Reg.RStepE.of_r (fun oi hoi a w v w' he hs => by cases hoi; exact Reg.dis_keep he (by decide) hs) ?_) ?_
      · intro a w hb hs hel hon
        obtain ⟨_, e77, rfl⟩ := hon 3 77 (by kernel_rfl) rfl
        obtain ⟨_, g77⟩ := Array.getElem?_eq_some_iff.1 e77
        refine ⟨_, rfl, fun K hK => ?_⟩
        obtain ⟨k0, k1, k2, k3, k4⟩ := HK.out _ hb
        refine value_ (w1 := w) (v := .agg #[.string X.f0, .slice B1 X.f1.length d1, .int .i64 X.f2, .slice B3 X.f3.length d3, .slice B4 X.f4.length d4]) (by rfl) rfl ?_ (hK.out _ _ (Below.refl _ _) (rfl))
        · go_simp
          (try simp only [i64_w, g77])
          (try go_simp)
          try rfl
      refine Reg.re_cons (Reg.RStepE.of_r (fun oi hoi a w v w' he hs => by cases hoi; exact Reg.dis_keep he (by decide) hs) ?_) ?_
      · intro a w hb hs hel hon
        obtain ⟨_, e78, rfl⟩ := hon 4 78 (by kernel_rfl) rfl
        refine ⟨_, rfl, fun K hK => ?_⟩
        refine goes_ Tryd.func36 (by kernel_rfl) rfl #[.agg #[.string X.f0, .slice B1 X.f1.length d1, .int .i64 X.f2, .slice B3 X.f3.length d3, .slice B4 X.f4.length d4]] (by rfl) rfl rfl (by first | (simp only [List.map_toArray, List.map_cons, List.map_nil, Act.eval, Array.getD_eq_getD_getElem?, Option.getD_some, e78]; done) | (simp only [List.map_toArray, List.map_cons, List.map_nil, Act.eval, Array.getD_eq_getD_getElem?, Option.getD_some, e78]; rfl) | rfl) ?_
        refine (unit_Slots.calls X.f0 B1 d1 X.f1 X.f2 B3 d3 X.f3 B4 d4 X.f4 SL w (Kd.C_below HC1.out hb) hd1 (Kd.C_below HC3.out hb) hd3 (Kd.C_below HC4.out hb) hd4 PSL.out).mono ?_
        rintro e w2 ⟨v, rfl, ho, hb2⟩
        exact ⟨_, rfl, hK.out _ _ hb2 (Kd.R_reads ho)⟩
      refine Reg.re_cons (Reg.RStepE.of_r (fun oi hoi a w v w' he hs => by cases hoi; exact Reg.dis_keep he (by decide) hs) ?_) ?_
      · intro a w hb hs hel hon
        have e5 : a.tmps[5]? = some (.pointer (some ⟨b1, 0, none⟩)) := (hel 5 (by decide)).trans rfl
        obtain ⟨_, g5⟩ := Array.getElem?_eq_some_iff.1 e5
        refine ⟨_, rfl, fun K hK => ?_⟩
        refine value_ (w1 := w) (v := .pointer (some ⟨b1, 1, none⟩)) (by rfl) rfl ?_ (hK.out _ _ (Below.refl _ _) (rfl))
        · go_simp
          (try simp only [i64_w, g5])
          (try go_simp)
          try rfl
      refine Reg.re_cons (Reg.RStepE.of_r (fun oi hoi a w v w' he hs => by cases hoi; exact Reg.dis_keep he (by decide) hs) ?_) ?_
      · intro a w hb hs hel hon
        obtain ⟨_, e80, rfl⟩ := hon 6 80 (by kernel_rfl) rfl
        obtain ⟨_, g80⟩ := Array.getElem?_eq_some_iff.1 e80
        refine ⟨_, rfl, fun K hK => ?_⟩
        have q_HI1 : w.cell? ⟨b1, 1, none⟩ = some (.int .i64 y) := (blk_cell ((hb.block _ (blk_lt HI.out)).trans HI.out) 1).trans rfl
        refine value_ (w1 := w) (v := .int .i64 y) (by rfl) rfl ?_ (hK.out _ _ (Below.refl _ _) (rfl))
        · go_simp
          (try simp only [i64_w, g80])
          (try go_simp)
          try rfl
      refine Reg.re_cons (Reg.RStepE.of_r (fun oi hoi a w v w' he hs => by cases hoi; exact Reg.dis_keep he (by decide) hs) ?_) ?_
      · intro a w hb hs hel hon
        obtain ⟨x79, e79, ⟨A_5, c_5, rfl, hl_5, hC_5⟩⟩ := hon 5 79 (by kernel_rfl) rfl
        obtain ⟨_, e81, rfl⟩ := hon 7 81 (by kernel_rfl) rfl
        obtain ⟨_, g79⟩ := Array.getElem?_eq_some_iff.1 e79
        obtain ⟨_, g81⟩ := Array.getElem?_eq_some_iff.1 e81
        refine ⟨_, rfl, fun K hK => ?_⟩
        obtain ⟨aq, rfl, hq⟩ := Kd.at_int hC_5 y hy0 hy1
        have hSL := hC_5.2.1
        refine value_ (w1 := w) (v := .pointer (some (aq.add y.toNat))) (by rfl) rfl ?_ (hK.out _ _ (Below.refl _ _) (⟨_, rfl, hq⟩))
        · go_simp
          (try simp only [i64_w, g79, g81])
          (try go_simp)
          try rfl
      refine Reg.re_cons (Reg.RStepE.of_r (fun oi hoi a w v w' he hs => by cases hoi; exact Reg.dis_keep he (by decide) hs) ?_) ?_
      · intro a w hb hs hel hon
        obtain ⟨x82, e82, ⟨p_8, rfl, hp_8⟩⟩ := hon 8 82 (by kernel_rfl) rfl
        obtain ⟨_, g82⟩ := Array.getElem?_eq_some_iff.1 e82
        refine ⟨_, rfl, fun K hK => ?_⟩
        refine value_ (w1 := w) (v := .int .i64 (rd SL y)) (by rfl) rfl ?_ (hK.out _ _ (Below.refl _ _) (rfl))
        · go_simp
          (try simp only [i64_w, g82])
          (try go_simp)
          try rfl
      refine Reg.re_cons ?_ ?_
      · intro a w hb hs hel hE hon
        obtain ⟨_, e83, rfl⟩ := hon 9 83 (by kernel_rfl) rfl
        obtain ⟨_, g83⟩ := Array.getElem?_eq_some_iff.1 e83
        refine ⟨_, rfl, fun K hK => ?_⟩
        refine value_ (w1 := w.alloc (.cells #[.int .i64 (rd SL y)] 3)) (v := .slice (some ⟨w.heap.size, 0, none⟩) ([rd SL y] : List Int).length ([rd SL y] : List Int).length) (by rfl) rfl ?_ (hK.out _ _ ((Below.refl _ _).alloc (Nat.le_refl _) _) (Reg.lit_of_alloc w ([rd SL y] : List Int) (Nat.le_trans HSZ.out hb.size) _ (by rfl)) (Reg.dis_new hE (by decide) (by simp)))
        · go_simp
          (try simp only [i64_w, g83])
          (try go_simp)
          try rfl
      refine Reg.re_cons ?_ ?_
      · intro a w hb hs hel hE hon
        obtain ⟨_, e84, gq, rfl, hg0, hg⟩ := hon 10 84 (by kernel_rfl) rfl
        refine ⟨_, rfl, fun K hK => ?_⟩
        refine goes_ Tryd.func23 (by kernel_rfl) rfl #[.slice (some ⟨gq, 0, none⟩) ([rd SL y] : List Int).length ([rd SL y] : List Int).length] (by rfl) rfl rfl (by first | (simp only [List.map_toArray, List.map_cons, List.map_nil, Act.eval, Array.getD_eq_getD_getElem?, Option.getD_some, e84]; done) | (simp only [List.map_toArray, List.map_cons, List.map_nil, Act.eval, Array.getD_eq_getD_getElem?, Option.getD_some, e84]; rfl) | rfl) ?_
        refine (Reg.of_w _ _ _ _).mono ?_
        rintro e w2 ⟨rfl, hd⟩
        have hb2 := drewN_of hd
        exact ⟨_, rfl, hK.out _ _ hb2 ⟨gq, rfl, hg0, (hb2.block gq (blk_lt hg)).trans hg⟩ (Reg.dis_copy hE (s := 84) (by decide) ⟨_, e84⟩ (by decide) hb2.size)⟩
      refine Reg.re_cons ?_ ?_
      · intro a w hb hs hel hE hon
        obtain ⟨_, e85, gq, rfl, hg0, hg⟩ := hon 11 85 (by kernel_rfl) rfl
        obtain ⟨_, g85⟩ := Array.getElem?_eq_some_iff.1 e85
        refine ⟨_, rfl, fun K hK => ?_⟩
        refine value_ (w1 := w) (v := .slice (some ⟨gq, 0, none⟩) ([rd SL y] : List Int).length ([rd SL y] : List Int).length) (by rfl) rfl ?_ (hK.out _ _ (Below.refl _ _) ⟨gq, rfl, hg0, hg⟩ (Reg.dis_copy hE (s := 85) (by decide) ⟨_, e85⟩ (by decide) (Nat.le_refl _)))
        · go_simp
          (try simp only [g85])
          (try go_simp)
          try rfl
      refine Reg.re_cons (Reg.RStepE.of_r (fun oi hoi a w v w' he hs => by cases hoi; exact Reg.dis_keep he (by decide) hs) ?_) ?_
      · intro a w hb hs hel hon
        refine ⟨_, rfl, fun K hK => ?_⟩
        refine value_ (w1 := w) (v := .slice none 0 0) (by rfl) rfl ?_ (hK.out _ _ (Below.refl _ _) (rfl))
        · go_simp
          (try simp only [i64_w])
          (try go_simp)
          try rfl
      exact Reg.re_nil
    · intro a w hw_
      rename_i K_ hK_
      refine hK_ a w ?_
      obtain ⟨hI, hE⟩ := hw_
      obtain ⟨_, e6, ga, rfl, la, ba⟩ := hI.vals 12 6 rfl rfl
      obtain ⟨_, e7, rfl⟩ := hI.vals 13 7 rfl rfl
      have HE := Aside0.mk (Two.lit1 (Nat.le_trans (Nat.le_of_eq hb0_) la) ba (by simp) (HXB.out.trans (hI.below.mono HXB.out.size)))
      have G6 := Reg.getD_of e6
      have G7 := Reg.getD_of e7
      have hfr := hI.frame
      rw [hfr]
      simp only [Reg.puts, Act.put, List.setIfInBounds_toArray, List.set_cons_zero, List.set_cons_succ]
      rw [G6, G7]
      generalize a.tmps = ts_
      clear hI hE hfr hK_ e6 e7 G6 G7 ba la
      go_wp2_with fail
      go_ret2
      exact HE.out
  rw [if_neg a5] at h
  by_cases a6 : x = 6
  · rw [if_pos a6] at h
    subst a6
    have PS := Aside0.mk (fun W (hL : LaidOps W) => op_Shape.calls 6 2 0 W (by rfl) hL)
    by_cases b0 : 0 ≤ y ∧ y < (V.length : Int)
    rotate_left
    · rw [if_neg b0] at h; cases h
    rw [if_pos b0] at h
    obtain ⟨rfl, rfl⟩ := Prod.mk.inj (Option.some.inj h)
    obtain ⟨m, rfl⟩ : ∃ m : Nat, y = m := ⟨y.toNat, by omega⟩
    have hm : m < V.length := by omega
    clear h b0
    go_enter Tryd.func22, Tryd.ntmps22
    go_wp2_with fail
    refine (PS.out _ (HL.out.below HX.out.below).ops).mono ?_
    rintro e w1 ⟨rfl, hb⟩
    have HX1 := Aside0.mk (HX.out.step hb)
    clear hb PS
    obtain ⟨⟨q0, q1, q2, q3⟩, i0, i1, i2⟩ := HX1.out.cells
    obtain ⟨ad, rfl, k0, k1, k2, k3, k4⟩ := at_T37 (Kd.C_below G1.out HX1.out.below) (m : Int) (by omega) (by omega)
    rw [Int.toNat_natCast] at k0 k1 k2 k3 k4
    clear k0 k2 k3 k4
    go_wp2_with fail
    clear q0 q1 q2 q3 i0 i1 i2
    have HXB := Aside0.mk HX1.out.below
    have HP := Aside0.mk HX1.out.p
    have HI := Aside0.mk HX1.out.i
    clear HX1
    obtain ⟨b1, hb1⟩ : ∃ b, b = w.heap.size + 1 := ⟨_, rfl⟩
    rw [← hb1] at HI ⊢
    obtain ⟨b0, hb0⟩ : ∃ b, b = w.heap.size := ⟨_, rfl⟩
    rw [← hb0] at HP ⊢
    clear hb1 hb0
    have HSZ := Aside0.mk HXB.out.size
    have HLX := Aside0.mk (HL.out.below HXB.out)
    have HK := Aside0.mk (fun (W : World) (hb : Below w1.heap.size w1 W) => pw_cell_below hb k1)
    clear k1 G0 G1 G2 G3
    generalize hb0_ : w.heap.size = b0_ at HSZ
    refine Reg.region_e (Reg.Dis [88, 89, 6] [97, 98, 7]) [some 88, some 89, some 90, some 91, some 92, some 93, some 94, some 95, some 96, some 97, some 98, some 6, some 7] [0, 1, 0, 4, 0, 16, 60, 124, 252, 508, 1023, 2047, 4095] (true, [([], []), ([0], [0]), ([], []), ([2], [2]), ([], []), ([4], [4]), ([3, 5], [3, 5]), ([6], [6]), ([7], [7]), ([8], [8]), ([9, 1], [9]), ([1, 10, 0, 1], [1]), ([10, 11, 0, 1, 2, 3, 4, 5, 6, 7, 8, 9, 10, 11], [10])]) (fun i => ([(Reg.Lit b0_ ([2] : List Int)), (Reg.Lit b0_ ([2] : List Int)), (fun _ v_ => v_ = (.pointer (some ⟨b0, 1, none⟩))), (fun _ v_ => v_ = (.slice (some ad) V.length c1)), (fun _ v_ => v_ = (.pointer (some ⟨b1, 1, none⟩))), (fun _ v_ => v_ = (.int .i64 (m : Int))), (fun _ v_ => v_ = (.pointer (some (ad.add (m * 5))))), (fun _ v_ => v_ = (.pointer (some ⟨(ad.add (m * 5)).block, (ad.add (m * 5)).off + 1, none⟩))), (fun _ v_ => v_ = (.int .i64 ((rd_T37 V (m : Int)).f1))), (Reg.Lit b0_ ([(rd_T37 V (m : Int)).f1] : List Int)), (Reg.Lit b0_ ([(rd_T37 V (m : Int)).f1] : List Int)), (Reg.Lit b0_ ([2] : List Int)), (Reg.Lit b0_ ([(rd_T37 V (m : Int)).f1] : List Int))] : List (World → Value → Prop)).getD i (fun _ _ => False))
        (by kernel_rfl) (by kernel_rfl) (by kernel_rfl) (by kernel_rfl) (by kernel_rfl) (by decide) (by rfl) (Reg.mono_getD ?_) [0, 1, 2, 3, 4, 5, 6, 7, 8, 9, 10, 11, 12] (by kernel_rfl) ?_ ?_ ?_
    · exact Reg.monoS_cons (Reg.lit_mono _ _) (Reg.monoS_cons (Reg.lit_mono _ _) (Reg.monoS_cons (Reg.monoS_eq _) (Reg.monoS_cons (Reg.monoS_eq _) (Reg.monoS_cons (Reg.monoS_eq _) (Reg.monoS_cons (Reg.monoS_eq _) (Reg.monoS_cons (Reg.monoS_eq _) (Reg.monoS_cons (Reg.monoS_eq _) (Reg.monoS_cons (Reg.monoS_eq _) (Reg.monoS_cons (Reg.lit_mono _ _) (Reg.monoS_cons (Reg.lit_mono _ _) (Reg.monoS_cons (Reg.lit_mono _ _) (Reg.monoS_cons (Reg.lit_mono _ _) Reg.monoS_nil))))))))))))
    · intro w hw; exact Reg.dis_start (by rfl)
    · skip
      refine Reg.re_cons ?_ ?_
      · intro a w hb hs hel hE hon
        refine ⟨_, rfl, fun K hK => ?_⟩
        refine value_ (w1 := w.alloc (.cells #[.int .i64 2] 3)) (v := .slice (some ⟨w.heap.size, 0, none⟩) ([2] : List Int).length ([2] : List Int).length) (by rfl) rfl ?_ (hK.out _ _ ((Below.refl _ _).alloc (Nat.le_refl _) _) (Reg.lit_of_alloc w ([2] : List Int) (Nat.le_trans HSZ.out hb.size) _ (by rfl)) (Reg.dis_new hE (by decide) (by simp)))
        · go_simp
          (try simp only [i64_w])
          (try go_simp)
          try rfl
      refine Reg.re_cons ?_ ?_
      · intro a w hb hs hel hE hon
        obtain ⟨_, e88, gq, rfl, hg0, hg⟩ := hon 0 88 (by kernel_rfl) rfl
        refine ⟨_, rfl, fun K hK => ?_⟩
        refine goes_ Tryd.func23 (by kernel_rfl) rfl #[.slice (some ⟨gq, 0, none⟩) ([2] : List Int).length ([2] : List Int).length] (by rfl) rfl rfl (by first | (simp only [List.map_toArray, List.map_cons, List.map_nil, Act.eval, Array.getD_eq_getD_getElem?, Option.getD_some, e88]; done) | (simp only [List.map_toArray, List.map_cons, List.map_nil, Act.eval, Array.getD_eq_getD_getElem?, Option.getD_some, e88]; rfl) | rfl) ?_
        refine (Reg.of_w _ _ _ _).mono ?_
        rintro e w2 ⟨rfl, hd⟩
        have hb2 := drewN_of hd
        exact ⟨_, rfl, hK.out _ _ hb2 ⟨gq, rfl, hg0, (hb2.block gq (blk_lt hg)).trans hg⟩ (Reg.dis_copy hE (s := 88) (by decide) ⟨_, e88⟩ (by decide) hb2.size)⟩
      refine Reg.re_cons (Reg.RStepE.of_r (fun oi hoi a w v w' he hs => by cases hoi; exact Reg.dis_keep he (by decide) hs) ?_) ?_
      · intro a w hb hs hel hon
        have e3 : a.tmps[3]? = some (.pointer (some ⟨b0, 0, none⟩)) := (hel 3 (by decide)).trans rfl
        obtain ⟨_, g3⟩ := Array.getElem?_eq_some_iff.1 e3
        refine ⟨_, rfl, fun K hK => ?_⟩
        refine value_ (w1 := w) (v := .pointer (some ⟨b0, 1, none⟩)) (by rfl) rfl ?_ (hK.out _ _ (Below.refl _ _) (rfl))
        · go_simp
          (try simp only [i64_w, g3])
          (try go_simp)
          try rfl
      refine Reg.re_cons (Reg.RStepE.of_r (fun oi hoi a w v w' he hs => by cases hoi; exact Reg.dis_keep he (by decide) hs) ?_) ?_
      · intro a w hb hs hel hon
        obtain ⟨_, e90, rfl⟩ := hon 2 90 (by kernel_rfl) rfl
        obtain ⟨_, g90⟩ := Array.getElem?_eq_some_iff.1 e90
        refine ⟨_, rfl, fun K hK => ?_⟩
        have q_HP1 : w.cell? ⟨b0, 1, none⟩ = some (.slice (some ad) V.length c1) := (blk_cell ((hb.block _ (blk_lt HP.out)).trans HP.out) 1).trans rfl
        refine value_ (w1 := w) (v := .slice (some ad) V.length c1) (by rfl) rfl ?_ (hK.out _ _ (Below.refl _ _) (rfl))
        · go_simp
          (try simp only [i64_w, g90])
          (try go_simp)
          try rfl
      refine Reg.re_cons (Reg.RStepE.of_r (fun oi hoi a w v w' he hs => by cases hoi; exact Reg.dis_keep he (by decide) hs) ?_) ?_
      · intro a w hb hs hel hon
        have e5 : a.tmps[5]? = some (.pointer (some ⟨b1, 0, none⟩)) := (hel 5 (by decide)).trans rfl
        obtain ⟨_, g5⟩ := Array.getElem?_eq_some_iff.1 e5
        refine ⟨_, rfl, fun K hK => ?_⟩
        refine value_ (w1 := w) (v := .pointer (some ⟨b1, 1, none⟩)) (by rfl) rfl ?_ (hK.out _ _ (Below.refl _ _) (rfl))
        · go_simp
          (try simp only [i64_w, g5])
          (try go_simp)
          try rfl
      refine Reg.re_cons (Reg.RStepE.of_r (fun oi hoi a w v w' he hs => by cases hoi; exact Reg.dis_keep he (by decide) hs) ?_) ?_
      · intro a w hb hs hel hon
        obtain ⟨_, e92, rfl⟩ := hon 4 92 (by kernel_rfl) rfl
        obtain ⟨_, g92⟩ := Array.getElem?_eq_some_iff.1 e92
        refine ⟨_, rfl, fun K hK => ?_⟩
        have q_HI1 : w.cell? ⟨b1, 1, none⟩ = some (.int .i64 (m : Int)) := (blk_cell ((hb.block _ (blk_lt HI.out)).trans HI.out) 1).trans rfl
        refine value_ (w1 := w) (v := .int .i64 (m : Int)) (by rfl) rfl ?_ (hK.out _ _ (Below.refl _ _) (rfl))
        · go_simp
          (try simp only [i64_w, g92])
          (try go_simp)
          try rfl
      refine Reg.re_cons (Reg.RStepE.of_r (fun oi hoi a w v w' he hs => by cases hoi; exact Reg.dis_keep he (by decide) hs) ?_) ?_
      · intro a w hb hs hel hon
        obtain ⟨_, e91, rfl⟩ := hon 3 91 (by kernel_rfl) rfl
        obtain ⟨_, e93, rfl⟩ := hon 5 93 (by kernel_rfl) rfl
        obtain ⟨_, g91⟩ := Array.getElem?_eq_some_iff.1 e91
        obtain ⟨_, g93⟩ := Array.getElem?_eq_some_iff.1 e93
        refine ⟨_, rfl, fun K hK => ?_⟩
        have hm2_ : (m : Int) < (V.length : Int) := by omega
        refine value_ (w1 := w) (v := .pointer (some (ad.add (m * 5)))) (by rfl) rfl ?_ (hK.out _ _ (Below.refl _ _) (rfl))
        · go_simp
          (try simp only [i64_w, g91, g93])
          (try go_simp)
          try rfl
      refine Reg.re_cons (Reg.RStepE.of_r (fun oi hoi a w v w' he hs => by cases hoi; exact Reg.dis_keep he (by decide) hs) ?_) ?_
      · intro a w hb hs hel hon
        obtain ⟨_, e94, rfl⟩ := hon 6 94 (by kernel_rfl) rfl
        obtain ⟨_, g94⟩ := Array.getElem?_eq_some_iff.1 e94
        refine ⟨_, rfl, fun K hK => ?_⟩
        refine value_ (w1 := w) (v := .pointer (some ⟨(ad.add (m * 5)).block, (ad.add (m * 5)).off + 1, none⟩)) (by rfl) rfl ?_ (hK.out _ _ (Below.refl _ _) (rfl))
        · go_simp
          (try simp only [i64_w, g94])
          (try go_simp)
          try rfl
      refine Reg.re_cons (Reg.RStepE.of_r (fun oi hoi a w v w' he hs => by cases hoi; exact Reg.dis_keep he (by decide) hs) ?_) ?_
      · intro a w hb hs hel hon
        obtain ⟨_, e95, rfl⟩ := hon 7 95 (by kernel_rfl) rfl
        obtain ⟨_, g95⟩ := Array.getElem?_eq_some_iff.1 e95
        refine ⟨_, rfl, fun K hK => ?_⟩
        have kk_ := HK.out _ hb
        refine value_ (w1 := w) (v := .int .i64 ((rd_T37 V (m : Int)).f1)) (by rfl) rfl ?_ (hK.out _ _ (Below.refl _ _) (rfl))
        · go_simp
          (try simp only [i64_w, g95])
          (try go_simp)
          try rfl
      refine Reg.re_cons ?_ ?_
      · intro a w hb hs hel hE hon
        obtain ⟨_, e96, rfl⟩ := hon 8 96 (by kernel_rfl) rfl
        obtain ⟨_, g96⟩ := Array.getElem?_eq_some_iff.1 e96
        refine ⟨_, rfl, fun K hK => ?_⟩
        refine value_ (w1 := w.alloc (.cells #[.int .i64 ((rd_T37 V (m : Int)).f1)] 3)) (v := .slice (some ⟨w.heap.size, 0, none⟩) ([(rd_T37 V (m : Int)).f1] : List Int).length ([(rd_T37 V (m : Int)).f1] : List Int).length) (by rfl) rfl ?_ (hK.out _ _ ((Below.refl _ _).alloc (Nat.le_refl _) _) (Reg.lit_of_alloc w ([(rd_T37 V (m : Int)).f1] : List Int) (Nat.le_trans HSZ.out hb.size) _ (by rfl)) (Reg.dis_swap (Reg.dis_new (Reg.dis_swap hE) (by decide) (by simp))))
        · go_simp
          (try simp only [i64_w, g96])
          (try go_simp)
          try rfl
      refine Reg.re_cons ?_ ?_
      · intro a w hb hs hel hE hon
        obtain ⟨_, e97, gq, rfl, hg0, hg⟩ := hon 9 97 (by kernel_rfl) rfl
        refine ⟨_, rfl, fun K hK => ?_⟩
        refine goes_ Tryd.func23 (by kernel_rfl) rfl #[.slice (some ⟨gq, 0, none⟩) ([(rd_T37 V (m : Int)).f1] : List Int).length ([(rd_T37 V (m : Int)).f1] : List Int).length] (by rfl) rfl rfl (by first | (simp only [List.map_toArray, List.map_cons, List.map_nil, Act.eval, Array.getD_eq_getD_getElem?, Option.getD_some, e97]; done) | (simp only [List.map_toArray, List.map_cons, List.map_nil, Act.eval, Array.getD_eq_getD_getElem?, Option.getD_some, e97]; rfl) | rfl) ?_
        refine (Reg.of_w _ _ _ _).mono ?_
        rintro e w2 ⟨rfl, hd⟩
        have hb2 := drewN_of hd
        exact ⟨_, rfl, hK.out _ _ hb2 ⟨gq, rfl, hg0, (hb2.block gq (blk_lt hg)).trans hg⟩ (Reg.dis_swap (Reg.dis_copy (Reg.dis_swap hE) (s := 97) (by decide) ⟨_, e97⟩ (by decide) hb2.size))⟩
      refine Reg.re_cons ?_ ?_
      · intro a w hb hs hel hE hon
        obtain ⟨_, e89, gq, rfl, hg0, hg⟩ := hon 1 89 (by kernel_rfl) rfl
        obtain ⟨_, g89⟩ := Array.getElem?_eq_some_iff.1 e89
        refine ⟨_, rfl, fun K hK => ?_⟩
        refine value_ (w1 := w) (v := .slice (some ⟨gq, 0, none⟩) ([2] : List Int).length ([2] : List Int).length) (by rfl) rfl ?_ (hK.out _ _ (Below.refl _ _) ⟨gq, rfl, hg0, hg⟩ (Reg.dis_copy hE (s := 89) (by decide) ⟨_, e89⟩ (by decide) (Nat.le_refl _)))
        · go_simp
          (try simp only [g89])
          (try go_simp)
          try rfl
      refine Reg.re_cons ?_ ?_
      · intro a w hb hs hel hE hon
        obtain ⟨_, e98, gq, rfl, hg0, hg⟩ := hon 10 98 (by kernel_rfl) rfl
        obtain ⟨_, g98⟩ := Array.getElem?_eq_some_iff.1 e98
        refine ⟨_, rfl, fun K hK => ?_⟩
        refine value_ (w1 := w) (v := .slice (some ⟨gq, 0, none⟩) ([(rd_T37 V (m : Int)).f1] : List Int).length ([(rd_T37 V (m : Int)).f1] : List Int).length) (by rfl) rfl ?_ (hK.out _ _ (Below.refl _ _) ⟨gq, rfl, hg0, hg⟩ (Reg.dis_swap (Reg.dis_copy (Reg.dis_swap hE) (s := 98) (by decide) ⟨_, e98⟩ (by decide) (Nat.le_refl _))))
        · go_simp
          (try simp only [g98])
          (try go_simp)
          try rfl
      exact Reg.re_nil
    · intro a w hw_
      rename_i K_ hK_
      refine hK_ a w ?_
      obtain ⟨hI, hE⟩ := hw_
      obtain ⟨_, e6, ga, rfl, la, ba⟩ := hI.vals 11 6 rfl rfl
      obtain ⟨_, e7, gb, rfl, lb, bb⟩ := hI.vals 12 7 rfl rfl
      have hne : ga ≠ gb := fun e => hE.2 ga ⟨6, by decide, _, e6⟩ ⟨7, by decide, _, by rw [e]; exact e7⟩
      have HE := Aside0.mk (Two.lits (Nat.le_trans (Nat.le_of_eq hb0_) la) ba (by simp) (Nat.le_trans (Nat.le_of_eq hb0_) lb) bb (by simp) hne (HXB.out.trans (hI.below.mono HXB.out.size)))
      have G6 := Reg.getD_of e6
      have G7 := Reg.getD_of e7
      have hfr := hI.frame
      rw [hfr]
      simp only [Reg.puts, Act.put, List.setIfInBounds_toArray, List.set_cons_zero, List.set_cons_succ]
      rw [G6, G7]
      generalize a.tmps = ts_
      clear hI hE hfr hK_ e6 e7 G6 G7 ba bb la lb hne
      go_wp2_with fail
      go_ret2
      exact HE.out
  rw [if_neg a6] at h
  by_cases a7 : x = 7
  · rw [if_pos a7] at h
    subst a7
    have PS := Aside0.mk (fun W (hL : LaidOps W) => op_Shape.calls 7 2 0 W (by rfl) hL)
    by_cases b0 : 0 ≤ y ∧ y < (V.length : Int)
    rotate_left
    · rw [if_neg b0] at h; cases h
    rw [if_pos b0] at h
    obtain ⟨rfl, rfl⟩ := Prod.mk.inj (Option.some.inj h)
    obtain ⟨m, rfl⟩ : ∃ m : Nat, y = m := ⟨y.toNat, by omega⟩
    have hm : m < V.length := by omega
    clear h b0
    go_enter Tryd.func22, Tryd.ntmps22
    go_wp2_with fail
    refine (PS.out _ (HL.out.below HX.out.below).ops).mono ?_
    rintro e w1 ⟨rfl, hb⟩
    have HX1 := Aside0.mk (HX.out.step hb)
    clear hb PS
    obtain ⟨⟨q0, q1, q2, q3⟩, i0, i1, i2⟩ := HX1.out.cells
    obtain ⟨ad, rfl, k0, k1, k2, k3, k4⟩ := at_T37 (Kd.C_below G1.out HX1.out.below) (m : Int) (by omega) (by omega)
    rw [Int.toNat_natCast] at k0 k1 k2 k3 k4
    go_wp2_with fail
    refine (of_lit w w1 _ rfl ([2, (rd_T37 V (m : Int)).f1] : List Int) _ rfl HX1.out.below).mono ?_
    rintro e w9 ⟨rfl, hb, -, hl, -⟩
    have HE := Aside0.mk (Two.lit1 (HX1.out.below).size hl (by simp) hb)
    clear hb hl
    go_wp2_with fail
    go_ret2
    exact HE.out
  rw [if_neg a7] at h
  by_cases a27 : x = 27
  · rw [if_pos a27] at h
    subst a27
    have PS := Aside0.mk (fun W (hL : LaidOps W) => op_Shape.calls 27 0 0 W (by rfl) hL)
    obtain ⟨rfl, rfl⟩ := Prod.mk.inj (Option.some.inj h)
    clear h
    go_enter Tryd.func22, Tryd.ntmps22
    go_wp2_with fail
    refine (PS.out _ (HL.out.below HX.out.below).ops).mono ?_
    rintro e w1 ⟨rfl, hb⟩
    have HX1 := Aside0.mk (HX.out.step hb)
    clear hb PS
    obtain ⟨⟨q0, q1, q2, q3⟩, i0, i1, i2⟩ := HX1.out.cells
    go_wp2_with fail
    refine (of_lit w w1 _ rfl ([0] : List Int) _ rfl HX1.out.below).mono ?_
    rintro e w2 ⟨rfl, hb, -, hl, hlt⟩
    have HB2 := Aside0.mk hb
    have HL2 := Aside0.mk hl
    have HT2 := Aside0.mk hlt
    clear hb hl hlt
    go_wp2_with fail
    refine (of_lit w w2 _ rfl ([0, 0] : List Int) _ rfl HB2.out).mono ?_
    rintro e w9 ⟨rfl, hb, hb2, hl, hlt⟩
    have HE := Aside0.mk (Two.lits (r1 := [0]) (r2 := [0, 0]) (HX1.out.below).size ((hb2.block _ HT2.out).trans HL2.out) (by simp) HB2.out.size hl (by simp) (Nat.ne_of_lt HT2.out) hb)
    clear hb hb2 hl hlt
    go_wp2_with fail
    go_ret2
    exact HE.out
  rw [if_neg a27] at h
  by_cases a28 : x = 28
  · rw [if_pos a28] at h
    subst a28
    have PS := Aside0.mk (fun W (hL : LaidOps W) => op_Shape.calls 28 0 0 W (by rfl) hL)
    obtain ⟨rfl, rfl⟩ := Prod.mk.inj (Option.some.inj h)
    clear h
    go_enter Tryd.func22, Tryd.ntmps22
    go_wp2_with fail
    refine (PS.out _ (HL.out.below HX.out.below).ops).mono ?_
    rintro e w1 ⟨rfl, hb⟩
    have HX1 := Aside0.mk (HX.out.step hb)
    clear hb PS
    obtain ⟨⟨q0, q1, q2, q3⟩, i0, i1, i2⟩ := HX1.out.cells
    go_wp2_with fail
    refine (of_lit w w1 _ rfl ([0] : List Int) _ rfl HX1.out.below).mono ?_
    rintro e w9 ⟨rfl, hb, -, hl, -⟩
    have HE := Aside0.mk (Two.lit1 (HX1.out.below).size hl (by simp) hb)
    clear hb hl
    go_wp2_with fail
    go_ret2
    exact HE.out
  rw [if_neg a28] at h
  by_cases a29 : x = 29
  · rw [if_pos a29] at h
    subst a29
    have PS := Aside0.mk (fun W (hL : LaidOps W) => op_Shape.calls 29 0 0 W (by rfl) hL)
    obtain ⟨rfl, rfl⟩ := Prod.mk.inj (Option.some.inj h)
    clear h
    go_enter Tryd.func22, Tryd.ntmps22
    go_wp2_with fail
    refine (PS.out _ (HL.out.below HX.out.below).ops).mono ?_
    rintro e w1 ⟨rfl, hb⟩
    have HX1 := Aside0.mk (HX.out.step hb)
    clear hb PS
    obtain ⟨⟨q0, q1, q2, q3⟩, i0, i1, i2⟩ := HX1.out.cells
    go_wp2_with fail
    refine (of_lit w w1 _ rfl ([0, 0] : List Int) _ rfl HX1.out.below).mono ?_
    rintro e w2 ⟨rfl, hb, -, hl, hlt⟩
    have HB2 := Aside0.mk hb
    have HL2 := Aside0.mk hl
    have HT2 := Aside0.mk hlt
    clear hb hl hlt
    go_wp2_with fail
    refine (of_lit w w2 _ rfl ([0, 0] : List Int) _ rfl HB2.out).mono ?_
    rintro e w9 ⟨rfl, hb, hb2, hl, hlt⟩
    have HE := Aside0.mk (Two.lits (r1 := [0, 0]) (r2 := [0, 0]) (HX1.out.below).size ((hb2.block _ HT2.out).trans HL2.out) (by simp) HB2.out.size hl (by simp) (Nat.ne_of_lt HT2.out) hb)
    clear hb hb2 hl hlt
    go_wp2_with fail
    go_ret2
    exact HE.out
  rw [if_neg a29] at h
  by_cases a31 : x = 31
  · rw [if_pos a31] at h
    subst a31
    have PS := Aside0.mk (fun W (hL : LaidOps W) => op_Shape.calls 31 5 10 W (by rfl) hL)
    obtain ⟨rfl, rfl⟩ := Prod.mk.inj (Option.some.inj h)
    clear h
    go_enter Tryd.func22, Tryd.ntmps22
    go_wp2_with fail
    refine (PS.out _ (HL.out.below HX.out.below).ops).mono ?_
    rintro e w1 ⟨rfl, hb⟩
    have HX1 := Aside0.mk (HX.out.step hb)
    clear hb PS
    obtain ⟨⟨q0, q1, q2, q3⟩, i0, i1, i2⟩ := HX1.out.cells
    go_wp2_with fail
    refine (of_lit w w1 _ rfl ([1] : List Int) _ rfl HX1.out.below).mono ?_
    rintro e w9 ⟨rfl, hb, -, hl, -⟩
    have HE := Aside0.mk (Two.lit1 (HX1.out.below).size hl (by simp) hb)
    clear hb hl
    go_wp2_with fail
    go_ret2
    exact HE.out
  rw [if_neg a31] at h
  by_cases a32 : x = 32
  · rw [if_pos a32] at h
    subst a32
    have PS := Aside0.mk (fun W (hL : LaidOps W) => op_Shape.calls 32 6 10 W (by rfl) hL)
    obtain ⟨rfl, rfl⟩ := Prod.mk.inj (Option.some.inj h)
    clear h
    go_enter Tryd.func22, Tryd.ntmps22
    go_wp2_with fail
    refine (PS.out _ (HL.out.below HX.out.below).ops).mono ?_
    rintro e w1 ⟨rfl, hb⟩
    have HX1 := Aside0.mk (HX.out.step hb)
    clear hb PS
    obtain ⟨⟨q0, q1, q2, q3⟩, i0, i1, i2⟩ := HX1.out.cells
    go_wp2_with fail
    refine (of_lit w w1 _ rfl ([2] : List Int) _ rfl HX1.out.below).mono ?_
    rintro e w9 ⟨rfl, hb, -, hl, -⟩
    have HE := Aside0.mk (Two.lit1 (HX1.out.below).size hl (by simp) hb)
    clear hb hl
    go_wp2_with fail
    go_ret2
    exact HE.out
  rw [if_neg a32] at h
  by_cases a33 : x = 33
  · rw [if_pos a33] at h
    subst a33
    have PS := Aside0.mk (fun W (hL : LaidOps W) => op_Shape.calls 33 7 0 W (by rfl) hL)
    by_cases bg : 0 ≤ y ∧ y < (U.length : Int) ∧ (rd_T43 U y).f1.length ≤ 20
    rotate_left
    · rw [if_neg bg] at h; cases h
    rw [if_pos bg] at h
    obtain ⟨m, rfl⟩ : ∃ m : Nat, y = m := ⟨y.toNat, by omega⟩
    have hm : m < U.length := by omega
    have o1 := bg.2.2
    clear bg
    have h := Option.some.inj h
    generalize hX_ : rd_T43 U (m : Int) = X at *
    have HXX := Aside0.mk hX_
    clear hX_
    by_cases ez : X.f2 = 0
    · rw [if_pos ez] at h
      obtain ⟨rfl, rfl⟩ := Prod.mk.inj h
      have e9 : (X.f2 != 0) = false := bne_eq_false_iff_eq.mpr ez
      clear h ez
      go_enter Tryd.func22, Tryd.ntmps22
      go_wp2_with fail
      refine (PS.out _ (HL.out.below HX.out.below).ops).mono ?_
      rintro e w1 ⟨rfl, hb⟩
      have HX1 := Aside0.mk (HX.out.step hb)
      clear hb PS
      obtain ⟨⟨q0, q1, q2, q3⟩, i0, i1, i2⟩ := HX1.out.cells
      obtain ⟨ad, B1, d1, B3, d3, B4, d4, rfl, k0, k1, k2, k3, k4, hd1, hC1, hd3, hC3, hd4, hC4⟩ := at_T43 (Kd.C_below G3.out HX1.out.below) (m : Int) (by omega) (by omega)
      rw [HXX.out] at k0 k1 k2 k3 k4 hC1 hd1
      rw [Int.toNat_natCast] at k0 k1 k2 k3 k4
      clear hC3 hC4 hd3 hd4
      have HC1 := Aside0.mk hC1
      clear hC1
      have FR := Aside0.mk (show ∀ k, ((w1.alloc (.cells #[.string X.f0, .slice B1 X.f1.length d1, .int .i64 X.f2, .slice B3 X.f3.length d3, .slice B4 X.f4.length d4] 43)).alloc (.cells #[] 3)).heap.size ≤ k → True from fun _ _ => trivial)
      go_wp2_with ((with_reducible refine gate_builtin (b := .append) (xs := #[.tmp 149, .tmp 151]) rfl ?_); at_builtin; refine Kd.R_append_rows (Kd.int .i64) (w0 := w) w.heap.size rfl (.tmp 149) (.tmp 151) 40 3 (.int .i64 0) 8 rfl Tryd.underlying40 info3 rfl (by decide) (by omega) (.slice (some ⟨w1.heap.size + 1, 0, none⟩) 0 0) ([] : List Int) X.f1 _ _ _ (fun _ => True) (fun _ => False) rfl rfl ?aO ?aR (fun _ _ h => h) (fun _ h => h.elim) ?aF ?aB ?aS ?aL ?_; (case aO => exact (Reg.lit_own (xs := []) (Nat.le_trans HX1.out.below.size (Nat.le_succ _)) (heap_alloc2_new w1 _ _) (by simp) trivial)); (case aR => exact (Kd.C_alloc (Kd.C_alloc HC1.out _) _)); (case aF => exact FR.out); (case aB => exact ((HX1.out.below.alloc HX1.out.below.size (.cells #[.string X.f0, .slice B1 X.f1.length d1, .int .i64 X.f2, .slice B3 X.f3.length d3, .slice B4 X.f4.length d4] 43)).alloc (Nat.le_trans HX1.out.below.size (by simp)) (.cells #[] 3))); (case aS => exact (((HX1.out.below.alloc HX1.out.below.size (.cells #[.string X.f0, .slice B1 X.f1.length d1, .int .i64 X.f2, .slice B3 X.f3.length d3, .slice B4 X.f4.length d4] 43)).alloc (Nat.le_trans HX1.out.below.size (by simp)) (.cells #[] 3))).size); (case aL => simp; omega); intro v9 w9 ho hb hgr hat)
      have HE := Aside0.mk (show Two w w9 (.returned (.tuple #[v9, .slice none 0 0])) X.f1 [] from ⟨_, _, rfl, Kd.R_reok rfl ho (fun k _ => by simp [Value.ownBlock]), Kd.R_nil _ _ _ _ _, hb⟩)
      clear ho hb hgr hat
      go_wp2_with fail
      go_ret2
      exact HE.out
    · rw [if_neg ez] at h
      obtain ⟨rfl, rfl⟩ := Prod.mk.inj h
      have e9 : (X.f2 != 0) = true := bne_iff_ne.mpr ez
      clear h ez
      go_enter Tryd.func22, Tryd.ntmps22
      go_wp2_with fail
      refine (PS.out _ (HL.out.below HX.out.below).ops).mono ?_
      rintro e w1 ⟨rfl, hb⟩
      have HX1 := Aside0.mk (HX.out.step hb)
      clear hb PS
      obtain ⟨⟨q0, q1, q2, q3⟩, i0, i1, i2⟩ := HX1.out.cells
      obtain ⟨ad, B1, d1, B3, d3, B4, d4, rfl, k0, k1, k2, k3, k4, hd1, hC1, hd3, hC3, hd4, hC4⟩ := at_T43 (Kd.C_below G3.out HX1.out.below) (m : Int) (by omega) (by omega)
      rw [HXX.out] at k0 k1 k2 k3 k4 hC1 hd1
      rw [Int.toNat_natCast] at k0 k1 k2 k3 k4
      clear hC3 hC4 hd3 hd4
      have HC1 := Aside0.mk hC1
      clear hC1
      go_wp2_with fail
      refine (of_lit w (w1.alloc (.cells #[.string X.f0, .slice B1 X.f1.length d1, .int .i64 X.f2, .slice B3 X.f3.length d3, .slice B4 X.f4.length d4] 43)) (w1.heap.size + 1) (by simp) ([X.f2] : List Int) _ rfl (HX1.out.below.alloc HX1.out.below.size _)).mono ?_
      rintro e w2 ⟨rfl, hb, hb2, hl, hlt⟩
      have hu : w2.heap[w1.heap.size]? = some (.cells #[.string X.f0, .slice B1 X.f1.length d1, .int .i64 X.f2, .slice B3 X.f3.length d3, .slice B4 X.f4.length d4] 43 (0, 0)) := (hb2.block _ (by simp)).trans (heap_alloc_new w1 _)
      have HC2 := Aside0.mk (Kd.C_below (Kd.C_alloc HC1.out _) hb2)
      have HB2 := Aside0.mk hb
      have HL2 := Aside0.mk hl
      have HT2 := Aside0.mk hlt
      have u1 : (w2.alloc (.cells #[] 3)).cell? ⟨w1.heap.size, 1, none⟩ = some (.slice B1 X.f1.length d1) := (blk_cell ((heap_alloc_old w2 _ (blk_lt hu)).trans hu) 1).trans rfl
      clear hb hb2 hl hlt hu k0 k1 k2 k3 k4 q0 q1 q2 q3 i0 i1 i2
      have FR := Aside0.mk (show ∀ k, (w2.alloc (.cells #[] 3)).heap.size ≤ k → some k ≠ (Value.slice (some ⟨w1.heap.size + 1, 0, none⟩) 1 1).ownBlock from fun k hk e => by have h1 := Option.some.inj (show some k = some (w1.heap.size + 1) from e); have := HT2.out; simp at hk; omega)
      go_wp2_with ((with_reducible refine gate_builtin (b := .append) (xs := #[.tmp 149, .tmp 151]) rfl ?_); at_builtin; refine Kd.R_append_rows (Kd.int .i64) (w0 := w) w.heap.size rfl (.tmp 149) (.tmp 151) 40 3 (.int .i64 0) 8 rfl Tryd.underlying40 info3 rfl (by decide) (by omega) (.slice (some ⟨w2.heap.size, 0, none⟩) 0 0) ([] : List Int) X.f1 _ _ _ (fun k_ => some k_ ≠ (Value.slice (some ⟨w1.heap.size + 1, 0, none⟩) 1 1).ownBlock) (fun _ => False) rfl rfl ?aO ?aR (fun _ _ h => h) (fun _ h => h.elim) ?aF ?aB ?aS ?aL ?_; (case aO => exact (Reg.lit_own (xs := []) HB2.out.size (heap_alloc_new w2 _) (by simp) (fun e => by have h1 := Option.some.inj (show some w2.heap.size = some (w1.heap.size + 1) from e); have := HT2.out; omega))); (case aR => exact (Kd.C_alloc HC2.out _)); (case aF => exact FR.out); (case aB => exact (HB2.out.alloc HB2.out.size (.cells #[] 3))); (case aS => exact ((HB2.out.alloc HB2.out.size (.cells #[] 3))).size); (case aL => simp; omega); intro v9 w9 ho hb hgr hat)
      have hl9 : w9.heap[w1.heap.size + 1]? = some (.cells ([X.f2].map (Value.int .i64)).toArray 3 (0, 0)) := blk_grown ((heap_alloc_old w2 _ HT2.out).trans HL2.out) hgr (fun e => by have h1 := Option.some.inj (show some (w1.heap.size + 1) = some w2.heap.size from e); have := HT2.out; omega)
      have HE := Aside0.mk (show Two w w9 (.returned (.tuple #[v9, .slice (some ⟨w1.heap.size + 1, 0, none⟩) 1 1])) X.f1 [X.f2] from ⟨_, _, rfl, ho, Reg.lit_own (xs := [X.f2]) (Nat.le_trans HX1.out.below.size (Nat.le_succ _)) hl9 (by simp) (fun e => ho.1 _ e.symm rfl), hb⟩)
      clear ho hb hgr hat hl9
      go_wp2_with fail
      go_ret2
      exact HE.out
  rw [if_neg a33] at h
  by_cases a35 : x = 35
  · rw [if_pos a35] at h
    subst a35
    have PS := Aside0.mk (fun W (hL : LaidOps W) => op_Shape.calls 35 8 9 W (by rfl) hL)
    obtain ⟨t, hf, h⟩ := Option.bind_eq_some_iff.1 h
    obtain ⟨rfl, rfl⟩ := Prod.mk.inj (Option.some.inj h)
    clear h
    have PF := Aside0.mk (fun W hC hL => stack_field.calls A0 c0 C A1 c1 V A2 c2 B A3 c3 U 35 y z t W hC hf hL)
    clear hf
    go_enter Tryd.func22, Tryd.ntmps22
    go_wp2_with fail
    refine (PS.out _ (HL.out.below HX.out.below).ops).mono ?_
    rintro e w1 ⟨rfl, hb⟩
    have HX1 := Aside0.mk (HX.out.step hb)
    clear hb PS
    obtain ⟨⟨q0, q1, q2, q3⟩, i0, i1, i2⟩ := HX1.out.cells
    go_wp2_with fail
    refine (PF.out _ (Kd.C_below G2.out HX1.out.below) (HL.out.below HX1.out.below)).mono ?_
    rintro e w2 ⟨rfl, hb⟩
    have HX2 := Aside0.mk (HX1.out.step hb)
    clear hb PF
    go_wp2_with fail
    refine (of_lit w w2 _ rfl ([t] : List Int) _ rfl HX2.out.below).mono ?_
    rintro e w9 ⟨rfl, hb, -, hl, -⟩
    have HE := Aside0.mk (Two.lit1 (HX2.out.below).size hl (by simp) hb)
    clear hb hl
    go_wp2_with fail
    go_ret2
    exact HE.out
  rw [if_neg a35] at h
  by_cases a37 : x = 37
  · rw [if_pos a37] at h
    subst a37
    have PS := Aside0.mk (fun W (hL : LaidOps W) => op_Shape.calls 37 8 9 W (by rfl) hL)
    obtain ⟨t, hf, h⟩ := Option.bind_eq_some_iff.1 h
    obtain ⟨rfl, rfl⟩ := Prod.mk.inj (Option.some.inj h)
    clear h
    have PF := Aside0.mk (fun W hC hL => stack_field.calls A0 c0 C A1 c1 V A2 c2 B A3 c3 U 37 y z t W hC hf hL)
    clear hf
    go_enter Tryd.func22, Tryd.ntmps22
    go_wp2_with fail
    refine (PS.out _ (HL.out.below HX.out.below).ops).mono ?_
    rintro e w1 ⟨rfl, hb⟩
    have HX1 := Aside0.mk (HX.out.step hb)
    clear hb PS
    obtain ⟨⟨q0, q1, q2, q3⟩, i0, i1, i2⟩ := HX1.out.cells
    go_wp2_with fail
    refine (PF.out _ (Kd.C_below G2.out HX1.out.below) (HL.out.below HX1.out.below)).mono ?_
    rintro e w2 ⟨rfl, hb⟩
    have HX2 := Aside0.mk (HX1.out.step hb)
    clear hb PF
    go_wp2_with fail
    refine (of_lit w w2 _ rfl ([t] : List Int) _ rfl HX2.out.below).mono ?_
    rintro e w9 ⟨rfl, hb, -, hl, -⟩
    have HE := Aside0.mk (Two.lit2 (HX2.out.below).size hl (by simp) hb)
    clear hb hl
    go_wp2_with fail
    go_ret2
    exact HE.out
  rw [if_neg a37] at h
  obtain ⟨rfl, rfl⟩ := Prod.mk.inj (Option.some.inj h)
  clear h
  have e1 : (x == 1) = false := beq_eq_false_iff_ne.mpr a1
  have e2 : (x == 2) = false := beq_eq_false_iff_ne.mpr a2
  have e3 : (x == 3) = false := beq_eq_false_iff_ne.mpr a3
  have e4 : (x == 4) = false := beq_eq_false_iff_ne.mpr a4
  have e5 : (x == 5) = false := beq_eq_false_iff_ne.mpr a5
  have e6 : (x == 6) = false := beq_eq_false_iff_ne.mpr a6
  have e7 : (x == 7) = false := beq_eq_false_iff_ne.mpr a7
  have e27 : (x == 27) = false := beq_eq_false_iff_ne.mpr a27
  have e28 : (x == 28) = false := beq_eq_false_iff_ne.mpr a28
  have e29 : (x == 29) = false := beq_eq_false_iff_ne.mpr a29
  have e31 : (x == 31) = false := beq_eq_false_iff_ne.mpr a31
  have e32 : (x == 32) = false := beq_eq_false_iff_ne.mpr a32
  have e33 : (x == 33) = false := beq_eq_false_iff_ne.mpr a33
  have e35 : (x == 35) = false := beq_eq_false_iff_ne.mpr a35
  have e37 : (x == 37) = false := beq_eq_false_iff_ne.mpr a37
  have PS := Aside0.mk (fun W (hL : LaidOps W) => op_Shape.calls x (shapeA x) (shapeB x) W rfl hL)
  have e0 : (shapeA x == 4) = false := beq_eq_false_iff_ne.mpr t4
  clear t4 a1 a2 a3 a4 a5 a6 a7 a27 a28 a29 a31 a32 a33 a35 a37
  go_enter Tryd.func22, Tryd.ntmps22
  go_wp2_with fail
  refine (PS.out _ (HL.out.below HX.out.below).ops).mono ?_
  rintro e w1 ⟨rfl, hb⟩
  have HX1 := Aside0.mk (HX.out.step hb)
  clear hb PS
  obtain ⟨⟨q0, q1, q2, q3⟩, i0, i1, i2⟩ := HX1.out.cells
  have HE := Aside0.mk (show Two w w1 (.returned (.tuple #[.slice none 0 0, .slice none 0 0])) [] [] from ⟨_, _, rfl, Kd.R_nil _ _ _ _ _, Kd.R_nil _ _ _ _ _, HX1.out.below⟩)
  go_wp2_with fail
  go_ret2
  exact HE.out
/-- In the printed form. -/
theorem stack_effect.calls (A0_0 : Option Addr) (c0_0 : Nat) (l0_0 : List (S35)) (A0_1 : Option Addr) (c0_1 : Nat) (l0_1 : List (S37)) (A0_2 : Option Addr) (c0_2 : Nat) (l0_2 : List (S39)) (A0_3 : Option Addr) (c0_3 : Nat) (l0_3 : List (S43)) (a1 : Int) (a2_0 : Int) (a2_1 : Int) (a2_2 : Int) (r1 : List Int) (r2 : List Int) (w : World) (hr0_0 : Kd.C k35 w A0_0 l0_0.length l0_0) (hc0_0 : l0_0.length ≤ c0_0) (hr0_1 : Kd.C k37 w A0_1 l0_1.length l0_1) (hc0_1 : l0_1.length ≤ c0_1) (hr0_2 : Kd.C k39 w A0_2 l0_2.length l0_2) (hc0_2 : l0_2.length ≤ c0_2) (hr0_3 : Kd.C k43 w A0_3 l0_3.length l0_3) (hc0_3 : l0_3.length ≤ c0_3) (h : stack_effect.f l0_0 l0_1 l0_2 l0_3 a1 a2_0 a2_1 a2_2 = some (r1, r2)) (hL_ : LaidAll w) :
    Calls Tryd.prog 22 #[.agg #[.slice A0_0 l0_0.length c0_0, .slice A0_1 l0_1.length c0_1, .slice A0_2 l0_2.length c0_2, .slice A0_3 l0_3.length c0_3], .int .i64 a1, .agg #[.int .i64 a2_0, .int .i64 a2_1, .int .i64 a2_2]] w fun e w' => ∃ v0_ v1_ : Value, e = .returned (.tuple #[v0_, v1_]) ∧ Kd.R (Kd.int .i64) 3 w' w.heap.size (fun k_ => some k_ ≠ (v1_ : Value).ownBlock) v0_ r1 ∧ Kd.R (Kd.int .i64) 3 w' w.heap.size (fun k_ => some k_ ≠ (v0_ : Value).ownBlock) v1_ r2 ∧ Below w.heap.size w w' :=
  effect_w A0_0 c0_0 l0_0 A0_1 c0_1 l0_1 A0_2 c0_2 l0_2 A0_3 c0_3 l0_3 a1 a2_0 a2_1 a2_2 r1 r2 w hr0_0 hr0_1 hr0_2 hr0_3 h hL_
end Go.Proofs.YthdlocigijiobaaDoor.Given
end

section
/- Printed by a program of this session (wip/pg.py, over the print of the kit): functions, their Lean twins, and the proofs that the calls come to them; each under the conditions that it names. -/
namespace Go.Proofs.YthdlocigijiobaaDoor.PSk
open Go.Proofs.YthdlocigijiobaaDoor.Given
open Go.RowKit Go.Proofs.YthdlocigijiobaaDoorW.PrintWords Go.Proofs.YthdlocigijiobaaDoorW.PrintLast Go.Proofs.YthdlocigijiobaaDoorW.PrintMore
attribute [local go_sem] max2_int min2_int max_two min_two max_three min_three max_four min_four   -- for this text's walks alone
set_option linter.unusedVariables false
set_option linter.unusedSimpArgs false

/-! ### stack_Step: function 10 -/
mutual
def stack_Step.j0 : Nat → List Int → List Int → List Int → Int → Bool → Int → Int → Int → Option (List Int × Int)
 | 0, _, _, _, _, _, _, _, _ => none
 | k + 1, x3, x11, x12, x13, x47, x148000, x148001, x148002 => if x47 = true then (some (([] : List Int), 9)) else (if 0 ≤ x13 then (if x13 ≤ (x3.length : Int) then (stack_Step.l0 k x3 x12 x13 (x3.drop (x13 : Int).toNat) x11 (x11.length : Int) 0 x148000 x148001 x148002) else (none)) else (none))
def stack_Step.l0 : Nat → List Int → List Int → Int → List Int → List Int → Int → Int → Int → Int → Int → Option (List Int × Int)
 | 0, _, _, _, _, _, _, _, _, _, _ => none
 | k + 1, x3, x12, x13, x14, x51, x52, x53, x148000, x148001, x148002 => if x53 < x52 then (if 0 ≤ x53 then (if x53 < (x51.length : Int) then (if (rd x51 x53) = 0 then (stack_Step.l0 k x3 x12 x13 x14 x51 x52 (wrap64 (x53 + 1)) x148000 x148001 x148002) else (if x53 < (x14.length : Int) then (if (rd x51 x53) = (rd x14 x53) then (stack_Step.l0 k x3 x12 x13 x14 x51 x52 (wrap64 (x53 + 1)) x148000 x148001 x148002) else (some (([] : List Int), 10))) else (none))) else (none)) else (none)) else (if x148000 = 27 then (if 0 < (x14.length : Int) then ((stack_of.f (([rd x14 0, rd x14 0] : List Int))).bind fun t163 => (if (wrap64 (x13 + (t163.length : Int))) > 32 then (some (([] : List Int), 9)) else ((some (([] : List Int) : List Int)).bind fun y166 => (if 0 ≤ x13 then (if x13 ≤ (x3.length : Int) then (if y166.length + (x3.take (x13 : Int).toNat).length < 17592186044416 then ((some (y166 ++ (x3.take (x13 : Int).toNat) : List Int)).bind fun y170 => (if y170.length + t163.length < 17592186044416 then (some ((y170 ++ t163), 0)) else (none))) else (none)) else (none)) else (none))))) else (none)) else (if x148000 = 29 then (if 1 < (x14.length : Int) then (if 0 < (x14.length : Int) then ((stack_of.f (([rd x14 1, rd x14 0] : List Int))).bind fun t181 => (if (wrap64 (x13 + (t181.length : Int))) > 32 then (some (([] : List Int), 9)) else ((some (([] : List Int) : List Int)).bind fun y184 => (if 0 ≤ x13 then (if x13 ≤ (x3.length : Int) then (if y184.length + (x3.take (x13 : Int).toNat).length < 17592186044416 then ((some (y184 ++ (x3.take (x13 : Int).toNat) : List Int)).bind fun y188 => (if y188.length + t181.length < 17592186044416 then (some ((y188 ++ t181), 0)) else (none))) else (none)) else (none)) else (none))))) else (none)) else (none)) else (if (wrap64 (x13 + (x12.length : Int))) > 32 then (some (([] : List Int), 9)) else ((some (([] : List Int) : List Int)).bind fun y194 => (if 0 ≤ x13 then (if x13 ≤ (x3.length : Int) then (if y194.length + (x3.take (x13 : Int).toNat).length < 17592186044416 then ((some (y194 ++ (x3.take (x13 : Int).toNat) : List Int)).bind fun y198 => (if y198.length + x12.length < 17592186044416 then (some ((y198 ++ x12), 0)) else (none))) else (none)) else (none)) else (none))))))
end
def stack_Step.f (k : Nat) (l0_0 : List (S35)) (l0_1 : List (S37)) (l0_2 : List (S39)) (l0_3 : List (S43)) (a1 : Int) (a2_0 : Int) (a2_1 : Int) (a2_2 : Int) (l3 : List Int) : Option (List Int × Int) := (refs_One.f k l0_0 l0_1 l0_2 l0_3 a1 a2_0 a2_1 a2_2).bind fun t148 => (if t148 = 0 then ((stack_effect.f l0_0 l0_1 l0_2 l0_3 a1 a2_0 a2_1 a2_2).bind fun bt149 => (if (wrap64 ((l3.length : Int) - (bt149.1.length : Int))) < 0 then (stack_Step.j0 k l3 bt149.1 bt149.2 (wrap64 ((l3.length : Int) - (bt149.1.length : Int))) true a2_0 a2_1 a2_2) else (if a2_0 = 34 then (stack_Step.j0 k l3 bt149.1 bt149.2 (wrap64 ((l3.length : Int) - (bt149.1.length : Int))) (decide ((l3.length : Int) > 0)) a2_0 a2_1 a2_2) else (stack_Step.j0 k l3 bt149.1 bt149.2 (wrap64 ((l3.length : Int) - (bt149.1.length : Int))) false a2_0 a2_1 a2_2)))) else (some (([] : List Int), t148)))
def stack_Step.T17 : Bool × List (List Nat × List Nat) := (true, [([], []), ([0], [0]), ([1], [1]), ([], []), ([3], [3]), ([4], [4]), ([2, 5], [2, 5]), ([6], [6]), ([7, 7, 0, 1, 2, 3, 4, 5, 6, 7], [7])])
def stack_Step.B17 : List Nat := [0, 1, 3, 0, 8, 24, 63, 127, 255]
def stack_Step.T19 : Bool × List (List Nat × List Nat) := (true, [([], []), ([0], [0]), ([1], [1]), ([], []), ([3], [3]), ([4], [4]), ([2, 5], [2, 5]), ([6], [6]), ([7, 7, 0, 1, 2, 3, 4, 5, 6, 7], [7])])
def stack_Step.B19 : List Nat := [0, 1, 3, 0, 8, 24, 63, 127, 255]
end Go.Proofs.YthdlocigijiobaaDoor.PSk
end

section
/- Printed by a program of this session (wip/pg.py, over the print of the kit): functions, their Lean twins, and the proofs that the calls come to them; each under the conditions that it names. -/
namespace Go.Proofs.YthdlocigijiobaaDoor.PSk
open Go.Proofs.YthdlocigijiobaaDoor.Given
open Go.RowKit Go.Proofs.YthdlocigijiobaaDoorW.PrintWords Go.Proofs.YthdlocigijiobaaDoorW.PrintLast Go.Proofs.YthdlocigijiobaaDoorW.PrintMore
attribute [local go_sem] max2_int min2_int max_two min_two max_three min_three max_four min_four   -- for this text's walks alone
set_option linter.unusedVariables false
set_option linter.unusedSimpArgs false

/-! ### ladderbacklaw19_awake: function 9 -/
def ladderbacklaw19_awake.f (k : Nat)  : Option (Bool) := if 1 ≤ 2932031007402 then ((stack_Step.f k ([] : List (S35)) ([] : List (S37)) ([] : List (S39)) (List.replicate 1 z43) 0 22 2 0 (([6, 2, 2] : List Int))).bind fun bt211 => (if bt211.2 = 0 then (if (bt211.1.length : Int) = 2 then (if 0 < (bt211.1.length : Int) then (if (rd bt211.1 0) = 6 then (if 1 < (bt211.1.length : Int) then (some ((rd bt211.1 1) == 1)) else (none)) else (some false)) else (none)) else (some false)) else (some false))) else (none)
/-! ### ladderbackref12_Shape: function 41 -/
mutual
def ladderbackref12_Shape.j0 : Nat → Int → Bool → Option (Int × Int)
 | 0, _, _ => none
 | k + 1, x0, x10 => if x10 = true then (some (0, 0)) else ((some (([10, 1, 2, 2, 3, 3, 2, 2] : List Int) : List Int)).bind fun y217 => (if x0 < 8 then (if x0 = 0 then (some (10, 10)) else (if 0 ≤ x0 then (if x0 < (y217.length : Int) then (some (rd y217 x0, 0)) else (none)) else (none))) else (if x0 < 26 then (some (4, 0)) else (if x0 = 26 then (some (4, 4)) else (if x0 < 30 then (ladderbackref12_Shape.j1 k x0 true) else (ladderbackref12_Shape.j1 k x0 (x0 == 34)))))))
def ladderbackref12_Shape.j1 : Nat → Int → Bool → Option (Int × Int)
 | 0, _, _ => none
 | k + 1, x0, x29 => if x29 = true then (some (0, 0)) else (if x0 < 32 then (some (5, 10)) else (if x0 = 32 then (some (6, 10)) else (if x0 = 33 then (some (7, 0)) else (if x0 = 36 then (some (8, 0)) else (some (8, 9))))))
end
def ladderbackref12_Shape.f (k : Nat) (a0 : Int) : Option (Int × Int) := if a0 < 0 then (ladderbackref12_Shape.j0 k a0 true) else (ladderbackref12_Shape.j0 k a0 (decide (a0 > 37)))
/-! ### ladderbackref12_may: function 42 -/
def ladderbackref12_may.f (a0 : Int) (a1 : Int) : Option (Bool) := if a0 = 0 then (some true) else (if a1 = 0 then (some false) else (if a0 > 0 then (some (decide (a0 < 65536))) else (some false)))
/-! ### ladderbackref12_Right: function 24 -/
def ladderbackref12_Right.f (k : Nat) (a0_0 : Int) (a0_1 : Int) (a0_2 : Int) : Option (Bool) := (ladderbackref12_Shape.f k a0_0).bind fun bt222 => (if a0_0 ≥ 0 then (if a0_0 ≤ 37 then ((ladderbackref12_may.f a0_1 bt222.1).bind fun t224 => (if t224 = true then ((ladderbackref12_may.f a0_2 bt222.2).bind fun t225 => (some t225)) else (some false))) else (some false)) else (some false))
end Go.Proofs.YthdlocigijiobaaDoor.PSk
end

section
/- Printed by a program of this session (wip/pg.py, over the print of the kit): functions, their Lean twins, and the proofs that the calls come to them; each under the conditions that it names. -/
namespace Go.Proofs.YthdlocigijiobaaDoor.PSk
open Go.Proofs.YthdlocigijiobaaDoor.Given
open Go.RowKit Go.Proofs.YthdlocigijiobaaDoorW.PrintWords Go.Proofs.YthdlocigijiobaaDoorW.PrintLast Go.Proofs.YthdlocigijiobaaDoorW.PrintMore
attribute [local go_sem] max2_int min2_int max_two min_two max_three min_three max_four min_four   -- for this text's walks alone
set_option linter.unusedVariables false
set_option linter.unusedSimpArgs false

/-! ### ladderbackref15_Ints: function 12 -/
def ladderbackref15_Ints.l0 : Nat → List Int → List Int → Int → Option (Bool)
 | 0, _, _, _ => none
 | k + 1, x0, x1, x5 => if x5 < (x0.length : Int) then (if 0 ≤ x5 then (if x5 < (x1.length : Int) then (if (rd x0 x5) = (rd x1 x5) then (ladderbackref15_Ints.l0 k x0 x1 (wrap64 (x5 + 1))) else (some false)) else (none)) else (none)) else (some true)
def ladderbackref15_Ints.f (k : Nat) (l0 : List Int) (l1 : List Int) : Option (Bool) := if (l0.length : Int) = (l1.length : Int) then (ladderbackref15_Ints.l0 k l0 l1 0) else (some false)
/-! ### stack_Takes: function 13 -/
def stack_Takes.f (k : Nat) (l0_0 : List (S35)) (l0_1 : List (S37)) (l0_2 : List (S39)) (l0_3 : List (S43)) (a1 : Int) (a2_0 : Int) (a2_1 : Int) (a2_2 : Int) : Option (List Int) := (refs_One.f k l0_0 l0_1 l0_2 l0_3 a1 a2_0 a2_1 a2_2).bind fun t432 => (if t432 = 0 then ((stack_effect.f l0_0 l0_1 l0_2 l0_3 a1 a2_0 a2_1 a2_2).bind fun bt433 => (some bt433.1)) else (some ([] : List Int)))
/-! ### stack_Leaves: function 14 -/
def stack_Leaves.f (k : Nat) (l0_0 : List (S35)) (l0_1 : List (S37)) (l0_2 : List (S39)) (l0_3 : List (S43)) (a1 : Int) (a2_0 : Int) (a2_1 : Int) (a2_2 : Int) : Option (List Int) := (refs_One.f k l0_0 l0_1 l0_2 l0_3 a1 a2_0 a2_1 a2_2).bind fun t441 => (if t441 = 0 then ((stack_effect.f l0_0 l0_1 l0_2 l0_3 a1 a2_0 a2_1 a2_2).bind fun bt442 => (some bt442.2)) else (some ([] : List Int)))
end Go.Proofs.YthdlocigijiobaaDoor.PSk
end

section
/- One instruction's effect on a stack, plainly: what the program's stack.Step answers; what lies below plays no part. -/
namespace Go.Proofs.YthdlocigijiobaaDoor.RPure
open Go.RowKit Go.Proofs.YthdlocigijiobaaDoor.PSk Go.Proofs.YthdlocigijiobaaDoor.Given Go.Proofs.YthdlocigijiobaaDoorW.PrintWords Go.Proofs.YthdlocigijiobaaDoorW.PrintLast Go.Proofs.YthdlocigijiobaaDoorW.PrintMore
set_option linter.unusedVariables false
set_option linter.unusedSimpArgs false
theorem th_is (C : LC) (V : LV) (B : LB) (U : LU) (hU : Ok U) (u x y z : Int) (hx : isOp x = true) (hu0 : 0 ≤ u) (hu1 : u < (U.length : Int)) (hy : 0 ≤ y) :
    refs_there.f C V B U (rd_T43 U u).f0 (rd_T43 U u).f1 (rd_T43 U u).f2 (rd_T43 U u).f3 (rd_T43 U u).f4 x y z = some (thereF C V B U u x y z) := by
  obtain ⟨o1, o2, o3⟩ := ok_at hU u hu0 hu1
  unfold refs_there.f
  rw [if_pos ⟨hx, hy, o1, o2⟩]
  rfl
theorem one_is (C : LC) (V : LV) (B : LB) (U : LU) (hU : Ok U) (u x y z : Int) (k : Nat) (hk : 1 ≤ k) : refs_One.f k C V B U u x y z = some (oneF C V B U u x y z) := by
  obtain ⟨k, rfl⟩ : ∃ m, k = m + 1 := ⟨k - 1, by omega⟩
  unfold refs_One.f oneF
  by_cases h0 : u < 0
  · rw [if_pos h0, if_pos (.inl h0), refs_One.j0, if_pos rfl]
  rw [if_neg h0, refs_One.j0]
  by_cases h1 : (U.length : Int) ≤ u
  · rw [if_pos (decide_eq_true h1), if_pos (.inr h1)]
  rw [if_neg (show ¬ decide (u ≥ (U.length : Int)) = true by simpa using h1), if_neg (show ¬ (u < 0 ∨ (U.length : Int) ≤ u) by omega), right_is, Option.bind_some]
  by_cases h2 : rightF x y z = true
  · have h2' := h2
    unfold rightF at h2'
    simp only [Bool.and_eq_true] at h2'
    have hop := h2'.1.1
    have hy := may_nonneg h2'.1.2
    have hx : -9223372036854775808 ≤ x ∧ x ≤ 9223372036854775807 := by
      unfold isOp at hop
      simp only [Bool.and_eq_true, decide_eq_true_eq] at hop
      omega
    rw [if_pos h2, if_pos h2, typed_is x y z hx, Option.bind_some]
    by_cases h3 : typedF x y z = true
    · rw [if_pos h3, if_pos h3, if_pos (show 0 ≤ u by omega), if_pos (show u < (U.length : Int) by omega), th_is C V B U hU u x y z hop (by omega) (by omega) hy, Option.bind_some]
      split <;> rfl
    · rw [if_neg h3, if_neg h3]
  · rw [if_neg h2, if_neg h2]
/-- The type of what an operation leaves. -/
def resF (x t : Int) : Int := if goesOf x t = true then (if 20 ≤ x ∧ x ≤ 25 then 1 else t) else 0
/-- What is left, of the types on top. -/
def topF (x : Int) (top lv : List Int) : List Int := if x = 27 then [rd top 0, rd top 0] else if x = 29 then [rd top 1, rd top 0] else lv
/-- Are the types from i on as they are wanted? -/
def mat (t top : List Int) : Int → Nat → Bool
  | _, 0 => true
  | i, m + 1 => (rd t i == 0 || rd t i == rd top i) && mat t top (i + 1) m
def stepF (x : Int) (t lv st : List Int) : List Int × Int :=
  if st.length < t.length then ([], 9) else if x = 34 ∧ 0 < st.length then ([], 9) else
  if mat t (st.drop (st.length - t.length)) 0 t.length = true then (if 32 < st.length - t.length + (topF x (st.drop (st.length - t.length)) lv).length then ([], 9) else (st.take (st.length - t.length) ++ topF x (st.drop (st.length - t.length)) lv, 0)) else ([], 10)
theorem few15 (X : S43) : ∃ b, ladderbacklaw15_Few.f X.f0 X.f1 X.f2 X.f3 X.f4 = some b ∧ (b = true → X.f1.length ≤ 20 ∧ X.f3.length ≤ 1100 ∧ X.f4.length ≤ 300) := by
  unfold ladderbacklaw15_Few.f
  by_cases h1 : (X.f0.size : Int) ≤ 300
  · rw [if_pos h1]
    by_cases h2 : (X.f1.length : Int) ≤ 20
    · rw [if_pos h2]
      by_cases h3 : (X.f3.length : Int) ≤ 1100
      · rw [if_pos h3]
        exact ⟨_, rfl, fun h => by simp at h; omega⟩
      · rw [if_neg h3]; exact ⟨_, rfl, fun h => by cases h⟩
    · rw [if_neg h2]; exact ⟨_, rfl, fun h => by cases h⟩
  · rw [if_neg h1]; exact ⟨_, rfl, fun h => by cases h⟩
theorem rd_unit_at (U : LU) (j : Nat) (h : j < U.length) : rd_T43 U (j : Int) = U[j] := by
  unfold rd_T43
  rw [Int.toNat_natCast, List.getD_eq_getElem?_getD, List.getElem?_eq_getElem h]; rfl
theorem few_l2 (C : LC) (V : LV) (B : LB) (U : LU) (hl : U.length ≤ 10) : ∀ m j : Nat, j + m = U.length → ∃ b, (∀ k, m + 1 ≤ k → ladderbacklaw16_Few.l2 k (j : Int) C V B U = some b) ∧ (b = true → ∀ i (hi : i < U.length), j ≤ i → U[i].f1.length ≤ 20 ∧ U[i].f3.length ≤ 1100 ∧ U[i].f4.length ≤ 300) := by
  intro m
  induction m with
  | zero =>
    intro j hj
    refine ⟨true, fun k hk => ?_, fun _ i hi h => by omega⟩
    obtain ⟨k, rfl⟩ : ∃ m, k = m + 1 := ⟨k - 1, by omega⟩
    rw [ladderbacklaw16_Few.l2, if_neg (by omega)]
  | succ m ih =>
    intro j hj
    have hlt : j < U.length := by omega
    obtain ⟨b1, e1, f1⟩ := few15 U[j]
    obtain ⟨b2, e2, f2⟩ := ih (j + 1) (by omega)
    refine ⟨b1 && b2, fun k hk => ?_, fun h i hi hji => ?_⟩
    · obtain ⟨k, rfl⟩ : ∃ m, k = m + 1 := ⟨k - 1, by omega⟩
      rw [ladderbacklaw16_Few.l2, if_pos (by omega), if_pos (by omega), rd_unit_at U j hlt, e1, Option.bind_some]
      cases b1 with
      | true => rw [if_pos rfl, w64 _ (by omega) (by omega)]; exact e2 k (by omega)
      | false => rfl
    · rw [Bool.and_eq_true] at h
      rcases Nat.lt_or_ge j i with h1 | h1
      · exact f2 h.2 i hi h1
      · obtain rfl : i = j := by omega
        exact f1 h.1
theorem few_l1 (C : LC) (V : LV) (B : LB) (U : LU) (hl : U.length ≤ 10) (hB : B.length ≤ 40) : ∀ m j : Nat, j + m = B.length → ∃ b, (∀ k, m + 20 ≤ k → ladderbacklaw16_Few.l1 k (j : Int) C V B U = some b) ∧ (b = true → Ok U) := by
  intro m
  induction m with
  | zero =>
    intro j hj
    obtain ⟨b, e, f⟩ := few_l2 C V B U hl U.length 0 (by omega)
    refine ⟨b, fun k hk => ?_, fun h X hX => ?_⟩
    · obtain ⟨k, rfl⟩ : ∃ m, k = m + 1 := ⟨k - 1, by omega⟩
      rw [ladderbacklaw16_Few.l1, if_neg (by omega)]
      exact e k (by omega)
    · obtain ⟨i, hi, rfl⟩ := List.getElem_of_mem hX
      exact f h i hi (Nat.zero_le _)
  | succ m ih =>
    intro j hj
    obtain ⟨b2, e2, f2⟩ := ih (j + 1) (by omega)
    by_cases hs : (((rd_T39 B (j : Int)).f0).size : Int) > 300
    · refine ⟨false, fun k hk => ?_, fun h => by cases h⟩
      obtain ⟨k, rfl⟩ : ∃ m, k = m + 1 := ⟨k - 1, by omega⟩
      rw [ladderbacklaw16_Few.l1, if_pos (by omega), if_pos (by omega), if_pos hs]
    · refine ⟨b2, fun k hk => ?_, f2⟩
      obtain ⟨k, rfl⟩ : ∃ m, k = m + 1 := ⟨k - 1, by omega⟩
      rw [ladderbacklaw16_Few.l1, if_pos (by omega), if_pos (by omega), if_neg hs, w64 _ (by omega) (by omega)]
      exact e2 k (by omega)
theorem few_l0 (C : LC) (V : LV) (B : LB) (U : LU) (hl : U.length ≤ 10) (hB : B.length ≤ 40) (hV : V.length ≤ 70) : ∀ m j : Nat, j + m = V.length → ∃ b, (∀ k, m + 70 ≤ k → ladderbacklaw16_Few.l0 k (j : Int) C V B U = some b) ∧ (b = true → Ok U) := by
  intro m
  induction m with
  | zero =>
    intro j hj
    obtain ⟨b, e, f⟩ := few_l1 C V B U hl hB B.length 0 (by omega)
    refine ⟨b, fun k hk => ?_, f⟩
    obtain ⟨k, rfl⟩ : ∃ m, k = m + 1 := ⟨k - 1, by omega⟩
    rw [ladderbacklaw16_Few.l0, if_neg (by omega)]
    exact e k (by omega)
  | succ m ih =>
    intro j hj
    obtain ⟨b2, e2, f2⟩ := ih (j + 1) (by omega)
    by_cases hs : (((rd_T37 V (j : Int)).f0).size : Int) > 300
    · refine ⟨false, fun k hk => ?_, fun h => by cases h⟩
      obtain ⟨k, rfl⟩ : ∃ m, k = m + 1 := ⟨k - 1, by omega⟩
      rw [ladderbacklaw16_Few.l0, if_pos (by omega), if_pos (by omega), if_pos hs]
    · refine ⟨b2, fun k hk => ?_, f2⟩
      obtain ⟨k, rfl⟩ : ∃ m, k = m + 1 := ⟨k - 1, by omega⟩
      rw [ladderbacklaw16_Few.l0, if_pos (by omega), if_pos (by omega), if_neg hs, w64 _ (by omega) (by omega)]
      exact e2 k (by omega)
theorem few_is (C : LC) (V : LV) (B : LB) (U : LU) : ∃ b, (∀ k, 200 ≤ k → ladderbacklaw16_Few.f k C V B U = some b) ∧ (b = true → Ok U ∧ U.length ≤ 10) := by
  have hj : ∀ k, 1 ≤ k → ladderbacklaw16_Few.j0 k true C V B U = some false := fun k hk => by
    obtain ⟨k, rfl⟩ : ∃ m, k = m + 1 := ⟨k - 1, by omega⟩
    rw [ladderbacklaw16_Few.j0, if_pos rfl]
  by_cases h1 : (C.length : Int) > 60
  · exact ⟨false, fun k hk => by unfold ladderbacklaw16_Few.f; rw [if_pos h1]; exact hj k (by omega), fun h => by cases h⟩
  by_cases h2 : (V.length : Int) > 70
  · exact ⟨false, fun k hk => by unfold ladderbacklaw16_Few.f; rw [if_neg h1, if_pos h2]; exact hj k (by omega), fun h => by cases h⟩
  by_cases h3 : (B.length : Int) > 40
  · exact ⟨false, fun k hk => by unfold ladderbacklaw16_Few.f; rw [if_neg h1, if_neg h2, if_pos h3]; exact hj k (by omega), fun h => by cases h⟩
  by_cases h4 : (U.length : Int) > 10
  · exact ⟨false, fun k hk => by unfold ladderbacklaw16_Few.f; rw [if_neg h1, if_neg h2, if_neg h3, decide_eq_true h4]; exact hj k (by omega), fun h => by cases h⟩
  obtain ⟨b, e, f⟩ := few_l0 C V B U (by omega) (by omega) (by omega) V.length 0 (by omega)
  refine ⟨b, fun k hk => ?_, fun h => ⟨f h, by omega⟩⟩
  obtain ⟨k, rfl⟩ : ∃ m, k = m + 1 := ⟨k - 1, by omega⟩
  unfold ladderbacklaw16_Few.f
  rw [if_neg h1, if_neg h2, if_neg h3, decide_eq_false h4, ladderbacklaw16_Few.j0, if_neg (by decide)]
  exact e k (by omega)
end Go.Proofs.YthdlocigijiobaaDoor.RPure
end

section
/- The set's own look at the program: three instructions' answers; the tables lie as the program lays them. -/
namespace Go.Proofs.YthdlocigijiobaaDoor.Given
open Go Go.RowKit Go.Proofs.YthdlocigijiobaaDoor.PSk Go.Proofs.YthdlocigijiobaaDoor.RPure Go.Proofs.YthdlocigijiobaaDoorW.PrintWords Go.Proofs.YthdlocigijiobaaDoorW.PrintLast Go.Proofs.YthdlocigijiobaaDoorW.PrintMore
set_option linter.unusedVariables false
set_option linter.unusedSimpArgs false
def two : List S43 := List.replicate 2 z43
theorem ok_two : Ok two := fun X hX => by
  rw [(List.mem_replicate.1 hX).2]
  exact ⟨by decide, by decide, by decide⟩
theorem info_unit : (Tryd.prog.info? 43).map (fun i => (i.zero, i.size, i.bytes)) = some (some (.agg #[(.string ⟨#[]⟩), (.slice none 0 0), (.int .i64 0), (.slice none 0 0), (.slice none 0 0)]), 5, 96) := by kernel_rfl
theorem C_nil {α : Type} (d : Kd α) (w : World) : d.C w none ([] : List α).length [] := ⟨rfl, by simp, fun h => absurd h (by simp)⟩
theorem one_c (x y r : Int) (hr : oneF [] [] [] two 0 x y 0 = r) (A : Option Addr) (c : Nat) (w : World) (hC : Kd.C k43 w A 2 two) (hc : 2 ≤ c) (hL : LaidAll w) :
    Calls Tryd.prog 7 #[.agg #[.slice none 0 0, .slice none 0 0, .slice none 0 0, .slice A 2 c], .int .i64 0, .agg #[.int .i64 x, .int .i64 y, .int .i64 0]] w fun e w' => e = .returned (.int .i64 r) ∧ Below w.heap.size w w' :=
  refs_One.calls 2 none 0 [] none 0 [] none 0 [] A c two 0 x y 0 r w (C_nil _ w) (Nat.le_refl _) (C_nil _ w) (Nat.le_refl _) (C_nil _ w) (Nat.le_refl _) hC hc (by rw [one_is [] [] [] two ok_two 0 x y 0 2 (by omega), hr]) hL
set_option maxHeartbeats 2000000 in
theorem awake_calls (w : World) (hL : LaidAll w) : Calls Tryd.prog 8 #[] w fun e w' => e = .returned (.bool true) ∧ Below w.heap.size w w' := by
  have HL := Aside0.mk hL
  clear hL
  have P1 := Aside0.mk (one_c 33 0 8 (by decide))
  have P2 := Aside0.mk (one_c 8 4 10 (by decide))
  have P3 := Aside0.mk (one_c 33 1 0 (by decide))
  go_enter Tryd.func8, Tryd.ntmps8
  go_wp2_with ((with_reducible refine gate_dst (N := 2) rfl ?_); refine Kd.S_make k43 _ 43 rfl (N := 2) rfl 25 _ _ rfl 2 rfl rfl Tryd.underlying25 (.agg #[(.string ⟨#[]⟩), (.slice none 0 0), (.int .i64 0), (.slice none 0 0), (.slice none 0 0)]) 96 info_unit rfl (by decide) (by omega) z43 (ok := fun _ => True) (okp := fun _ => True) (k43_mkM _ _ _ z43 (Kd.R_nil _ _ _ _ _) (Kd.R_nil _ _ _ _ _) (Kd.R_nil _ _ _ _ _)) (fun _ hk => hk) trivial (by omega) (by omega) (Below.refl _ _) (Nat.le_refl _) ?_; intro v w7 ho hb hg_ hnew_; clear hg_ hnew_; obtain ⟨A, c, rfl, hc, hC⟩ := Kd.S_reads ho; have HC := Aside0.mk hC; have HB := Aside0.mk hb; clear ho hC hb)
  have HC2 := Aside0.mk (Kd.C_below HC.out ((Below.refl _ w7).alloc (Nat.le_refl _) (.cells #[.slice none 0 0, .slice none 0 0, .slice none 0 0, .slice A 2 c] 27)))
  have HB2 := Aside0.mk (HB.out.alloc HB.out.size (.cells #[.slice none 0 0, .slice none 0 0, .slice none 0 0, .slice A 2 c] 27))
  have HG := Aside0.mk (heap_alloc_new w7 (.cells #[.slice none 0 0, .slice none 0 0, .slice none 0 0, .slice A 2 c] 27))
  refine (P1.out A c _ HC2.out hc (HL.out.below HB2.out)).mono ?_
  rintro e w8 ⟨rfl, hb8⟩
  have HG8 := Aside0.mk ((hb8.block _ (blk_lt HG.out)).trans HG.out)
  have HC8 := Aside0.mk (Kd.C_below HC2.out hb8)
  have HB8 := Aside0.mk (HB2.out.trans (hb8.mono HB2.out.size))
  clear hb8 HC HB HC2 HB2 HG
  have q0 : w8.cell? ⟨w7.heap.size, 0, none⟩ = some (.slice none 0 0) := (blk_cell HG8.out 0).trans rfl
  have q1 : w8.cell? ⟨w7.heap.size, 1, none⟩ = some (.slice none 0 0) := (blk_cell HG8.out 1).trans rfl
  have q2 : w8.cell? ⟨w7.heap.size, 2, none⟩ = some (.slice none 0 0) := (blk_cell HG8.out 2).trans rfl
  have q3 : w8.cell? ⟨w7.heap.size, 3, none⟩ = some (.slice A 2 c) := (blk_cell HG8.out 3).trans rfl
  go_wp2_with fail
  refine (P2.out A c _ HC8.out hc (HL.out.below HB8.out)).mono ?_
  rintro e w9 ⟨rfl, hb9⟩
  have HG9 := Aside0.mk ((hb9.block _ (blk_lt HG8.out)).trans HG8.out)
  have HC9 := Aside0.mk (Kd.C_below HC8.out hb9)
  have HB9 := Aside0.mk (HB8.out.trans (hb9.mono HB8.out.size))
  clear hb9 HC8 HB8 HG8 q0 q1 q2 q3
  have q0 : w9.cell? ⟨w7.heap.size, 0, none⟩ = some (.slice none 0 0) := (blk_cell HG9.out 0).trans rfl
  have q1 : w9.cell? ⟨w7.heap.size, 1, none⟩ = some (.slice none 0 0) := (blk_cell HG9.out 1).trans rfl
  have q2 : w9.cell? ⟨w7.heap.size, 2, none⟩ = some (.slice none 0 0) := (blk_cell HG9.out 2).trans rfl
  have q3 : w9.cell? ⟨w7.heap.size, 3, none⟩ = some (.slice A 2 c) := (blk_cell HG9.out 3).trans rfl
  go_wp2_with fail
  refine (P3.out A c _ HC9.out hc (HL.out.below HB9.out)).mono ?_
  rintro e w10 ⟨rfl, hb10⟩
  have HB10 := HB9.out.trans (hb10.mono HB9.out.size)
  go_wp2_with fail
  go_ret
  exact ⟨rfl, HB10⟩
/-- In the printed form. -/
def ladderbacklaw18_awake.f : Option Bool := some true
theorem ladderbacklaw18_awake.calls (r : Bool) (w : World) (h : ladderbacklaw18_awake.f = some r) (hL : LaidAll w) : Calls Tryd.prog 8 #[] w fun e w' => e = .returned (.bool r) ∧ Below w.heap.size w w' := by
  obtain rfl := Option.some.inj h
  exact awake_calls w hL
end Go.Proofs.YthdlocigijiobaaDoor.Given
end

section
/- A region that draws its order, whose operations make rows of their own and take rows over: every block has an owner; the last operation waits for all others. No conditions. -/
namespace Go.Proofs.YthdlocigijiobaaDoor.Reg
open Go Go.RowKit Go.Proofs.YthdlocigijiobaaDoorW.PrintWords Go.Proofs.YthdlocigijiobaaDoorW.PrintLast
set_option linter.unusedVariables false
/-- Is a specification kept while the owner's blocks stay? -/
def MonoG (i : Nat) (s : (Nat → Nat) → World → Value → Prop) : Prop := ∀ g g' w w' v, w.heap.size ≤ w'.heap.size → (∀ k, k < w.heap.size → g k = i → w'.heap[k]? = w.heap[k]? ∧ g' k = i) → s g w v → s g' w' v
structure RegG (D : List (Option Tmp)) (S : Nat → (Nat → Nat) → World → Value → Prop) (C : List (List Nat)) (a0 : Act) (wb : World) (b : Nat → Bool) (g : Nat → Nat) (a : Act) (w : World) : Prop where
  below : Below wb.heap.size wb w
  defers : a.defers = a0.defers
  size : a.tmps.size = a0.tmps.size
  elder : ∀ t, some t ∉ D → a.tmps[t]? = a0.tmps[t]?
  vals : ∀ (i : Nat) (t : Tmp), D[i]? = some (some t) → b i = true → (∀ c, i ∈ C.getD c [] → b c = false) → ∃ v, a.tmps[t]? = some v ∧ S i g w v
def GStep (P : Program) (ops : Array Oper) (Q : Exit → Act → World → Prop) (B : List Nat) (D : List (Option Tmp)) (S : Nat → (Nat → Nat) → World → Value → Prop) (C : List (List Nat)) (a0 : Act) (wb : World) (i : Nat) : Prop :=
  ∀ g a w, Below wb.heap.size wb w → a.tmps.size = a0.tmps.size → (∀ t, some t ∉ D → a.tmps[t]? = a0.tmps[t]?) →
    (∀ (j : Nat) (t : Tmp), (B.getD i 0).testBit j = true → D[j]? = some (some t) → (∀ c, j ∈ C.getD c [] → c = i) → ∃ v, a.tmps[t]? = some v ∧ S j g w v) →
    ∃ oi, ops[i]? = some oi ∧ ∀ K : Act → World → Prop, Shut (∀ v w' g', Below wb.heap.size wb w' → w.heap.size ≤ w'.heap.size → (∀ k, k < w.heap.size → g k ∉ C.getD i [] → w'.heap[k]? = w.heap[k]? ∧ g' k = g k) → S i g' w' v → K (a.put oi.dst v) w') →
      if Region.wanted oi (yielded ops a.tmps) = true then Oper.wp P oi a w K Q else K (a.put oi.dst undef) w
def GLast (P : Program) (ops : Array Oper) (Q : Exit → Act → World → Prop) (B : List Nat) (D : List (Option Tmp)) (S : Nat → (Nat → Nat) → World → Value → Prop) (C : List (List Nat)) (a0 : Act) (wb : World) (z : Nat) : Prop :=
  ∀ g a w, Below wb.heap.size wb w → a.defers = a0.defers → a.tmps.size = a0.tmps.size → (∀ t, some t ∉ D → a.tmps[t]? = a0.tmps[t]?) →
    (∀ (j : Nat) (t : Tmp), (B.getD z 0).testBit j = true → D[j]? = some (some t) → (∀ c, j ∈ C.getD c [] → c = z) → ∃ v, a.tmps[t]? = some v ∧ S j g w v) →
    ∃ oi, ops[z]? = some oi ∧ ∀ K : Act → World → Prop, Shut (∀ a' w', Q .normal a' w' → K a' w') → if Region.wanted oi (yielded ops a.tmps) = true then Oper.wp P oi a w K Q else K (a.put oi.dst undef) w
theorem region_g {P : Program} {ops : Array Oper} {Q : Exit → Act → World → Prop} {id : Nat} {a0 : Act} {w0 : World} (z : Nat) (D : List (Option Tmp)) (B : List Nat) (T : Bool × List (List Nat × List Nat)) (S : Nat → (Nat → Nat) → World → Value → Prop) (C : List (List Nat))
    (hm : P.follows .mixedOrders = true) (hT : rtab .any ops = T) (hB : waitsOk T.2 B = true) (hk : baseOk T.2 (List.range ops.size) = true) (hD : ops.toList.map (·.dst) = D) (hd : (D.filterMap _root_.id).Nodup)
    (hsz : (D.filterMap _root_.id).all (fun t => Nat.blt t a0.tmps.size) = true) (hz : ops.size = z + 1) (hzb : (List.range z).all (fun i => (B.getD z 0).testBit i) = true)
    (hmono : ∀ i, MonoG i (S i)) (O : List Nat) (hO : List.range z = O) (hstep : ∀ i ∈ O, GStep P ops Q B D S C a0 w0 i) (hlast : GLast P ops Q B D S C a0 w0 z) : (Code.region id ops true).wp P Q a0 w0 := by
  subst hO
  refine wp_region_last (S := fun _ => True) (ds := []) hm ?_
  have hl : T.2.length = ops.size := by rw [← hT]; exact rtab_length
  refine inv_ (T := T) (B := B) (List.range ops.size) (fun b a w => (b z = true → Q .normal a w) ∧ (b z = false → ∃ g, RegG D S C a0 w0 b g a w)) hT hB hk ?_ ?_ ?_ ?_
  · rw [hl]
    simp only [Bool.and_eq_true, beq_iff_eq, List.length_range, and_true]
    apply List.ext_getElem?
    intro j
    by_cases hj : j < ops.size
    · simp [lof, hj]
    · simp [lof, hj]
  · exact ⟨(fun h => by cases h), fun _ => ⟨fun _ => 0, pw_below_drewN (Below.refl _ _) 1, rfl, rfl, fun _ _ => rfl, (fun _ _ _ h => by cases h)⟩⟩
  · intro i hi b a w hI hb hon hoff
    have hi' : i < ops.size := List.mem_range.1 hi
    have hup : ∀ j, (B.getD i 0).testBit j = true → (∃ t, D[j]? = some (some t)) → b j = true := fun j hj ht => hon j (by
      obtain ⟨t, ht⟩ := ht
      rw [hj, Bool.and_true, List.contains_iff_mem, List.mem_range]
      have := (List.getElem?_eq_some_iff.1 ht).1
      rw [← hD] at this
      simpa using this)
    by_cases hiz : i = z
    · subst hiz
      obtain ⟨g, hG⟩ := hI.2 hb
      obtain ⟨oi, hoi, hK⟩ := hlast g a w hG.below hG.defers hG.size hG.elder (fun j t hj ht hc => hG.vals j t ht (hup j hj ⟨t, ht⟩) (fun c h => by rw [hc c h]; exact hb))
      exact ⟨oi, hoi, fun K hS => hK K (fun a' w' hq => hS.out a' w' ⟨fun _ => hq, (fun h => by rw [up_self] at h; cases h)⟩)⟩
    · have hlt : i < z := by omega
      have hbz : b z = false := hoff z (by
        rw [List.all_eq_true.1 hzb i (List.mem_range.2 hlt), Bool.and_true, List.contains_iff_mem, List.mem_range]
        omega)
      obtain ⟨g, hG⟩ := hI.2 hbz
      obtain ⟨oi, hoi, hK⟩ := hstep i (List.mem_range.2 hlt) g a w hG.below hG.size hG.elder (fun j t hj ht hc => hG.vals j t ht (hup j hj ⟨t, ht⟩) (fun c h => by rw [hc c h]; exact hb))
      have hDi : D[i]? = some oi.dst := by rw [← hD, List.getElem?_map, Array.getElem?_toList, hoi]; rfl
      refine ⟨oi, hoi, fun K hS => hK K (fun v w' g' hbw hsw hkeep hs => hS.out _ _ ⟨fun h => ?_, fun _ => ⟨g', ?_⟩⟩)⟩
      · rw [up_ne (fun e => hiz e.symm), hbz] at h
        cases h
      · refine ⟨hbw, by cases oi.dst <;> simp [Act.put, hG.defers], by cases oi.dst <;> simp [Act.put, hG.size], fun t ht => ?_, fun j t hj hbj hal => ?_⟩
        · cases hdst : oi.dst with
          | none => simpa [Act.put] using hG.elder t ht
          | some u =>
            have hne : u ≠ t := by
              rintro rfl
              exact ht (List.mem_of_getElem? (by rw [hDi, hdst]))
            simp [Act.put, Array.getElem?_setIfInBounds_ne hne]
            exact hG.elder t ht
        · by_cases hji : j = i
          · subst hji
            rw [hDi] at hj
            injection hj with hj
            refine ⟨v, ?_, hs⟩
            rw [hj]
            have : t < a.tmps.size := by
              rw [hG.size]
              have h1 := List.all_eq_true.1 hsz t (List.mem_filterMap.2 ⟨some t, List.mem_of_getElem? (by rw [hDi, hj]), rfl⟩)
              simpa using h1
            simp [Act.put, this]
          · rw [up_ne hji] at hbj
            have hci : j ∉ C.getD i [] := fun h => by
              have := hal i h
              rw [up_self] at this
              cases this
            obtain ⟨x, hx, hsx⟩ := hG.vals j t hj hbj (fun c h => by
              have := hal c h
              by_cases e : c = i
              · rw [e]; exact hb
              · rwa [up_ne e] at this)
            refine ⟨x, ?_, hmono j g g' w w' x hsw (fun k hk hg => ?_) hsx⟩
            · cases hdst : oi.dst with
              | none => simpa [Act.put] using hx
              | some u =>
                have hne : u ≠ t := by
                  rintro rfl
                  exact hji (distinct hd hj (by rw [hDi, hdst]))
                simp [Act.put, Array.getElem?_setIfInBounds_ne hne]
                exact hx
            · obtain ⟨h1, h2⟩ := hkeep k hk (by rw [hg]; exact hci)
              exact ⟨h1, h2.trans hg⟩
  · intro b a w hb hI
    refine hI.1 (hb z ?_)
    rw [List.contains_iff_mem, List.mem_range]
    omega
theorem gs_nil {P : Program} {ops : Array Oper} {Q : Exit → Act → World → Prop} {B : List Nat} {D : List (Option Tmp)} {S : Nat → (Nat → Nat) → World → Value → Prop} {C : List (List Nat)} {a0 : Act} {wb : World} : ∀ i ∈ ([] : List Nat), GStep P ops Q B D S C a0 wb i := fun _ h => by cases h
theorem gs_cons {P : Program} {ops : Array Oper} {Q : Exit → Act → World → Prop} {B : List Nat} {D : List (Option Tmp)} {S : Nat → (Nat → Nat) → World → Value → Prop} {C : List (List Nat)} {a0 : Act} {wb : World} {i : Nat} {rs : List Nat} (h : GStep P ops Q B D S C a0 wb i) (hs : ∀ j ∈ rs, GStep P ops Q B D S C a0 wb j) : ∀ j ∈ i :: rs, GStep P ops Q B D S C a0 wb j := fun j hj => by
  rcases List.mem_cons.1 hj with rfl | hj
  · exact h
  · exact hs j hj
theorem cons_one {C : List (List Nat)} {j i : Nat} (h : (List.range C.length).all (fun c => !((C.getD c []).contains j) || c == i) = true) : ∀ c, j ∈ C.getD c [] → c = i := fun c hc => by
  have hl : c < C.length := by
    rcases Nat.lt_or_ge c C.length with h1 | h1
    · exact h1
    · rw [List.getD_eq_getElem?_getD, List.getElem?_eq_none h1] at hc; simp at hc
  have := List.all_eq_true.1 h c (List.mem_range.2 hl)
  rw [List.contains_iff_mem.2 hc] at this
  simpa using this
theorem monoG_eq (i : Nat) (P : Value → Prop) : MonoG i (fun _ _ v => P v) := fun _ _ _ _ _ _ _ h => h
theorem monoG_R {α : Type} (i : Nat) (d : Kd α) (e base : Nat) (xs : List α) : MonoG i (fun g w v => d.R e w base (fun k => g k = i) v xs) := fun g g' w w' v hs hk h =>
  Kd.R_mono (Kd.R_move (Kd.R_bound h) (fun k hk' => (hk k hk'.2.2.1 hk'.1).1)) (fun k hk' => (hk k hk'.2.2.1 hk'.1).2)
theorem monoG_getD {l : List ((Nat → Nat) → World → Value → Prop)} (h : ∀ i s, l[i]? = some s → MonoG i s) : ∀ i, MonoG i (l.getD i (fun _ _ _ => False)) := by
  intro i g g' w w' v hs hk hv
  rw [List.getD_eq_getElem?_getD] at hv ⊢
  cases hi : l[i]? with
  | none => rw [hi] at hv; exact hv.elim
  | some s => rw [hi] at hv; exact h i s hi g g' w w' v hs hk hv
theorem eval_at {a : Act} {t : Tmp} {v : Value} (h : a.tmps[t]? = some v) : a.eval (.tmp t) = v := by simp [Act.eval, Array.getD_eq_getD_getElem?, h]
/-- The new blocks become i's. -/
def own (g : Nat → Nat) (n i : Nat) : Nat → Nat := fun k => if k < n then g k else i
theorem own_old {g : Nat → Nat} {n i k : Nat} (h : k < n) : own g n i k = g k := if_pos h
theorem own_new {g : Nat → Nat} {n i k : Nat} (h : n ≤ k) : own g n i k = i := if_neg (by omega)
/-- The new blocks, and p's, become i's. -/
def take (g : Nat → Nat) (n i p : Nat) : Nat → Nat := fun k => if k < n ∧ g k ≠ p then g k else i
theorem take_old {g : Nat → Nat} {n i p k : Nat} (h : k < n) (hp : g k ≠ p) : take g n i p k = g k := if_pos ⟨h, hp⟩
theorem take_new {g : Nat → Nat} {n i p k : Nat} (h : n ≤ k ∨ g k = p) : take g n i p k = i := if_neg (by rintro ⟨h1, h2⟩; rcases h with h | h <;> first | omega | exact h2 h)
section
variable {P : Program} {ops : Array Oper} {Q : Exit → Act → World → Prop} {o : Oper} {a : Act} {K : Act → World → Prop}
/-- A literal: a row of i's. -/
theorem lit_g {α : Type} (d : Kd α) (e i : Nat) {g : Nat → Nat} {wb w : World} {pc : List Nat} (hw : Region.wanted o (yielded ops a.tmps) = true) {N : Tmp} (hd : o.dst = some N) {xs : List α} {inner : List Value}
    (hrun : (execOp a.eval o).run P w = .ok (.value (.slice (some ⟨w.heap.size, 0, none⟩) xs.length xs.length)) (w.alloc (.cells inner.toArray e)))
    (hrep : Reps (d.M w wb.heap.size (fun _ => False)) d.sz xs inner) (HB : Below wb.heap.size wb w) (hm : xs.length ≤ 9223372036854775807)
    (h : ∀ (v : Value) (w' : World) (g' : Nat → Nat), Below wb.heap.size wb w' → w.heap.size ≤ w'.heap.size → (∀ k, k < w.heap.size → g k ∉ pc → w'.heap[k]? = w.heap[k]? ∧ g' k = g k) → d.R e w' wb.heap.size (fun k => g' k = i) v xs → K (a.put o.dst v) w') :
    if Region.wanted o (yielded ops a.tmps) = true then Oper.wp P o a w K Q else K (a.put o.dst undef) w :=
  Kd.R_lit_step d wb.heap.size e hw hd (ok := fun k => own g w.heap.size i k = i) (okp := fun _ => False) hrun hrep (fun _ hk => hk.elim) (own_new (Nat.le_refl _)) HB HB.size hm
    (fun v1 w1 hR hB hg _ => h v1 w1 (own g w.heap.size i) hB hg.size (fun k hk _ => ⟨hg.block k hk (by simp), own_old hk⟩) hR)
/-- A row is appended to p's row, which becomes i's. -/
theorem app_g {sz : Nat} (e i p : Nat) {g : Nat → Nat} {wb w : World} {pc : List Nat} (hpc : pc = [p]) (hw : Region.wanted o (yielded ops a.tmps) = true) (s x : Operand) (t : TypeId) (z : Value) (bytes : Nat)
    (ho : o.op = .call { callee := .builtin .append, args := #[s, x], argTypes := #[t, t] })
    (ht : P.underlying t = some (.slice e)) (hinfo : (P.info? e).map (fun i => (i.zero, i.size, i.bytes)) = some (some z, sz, bytes)) (hz : z.cells.size = sz) (hs0 : 0 < sz) (hb0 : 0 < bytes)
    (v : Value) (xs ys : List (List Value)) (A : Option Addr) (m c : Nat) (hs : a.eval s = v) (hx : a.eval x = .slice A m c)
    (HO : (Kd.raw sz).R e w wb.heap.size (fun k => g k = p) v xs) (HR : (Kd.raw sz).C w A m ys) (HB : Below wb.heap.size wb w) (hl : (xs.length + m) * bytes ≤ 140737488355328)
    (h : ∀ (v : Value) (w' : World) (g' : Nat → Nat), Below wb.heap.size wb w' → w.heap.size ≤ w'.heap.size → (∀ k, k < w.heap.size → g k ∉ pc → w'.heap[k]? = w.heap[k]? ∧ g' k = g k) → (Kd.raw sz).R e w' wb.heap.size (fun k => g' k = i) v (xs ++ ys) → K (a.put o.dst v) w') :
    if Region.wanted o (yielded ops a.tmps) = true then Oper.wp P o a w K Q else K (a.put o.dst undef) w := by
  subst hpc
  have hop : ∀ k, v.ownBlock = some k → g k = p := HO.1
  refine Kd.R_append_rows_step (Kd.raw sz) wb.heap.size hw s x t e z bytes ho ht hinfo hz hs0 hb0 v xs ys A m c (fun k => take g w.heap.size i p k = i) (fun _ => False) hs hx
    (Kd.R_mono (Kd.R_bound HO) (fun k hk => take_new (.inr hk.1))) HR (fun _ _ hk => hk) (fun _ hk => hk.elim) (fun k hk => take_new (.inl hk)) HB HB.size hl ?_
  intro v1 w1 hR hB hg _
  refine h v1 w1 (take g w.heap.size i p) hB hg.size (fun k hk hne => ⟨hg.block k hk (fun e => ?_), take_old hk (fun e => hne (by rw [e]; exact List.mem_singleton.2 rfl))⟩) hR
  exact hne (by rw [hop k e.symm]; exact List.mem_singleton.2 rfl)
/-- A slot's new block. -/
theorem own_keep {g : Nat → Nat} {w w' : World} {i : Nat} {pc : List Nat} (hb : Below w.heap.size w w') : ∀ k, k < w.heap.size → g k ∉ pc → w'.heap[k]? = w.heap[k]? ∧ own g w.heap.size i k = g k := fun k hk _ => ⟨hb.block k hk, own_old hk⟩
theorem same_keep {g : Nat → Nat} {w : World} {pc : List Nat} : ∀ k, k < w.heap.size → g k ∉ pc → w.heap[k]? = w.heap[k]? ∧ g k = g k := fun _ _ _ => ⟨rfl, rfl⟩
end
end Go.Proofs.YthdlocigijiobaaDoor.Reg
end
