/- The document's look at one instruction, walked by hand; units of few parts. -/
import Derived.Test.YthdlocigijiobaaDoorZStackStepsab
import Derived.Test.YthdlocigijiobaaDoorZStackStepsad
import Derived.Test.YthdlocigijiobaaDoorZStackStepsag
import Derived.Test.YthdlocigijiobaaDoorZStackStepsaj
section
/- What an instruction takes, and leaves, as the document tells it: walked by hand; the same as the program's stack.effect tells. -/
namespace Go.Proofs.YthdlocigijiobaaDoor.RPure
open Go Go.RowKit Go.Proofs.YthdlocigijiobaaDoor.PSk Go.Proofs.YthdlocigijiobaaDoor.Given Go.Proofs.YthdlocigijiobaaDoorW.PrintWords Go.Proofs.YthdlocigijiobaaDoorW.PrintLast Go.Proofs.YthdlocigijiobaaDoorW.PrintMore
set_option linter.unusedVariables false
set_option linter.unusedSimpArgs false
/-- A row of numbers to read. -/
def Row (w w' : World) (e : Ending) (r : List Int) : Prop := ∃ v, e = .returned v ∧ Reg.Rs (Kd.int .i64) w' v r ∧ Below w.heap.size w w'
/-- The same, of its own. -/
def RowR (w w' : World) (e : Ending) (r : List Int) : Prop := ∃ v, e = .returned v ∧ Kd.R (Kd.int .i64) 3 w' w.heap.size (fun _ => True) v r ∧ Below w.heap.size w w'
theorem RowR.row {w w' : World} {e : Ending} {r : List Int} (h : RowR w w' e r) : Row w w' e r := by
  obtain ⟨v, rfl, h, hb⟩ := h
  exact ⟨v, rfl, Kd.R_reads h, hb⟩
theorem Row.nil {w w' : World} (hb : Below w.heap.size w w') : RowR w w' (.returned (.slice none 0 0)) [] := ⟨_, rfl, Kd.R_nil (Kd.int .i64) 3 w' w.heap.size (fun _ => True), hb⟩
theorem Row.lit {w w1 : World} (xs : List Int) (g : Nat) (hg : g = w1.heap.size) (cs : Array Value) (hc : cs = (xs.map (Value.int .i64)).toArray) (hm : xs.length ≤ 1000) (hb : Below w.heap.size w w1) : RowR w (w1.alloc (.cells cs 3)) (.returned (.slice (some ⟨g, 0, none⟩) xs.length xs.length)) xs := by
  subst hg hc
  exact ⟨_, rfl, Reg.lit_own (base := w.heap.size) (ok := fun _ => True) hb.size (heap_alloc_new w1 _) hm trivial, hb.alloc hb.size _⟩
theorem Row.litg {w w1 : World} {xs : List Int} {g : Nat} (hg : w.heap.size ≤ g) (h : w1.heap[g]? = some (.cells (xs.map (Value.int .i64)).toArray 3 (0, 0))) (hm : xs.length ≤ 1000) (hb : Below w.heap.size w w1) : RowR w w1 (.returned (.slice (some ⟨g, 0, none⟩) xs.length xs.length)) xs :=
  ⟨_, rfl, Reg.lit_own (base := w.heap.size) (ok := fun _ => True) hg h hm trivial, hb⟩
set_option maxHeartbeats 8000000 in
set_option maxRecDepth 100000 in
theorem takes_row (A0 : Option Addr) (c0 : Nat) (C : LC) (A1 : Option Addr) (c1 : Nat) (V : LV) (A2 : Option Addr) (c2 : Nat) (B : LB) (A3 : Option Addr) (c3 : Nat) (U : LU) (u x y z : Int) (r1 r2 : List Int) (w : World)
    (g0 : Kd.C k35 w A0 C.length C) (g1 : Kd.C k37 w A1 V.length V) (g2 : Kd.C k39 w A2 B.length B) (g3 : Kd.C k43 w A3 U.length U) (h : stack_effect.f C V B U u x y z = some (r1, r2))
    (hU : Ok U) (h1 : oneF C V B U u x y z = 0) : Calls Tryd.prog 16 #[.agg #[.slice A0 C.length c0, .slice A1 V.length c1, .slice A2 B.length c2, .slice A3 U.length c3], .int .i64 u, .agg #[.int .i64 x, .int .i64 y, .int .i64 z]] w fun e w' => Row w w' e r1 := by
  have m0 := g0.2.1
  have m1 := g1.2.1
  have m2 := g2.2.1
  have m3 := g3.2.1
  have HX := Aside0.mk (show Boxes w ((w.alloc (.cells #[.slice A0 C.length c0, .slice A1 V.length c1, .slice A2 B.length c2, .slice A3 U.length c3] 27)).alloc (.cells #[.int .i64 x, .int .i64 y, .int .i64 z] 29)) A0 C.length c0 A1 V.length c1 A2 B.length c2 A3 U.length c3 x y z from ⟨((Below.refl w.heap.size w).alloc (Nat.le_refl _) _).alloc (by simp) _, heap_alloc2_old w _ _, heap_alloc2_new w _ _⟩)
  have G0 := Aside0.mk g0
  have G1 := Aside0.mk g1
  have G2 := Aside0.mk g2
  have G3 := Aside0.mk g3
  clear g0 g1 g2 g3
  obtain ⟨hu0, hu1, ⟨n, hn, h38⟩, hy, hz, -⟩ := one_ok h1
  have hx0 : 0 ≤ x ∧ x < 38 := by omega
  clear hn h38 n
  by_cases ty : 8 ≤ x ∧ x ≤ 25
  · rw [eff_ty h1 ty.1 ty.2] at h
    obtain ⟨rfl, rfl⟩ := Prod.mk.inj (Option.some.inj h)
    clear h h1 hU
    by_cases c1 : x = 13 ∨ x = 17
    · rw [show tyI x y = [y] from if_pos c1]
      rcases (by omega : x = 13 ∨ x = 17) with rfl | rfl <;>
      · go_enter Tryd.func16, Tryd.ntmps16
        have HE := Aside0.mk (Row.lit (w := w) ([y] : List Int) (w.heap.size + 1 + 1) (by simp) _ rfl (by simp) HX.out.below)
        go_wp2_with fail
        go_ret
        exact HE.out.row
    by_cases c2 : x = 18 ∨ x = 19
    · rw [show tyI x y = [y, 2] from (if_neg c1).trans (if_pos c2)]
      rcases (by omega : x = 18 ∨ x = 19) with rfl | rfl <;>
      · go_enter Tryd.func16, Tryd.ntmps16
        have HE := Aside0.mk (Row.lit (w := w) ([y, 2] : List Int) (w.heap.size + 1 + 1) (by simp) _ rfl (by simp) HX.out.below)
        go_wp2_with fail
        go_ret
        exact HE.out.row
    rw [show tyI x y = [y, y] from (if_neg c1).trans (if_neg c2)]
    rcases (by omega : x = 8 ∨ x = 9 ∨ x = 10 ∨ x = 11 ∨ x = 12 ∨ x = 14 ∨ x = 15 ∨ x = 16 ∨ x = 20 ∨ x = 21 ∨ x = 22 ∨ x = 23 ∨ x = 24 ∨ x = 25) with rfl | rfl | rfl | rfl | rfl | rfl | rfl | rfl | rfl | rfl | rfl | rfl | rfl | rfl <;>
    · go_enter Tryd.func16, Tryd.ntmps16
      have HE := Aside0.mk (Row.lit (w := w) ([y, y] : List Int) (w.heap.size + 1 + 1) (by simp) _ rfl (by simp) HX.out.below)
      go_wp2_with fail
      go_ret
      exact HE.out.row
  by_cases a3 : x = 3
  · subst a3
    have h : (if 0 ≤ y ∧ y < (V.length : Int) then some ([(rd_T37 V y).f1], []) else none) = some (r1, r2) := h
    by_cases bg : 0 ≤ y ∧ y < (V.length : Int)
    rotate_left
    · rw [if_neg bg] at h; cases h
    rw [if_pos bg] at h
    obtain ⟨rfl, rfl⟩ := Prod.mk.inj (Option.some.inj h)
    obtain ⟨m, rfl⟩ : ∃ m : Nat, y = m := ⟨y.toNat, by omega⟩
    have hm : m < V.length := by omega
    clear h bg
    go_enter Tryd.func16, Tryd.ntmps16
    obtain ⟨ad, rfl, k0, k1, k2, k3, k4⟩ := at_T37 (Kd.C_below G1.out HX.out.below) (m : Int) (by omega) (by omega)
    rw [Int.toNat_natCast] at k0 k1 k2 k3 k4
    have HE := Aside0.mk (Row.lit (w := w) ([(rd_T37 V (m : Int)).f1] : List Int) (w.heap.size + 1 + 1) (by simp) _ rfl (by simp) HX.out.below)
    go_wp2_with fail
    go_ret
    exact HE.out.row
  by_cases a5 : x = 5
  · subst a5
    have h : (if 0 ≤ u ∧ u < (U.length : Int) ∧ (rd_T43 U u).f1.length ≤ 20 ∧ (rd_T43 U u).f3.length ≤ 1100 ∧ 0 ≤ y ∧ y < ((slotsF (rd_T43 U u).f1 (rd_T43 U u).f2 (rd_T43 U u).f3).length : Int) then some ([rd (slotsF (rd_T43 U u).f1 (rd_T43 U u).f2 (rd_T43 U u).f3) y], []) else none) = some (r1, r2) := h
    by_cases bg : 0 ≤ u ∧ u < (U.length : Int) ∧ (rd_T43 U u).f1.length ≤ 20 ∧ (rd_T43 U u).f3.length ≤ 1100 ∧ 0 ≤ y ∧ y < ((slotsF (rd_T43 U u).f1 (rd_T43 U u).f2 (rd_T43 U u).f3).length : Int)
    rotate_left
    · rw [if_neg bg] at h; cases h
    rw [if_pos bg] at h
    obtain ⟨rfl, rfl⟩ := Prod.mk.inj (Option.some.inj h)
    clear h
    obtain ⟨m, rfl⟩ : ∃ m : Nat, u = m := ⟨u.toNat, by omega⟩
    have hm : m < U.length := by omega
    have hs := rslots_is (rd_T43 U (m : Int)).f0 (rd_T43 U (m : Int)).f1 (rd_T43 U (m : Int)).f2 (rd_T43 U (m : Int)).f3 (rd_T43 U (m : Int)).f4 (by omega) (by omega) 1200 (by omega)
    have hy0 := bg.2.2.2.2.1
    have hy1 := bg.2.2.2.2.2
    clear bg
    generalize slotsF (rd_T43 U (m : Int)).f1 (rd_T43 U (m : Int)).f2 (rd_T43 U (m : Int)).f3 = SL at *
    generalize hX_ : rd_T43 U (m : Int) = X at *
    have HXX := Aside0.mk hX_
    have PSL := Aside0.mk hs
    clear hX_ hs
    obtain ⟨W, hW⟩ : ∃ W, W = ((w.alloc (.cells #[.slice A0 C.length c0, .slice A1 V.length c1, .slice A2 B.length c2, .slice A3 U.length c3] 27)).alloc (.cells #[.int .i64 5, .int .i64 y, .int .i64 z] 29)) := ⟨_, rfl⟩
    rw [← hW] at HX
    go_enter Tryd.func16, Tryd.ntmps16
    go_wp2_with fail
    rw [← hW]
    clear hW
    have HXB := Aside0.mk HX.out.below
    have HP := Aside0.mk HX.out.p
    have HI := Aside0.mk HX.out.i
    have HG := Aside0.mk (Kd.C_below G3.out HX.out.below)
    clear HX G0 G1 G2 G3
    obtain ⟨b1, hb1⟩ : ∃ b, b = w.heap.size + 1 := ⟨_, rfl⟩
    rw [← hb1] at HI ⊢
    obtain ⟨b0, hb0⟩ : ∃ b, b = w.heap.size := ⟨_, rfl⟩
    rw [← hb0] at HP ⊢
    clear hb1 hb0
    have HSZ := Aside0.mk HXB.out.size
    obtain ⟨ad, B1, d1, B3, d3, B4, d4, rfl, k0, k1, k2, k3, k4, hd1, hC1, hd3, hC3, hd4, hC4⟩ := at_T43 HG.out (m : Int) (by omega) (by omega)
    rw [Int.toNat_natCast] at k0 k1 k2 k3 k4
    rw [HXX.out] at k0 k1 k2 k3 k4 hC1 hd1 hC3 hd3 hC4 hd4
    have HK := Aside0.mk (fun (W2 : World) (hb : Below W.heap.size W W2) => And.intro (pw_cell_below hb k0) (And.intro (pw_cell_below hb k1) (And.intro (pw_cell_below hb k2) (And.intro (pw_cell_below hb k3) (pw_cell_below hb k4)))))
    have HC1 := Aside0.mk hC1
    have HC3 := Aside0.mk hC3
    have HC4 := Aside0.mk hC4
    clear k0 k1 k2 k3 k4 hC1 hC3 hC4 HG
    generalize hb0_ : w.heap.size = b0_ at HSZ
    refine Reg.region_e (Reg.Dis [34, 6] []) [some 24, some 25, some 26, some 27, some 28, some 29, some 30, some 31, some 32, some 33, some 34, some 6] [0, 1, 0, 7, 15, 31, 0, 64, 255, 511, 1023, 2047] (true, [([], []), ([0], [0]), ([], []), ([1, 2], [1, 2]), ([3], [3]), ([4], [4]), ([], []), ([6], [6]), ([5, 7], [5, 7]), ([8], [8]), ([9], [9]), ([10, 5, 0, 1, 2, 3, 4, 5, 6, 7, 8, 9, 10], [10])]) (fun i => ([(fun _ v_ => v_ = (.pointer (some ⟨b0, 3, none⟩))), (fun _ v_ => v_ = (.slice (some ad) U.length c3)), (fun _ v_ => v_ = (.int .i64 (m : Int))), (fun _ v_ => v_ = (.pointer (some (ad.add (m * 5))))), (fun _ v_ => v_ = (.agg #[.string X.f0, .slice B1 X.f1.length d1, .int .i64 X.f2, .slice B3 X.f3.length d3, .slice B4 X.f4.length d4])), (fun w_ v_ => Reg.Rs (Kd.int .i64) w_ v_ SL), (fun _ v_ => v_ = (.pointer (some ⟨b1, 1, none⟩))), (fun _ v_ => v_ = (.int .i64 y)), (Reg.PtrTo (.int .i64 (rd SL y))), (fun _ v_ => v_ = (.int .i64 (rd SL y))), (Reg.Lit b0_ ([rd SL y] : List Int)), (Reg.Lit b0_ ([rd SL y] : List Int))] : List (World → Value → Prop)).getD i (fun _ _ => False))
        (by kernel_rfl) (by kernel_rfl) (by kernel_rfl) (by kernel_rfl) (by kernel_rfl) (by decide) (by rfl) (Reg.mono_getD ?_) [0, 1, 2, 3, 4, 5, 6, 7, 8, 9, 10, 11] (by kernel_rfl) ?_ ?_ ?_
    · exact Reg.monoS_cons (Reg.monoS_eq _) (Reg.monoS_cons (Reg.monoS_eq _) (Reg.monoS_cons (Reg.monoS_eq _) (Reg.monoS_cons (Reg.monoS_eq _) (Reg.monoS_cons (Reg.monoS_eq _) (Reg.monoS_cons (Reg.monoS_rs _ _) (Reg.monoS_cons (Reg.monoS_eq _) (Reg.monoS_cons (Reg.monoS_eq _) (Reg.monoS_cons (Reg.ptr_mono _) (Reg.monoS_cons (Reg.monoS_eq _) (Reg.monoS_cons (Reg.lit_mono _ _) (Reg.monoS_cons (Reg.lit_mono _ _) Reg.monoS_nil)))))))))))
    · intro w hw; exact Reg.dis_start (by rfl)
    · skip
      refine Reg.re_cons (Reg.RStepE.of_r (fun oi hoi a w v w' he hs => by cases hoi; exact Reg.dis_keep he (by decide) hs) ?_) ?_
      · intro a w hb hs hel hon
        have e3 : a.tmps[3]? = some (.pointer (some ⟨b0, 0, none⟩)) := (hel 3 (by decide)).trans rfl
        obtain ⟨_, g3⟩ := Array.getElem?_eq_some_iff.1 e3
        refine ⟨_, rfl, fun K hK => ?_⟩
        refine value_ (w1 := w) (v := .pointer (some ⟨b0, 3, none⟩)) (by rfl) rfl ?_ (hK.out _ _ (Below.refl _ _) (rfl))
        · go_simp
          (try simp only [i64_w, g3])
          (try go_simp)
          try rfl
      refine Reg.re_cons (Reg.RStepE.of_r (fun oi hoi a w v w' he hs => by cases hoi; exact Reg.dis_keep he (by decide) hs) ?_) ?_
      · intro a w hb hs hel hon
        obtain ⟨_, e24, rfl⟩ := hon 0 24 (by kernel_rfl) rfl
        obtain ⟨_, g24⟩ := Array.getElem?_eq_some_iff.1 e24
        refine ⟨_, rfl, fun K hK => ?_⟩
        have q_HP3 : w.cell? ⟨b0, 3, none⟩ = some (.slice (some ad) U.length c3) := (blk_cell ((hb.block _ (blk_lt HP.out)).trans HP.out) 3).trans rfl
        refine value_ (w1 := w) (v := .slice (some ad) U.length c3) (by rfl) rfl ?_ (hK.out _ _ (Below.refl _ _) (rfl))
        · go_simp
          (try simp only [i64_w, g24])
          (try go_simp)
          try rfl
      refine Reg.re_cons (Reg.RStepE.of_r (fun oi hoi a w v w' he hs => by cases hoi; exact Reg.dis_keep he (by decide) hs) ?_) ?_
      · intro a w hb hs hel hon
        have e1 : a.tmps[1]? = some (.int .i64 (m : Int)) := (hel 1 (by decide)).trans rfl
        obtain ⟨_, g1⟩ := Array.getElem?_eq_some_iff.1 e1
        refine ⟨_, rfl, fun K hK => ?_⟩
        refine value_ (w1 := w) (v := .int .i64 (m : Int)) (by rfl) rfl ?_ (hK.out _ _ (Below.refl _ _) (rfl))
        · go_simp
          (try simp only [i64_w, g1])
          (try go_simp)
          try rfl
      refine Reg.re_cons (Reg.RStepE.of_r (fun oi hoi a w v w' he hs => by cases hoi; exact Reg.dis_keep he (by decide) hs) ?_) ?_
      · intro a w hb hs hel hon
        obtain ⟨_, e25, rfl⟩ := hon 1 25 (by kernel_rfl) rfl
        obtain ⟨_, e26, rfl⟩ := hon 2 26 (by kernel_rfl) rfl
        obtain ⟨_, g25⟩ := Array.getElem?_eq_some_iff.1 e25
        obtain ⟨_, g26⟩ := Array.getElem?_eq_some_iff.1 e26
        refine ⟨_, rfl, fun K hK => ?_⟩
        have hm2_ : (m : Int) < (U.length : Int) := by omega
        refine value_ (w1 := w) (v := .pointer (some (ad.add (m * 5)))) (by rfl) rfl ?_ (hK.out _ _ (Below.refl _ _) (rfl))
        · go_simp
          (try simp only [i64_w, g25, g26])
          (try go_simp)
          try rfl
      refine Reg.re_cons (Reg.RStepE.of_r (fun oi hoi a w v w' he hs => by cases hoi; exact Reg.dis_keep he (by decide) hs) ?_) ?_
      · intro a w hb hs hel hon
        obtain ⟨_, e27, rfl⟩ := hon 3 27 (by kernel_rfl) rfl
        obtain ⟨_, g27⟩ := Array.getElem?_eq_some_iff.1 e27
        refine ⟨_, rfl, fun K hK => ?_⟩
        obtain ⟨k0, k1, k2, k3, k4⟩ := HK.out _ hb
        refine value_ (w1 := w) (v := .agg #[.string X.f0, .slice B1 X.f1.length d1, .int .i64 X.f2, .slice B3 X.f3.length d3, .slice B4 X.f4.length d4]) (by rfl) rfl ?_ (hK.out _ _ (Below.refl _ _) (rfl))
        · go_simp
          (try simp only [i64_w, g27])
          (try go_simp)
          try rfl
      refine Reg.re_cons (Reg.RStepE.of_r (fun oi hoi a w v w' he hs => by cases hoi; exact Reg.dis_keep he (by decide) hs) ?_) ?_
      · intro a w hb hs hel hon
        obtain ⟨_, e28, rfl⟩ := hon 4 28 (by kernel_rfl) rfl
        refine ⟨_, rfl, fun K hK => ?_⟩
        refine goes_ Tryd.func26 (by kernel_rfl) rfl #[.agg #[.string X.f0, .slice B1 X.f1.length d1, .int .i64 X.f2, .slice B3 X.f3.length d3, .slice B4 X.f4.length d4]] (by rfl) rfl rfl (by first | (simp only [List.map_toArray, List.map_cons, List.map_nil, Act.eval, Array.getD_eq_getD_getElem?, Option.getD_some, e28]; done) | (simp only [List.map_toArray, List.map_cons, List.map_nil, Act.eval, Array.getD_eq_getD_getElem?, Option.getD_some, e28]; rfl) | rfl) ?_
        refine (ladderbackref15_Slots.calls 1200 X.f0 B1 d1 X.f1 X.f2 B3 d3 X.f3 B4 d4 X.f4 SL w (Kd.C_below HC1.out hb) hd1 (Kd.C_below HC3.out hb) hd3 (Kd.C_below HC4.out hb) hd4 PSL.out).mono ?_
        rintro e w2 ⟨v, rfl, ho, hb2⟩
        exact ⟨_, rfl, hK.out _ _ hb2 (Kd.R_reads ho)⟩
      refine Reg.re_cons (Reg.RStepE.of_r (fun oi hoi a w v w' he hs => by cases hoi; exact Reg.dis_keep he (by decide) hs) ?_) ?_
      · intro a w hb hs hel hon
        have e5 : a.tmps[5]? = some (.pointer (some ⟨b1, 0, none⟩)) := (hel 5 (by decide)).trans rfl
        obtain ⟨_, g5⟩ := Array.getElem?_eq_some_iff.1 e5
        refine ⟨_, rfl, fun K hK => ?_⟩
        refine value_ (w1 := w) (v := .pointer (some ⟨b1, 1, none⟩)) (by rfl) rfl ?_ (hK.out _ _ (Below.refl _ _) (rfl))
        · go_simp
          (try simp only [i64_w, g5])
          (try go_simp)
          try rfl
      refine Reg.re_cons (Reg.RStepE.of_r (fun oi hoi a w v w' he hs => by cases hoi; exact Reg.dis_keep he (by decide) hs) ?_) ?_
      · intro a w hb hs hel hon
        obtain ⟨_, e30, rfl⟩ := hon 6 30 (by kernel_rfl) rfl
        obtain ⟨_, g30⟩ := Array.getElem?_eq_some_iff.1 e30
        refine ⟨_, rfl, fun K hK => ?_⟩
        have q_HI1 : w.cell? ⟨b1, 1, none⟩ = some (.int .i64 y) := (blk_cell ((hb.block _ (blk_lt HI.out)).trans HI.out) 1).trans rfl
        refine value_ (w1 := w) (v := .int .i64 y) (by rfl) rfl ?_ (hK.out _ _ (Below.refl _ _) (rfl))
        · go_simp
          (try simp only [i64_w, g30])
          (try go_simp)
          try rfl
      refine Reg.re_cons (Reg.RStepE.of_r (fun oi hoi a w v w' he hs => by cases hoi; exact Reg.dis_keep he (by decide) hs) ?_) ?_
      · intro a w hb hs hel hon
        obtain ⟨x29, e29, ⟨A_5, c_5, rfl, hl_5, hC_5⟩⟩ := hon 5 29 (by kernel_rfl) rfl
        obtain ⟨_, e31, rfl⟩ := hon 7 31 (by kernel_rfl) rfl
        obtain ⟨_, g29⟩ := Array.getElem?_eq_some_iff.1 e29
        obtain ⟨_, g31⟩ := Array.getElem?_eq_some_iff.1 e31
        refine ⟨_, rfl, fun K hK => ?_⟩
        obtain ⟨aq, rfl, hq⟩ := Kd.at_int hC_5 y hy0 hy1
        have hSL := hC_5.2.1
        refine value_ (w1 := w) (v := .pointer (some (aq.add y.toNat))) (by rfl) rfl ?_ (hK.out _ _ (Below.refl _ _) (⟨_, rfl, hq⟩))
        · go_simp
          (try simp only [i64_w, g29, g31])
          (try go_simp)
          try rfl
      refine Reg.re_cons (Reg.RStepE.of_r (fun oi hoi a w v w' he hs => by cases hoi; exact Reg.dis_keep he (by decide) hs) ?_) ?_
      · intro a w hb hs hel hon
        obtain ⟨x32, e32, ⟨p_8, rfl, hp_8⟩⟩ := hon 8 32 (by kernel_rfl) rfl
        obtain ⟨_, g32⟩ := Array.getElem?_eq_some_iff.1 e32
        refine ⟨_, rfl, fun K hK => ?_⟩
        refine value_ (w1 := w) (v := .int .i64 (rd SL y)) (by rfl) rfl ?_ (hK.out _ _ (Below.refl _ _) (rfl))
        · go_simp
          (try simp only [i64_w, g32])
          (try go_simp)
          try rfl
      refine Reg.re_cons ?_ ?_
      · intro a w hb hs hel hE hon
        obtain ⟨_, e33, rfl⟩ := hon 9 33 (by kernel_rfl) rfl
        obtain ⟨_, g33⟩ := Array.getElem?_eq_some_iff.1 e33
        refine ⟨_, rfl, fun K hK => ?_⟩
        refine value_ (w1 := w.alloc (.cells #[.int .i64 (rd SL y)] 3)) (v := .slice (some ⟨w.heap.size, 0, none⟩) ([rd SL y] : List Int).length ([rd SL y] : List Int).length) (by rfl) rfl ?_ (hK.out _ _ ((Below.refl _ _).alloc (Nat.le_refl _) _) (Reg.lit_of_alloc w ([rd SL y] : List Int) (Nat.le_trans HSZ.out hb.size) _ (by rfl)) (Reg.dis_new hE (by decide) (by simp)))
        · go_simp
          (try simp only [i64_w, g33])
          (try go_simp)
          try rfl
      refine Reg.re_cons ?_ ?_
      · intro a w hb hs hel hE hon
        obtain ⟨_, e34, gq, rfl, hg0, hg⟩ := hon 10 34 (by kernel_rfl) rfl
        obtain ⟨_, g34⟩ := Array.getElem?_eq_some_iff.1 e34
        refine ⟨_, rfl, fun K hK => ?_⟩
        refine value_ (w1 := w) (v := .slice (some ⟨gq, 0, none⟩) ([rd SL y] : List Int).length ([rd SL y] : List Int).length) (by rfl) rfl ?_ (hK.out _ _ (Below.refl _ _) ⟨gq, rfl, hg0, hg⟩ (Reg.dis_copy hE (s := 34) (by decide) ⟨_, e34⟩ (by decide) (Nat.le_refl _)))
        · go_simp
          (try simp only [g34])
          (try go_simp)
          try rfl
      exact Reg.re_nil
    · intro a w hw_
      obtain ⟨hI, hE⟩ := hw_
      rename_i K_ hK_
      refine hK_ a w ?_
      obtain ⟨_, e6, ga, rfl, la, ba⟩ := hI.vals 11 6 rfl rfl
      have HE := Aside0.mk (Row.litg (Nat.le_trans (Nat.le_of_eq hb0_) la) ba (by simp) (HXB.out.trans (hI.below.mono HXB.out.size)))
      have G6 := Reg.getD_of e6
      have hfr := hI.frame
      rw [hfr]
      simp only [Reg.puts, Act.put, List.setIfInBounds_toArray, List.set_cons_zero, List.set_cons_succ]
      rw [G6]
      generalize a.tmps = ts_
      clear hI hE hfr hK_ e6 G6 ba la
      go_wp2_with fail
      go_ret
      exact HE.out.row
  by_cases a6 : x = 6
  · subst a6
    have h : (if 0 ≤ y ∧ y < (V.length : Int) then some ([2], [(rd_T37 V y).f1]) else none) = some (r1, r2) := h
    by_cases bg : 0 ≤ y ∧ y < (V.length : Int)
    rotate_left
    · rw [if_neg bg] at h; cases h
    rw [if_pos bg] at h
    obtain ⟨rfl, rfl⟩ := Prod.mk.inj (Option.some.inj h)
    obtain ⟨m, rfl⟩ : ∃ m : Nat, y = m := ⟨y.toNat, by omega⟩
    have hm : m < V.length := by omega
    clear h bg
    go_enter Tryd.func16, Tryd.ntmps16
    have HE := Aside0.mk (Row.lit (w := w) ([2] : List Int) (w.heap.size + 1 + 1) (by simp) _ rfl (by simp) HX.out.below)
    go_wp2_with fail
    go_ret
    exact HE.out.row
  by_cases a7 : x = 7
  · subst a7
    have h : (if 0 ≤ y ∧ y < (V.length : Int) then some ([2, (rd_T37 V y).f1], []) else none) = some (r1, r2) := h
    by_cases bg : 0 ≤ y ∧ y < (V.length : Int)
    rotate_left
    · rw [if_neg bg] at h; cases h
    rw [if_pos bg] at h
    obtain ⟨rfl, rfl⟩ := Prod.mk.inj (Option.some.inj h)
    obtain ⟨m, rfl⟩ : ∃ m : Nat, y = m := ⟨y.toNat, by omega⟩
    have hm : m < V.length := by omega
    clear h bg
    go_enter Tryd.func16, Tryd.ntmps16
    obtain ⟨ad, rfl, k0, k1, k2, k3, k4⟩ := at_T37 (Kd.C_below G1.out HX.out.below) (m : Int) (by omega) (by omega)
    rw [Int.toNat_natCast] at k0 k1 k2 k3 k4
    have HE := Aside0.mk (Row.lit (w := w) ([2, (rd_T37 V (m : Int)).f1] : List Int) (w.heap.size + 1 + 1) (by simp) _ rfl (by simp) HX.out.below)
    go_wp2_with fail
    go_ret
    exact HE.out.row
  by_cases a26 : x = 26
  · subst a26
    have h : some ([y], [z]) = some (r1, r2) := h
    obtain ⟨rfl, rfl⟩ := Prod.mk.inj (Option.some.inj h)
    clear h
    go_enter Tryd.func16, Tryd.ntmps16
    have HE := Aside0.mk (Row.lit (w := w) ([y] : List Int) (w.heap.size + 1 + 1) (by simp) _ rfl (by simp) HX.out.below)
    go_wp2_with fail
    go_ret
    exact HE.out.row
  by_cases a27 : x = 27
  · subst a27
    have h : some ([0], [0, 0]) = some (r1, r2) := h
    obtain ⟨rfl, rfl⟩ := Prod.mk.inj (Option.some.inj h)
    clear h
    go_enter Tryd.func16, Tryd.ntmps16
    have HE := Aside0.mk (Row.lit (w := w) ([0] : List Int) (w.heap.size + 1 + 1) (by simp) _ rfl (by simp) HX.out.below)
    go_wp2_with fail
    go_ret
    exact HE.out.row
  by_cases a28 : x = 28
  · subst a28
    have h : some ([0], []) = some (r1, r2) := h
    obtain ⟨rfl, rfl⟩ := Prod.mk.inj (Option.some.inj h)
    clear h
    go_enter Tryd.func16, Tryd.ntmps16
    have HE := Aside0.mk (Row.lit (w := w) ([0] : List Int) (w.heap.size + 1 + 1) (by simp) _ rfl (by simp) HX.out.below)
    go_wp2_with fail
    go_ret
    exact HE.out.row
  by_cases a29 : x = 29
  · subst a29
    have h : some ([0, 0], [0, 0]) = some (r1, r2) := h
    obtain ⟨rfl, rfl⟩ := Prod.mk.inj (Option.some.inj h)
    clear h
    go_enter Tryd.func16, Tryd.ntmps16
    have HE := Aside0.mk (Row.lit (w := w) ([0, 0] : List Int) (w.heap.size + 1 + 1) (by simp) _ rfl (by simp) HX.out.below)
    go_wp2_with fail
    go_ret
    exact HE.out.row
  by_cases a31 : x = 31
  · subst a31
    have h : some ([1], []) = some (r1, r2) := h
    obtain ⟨rfl, rfl⟩ := Prod.mk.inj (Option.some.inj h)
    clear h
    go_enter Tryd.func16, Tryd.ntmps16
    have HE := Aside0.mk (Row.lit (w := w) ([1] : List Int) (w.heap.size + 1 + 1) (by simp) _ rfl (by simp) HX.out.below)
    go_wp2_with fail
    go_ret
    exact HE.out.row
  by_cases a32 : x = 32
  · subst a32
    have h : some ([2], []) = some (r1, r2) := h
    obtain ⟨rfl, rfl⟩ := Prod.mk.inj (Option.some.inj h)
    clear h
    go_enter Tryd.func16, Tryd.ntmps16
    have HE := Aside0.mk (Row.lit (w := w) ([2] : List Int) (w.heap.size + 1 + 1) (by simp) _ rfl (by simp) HX.out.below)
    go_wp2_with fail
    go_ret
    exact HE.out.row
  by_cases a33 : x = 33
  · subst a33
    obtain ⟨hy1, he⟩ := eff_call h
    obtain ⟨m, rfl⟩ : ∃ m : Nat, y = m := ⟨y.toNat, by omega⟩
    have hm : m < U.length := by omega
    clear h h1
    obtain ⟨rfl, -⟩ := he
    go_enter Tryd.func16, Tryd.ntmps16
    obtain ⟨ad, B1, d1, B3, d3, B4, d4, rfl, k0, k1, k2, k3, k4, hd1, hC1, hd3, hC3, hd4, hC4⟩ := at_T43 (Kd.C_below G3.out HX.out.below) (m : Int) (by omega) (by omega)
    rw [Int.toNat_natCast] at k0 k1 k2 k3 k4
    have HE := Aside0.mk (show Row w ((w.alloc (.cells #[.slice A0 C.length c0, .slice A1 V.length c1, .slice A2 B.length c2, .slice (some ad) U.length c3] 27)).alloc (.cells #[.int .i64 33, .int .i64 (m : Int), .int .i64 z] 29)) (.returned (.slice B1 (rd_T43 U (m : Int)).f1.length d1)) (rd_T43 U (m : Int)).f1 from ⟨_, rfl, ⟨_, _, rfl, hd1, hC1⟩, HX.out.below⟩)
    clear hC1 hC3 hC4 hd1 hd3 hd4
    go_wp2_with fail
    go_ret
    exact HE.out
  by_cases a35 : x = 35
  · subst a35
    have h : ((stack_field.f C V B U 35 y z).bind fun t => some ([t], [])) = some (r1, r2) := h
    obtain ⟨t, hf, h⟩ := Option.bind_eq_some_iff.1 h
    obtain ⟨rfl, rfl⟩ := Prod.mk.inj (Option.some.inj h)
    clear h
    unfold stack_field.f at hf
    split at hf
    rotate_left
    · cases hf
    rename_i hh
    obtain ⟨hy, hy1, hz, hz1⟩ := hh
    have hf := Option.some.inj hf
    unfold fieldF at hf
    obtain ⟨m, rfl⟩ : ∃ m : Nat, y = m := ⟨y.toNat, by omega⟩
    have hm : m < B.length := by omega
    obtain ⟨j, rfl⟩ : ∃ j : Nat, z = j := ⟨z.toNat, by omega⟩
    obtain ⟨l, T, hft, hfl, hTl, hTj⟩ := rfieldsT (rd_T39 B (m : Int)).f1 2 (by omega)
    have hq := hTj j hz1
    rw [Int.toNat_natCast] at hf
    rw [hf] at hq
    subst hq
    have hjT : (j : Int) < (T.length : Int) := by rw [hTl]; exact hz1
    have PF := Aside0.mk (fun W => ladderbackref11_Fields.calls 2 (rd_T39 B (m : Int)).f1 l T (inputsOf (rd_T39 B (m : Int)).f1) W hft)
    clear hft hfl hTl hTj hf hz1
    generalize inputsOf (rd_T39 B (m : Int)).f1 = ni at PF
    generalize hk_ : (rd_T39 B (m : Int)).f1 = kd at PF
    have HKD := Aside0.mk hk_
    clear hk_
    go_enter Tryd.func16, Tryd.ntmps16
    obtain ⟨ad, rfl, k0, k1⟩ := at_T39 (Kd.C_below G2.out HX.out.below) (m : Int) (by omega) (by omega)
    rw [HKD.out] at k1
    rw [Int.toNat_natCast] at k0 k1
    go_wp2_with fail
    refine (PF.out _).mono ?_
    rintro e w2 ⟨v0, v2, rfl, ho0, ho1, hb⟩
    obtain ⟨As, cs, rfl, hl0, hC0⟩ := Kd.R_reads ho0
    obtain ⟨At, ct, rfl, hlt, hCt⟩ := Kd.R_reads ho1
    have HX2 := Aside0.mk (HX.out.step hb)
    obtain ⟨aq, rfl, hq⟩ := Kd.at_int hCt (j : Int) hz hjT
    rw [Int.toNat_natCast] at hq
    have hTm := hCt.2.1
    clear k0 k1 hb ho0 ho1 hC0 hCt
    obtain ⟨⟨q0, q1, q2, q3⟩, i0, i1, i2⟩ := HX2.out.cells
    have HE := Aside0.mk (Row.lit (w := w) ([rd T (j : Int)] : List Int) _ rfl _ rfl (by simp) HX2.out.below)
    go_wp2_with fail
    go_ret
    exact HE.out.row
  obtain rfl : r1 = [] := eff_nil1 h (by omega)
  clear h h1 hU
  rcases (by omega : x = 0 ∨ x = 1 ∨ x = 2 ∨ x = 4 ∨ x = 30 ∨ x = 34 ∨ x = 36 ∨ x = 37) with rfl | rfl | rfl | rfl | rfl | rfl | rfl | rfl <;>
  · go_enter Tryd.func16, Tryd.ntmps16
    have HE := Aside0.mk (Row.nil (w := w) HX.out.below)
    go_wp2_with fail
    go_ret
    exact HE.out.row
set_option maxHeartbeats 8000000 in
set_option maxRecDepth 100000 in
theorem leaves_rowR (A0 : Option Addr) (c0 : Nat) (C : LC) (A1 : Option Addr) (c1 : Nat) (V : LV) (A2 : Option Addr) (c2 : Nat) (B : LB) (A3 : Option Addr) (c3 : Nat) (U : LU) (u x y z : Int) (r1 r2 : List Int) (w : World)
    (g0 : Kd.C k35 w A0 C.length C) (g1 : Kd.C k37 w A1 V.length V) (g2 : Kd.C k39 w A2 B.length B) (g3 : Kd.C k43 w A3 U.length U) (h : stack_effect.f C V B U u x y z = some (r1, r2))
    (hU : Ok U) (h1 : oneF C V B U u x y z = 0) : Calls Tryd.prog 17 #[.agg #[.slice A0 C.length c0, .slice A1 V.length c1, .slice A2 B.length c2, .slice A3 U.length c3], .int .i64 u, .agg #[.int .i64 x, .int .i64 y, .int .i64 z]] w fun e w' => RowR w w' e r2 := by
  have m0 := g0.2.1
  have m1 := g1.2.1
  have m2 := g2.2.1
  have m3 := g3.2.1
  have HX := Aside0.mk (show Boxes w ((w.alloc (.cells #[.slice A0 C.length c0, .slice A1 V.length c1, .slice A2 B.length c2, .slice A3 U.length c3] 27)).alloc (.cells #[.int .i64 x, .int .i64 y, .int .i64 z] 29)) A0 C.length c0 A1 V.length c1 A2 B.length c2 A3 U.length c3 x y z from ⟨((Below.refl w.heap.size w).alloc (Nat.le_refl _) _).alloc (by simp) _, heap_alloc2_old w _ _, heap_alloc2_new w _ _⟩)
  have G0 := Aside0.mk g0
  have G1 := Aside0.mk g1
  have G2 := Aside0.mk g2
  have G3 := Aside0.mk g3
  clear g0 g1 g2 g3
  obtain ⟨hu0, hu1, ⟨n, hn, h38⟩, hy, hz, -⟩ := one_ok h1
  have hx0 : 0 ≤ x ∧ x < 38 := by omega
  clear hn h38 n
  by_cases ty : 8 ≤ x ∧ x ≤ 25
  · rw [eff_ty h1 ty.1 ty.2] at h
    obtain ⟨rfl, rfl⟩ := Prod.mk.inj (Option.some.inj h)
    have PR := Aside0.mk (fun W => ladderbackref07_Result.calls 8 x y _ W (result_ty h1 ty.1 ty.2))
    clear h h1 hU
    generalize (if 20 ≤ x then 1 else y) = q at PR ⊢
    rcases (by omega : x = 8 ∨ x = 9 ∨ x = 10 ∨ x = 11 ∨ x = 12 ∨ x = 13 ∨ x = 14 ∨ x = 15 ∨ x = 16 ∨ x = 17 ∨ x = 18 ∨ x = 19 ∨ x = 20 ∨ x = 21 ∨ x = 22 ∨ x = 23 ∨ x = 24 ∨ x = 25) with rfl | rfl | rfl | rfl | rfl | rfl | rfl | rfl | rfl | rfl | rfl | rfl | rfl | rfl | rfl | rfl | rfl | rfl <;>
    · go_enter Tryd.func17, Tryd.ntmps17
      go_wp2_with fail
      refine (PR.out _).mono ?_
      rintro e w2 ⟨rfl, hb⟩
      have HX2 := Aside0.mk (HX.out.step (drewN_of hb))
      clear hb
      obtain ⟨⟨q0, q1, q2, q3⟩, i0, i1, i2⟩ := HX2.out.cells
      have HE := Aside0.mk (Row.lit (w := w) ([q] : List Int) _ rfl _ rfl (by simp) HX2.out.below)
      go_wp2_with fail
      go_ret
      exact HE.out
  by_cases a1 : x = 1
  · subst a1
    have h : (if 0 ≤ y ∧ y < (C.length : Int) then some ([], [(rd_T35 C y).f0]) else none) = some (r1, r2) := h
    by_cases bg : 0 ≤ y ∧ y < (C.length : Int)
    rotate_left
    · rw [if_neg bg] at h; cases h
    rw [if_pos bg] at h
    obtain ⟨rfl, rfl⟩ := Prod.mk.inj (Option.some.inj h)
    obtain ⟨m, rfl⟩ : ∃ m : Nat, y = m := ⟨y.toNat, by omega⟩
    have hm : m < C.length := by omega
    clear h bg
    go_enter Tryd.func17, Tryd.ntmps17
    obtain ⟨ad, rfl, k0, k1⟩ := at_T35 (Kd.C_below G0.out HX.out.below) (m : Int) (by omega) (by omega)
    rw [Int.toNat_natCast] at k0 k1
    have HE := Aside0.mk (Row.lit (w := w) ([(rd_T35 C (m : Int)).f0] : List Int) (w.heap.size + 1 + 1) (by simp) _ rfl (by simp) HX.out.below)
    go_wp2_with fail
    go_ret
    exact HE.out
  by_cases a2 : x = 2
  · subst a2
    have h : (if 0 ≤ y ∧ y < (V.length : Int) then some ([], [(rd_T37 V y).f1]) else none) = some (r1, r2) := h
    by_cases bg : 0 ≤ y ∧ y < (V.length : Int)
    rotate_left
    · rw [if_neg bg] at h; cases h
    rw [if_pos bg] at h
    obtain ⟨rfl, rfl⟩ := Prod.mk.inj (Option.some.inj h)
    obtain ⟨m, rfl⟩ : ∃ m : Nat, y = m := ⟨y.toNat, by omega⟩
    have hm : m < V.length := by omega
    clear h bg
    go_enter Tryd.func17, Tryd.ntmps17
    obtain ⟨ad, rfl, k0, k1, k2, k3, k4⟩ := at_T37 (Kd.C_below G1.out HX.out.below) (m : Int) (by omega) (by omega)
    rw [Int.toNat_natCast] at k0 k1 k2 k3 k4
    have HE := Aside0.mk (Row.lit (w := w) ([(rd_T37 V (m : Int)).f1] : List Int) (w.heap.size + 1 + 1) (by simp) _ rfl (by simp) HX.out.below)
    go_wp2_with fail
    go_ret
    exact HE.out
  by_cases a4 : x = 4
  · subst a4
    have h : (if 0 ≤ u ∧ u < (U.length : Int) ∧ (rd_T43 U u).f1.length ≤ 20 ∧ (rd_T43 U u).f3.length ≤ 1100 ∧ 0 ≤ y ∧ y < ((slotsF (rd_T43 U u).f1 (rd_T43 U u).f2 (rd_T43 U u).f3).length : Int) then some ([], [rd (slotsF (rd_T43 U u).f1 (rd_T43 U u).f2 (rd_T43 U u).f3) y]) else none) = some (r1, r2) := h
    by_cases bg : 0 ≤ u ∧ u < (U.length : Int) ∧ (rd_T43 U u).f1.length ≤ 20 ∧ (rd_T43 U u).f3.length ≤ 1100 ∧ 0 ≤ y ∧ y < ((slotsF (rd_T43 U u).f1 (rd_T43 U u).f2 (rd_T43 U u).f3).length : Int)
    rotate_left
    · rw [if_neg bg] at h; cases h
    rw [if_pos bg] at h
    obtain ⟨rfl, rfl⟩ := Prod.mk.inj (Option.some.inj h)
    clear h
    obtain ⟨m, rfl⟩ : ∃ m : Nat, u = m := ⟨u.toNat, by omega⟩
    have hm : m < U.length := by omega
    have hs := rslots_is (rd_T43 U (m : Int)).f0 (rd_T43 U (m : Int)).f1 (rd_T43 U (m : Int)).f2 (rd_T43 U (m : Int)).f3 (rd_T43 U (m : Int)).f4 (by omega) (by omega) 1200 (by omega)
    have hy0 := bg.2.2.2.2.1
    have hy1 := bg.2.2.2.2.2
    clear bg
    generalize slotsF (rd_T43 U (m : Int)).f1 (rd_T43 U (m : Int)).f2 (rd_T43 U (m : Int)).f3 = SL at *
    generalize hX_ : rd_T43 U (m : Int) = X at *
    have HXX := Aside0.mk hX_
    have PSL := Aside0.mk hs
    clear hX_ hs
    obtain ⟨W, hW⟩ : ∃ W, W = ((w.alloc (.cells #[.slice A0 C.length c0, .slice A1 V.length c1, .slice A2 B.length c2, .slice A3 U.length c3] 27)).alloc (.cells #[.int .i64 4, .int .i64 y, .int .i64 z] 29)) := ⟨_, rfl⟩
    rw [← hW] at HX
    go_enter Tryd.func17, Tryd.ntmps17
    go_wp2_with fail
    rw [← hW]
    clear hW
    have HXB := Aside0.mk HX.out.below
    have HP := Aside0.mk HX.out.p
    have HI := Aside0.mk HX.out.i
    have HG := Aside0.mk (Kd.C_below G3.out HX.out.below)
    clear HX G0 G1 G2 G3
    obtain ⟨b1, hb1⟩ : ∃ b, b = w.heap.size + 1 := ⟨_, rfl⟩
    rw [← hb1] at HI ⊢
    obtain ⟨b0, hb0⟩ : ∃ b, b = w.heap.size := ⟨_, rfl⟩
    rw [← hb0] at HP ⊢
    clear hb1 hb0
    have HSZ := Aside0.mk HXB.out.size
    obtain ⟨ad, B1, d1, B3, d3, B4, d4, rfl, k0, k1, k2, k3, k4, hd1, hC1, hd3, hC3, hd4, hC4⟩ := at_T43 HG.out (m : Int) (by omega) (by omega)
    rw [Int.toNat_natCast] at k0 k1 k2 k3 k4
    rw [HXX.out] at k0 k1 k2 k3 k4 hC1 hd1 hC3 hd3 hC4 hd4
    have HK := Aside0.mk (fun (W2 : World) (hb : Below W.heap.size W W2) => And.intro (pw_cell_below hb k0) (And.intro (pw_cell_below hb k1) (And.intro (pw_cell_below hb k2) (And.intro (pw_cell_below hb k3) (pw_cell_below hb k4)))))
    have HC1 := Aside0.mk hC1
    have HC3 := Aside0.mk hC3
    have HC4 := Aside0.mk hC4
    clear k0 k1 k2 k3 k4 hC1 hC3 hC4 HG
    generalize hb0_ : w.heap.size = b0_ at HSZ
    refine Reg.region_e (Reg.Dis [45, 6] []) [some 35, some 36, some 37, some 38, some 39, some 40, some 41, some 42, some 43, some 44, some 45, some 6] [0, 1, 0, 7, 15, 31, 0, 64, 255, 511, 1023, 2047] (true, [([], []), ([0], [0]), ([], []), ([1, 2], [1, 2]), ([3], [3]), ([4], [4]), ([], []), ([6], [6]), ([5, 7], [5, 7]), ([8], [8]), ([9], [9]), ([10, 5, 0, 1, 2, 3, 4, 5, 6, 7, 8, 9, 10], [10])]) (fun i => ([(fun _ v_ => v_ = (.pointer (some ⟨b0, 3, none⟩))), (fun _ v_ => v_ = (.slice (some ad) U.length c3)), (fun _ v_ => v_ = (.int .i64 (m : Int))), (fun _ v_ => v_ = (.pointer (some (ad.add (m * 5))))), (fun _ v_ => v_ = (.agg #[.string X.f0, .slice B1 X.f1.length d1, .int .i64 X.f2, .slice B3 X.f3.length d3, .slice B4 X.f4.length d4])), (fun w_ v_ => Reg.Rs (Kd.int .i64) w_ v_ SL), (fun _ v_ => v_ = (.pointer (some ⟨b1, 1, none⟩))), (fun _ v_ => v_ = (.int .i64 y)), (Reg.PtrTo (.int .i64 (rd SL y))), (fun _ v_ => v_ = (.int .i64 (rd SL y))), (Reg.Lit b0_ ([rd SL y] : List Int)), (Reg.Lit b0_ ([rd SL y] : List Int))] : List (World → Value → Prop)).getD i (fun _ _ => False))
        (by kernel_rfl) (by kernel_rfl) (by kernel_rfl) (by kernel_rfl) (by kernel_rfl) (by decide) (by rfl) (Reg.mono_getD ?_) [0, 1, 2, 3, 4, 5, 6, 7, 8, 9, 10, 11] (by kernel_rfl) ?_ ?_ ?_
    · exact Reg.monoS_cons (Reg.monoS_eq _) (Reg.monoS_cons (Reg.monoS_eq _) (Reg.monoS_cons (Reg.monoS_eq _) (Reg.monoS_cons (Reg.monoS_eq _) (Reg.monoS_cons (Reg.monoS_eq _) (Reg.monoS_cons (Reg.monoS_rs _ _) (Reg.monoS_cons (Reg.monoS_eq _) (Reg.monoS_cons (Reg.monoS_eq _) (Reg.monoS_cons (Reg.ptr_mono _) (Reg.monoS_cons (Reg.monoS_eq _) (Reg.monoS_cons (Reg.lit_mono _ _) (Reg.monoS_cons (Reg.lit_mono _ _) Reg.monoS_nil)))))))))))
    · intro w hw; exact Reg.dis_start (by rfl)
    · skip
      refine Reg.re_cons (Reg.RStepE.of_r (fun oi hoi a w v w' he hs => by cases hoi; exact Reg.dis_keep he (by decide) hs) ?_) ?_
      · intro a w hb hs hel hon
        have e3 : a.tmps[3]? = some (.pointer (some ⟨b0, 0, none⟩)) := (hel 3 (by decide)).trans rfl
        obtain ⟨_, g3⟩ := Array.getElem?_eq_some_iff.1 e3
        refine ⟨_, rfl, fun K hK => ?_⟩
        refine value_ (w1 := w) (v := .pointer (some ⟨b0, 3, none⟩)) (by rfl) rfl ?_ (hK.out _ _ (Below.refl _ _) (rfl))
        · go_simp
          (try simp only [i64_w, g3])
          (try go_simp)
          try rfl
      refine Reg.re_cons (Reg.RStepE.of_r (fun oi hoi a w v w' he hs => by cases hoi; exact Reg.dis_keep he (by decide) hs) ?_) ?_
      · intro a w hb hs hel hon
        obtain ⟨_, e35, rfl⟩ := hon 0 35 (by kernel_rfl) rfl
        obtain ⟨_, g35⟩ := Array.getElem?_eq_some_iff.1 e35
        refine ⟨_, rfl, fun K hK => ?_⟩
        have q_HP3 : w.cell? ⟨b0, 3, none⟩ = some (.slice (some ad) U.length c3) := (blk_cell ((hb.block _ (blk_lt HP.out)).trans HP.out) 3).trans rfl
        refine value_ (w1 := w) (v := .slice (some ad) U.length c3) (by rfl) rfl ?_ (hK.out _ _ (Below.refl _ _) (rfl))
        · go_simp
          (try simp only [i64_w, g35])
          (try go_simp)
          try rfl
      refine Reg.re_cons (Reg.RStepE.of_r (fun oi hoi a w v w' he hs => by cases hoi; exact Reg.dis_keep he (by decide) hs) ?_) ?_
      · intro a w hb hs hel hon
        have e1 : a.tmps[1]? = some (.int .i64 (m : Int)) := (hel 1 (by decide)).trans rfl
        obtain ⟨_, g1⟩ := Array.getElem?_eq_some_iff.1 e1
        refine ⟨_, rfl, fun K hK => ?_⟩
        refine value_ (w1 := w) (v := .int .i64 (m : Int)) (by rfl) rfl ?_ (hK.out _ _ (Below.refl _ _) (rfl))
        · go_simp
          (try simp only [i64_w, g1])
          (try go_simp)
          try rfl
      refine Reg.re_cons (Reg.RStepE.of_r (fun oi hoi a w v w' he hs => by cases hoi; exact Reg.dis_keep he (by decide) hs) ?_) ?_
      · intro a w hb hs hel hon
        obtain ⟨_, e36, rfl⟩ := hon 1 36 (by kernel_rfl) rfl
        obtain ⟨_, e37, rfl⟩ := hon 2 37 (by kernel_rfl) rfl
        obtain ⟨_, g36⟩ := Array.getElem?_eq_some_iff.1 e36
        obtain ⟨_, g37⟩ := Array.getElem?_eq_some_iff.1 e37
        refine ⟨_, rfl, fun K hK => ?_⟩
        have hm2_ : (m : Int) < (U.length : Int) := by omega
        refine value_ (w1 := w) (v := .pointer (some (ad.add (m * 5)))) (by rfl) rfl ?_ (hK.out _ _ (Below.refl _ _) (rfl))
        · go_simp
          (try simp only [i64_w, g36, g37])
          (try go_simp)
          try rfl
      refine Reg.re_cons (Reg.RStepE.of_r (fun oi hoi a w v w' he hs => by cases hoi; exact Reg.dis_keep he (by decide) hs) ?_) ?_
      · intro a w hb hs hel hon
        obtain ⟨_, e38, rfl⟩ := hon 3 38 (by kernel_rfl) rfl
        obtain ⟨_, g38⟩ := Array.getElem?_eq_some_iff.1 e38
        refine ⟨_, rfl, fun K hK => ?_⟩
        obtain ⟨k0, k1, k2, k3, k4⟩ := HK.out _ hb
        refine value_ (w1 := w) (v := .agg #[.string X.f0, .slice B1 X.f1.length d1, .int .i64 X.f2, .slice B3 X.f3.length d3, .slice B4 X.f4.length d4]) (by rfl) rfl ?_ (hK.out _ _ (Below.refl _ _) (rfl))
        · go_simp
          (try simp only [i64_w, g38])
          (try go_simp)
          try rfl
      refine Reg.re_cons (Reg.RStepE.of_r (fun oi hoi a w v w' he hs => by cases hoi; exact Reg.dis_keep he (by decide) hs) ?_) ?_
      · intro a w hb hs hel hon
        obtain ⟨_, e39, rfl⟩ := hon 4 39 (by kernel_rfl) rfl
        refine ⟨_, rfl, fun K hK => ?_⟩
        refine goes_ Tryd.func26 (by kernel_rfl) rfl #[.agg #[.string X.f0, .slice B1 X.f1.length d1, .int .i64 X.f2, .slice B3 X.f3.length d3, .slice B4 X.f4.length d4]] (by rfl) rfl rfl (by first | (simp only [List.map_toArray, List.map_cons, List.map_nil, Act.eval, Array.getD_eq_getD_getElem?, Option.getD_some, e39]; done) | (simp only [List.map_toArray, List.map_cons, List.map_nil, Act.eval, Array.getD_eq_getD_getElem?, Option.getD_some, e39]; rfl) | rfl) ?_
        refine (ladderbackref15_Slots.calls 1200 X.f0 B1 d1 X.f1 X.f2 B3 d3 X.f3 B4 d4 X.f4 SL w (Kd.C_below HC1.out hb) hd1 (Kd.C_below HC3.out hb) hd3 (Kd.C_below HC4.out hb) hd4 PSL.out).mono ?_
        rintro e w2 ⟨v, rfl, ho, hb2⟩
        exact ⟨_, rfl, hK.out _ _ hb2 (Kd.R_reads ho)⟩
      refine Reg.re_cons (Reg.RStepE.of_r (fun oi hoi a w v w' he hs => by cases hoi; exact Reg.dis_keep he (by decide) hs) ?_) ?_
      · intro a w hb hs hel hon
        have e5 : a.tmps[5]? = some (.pointer (some ⟨b1, 0, none⟩)) := (hel 5 (by decide)).trans rfl
        obtain ⟨_, g5⟩ := Array.getElem?_eq_some_iff.1 e5
        refine ⟨_, rfl, fun K hK => ?_⟩
        refine value_ (w1 := w) (v := .pointer (some ⟨b1, 1, none⟩)) (by rfl) rfl ?_ (hK.out _ _ (Below.refl _ _) (rfl))
        · go_simp
          (try simp only [i64_w, g5])
          (try go_simp)
          try rfl
      refine Reg.re_cons (Reg.RStepE.of_r (fun oi hoi a w v w' he hs => by cases hoi; exact Reg.dis_keep he (by decide) hs) ?_) ?_
      · intro a w hb hs hel hon
        obtain ⟨_, e41, rfl⟩ := hon 6 41 (by kernel_rfl) rfl
        obtain ⟨_, g41⟩ := Array.getElem?_eq_some_iff.1 e41
        refine ⟨_, rfl, fun K hK => ?_⟩
        have q_HI1 : w.cell? ⟨b1, 1, none⟩ = some (.int .i64 y) := (blk_cell ((hb.block _ (blk_lt HI.out)).trans HI.out) 1).trans rfl
        refine value_ (w1 := w) (v := .int .i64 y) (by rfl) rfl ?_ (hK.out _ _ (Below.refl _ _) (rfl))
        · go_simp
          (try simp only [i64_w, g41])
          (try go_simp)
          try rfl
      refine Reg.re_cons (Reg.RStepE.of_r (fun oi hoi a w v w' he hs => by cases hoi; exact Reg.dis_keep he (by decide) hs) ?_) ?_
      · intro a w hb hs hel hon
        obtain ⟨x40, e40, ⟨A_5, c_5, rfl, hl_5, hC_5⟩⟩ := hon 5 40 (by kernel_rfl) rfl
        obtain ⟨_, e42, rfl⟩ := hon 7 42 (by kernel_rfl) rfl
        obtain ⟨_, g40⟩ := Array.getElem?_eq_some_iff.1 e40
        obtain ⟨_, g42⟩ := Array.getElem?_eq_some_iff.1 e42
        refine ⟨_, rfl, fun K hK => ?_⟩
        obtain ⟨aq, rfl, hq⟩ := Kd.at_int hC_5 y hy0 hy1
        have hSL := hC_5.2.1
        refine value_ (w1 := w) (v := .pointer (some (aq.add y.toNat))) (by rfl) rfl ?_ (hK.out _ _ (Below.refl _ _) (⟨_, rfl, hq⟩))
        · go_simp
          (try simp only [i64_w, g40, g42])
          (try go_simp)
          try rfl
      refine Reg.re_cons (Reg.RStepE.of_r (fun oi hoi a w v w' he hs => by cases hoi; exact Reg.dis_keep he (by decide) hs) ?_) ?_
      · intro a w hb hs hel hon
        obtain ⟨x43, e43, ⟨p_8, rfl, hp_8⟩⟩ := hon 8 43 (by kernel_rfl) rfl
        obtain ⟨_, g43⟩ := Array.getElem?_eq_some_iff.1 e43
        refine ⟨_, rfl, fun K hK => ?_⟩
        refine value_ (w1 := w) (v := .int .i64 (rd SL y)) (by rfl) rfl ?_ (hK.out _ _ (Below.refl _ _) (rfl))
        · go_simp
          (try simp only [i64_w, g43])
          (try go_simp)
          try rfl
      refine Reg.re_cons ?_ ?_
      · intro a w hb hs hel hE hon
        obtain ⟨_, e44, rfl⟩ := hon 9 44 (by kernel_rfl) rfl
        obtain ⟨_, g44⟩ := Array.getElem?_eq_some_iff.1 e44
        refine ⟨_, rfl, fun K hK => ?_⟩
        refine value_ (w1 := w.alloc (.cells #[.int .i64 (rd SL y)] 3)) (v := .slice (some ⟨w.heap.size, 0, none⟩) ([rd SL y] : List Int).length ([rd SL y] : List Int).length) (by rfl) rfl ?_ (hK.out _ _ ((Below.refl _ _).alloc (Nat.le_refl _) _) (Reg.lit_of_alloc w ([rd SL y] : List Int) (Nat.le_trans HSZ.out hb.size) _ (by rfl)) (Reg.dis_new hE (by decide) (by simp)))
        · go_simp
          (try simp only [i64_w, g44])
          (try go_simp)
          try rfl
      refine Reg.re_cons ?_ ?_
      · intro a w hb hs hel hE hon
        obtain ⟨_, e45, gq, rfl, hg0, hg⟩ := hon 10 45 (by kernel_rfl) rfl
        obtain ⟨_, g45⟩ := Array.getElem?_eq_some_iff.1 e45
        refine ⟨_, rfl, fun K hK => ?_⟩
        refine value_ (w1 := w) (v := .slice (some ⟨gq, 0, none⟩) ([rd SL y] : List Int).length ([rd SL y] : List Int).length) (by rfl) rfl ?_ (hK.out _ _ (Below.refl _ _) ⟨gq, rfl, hg0, hg⟩ (Reg.dis_copy hE (s := 45) (by decide) ⟨_, e45⟩ (by decide) (Nat.le_refl _)))
        · go_simp
          (try simp only [g45])
          (try go_simp)
          try rfl
      exact Reg.re_nil
    · intro a w hw_
      obtain ⟨hI, hE⟩ := hw_
      rename_i K_ hK_
      refine hK_ a w ?_
      obtain ⟨_, e6, ga, rfl, la, ba⟩ := hI.vals 11 6 rfl rfl
      have HE := Aside0.mk (Row.litg (Nat.le_trans (Nat.le_of_eq hb0_) la) ba (by simp) (HXB.out.trans (hI.below.mono HXB.out.size)))
      have G6 := Reg.getD_of e6
      have hfr := hI.frame
      rw [hfr]
      simp only [Reg.puts, Act.put, List.setIfInBounds_toArray, List.set_cons_zero, List.set_cons_succ]
      rw [G6]
      generalize a.tmps = ts_
      clear hI hE hfr hK_ e6 G6 ba la
      go_wp2_with fail
      go_ret
      exact HE.out
  by_cases a6 : x = 6
  · subst a6
    have h : (if 0 ≤ y ∧ y < (V.length : Int) then some ([2], [(rd_T37 V y).f1]) else none) = some (r1, r2) := h
    by_cases bg : 0 ≤ y ∧ y < (V.length : Int)
    rotate_left
    · rw [if_neg bg] at h; cases h
    rw [if_pos bg] at h
    obtain ⟨rfl, rfl⟩ := Prod.mk.inj (Option.some.inj h)
    obtain ⟨m, rfl⟩ : ∃ m : Nat, y = m := ⟨y.toNat, by omega⟩
    have hm : m < V.length := by omega
    clear h bg
    go_enter Tryd.func17, Tryd.ntmps17
    obtain ⟨ad, rfl, k0, k1, k2, k3, k4⟩ := at_T37 (Kd.C_below G1.out HX.out.below) (m : Int) (by omega) (by omega)
    rw [Int.toNat_natCast] at k0 k1 k2 k3 k4
    have HE := Aside0.mk (Row.lit (w := w) ([(rd_T37 V (m : Int)).f1] : List Int) (w.heap.size + 1 + 1) (by simp) _ rfl (by simp) HX.out.below)
    go_wp2_with fail
    go_ret
    exact HE.out
  by_cases a26 : x = 26
  · subst a26
    have h : some ([y], [z]) = some (r1, r2) := h
    obtain ⟨rfl, rfl⟩ := Prod.mk.inj (Option.some.inj h)
    clear h
    go_enter Tryd.func17, Tryd.ntmps17
    have HE := Aside0.mk (Row.lit (w := w) ([z] : List Int) (w.heap.size + 1 + 1) (by simp) _ rfl (by simp) HX.out.below)
    go_wp2_with fail
    go_ret
    exact HE.out
  by_cases a27 : x = 27
  · subst a27
    have h : some ([0], [0, 0]) = some (r1, r2) := h
    obtain ⟨rfl, rfl⟩ := Prod.mk.inj (Option.some.inj h)
    clear h
    go_enter Tryd.func17, Tryd.ntmps17
    have HE := Aside0.mk (Row.lit (w := w) ([0, 0] : List Int) (w.heap.size + 1 + 1) (by simp) _ rfl (by simp) HX.out.below)
    go_wp2_with fail
    go_ret
    exact HE.out
  by_cases a29 : x = 29
  · subst a29
    have h : some ([0, 0], [0, 0]) = some (r1, r2) := h
    obtain ⟨rfl, rfl⟩ := Prod.mk.inj (Option.some.inj h)
    clear h
    go_enter Tryd.func17, Tryd.ntmps17
    have HE := Aside0.mk (Row.lit (w := w) ([0, 0] : List Int) (w.heap.size + 1 + 1) (by simp) _ rfl (by simp) HX.out.below)
    go_wp2_with fail
    go_ret
    exact HE.out
  by_cases a33 : x = 33
  · subst a33
    obtain ⟨hy1, he⟩ := eff_call h
    obtain ⟨m, rfl⟩ : ∃ m : Nat, y = m := ⟨y.toNat, by omega⟩
    have hm : m < U.length := by omega
    clear h h1
    obtain ⟨-, rfl⟩ := he
    by_cases cr : (rd_T43 U (m : Int)).f2 = 0
    · rw [if_pos cr]
      go_enter Tryd.func17, Tryd.ntmps17
      obtain ⟨ad, B1, d1, B3, d3, B4, d4, rfl, k0, k1, k2, k3, k4, hd1, hC1, hd3, hC3, hd4, hC4⟩ := at_T43 (Kd.C_below G3.out HX.out.below) (m : Int) (by omega) (by omega)
      rw [Int.toNat_natCast] at k0 k1 k2 k3 k4
      clear hC1 hC3 hC4 hd1 hd3 hd4
      generalize (rd_T43 U (m : Int)).f2 = rs at cr k2 ⊢
      subst cr
      have HE := Aside0.mk (Row.nil (w := w) HX.out.below)
      go_wp2_with fail
      go_ret
      exact HE.out
    · rw [if_neg cr]
      go_enter Tryd.func17, Tryd.ntmps17
      obtain ⟨ad, B1, d1, B3, d3, B4, d4, rfl, k0, k1, k2, k3, k4, hd1, hC1, hd3, hC3, hd4, hC4⟩ := at_T43 (Kd.C_below G3.out HX.out.below) (m : Int) (by omega) (by omega)
      rw [Int.toNat_natCast] at k0 k1 k2 k3 k4
      clear hC1 hC3 hC4 hd1 hd3 hd4
      generalize (rd_T43 U (m : Int)).f2 = rs at cr k2 ⊢
      have HE := Aside0.mk (Row.lit (w := w) ([rs] : List Int) (w.heap.size + 1 + 1) (by simp) _ rfl (by simp) HX.out.below)
      go_wp2_with fail
      go_ret
      exact HE.out
  by_cases a37 : x = 37
  · subst a37
    have h : ((stack_field.f C V B U 37 y z).bind fun t => some ([], [t])) = some (r1, r2) := h
    obtain ⟨t, hf, h⟩ := Option.bind_eq_some_iff.1 h
    obtain ⟨rfl, rfl⟩ := Prod.mk.inj (Option.some.inj h)
    clear h
    unfold stack_field.f at hf
    split at hf
    rotate_left
    · cases hf
    rename_i hh
    obtain ⟨hy, hy1, hz, hz1⟩ := hh
    have hf := Option.some.inj hf
    unfold fieldF at hf
    obtain ⟨m, rfl⟩ : ∃ m : Nat, y = m := ⟨y.toNat, by omega⟩
    have hm : m < B.length := by omega
    obtain ⟨j, rfl⟩ : ∃ j : Nat, z = j := ⟨z.toNat, by omega⟩
    obtain ⟨l, T, hft, hfl, hTl, hTj⟩ := rfieldsT (rd_T39 B (m : Int)).f1 2 (by omega)
    have hq := hTj j hz1
    rw [Int.toNat_natCast] at hf
    rw [hf] at hq
    subst hq
    have hjT : (j : Int) < (T.length : Int) := by rw [hTl]; exact hz1
    have PF := Aside0.mk (fun W => ladderbackref11_Fields.calls 2 (rd_T39 B (m : Int)).f1 l T (inputsOf (rd_T39 B (m : Int)).f1) W hft)
    clear hft hfl hTl hTj hf hz1
    generalize inputsOf (rd_T39 B (m : Int)).f1 = ni at PF
    generalize hk_ : (rd_T39 B (m : Int)).f1 = kd at PF
    have HKD := Aside0.mk hk_
    clear hk_
    go_enter Tryd.func17, Tryd.ntmps17
    obtain ⟨ad, rfl, k0, k1⟩ := at_T39 (Kd.C_below G2.out HX.out.below) (m : Int) (by omega) (by omega)
    rw [HKD.out] at k1
    rw [Int.toNat_natCast] at k0 k1
    go_wp2_with fail
    refine (PF.out _).mono ?_
    rintro e w2 ⟨v0, v2, rfl, ho0, ho1, hb⟩
    obtain ⟨As, cs, rfl, hl0, hC0⟩ := Kd.R_reads ho0
    obtain ⟨At, ct, rfl, hlt, hCt⟩ := Kd.R_reads ho1
    have HX2 := Aside0.mk (HX.out.step hb)
    obtain ⟨aq, rfl, hq⟩ := Kd.at_int hCt (j : Int) hz hjT
    rw [Int.toNat_natCast] at hq
    have hTm := hCt.2.1
    clear k0 k1 hb ho0 ho1 hC0 hCt
    obtain ⟨⟨q0, q1, q2, q3⟩, i0, i1, i2⟩ := HX2.out.cells
    have HE := Aside0.mk (Row.lit (w := w) ([rd T (j : Int)] : List Int) _ rfl _ rfl (by simp) HX2.out.below)
    go_wp2_with fail
    go_ret
    exact HE.out
  obtain rfl : r2 = [] := eff_nil2 h (by omega)
  clear h h1 hU
  rcases (by omega : x = 0 ∨ x = 3 ∨ x = 5 ∨ x = 7 ∨ x = 28 ∨ x = 30 ∨ x = 31 ∨ x = 32 ∨ x = 34 ∨ x = 35 ∨ x = 36) with rfl | rfl | rfl | rfl | rfl | rfl | rfl | rfl | rfl | rfl | rfl <;>
  · go_enter Tryd.func17, Tryd.ntmps17
    have HE := Aside0.mk (Row.nil (w := w) HX.out.below)
    go_wp2_with fail
    go_ret
    exact HE.out
end Go.Proofs.YthdlocigijiobaaDoor.RPure
end

section
/- The document's look at one instruction, walked by hand; units of few parts. -/
namespace Go.Proofs.YthdlocigijiobaaDoor.RPure
open Go Go.RowKit Go.Proofs.YthdlocigijiobaaDoor.PSk Go.Proofs.YthdlocigijiobaaDoor.Given Go.Proofs.YthdlocigijiobaaDoorW.PrintWords Go.Proofs.YthdlocigijiobaaDoorW.PrintLast Go.Proofs.YthdlocigijiobaaDoorW.PrintMore
set_option linter.unusedVariables false
set_option linter.unusedSimpArgs false
set_option maxHeartbeats 8000000 in
set_option maxRecDepth 100000 in
theorem rone_w (A0 : Option Addr) (c0 : Nat) (C : LC) (A1 : Option Addr) (c1 : Nat) (V : LV) (A2 : Option Addr) (c2 : Nat) (B : LB) (A3 : Option Addr) (c3 : Nat) (U : LU) (u x y z : Int) (w : World) (hU : Ok U)
    (g1 : Kd.C k37 w A1 V.length V) (g2 : Kd.C k39 w A2 B.length B) (g3 : Kd.C k43 w A3 U.length U) (m0 : C.length ≤ 9223372036854775807) :
    Calls Tryd.prog 15 #[.agg #[.slice A0 C.length c0, .slice A1 V.length c1, .slice A2 B.length c2, .slice A3 U.length c3], .int .i64 u, .agg #[.int .i64 x, .int .i64 y, .int .i64 z]] w fun e w' => e = .returned (.int .i64 (oneF C V B U u x y z)) ∧ Below w.heap.size w w' := by
  obtain ⟨R, hR⟩ : ∃ R, R = oneF C V B U u x y z := ⟨_, rfl⟩
  rw [← hR]
  unfold oneF at hR
  have m1 := g1.2.1
  have m2 := g2.2.1
  have m3 := g3.2.1
  have HX := Aside0.mk (show Boxes w ((w.alloc (.cells #[.slice A0 C.length c0, .slice A1 V.length c1, .slice A2 B.length c2, .slice A3 U.length c3] 27)).alloc (.cells #[.int .i64 x, .int .i64 y, .int .i64 z] 29)) A0 C.length c0 A1 V.length c1 A2 B.length c2 A3 U.length c3 x y z from ⟨((Below.refl w.heap.size w).alloc (Nat.le_refl _) _).alloc (by simp) _, heap_alloc2_old w _ _, heap_alloc2_new w _ _⟩)
  have G1 := Aside0.mk g1
  have G2 := Aside0.mk g2
  have G3 := Aside0.mk g3
  clear g1 g2 g3
  by_cases a0 : u < 0
  · rw [if_pos (.inl a0)] at hR
    subst hR
    have d0 : decide (u < 0) = true := decide_eq_true a0
    go_enter Tryd.func15, Tryd.ntmps15
    go_wp2_with fail
    go_ret
    exact ⟨rfl, HX.out.below⟩
  have d0 : decide (u < 0) = false := decide_eq_false a0
  by_cases a1 : (U.length : Int) ≤ u
  · rw [if_pos (.inr a1)] at hR
    subst hR
    have d1 : decide ((U.length : Int) ≤ u) = true := decide_eq_true a1
    go_enter Tryd.func15, Tryd.ntmps15
    go_wp2_with fail
    go_ret
    exact ⟨rfl, HX.out.below⟩
  have d1 : decide ((U.length : Int) ≤ u) = false := decide_eq_false a1
  rw [if_neg (show ¬ (u < 0 ∨ (U.length : Int) ≤ u) by omega)] at hR
  have PR := Aside0.mk (fun W => ladderbackref12_Right.calls 3 x y z (rightF x y z) W (rright x y z 3 (Nat.le_refl _)))
  by_cases b0 : rightF x y z = true
  rotate_left
  · rw [if_neg b0] at hR
    subst hR
    have b1 : rightF x y z = false := by simpa using b0
    rw [b1] at PR
    go_enter Tryd.func15, Tryd.ntmps15
    go_wp2_with fail
    refine (PR.out _).mono ?_
    rintro e w1 ⟨rfl, hb⟩
    have HX1 := Aside0.mk (HX.out.step hb)
    clear hb PR HX
    go_wp2_with fail
    go_ret
    exact ⟨rfl, HX1.out.below⟩
  rw [if_pos b0] at hR
  have hr := b0
  rw [b0] at PR
  unfold rightF isOp at hr
  simp only [Bool.and_eq_true, decide_eq_true_eq] at hr
  have hy := may_nonneg hr.1.2
  obtain ⟨n, rfl⟩ : ∃ n : Nat, x = n := ⟨x.toNat, by omega⟩
  have hn : n < 38 := by omega
  have h4 := shape4r n hn
  have hs := shapeA_at n hn
  clear hr b0
  obtain ⟨ou1, ou2, ou3⟩ := ok_at hU u (by omega) (by omega)
  have hT : ∀ t : Bool, thereF C V B U u (n : Int) y z = t → typedF (n : Int) y z = true → R = if t = true then 0 else 8 := fun t ht hy => by rw [hR, if_pos hy, ht]
  have def0 : opA.getD n 0 ≠ 1 → opA.getD n 0 ≠ 2 → opA.getD n 0 ≠ 3 → opA.getD n 0 ≠ 7 → opA.getD n 0 ≠ 8 → thereF C V B U u (n : Int) y z = true := fun h1 h2 h3 h7 h8 => by
    unfold thereF
    rw [hs, if_neg h1, if_neg h2, if_neg h3, if_neg h7, if_neg h8]
  have dflt : (n = 0 ∨ (8 ≤ n ∧ n ≤ 32) ∨ n = 34) → thereF C V B U u (n : Int) y z = true := fun h => by
    have : ∀ m : Fin 38, (m.val = 0 ∨ (8 ≤ m.val ∧ m.val ≤ 32) ∨ m.val = 34) → opA.getD m.val 0 ≠ 1 ∧ opA.getD m.val 0 ≠ 2 ∧ opA.getD m.val 0 ≠ 3 ∧ opA.getD m.val 0 ≠ 7 ∧ opA.getD m.val 0 ≠ 8 := by decide
    obtain ⟨h1, h2, h3, h7, h8⟩ := this ⟨n, hn⟩ h
    exact def0 h1 h2 h3 h7 h8
  clear def0
  by_cases r1 : 8 ≤ n ∧ n ≤ 25
  · have f1 : decide ((8 : Int) ≤ (n : Int)) = true := decide_eq_true (by omega)
    have f2 : decide ((n : Int) ≤ 25) = true := decide_eq_true (by omega)
    have e26 : decide ((n : Int) = 26) = false := decide_eq_false (by omega)
    have e1 : decide ((n : Int) = 1) = false := decide_eq_false (by omega)
    have e2 : decide ((n : Int) = 2) = false := decide_eq_false (by omega)
    have e3 : decide ((n : Int) = 3) = false := decide_eq_false (by omega)
    have e4 : decide ((n : Int) = 4) = false := decide_eq_false (by omega)
    have e5 : decide ((n : Int) = 5) = false := decide_eq_false (by omega)
    have e6 : decide ((n : Int) = 6) = false := decide_eq_false (by omega)
    have e7 : decide ((n : Int) = 7) = false := decide_eq_false (by omega)
    have e33 : decide ((n : Int) = 33) = false := decide_eq_false (by omega)
    have e35 : decide ((n : Int) = 35) = false := decide_eq_false (by omega)
    have e36 : decide ((n : Int) = 36) = false := decide_eq_false (by omega)
    have e37 : decide ((n : Int) = 37) = false := decide_eq_false (by omega)
    have ht : typedF (n : Int) y z = goesOf (n : Int) y := by unfold typedF; rw [if_neg (by omega), if_pos (h4.2 (by omega))]
    have PG := Aside0.mk (fun W => ladderbackref07_Goes.calls 8 (n : Int) y (goesOf (n : Int) y) W (rgoes (n : Int) y 8 (Nat.le_refl _) (by omega) (by omega)))
    cases hg : goesOf (n : Int) y with
    | true =>
      rw [hg] at PG ht
      obtain rfl : R = 0 := by rw [hT true (dflt (by omega)) ht]; rfl
      clear hR hT dflt hs h4 ht
      go_enter Tryd.func15, Tryd.ntmps15
      go_wp2_with fail
      refine (PR.out _).mono ?_
      rintro e w1 ⟨rfl, hb⟩
      have HX1 := Aside0.mk (HX.out.step hb)
      clear hb PR HX
      obtain ⟨⟨q0, q1, q2, q3⟩, i0, i1, i2⟩ := HX1.out.cells
      go_wp2_with fail
      refine (PG.out _).mono ?_
      rintro e w2 ⟨rfl, hd⟩
      have HX2 := Aside0.mk (HX1.out.step (drewN_of hd))
      clear q0 q1 q2 q3 i0 i1 i2 hd
      obtain ⟨⟨q0, q1, q2, q3⟩, i0, i1, i2⟩ := HX2.out.cells
      go_wp2_with fail
      go_ret
      exact ⟨rfl, HX2.out.below⟩
    | false =>
      rw [hg] at PG ht
      obtain rfl : R = 10 := by rw [hR, ht]; rfl
      clear hR hT dflt hs h4 ht
      go_enter Tryd.func15, Tryd.ntmps15
      go_wp2_with fail
      refine (PR.out _).mono ?_
      rintro e w1 ⟨rfl, hb⟩
      have HX1 := Aside0.mk (HX.out.step hb)
      clear hb PR HX
      obtain ⟨⟨q0, q1, q2, q3⟩, i0, i1, i2⟩ := HX1.out.cells
      go_wp2_with fail
      refine (PG.out _).mono ?_
      rintro e w2 ⟨rfl, hd⟩
      have HX2 := Aside0.mk (HX1.out.step (drewN_of hd))
      clear q0 q1 q2 q3 i0 i1 i2 hd
      obtain ⟨⟨q0, q1, q2, q3⟩, i0, i1, i2⟩ := HX2.out.cells
      go_wp2_with fail
      go_ret
      exact ⟨rfl, HX2.out.below⟩
  by_cases r2 : n = 26
  · subst r2
    have f1 : decide ((8 : Int) ≤ ((26 : Nat) : Int)) = true := rfl
    have hth := dflt (by omega)
    have ht : typedF ((26 : Nat) : Int) y z = decide (1 ≤ y ∧ y ≤ 6 ∧ 1 ≤ z ∧ z ≤ 6) := by unfold typedF; rw [if_pos (show ((26 : Nat) : Int) = 26 from rfl)]
    by_cases v1 : y < 1
    · rw [decide_eq_false (by omega)] at ht
      obtain rfl : R = 10 := by rw [hR, ht]; rfl
      have x0 : decide (y < 1) = true := decide_eq_true v1
      clear hR hT dflt hs h4 ht hth
      go_enter Tryd.func15, Tryd.ntmps15
      go_wp2_with fail
      refine (PR.out _).mono ?_
      rintro e w1 ⟨rfl, hb⟩
      have HX1 := Aside0.mk (HX.out.step hb)
      clear hb PR HX
      obtain ⟨⟨q0, q1, q2, q3⟩, i0, i1, i2⟩ := HX1.out.cells
      go_wp2_with fail
      go_ret
      exact ⟨rfl, HX1.out.below⟩
    have x0 : decide (y < 1) = false := decide_eq_false v1
    by_cases v2 : 6 < y
    · rw [decide_eq_false (by omega)] at ht
      obtain rfl : R = 10 := by rw [hR, ht]; rfl
      have x1 : decide (6 < y) = true := decide_eq_true v2
      clear hR hT dflt hs h4 ht hth
      go_enter Tryd.func15, Tryd.ntmps15
      go_wp2_with fail
      refine (PR.out _).mono ?_
      rintro e w1 ⟨rfl, hb⟩
      have HX1 := Aside0.mk (HX.out.step hb)
      clear hb PR HX
      obtain ⟨⟨q0, q1, q2, q3⟩, i0, i1, i2⟩ := HX1.out.cells
      go_wp2_with fail
      go_ret
      exact ⟨rfl, HX1.out.below⟩
    have x1 : decide (6 < y) = false := decide_eq_false v2
    by_cases v3 : z < 1
    · rw [decide_eq_false (by omega)] at ht
      obtain rfl : R = 10 := by rw [hR, ht]; rfl
      have x2 : decide (z < 1) = true := decide_eq_true v3
      clear hR hT dflt hs h4 ht hth
      go_enter Tryd.func15, Tryd.ntmps15
      go_wp2_with fail
      refine (PR.out _).mono ?_
      rintro e w1 ⟨rfl, hb⟩
      have HX1 := Aside0.mk (HX.out.step hb)
      clear hb PR HX
      obtain ⟨⟨q0, q1, q2, q3⟩, i0, i1, i2⟩ := HX1.out.cells
      go_wp2_with fail
      go_ret
      exact ⟨rfl, HX1.out.below⟩
    have x2 : decide (z < 1) = false := decide_eq_false v3
    by_cases v4 : 6 < z
    · rw [decide_eq_false (by omega)] at ht
      obtain rfl : R = 10 := by rw [hR, ht]; rfl
      have x3 : decide (6 < z) = true := decide_eq_true v4
      clear hR hT dflt hs h4 ht hth
      go_enter Tryd.func15, Tryd.ntmps15
      go_wp2_with fail
      refine (PR.out _).mono ?_
      rintro e w1 ⟨rfl, hb⟩
      have HX1 := Aside0.mk (HX.out.step hb)
      clear hb PR HX
      obtain ⟨⟨q0, q1, q2, q3⟩, i0, i1, i2⟩ := HX1.out.cells
      go_wp2_with fail
      go_ret
      exact ⟨rfl, HX1.out.below⟩
    have x3 : decide (6 < z) = false := decide_eq_false v4
    rw [decide_eq_true (by omega)] at ht
    obtain rfl : R = 0 := by rw [hT true hth ht]; rfl
    clear hR hT dflt hs h4 ht hth
    go_enter Tryd.func15, Tryd.ntmps15
    go_wp2_with fail
    refine (PR.out _).mono ?_
    rintro e w1 ⟨rfl, hb⟩
    have HX1 := Aside0.mk (HX.out.step hb)
    clear hb PR HX
    obtain ⟨⟨q0, q1, q2, q3⟩, i0, i1, i2⟩ := HX1.out.cells
    go_wp2_with fail
    go_ret
    exact ⟨rfl, HX1.out.below⟩
  have ty : typedF (n : Int) y z = true := (by unfold typedF; rw [if_neg (by omega), if_neg (fun h => by have := h4.1 h; omega)])
  by_cases r3 : n = 0 ∨ (27 ≤ n ∧ n ≤ 32) ∨ n = 34
  · obtain rfl : R = 0 := by rw [hT true (dflt (by omega)) ty]; rfl
    clear hR hT dflt hs h4 ty
    have e26 : decide ((n : Int) = 26) = false := decide_eq_false (by omega)
    have e1 : decide ((n : Int) = 1) = false := decide_eq_false (by omega)
    have e2 : decide ((n : Int) = 2) = false := decide_eq_false (by omega)
    have e3 : decide ((n : Int) = 3) = false := decide_eq_false (by omega)
    have e4 : decide ((n : Int) = 4) = false := decide_eq_false (by omega)
    have e5 : decide ((n : Int) = 5) = false := decide_eq_false (by omega)
    have e6 : decide ((n : Int) = 6) = false := decide_eq_false (by omega)
    have e7 : decide ((n : Int) = 7) = false := decide_eq_false (by omega)
    have e33 : decide ((n : Int) = 33) = false := decide_eq_false (by omega)
    have e35 : decide ((n : Int) = 35) = false := decide_eq_false (by omega)
    have e36 : decide ((n : Int) = 36) = false := decide_eq_false (by omega)
    have e37 : decide ((n : Int) = 37) = false := decide_eq_false (by omega)
    by_cases f0 : 8 ≤ n
    · have f1 : decide ((8 : Int) ≤ (n : Int)) = true := decide_eq_true (by omega)
      have f2 : decide ((n : Int) ≤ 25) = false := decide_eq_false (by omega)
      go_enter Tryd.func15, Tryd.ntmps15
      go_wp2_with fail
      refine (PR.out _).mono ?_
      rintro e w1 ⟨rfl, hb⟩
      have HX1 := Aside0.mk (HX.out.step hb)
      clear hb PR HX
      obtain ⟨⟨q0, q1, q2, q3⟩, i0, i1, i2⟩ := HX1.out.cells
      go_wp2_with fail
      go_ret
      exact ⟨rfl, HX1.out.below⟩
    · have f1 : decide ((8 : Int) ≤ (n : Int)) = false := decide_eq_false (by omega)
      go_enter Tryd.func15, Tryd.ntmps15
      go_wp2_with fail
      refine (PR.out _).mono ?_
      rintro e w1 ⟨rfl, hb⟩
      have HX1 := Aside0.mk (HX.out.step hb)
      clear hb PR HX
      obtain ⟨⟨q0, q1, q2, q3⟩, i0, i1, i2⟩ := HX1.out.cells
      go_wp2_with fail
      go_ret
      exact ⟨rfl, HX1.out.below⟩
  by_cases r4 : n = 1
  · subst r4
    by_cases v : y < (C.length : Int)
    · have v1 : decide (y < (C.length : Int)) = true := decide_eq_true v
      obtain rfl : R = 0 := by rw [hT true (by unfold thereF; rw [hs]; exact v1) ty]; rfl
      clear hR hT dflt hs h4 ty
      go_enter Tryd.func15, Tryd.ntmps15
      go_wp2_with fail
      refine (PR.out _).mono ?_
      rintro e w1 ⟨rfl, hb⟩
      have HX1 := Aside0.mk (HX.out.step hb)
      clear hb PR HX
      obtain ⟨⟨q0, q1, q2, q3⟩, i0, i1, i2⟩ := HX1.out.cells
      go_wp2_with fail
      go_ret
      exact ⟨rfl, HX1.out.below⟩
    · have v1 : decide (y < (C.length : Int)) = false := decide_eq_false v
      obtain rfl : R = 8 := by rw [hT false (by unfold thereF; rw [hs]; exact v1) ty]; rfl
      clear hR hT dflt hs h4 ty
      go_enter Tryd.func15, Tryd.ntmps15
      go_wp2_with fail
      refine (PR.out _).mono ?_
      rintro e w1 ⟨rfl, hb⟩
      have HX1 := Aside0.mk (HX.out.step hb)
      clear hb PR HX
      obtain ⟨⟨q0, q1, q2, q3⟩, i0, i1, i2⟩ := HX1.out.cells
      go_wp2_with fail
      go_ret
      exact ⟨rfl, HX1.out.below⟩
  by_cases r_2 : n = 2 ∨ n = 3
  · have he : thereF C V B U u (n : Int) y z = (decide (y < (V.length : Int)) && decide ((rd_T37 V y).f2 < 2)) := by
      unfold thereF
      rw [hs]
      rcases r_2 with rfl | rfl <;> simp [opA]
    by_cases v : y < (V.length : Int)
    rotate_left
    · have v1 : decide (y < (V.length : Int)) = false := decide_eq_false v
      rw [v1, Bool.false_and] at he
      obtain rfl : R = 8 := by rw [hT false he ty]; rfl
      clear hR hT dflt hs h4 ty he
      rcases r_2 with rfl | rfl <;>
      · go_enter Tryd.func15, Tryd.ntmps15
        go_wp2_with fail
        refine (PR.out _).mono ?_
        rintro e w1 ⟨rfl, hb⟩
        have HX1 := Aside0.mk (HX.out.step hb)
        clear hb
        obtain ⟨⟨q0, q1, q2, q3⟩, i0, i1, i2⟩ := HX1.out.cells
        go_wp2_with fail
        go_ret
        exact ⟨rfl, HX1.out.below⟩
    have v1 : decide (y < (V.length : Int)) = true := decide_eq_true v
    rw [v1, Bool.true_and] at he
    obtain ⟨m, rfl⟩ : ∃ m : Nat, y = m := ⟨y.toNat, by omega⟩
    have hm : m < V.length := by omega
    by_cases t : (rd_T37 V (m : Int)).f2 < 2
    · rw [decide_eq_true t] at he
      obtain rfl : R = 0 := by rw [hT true he ty]; rfl
      have t1 : decide ((rd_T37 V (m : Int)).f2 < 2) = true := decide_eq_true (by omega)
      clear hR hT dflt hs h4 ty he
      rcases r_2 with rfl | rfl <;>
      · go_enter Tryd.func15, Tryd.ntmps15
        go_wp2_with fail
        refine (PR.out _).mono ?_
        rintro e w1 ⟨rfl, hb⟩
        have HX1 := Aside0.mk (HX.out.step hb)
        clear hb
        obtain ⟨⟨q0, q1, q2, q3⟩, i0, i1, i2⟩ := HX1.out.cells
        obtain ⟨ad, rfl, k0, k1, k2, k3, k4⟩ := at_T37 (Kd.C_below G1.out HX1.out.below) (m : Int) (by omega) (by omega)
        rw [Int.toNat_natCast] at k0 k1 k2 k3 k4
        go_wp2_with fail
        go_ret
        exact ⟨rfl, HX1.out.below⟩
    · rw [decide_eq_false t] at he
      obtain rfl : R = 8 := by rw [hT false he ty]; rfl
      have t1 : decide ((rd_T37 V (m : Int)).f2 < 2) = false := decide_eq_false (by omega)
      clear hR hT dflt hs h4 ty he
      rcases r_2 with rfl | rfl <;>
      · go_enter Tryd.func15, Tryd.ntmps15
        go_wp2_with fail
        refine (PR.out _).mono ?_
        rintro e w1 ⟨rfl, hb⟩
        have HX1 := Aside0.mk (HX.out.step hb)
        clear hb
        obtain ⟨⟨q0, q1, q2, q3⟩, i0, i1, i2⟩ := HX1.out.cells
        obtain ⟨ad, rfl, k0, k1, k2, k3, k4⟩ := at_T37 (Kd.C_below G1.out HX1.out.below) (m : Int) (by omega) (by omega)
        rw [Int.toNat_natCast] at k0 k1 k2 k3 k4
        go_wp2_with fail
        go_ret
        exact ⟨rfl, HX1.out.below⟩
  by_cases r_1 : n = 6 ∨ n = 7
  · have he : thereF C V B U u (n : Int) y z = (decide (y < (V.length : Int)) && decide ((rd_T37 V y).f2 > 1)) := by
      unfold thereF
      rw [hs]
      rcases r_1 with rfl | rfl <;> simp [opA]
    by_cases v : y < (V.length : Int)
    rotate_left
    · have v1 : decide (y < (V.length : Int)) = false := decide_eq_false v
      rw [v1, Bool.false_and] at he
      obtain rfl : R = 8 := by rw [hT false he ty]; rfl
      clear hR hT dflt hs h4 ty he
      rcases r_1 with rfl | rfl <;>
      · go_enter Tryd.func15, Tryd.ntmps15
        go_wp2_with fail
        refine (PR.out _).mono ?_
        rintro e w1 ⟨rfl, hb⟩
        have HX1 := Aside0.mk (HX.out.step hb)
        clear hb
        obtain ⟨⟨q0, q1, q2, q3⟩, i0, i1, i2⟩ := HX1.out.cells
        go_wp2_with fail
        go_ret
        exact ⟨rfl, HX1.out.below⟩
    have v1 : decide (y < (V.length : Int)) = true := decide_eq_true v
    rw [v1, Bool.true_and] at he
    obtain ⟨m, rfl⟩ : ∃ m : Nat, y = m := ⟨y.toNat, by omega⟩
    have hm : m < V.length := by omega
    by_cases t : (rd_T37 V (m : Int)).f2 > 1
    · rw [decide_eq_true t] at he
      obtain rfl : R = 0 := by rw [hT true he ty]; rfl
      have t1 : decide (2 ≤ (rd_T37 V (m : Int)).f2) = true := decide_eq_true (by omega)
      clear hR hT dflt hs h4 ty he
      rcases r_1 with rfl | rfl <;>
      · go_enter Tryd.func15, Tryd.ntmps15
        go_wp2_with fail
        refine (PR.out _).mono ?_
        rintro e w1 ⟨rfl, hb⟩
        have HX1 := Aside0.mk (HX.out.step hb)
        clear hb
        obtain ⟨⟨q0, q1, q2, q3⟩, i0, i1, i2⟩ := HX1.out.cells
        obtain ⟨ad, rfl, k0, k1, k2, k3, k4⟩ := at_T37 (Kd.C_below G1.out HX1.out.below) (m : Int) (by omega) (by omega)
        rw [Int.toNat_natCast] at k0 k1 k2 k3 k4
        go_wp2_with fail
        go_ret
        exact ⟨rfl, HX1.out.below⟩
    · rw [decide_eq_false t] at he
      obtain rfl : R = 8 := by rw [hT false he ty]; rfl
      have t1 : decide (2 ≤ (rd_T37 V (m : Int)).f2) = false := decide_eq_false (by omega)
      clear hR hT dflt hs h4 ty he
      rcases r_1 with rfl | rfl <;>
      · go_enter Tryd.func15, Tryd.ntmps15
        go_wp2_with fail
        refine (PR.out _).mono ?_
        rintro e w1 ⟨rfl, hb⟩
        have HX1 := Aside0.mk (HX.out.step hb)
        clear hb
        obtain ⟨⟨q0, q1, q2, q3⟩, i0, i1, i2⟩ := HX1.out.cells
        obtain ⟨ad, rfl, k0, k1, k2, k3, k4⟩ := at_T37 (Kd.C_below G1.out HX1.out.below) (m : Int) (by omega) (by omega)
        rw [Int.toNat_natCast] at k0 k1 k2 k3 k4
        go_wp2_with fail
        go_ret
        exact ⟨rfl, HX1.out.below⟩
  by_cases r5 : n = 33
  · subst r5
    have he : thereF C V B U u ((33 : Nat) : Int) y z = (decide (y > 0) && decide (y < (U.length : Int))) := by unfold thereF; rw [hs]; rfl
    by_cases v : 0 < y
    rotate_left
    · have v1 : decide (0 < y) = false := decide_eq_false v
      obtain rfl : R = 8 := by rw [hT false (by rw [he]; exact (congrArg (· && _) v1)) ty]; rfl
      clear hR hT dflt hs h4 ty
      go_enter Tryd.func15, Tryd.ntmps15
      go_wp2_with fail
      refine (PR.out _).mono ?_
      rintro e w1 ⟨rfl, hb⟩
      have HX1 := Aside0.mk (HX.out.step hb)
      clear hb PR HX
      obtain ⟨⟨q0, q1, q2, q3⟩, i0, i1, i2⟩ := HX1.out.cells
      go_wp2_with fail
      go_ret
      exact ⟨rfl, HX1.out.below⟩
    have v1 : decide (0 < y) = true := decide_eq_true v
    by_cases t : y < (U.length : Int)
    · have t1 : decide (y < (U.length : Int)) = true := decide_eq_true t
      obtain rfl : R = 0 := by rw [hT true (by rw [he, t1, Bool.and_true]; exact v1) ty]; rfl
      clear hR hT dflt hs h4 ty
      go_enter Tryd.func15, Tryd.ntmps15
      go_wp2_with fail
      refine (PR.out _).mono ?_
      rintro e w1 ⟨rfl, hb⟩
      have HX1 := Aside0.mk (HX.out.step hb)
      clear hb PR HX
      obtain ⟨⟨q0, q1, q2, q3⟩, i0, i1, i2⟩ := HX1.out.cells
      go_wp2_with fail
      go_ret
      exact ⟨rfl, HX1.out.below⟩
    · have t1 : decide (y < (U.length : Int)) = false := decide_eq_false t
      obtain rfl : R = 8 := by rw [hT false (by rw [he, t1, Bool.and_false]) ty]; rfl
      clear hR hT dflt hs h4 ty
      go_enter Tryd.func15, Tryd.ntmps15
      go_wp2_with fail
      refine (PR.out _).mono ?_
      rintro e w1 ⟨rfl, hb⟩
      have HX1 := Aside0.mk (HX.out.step hb)
      clear hb PR HX
      obtain ⟨⟨q0, q1, q2, q3⟩, i0, i1, i2⟩ := HX1.out.cells
      go_wp2_with fail
      go_ret
      exact ⟨rfl, HX1.out.below⟩
  by_cases r6 : n = 35 ∨ n = 36 ∨ n = 37
  · have he : thereF C V B U u (n : Int) y z = (decide (y < (B.length : Int)) && ((n : Int) == 36 || ((n : Int) == 35 && decide (z < inputsOf (rd_T39 B y).f1)) || ((n : Int) == 37 && decide (z < fieldsOf (rd_T39 B y).f1)))) := by
      unfold thereF
      rw [hs]
      rcases r6 with rfl | rfl | rfl <;> simp [opA]
    by_cases v : y < (B.length : Int)
    rotate_left
    · have v1 : decide (y < (B.length : Int)) = false := decide_eq_false v
      rw [v1, Bool.false_and] at he
      obtain rfl : R = 8 := by rw [hT false he ty]; rfl
      clear hR hT dflt hs h4 ty he
      rcases r6 with rfl | rfl | rfl <;>
      · go_enter Tryd.func15, Tryd.ntmps15
        go_wp2_with fail
        refine (PR.out _).mono ?_
        rintro e w1 ⟨rfl, hb⟩
        have HX1 := Aside0.mk (HX.out.step hb)
        clear hb
        obtain ⟨⟨q0, q1, q2, q3⟩, i0, i1, i2⟩ := HX1.out.cells
        go_wp2_with fail
        go_ret
        exact ⟨rfl, HX1.out.below⟩
    have v1 : decide (y < (B.length : Int)) = true := decide_eq_true v
    rw [v1, Bool.true_and] at he
    obtain ⟨m, rfl⟩ : ∃ m : Nat, y = m := ⟨y.toNat, by omega⟩
    have hm : m < B.length := by omega
    obtain ⟨l, T, hf, hfl⟩ := rfields (rd_T39 B (m : Int)).f1 2 (by omega)
    have PF := Aside0.mk (fun W => ladderbackref11_Fields.calls 2 (rd_T39 B (m : Int)).f1 l T (inputsOf (rd_T39 B (m : Int)).f1) W hf)
    clear hf
    generalize inputsOf (rd_T39 B (m : Int)).f1 = ni at he PF
    rw [← hfl] at he
    clear hfl
    rcases r6 with rfl | rfl | rfl
    · skip
      by_cases t : z < ni
      · have t1 : decide (z < ni) = true := decide_eq_true t
        have hz : thereF C V B U u ((35 : Nat) : Int) (m : Int) z = true := by rw [he]; simp [t]
        obtain rfl : R = 0 := by rw [hT true hz ty]; rfl
        clear hR hT dflt hs h4 ty he hz
        go_enter Tryd.func15, Tryd.ntmps15
        go_wp2_with fail
        refine (PR.out _).mono ?_
        rintro e w1 ⟨rfl, hb⟩
        have HX1 := Aside0.mk (HX.out.step hb)
        clear hb PR HX
        obtain ⟨⟨q0, q1, q2, q3⟩, i0, i1, i2⟩ := HX1.out.cells
        obtain ⟨ad, rfl, k0, k1⟩ := at_T39 (Kd.C_below G2.out HX1.out.below) (m : Int) (by omega) (by omega)
        rw [Int.toNat_natCast] at k0 k1
        go_wp2_with fail
        refine (PF.out _).mono ?_
        rintro e w2 ⟨v0, v2, rfl, ho0, ho1, hb⟩
        obtain ⟨As, cs, rfl, hl0, hC0⟩ := Kd.R_reads ho0
        have HX2 := Aside0.mk (HX1.out.step hb)
        clear q0 q1 q2 q3 i0 i1 i2 k0 k1 hb ho0 ho1 hC0
        obtain ⟨⟨q0, q1, q2, q3⟩, i0, i1, i2⟩ := HX2.out.cells
        go_wp2_with fail
        go_ret
        exact ⟨rfl, HX2.out.below⟩
      · have t1 : decide (z < ni) = false := decide_eq_false t
        have hz : thereF C V B U u ((35 : Nat) : Int) (m : Int) z = false := by rw [he]; simp [t]
        obtain rfl : R = 8 := by rw [hT false hz ty]; rfl
        clear hR hT dflt hs h4 ty he hz
        go_enter Tryd.func15, Tryd.ntmps15
        go_wp2_with fail
        refine (PR.out _).mono ?_
        rintro e w1 ⟨rfl, hb⟩
        have HX1 := Aside0.mk (HX.out.step hb)
        clear hb PR HX
        obtain ⟨⟨q0, q1, q2, q3⟩, i0, i1, i2⟩ := HX1.out.cells
        obtain ⟨ad, rfl, k0, k1⟩ := at_T39 (Kd.C_below G2.out HX1.out.below) (m : Int) (by omega) (by omega)
        rw [Int.toNat_natCast] at k0 k1
        go_wp2_with fail
        refine (PF.out _).mono ?_
        rintro e w2 ⟨v0, v2, rfl, ho0, ho1, hb⟩
        obtain ⟨As, cs, rfl, hl0, hC0⟩ := Kd.R_reads ho0
        have HX2 := Aside0.mk (HX1.out.step hb)
        clear q0 q1 q2 q3 i0 i1 i2 k0 k1 hb ho0 ho1 hC0
        obtain ⟨⟨q0, q1, q2, q3⟩, i0, i1, i2⟩ := HX2.out.cells
        go_wp2_with fail
        go_ret
        exact ⟨rfl, HX2.out.below⟩
    · obtain rfl : R = 0 := by rw [hT true (by rw [he]; simp) ty]; rfl
      clear hR hT dflt hs h4 ty he
      go_enter Tryd.func15, Tryd.ntmps15
      go_wp2_with fail
      refine (PR.out _).mono ?_
      rintro e w1 ⟨rfl, hb⟩
      have HX1 := Aside0.mk (HX.out.step hb)
      clear hb PR HX
      obtain ⟨⟨q0, q1, q2, q3⟩, i0, i1, i2⟩ := HX1.out.cells
      go_wp2_with fail
      go_ret
      exact ⟨rfl, HX1.out.below⟩
    · skip
      by_cases t : z < (l.length : Int)
      · have t1 : decide (z < (l.length : Int)) = true := decide_eq_true t
        have hz : thereF C V B U u ((37 : Nat) : Int) (m : Int) z = true := by rw [he]; simp [t]
        obtain rfl : R = 0 := by rw [hT true hz ty]; rfl
        clear hR hT dflt hs h4 ty he hz
        go_enter Tryd.func15, Tryd.ntmps15
        go_wp2_with fail
        refine (PR.out _).mono ?_
        rintro e w1 ⟨rfl, hb⟩
        have HX1 := Aside0.mk (HX.out.step hb)
        clear hb PR HX
        obtain ⟨⟨q0, q1, q2, q3⟩, i0, i1, i2⟩ := HX1.out.cells
        obtain ⟨ad, rfl, k0, k1⟩ := at_T39 (Kd.C_below G2.out HX1.out.below) (m : Int) (by omega) (by omega)
        rw [Int.toNat_natCast] at k0 k1
        go_wp2_with fail
        refine (PF.out _).mono ?_
        rintro e w2 ⟨v0, v2, rfl, ho0, ho1, hb⟩
        obtain ⟨As, cs, rfl, hl0, hC0⟩ := Kd.R_reads ho0
        have HX2 := Aside0.mk (HX1.out.step hb)
        clear q0 q1 q2 q3 i0 i1 i2 k0 k1 hb ho0 ho1 hC0
        obtain ⟨⟨q0, q1, q2, q3⟩, i0, i1, i2⟩ := HX2.out.cells
        go_wp2_with fail
        go_ret
        exact ⟨rfl, HX2.out.below⟩
      · have t1 : decide (z < (l.length : Int)) = false := decide_eq_false t
        have hz : thereF C V B U u ((37 : Nat) : Int) (m : Int) z = false := by rw [he]; simp [t]
        obtain rfl : R = 8 := by rw [hT false hz ty]; rfl
        clear hR hT dflt hs h4 ty he hz
        go_enter Tryd.func15, Tryd.ntmps15
        go_wp2_with fail
        refine (PR.out _).mono ?_
        rintro e w1 ⟨rfl, hb⟩
        have HX1 := Aside0.mk (HX.out.step hb)
        clear hb PR HX
        obtain ⟨⟨q0, q1, q2, q3⟩, i0, i1, i2⟩ := HX1.out.cells
        obtain ⟨ad, rfl, k0, k1⟩ := at_T39 (Kd.C_below G2.out HX1.out.below) (m : Int) (by omega) (by omega)
        rw [Int.toNat_natCast] at k0 k1
        go_wp2_with fail
        refine (PF.out _).mono ?_
        rintro e w2 ⟨v0, v2, rfl, ho0, ho1, hb⟩
        obtain ⟨As, cs, rfl, hl0, hC0⟩ := Kd.R_reads ho0
        have HX2 := Aside0.mk (HX1.out.step hb)
        clear q0 q1 q2 q3 i0 i1 i2 k0 k1 hb ho0 ho1 hC0
        obtain ⟨⟨q0, q1, q2, q3⟩, i0, i1, i2⟩ := HX2.out.cells
        go_wp2_with fail
        go_ret
        exact ⟨rfl, HX2.out.below⟩
  have r7 : n = 4 ∨ n = 5 := by omega
  have he : thereF C V B U u (n : Int) y z = decide (y < ((slotsF (rd_T43 U u).f1 (rd_T43 U u).f2 (rd_T43 U u).f3).length : Int)) := by
    unfold thereF
    rw [hs]
    rcases r7 with rfl | rfl <;> rfl
  have hs15 := rslots_is (rd_T43 U u).f0 (rd_T43 U u).f1 (rd_T43 U u).f2 (rd_T43 U u).f3 (rd_T43 U u).f4 (by omega) (by omega) 1200 (by omega)
  obtain ⟨m, rfl⟩ : ∃ m : Nat, u = m := ⟨u.toNat, by omega⟩
  have hm : m < U.length := by omega
  obtain ⟨SL, hSL⟩ : ∃ SL, SL = slotsF (rd_T43 U (m : Int)).f1 (rd_T43 U (m : Int)).f2 (rd_T43 U (m : Int)).f3 := ⟨_, rfl⟩
  rw [← hSL] at he hs15
  clear hSL
  obtain ⟨t, ht⟩ : ∃ t, decide (y < (SL.length : Int)) = t := ⟨_, rfl⟩
  rw [ht] at he
  have hR2 := hT t he ty
  clear hR hT dflt hs h4 ty he ou1 ou2 ou3
  have HM := Aside0.mk hm
  generalize hX_ : rd_T43 U (m : Int) = X at hs15
  have PS := Aside0.mk hs15
  have HXE := Aside0.mk hX_
  clear hs15 hX_ hm
  rcases r7 with rfl | rfl
  · skip
    go_enter Tryd.func15, Tryd.ntmps15
    go_wp2_with fail
    refine (PR.out _).mono ?_
    rintro e w1 ⟨rfl, hb⟩
    have HX1 := Aside0.mk (HX.out.step hb)
    clear hb PR HX
    obtain ⟨⟨q0, q1, q2, q3⟩, i0, i1, i2⟩ := HX1.out.cells
    go_wp2_with fail
    clear q0 q1 q2 q3 i0 i1 i2
    have HXB := Aside0.mk HX1.out.below
    have HP := Aside0.mk HX1.out.p
    have HI := Aside0.mk HX1.out.i
    have HG := Aside0.mk (Kd.C_below G3.out HX1.out.below)
    clear HX1 G1 G2 G3
    obtain ⟨b1, hb1⟩ : ∃ b, b = w.heap.size + 1 := ⟨_, rfl⟩
    rw [← hb1] at HI ⊢
    obtain ⟨b0, hb0⟩ : ∃ b, b = w.heap.size := ⟨_, rfl⟩
    rw [← hb0] at HP ⊢
    clear hb1 hb0
    obtain ⟨ad, B1, d1, B3, d3, B4, d4, rfl, k0, k1, k2, k3, k4, hd1, hC1, hd3, hC3, hd4, hC4⟩ := at_T43 HG.out (m : Int) (by omega) (by have := HM.out; omega)
    rw [HXE.out] at k0 k1 k2 k3 k4 hd1 hC1 hd3 hC3 hd4 hC4
    rw [Int.toNat_natCast] at k0 k1 k2 k3 k4
    have HK := Aside0.mk (fun (W : World) (hb : Below w1.heap.size w1 W) => And.intro (pw_cell_below hb k0) (And.intro (pw_cell_below hb k1) (And.intro (pw_cell_below hb k2) (And.intro (pw_cell_below hb k3) (pw_cell_below hb k4)))))
    have HC1 := Aside0.mk hC1
    have HC3 := Aside0.mk hC3
    have HC4 := Aside0.mk hC4
    have HT := Aside0.mk ht
    clear k0 k1 k2 k3 k4 hC1 hC3 hC4 HG ht
    refine Reg.region_any [some 96, some 97, some 98, some 99, some 100, some 101, some 102, some 103, some 104, some 105, some 7] [0, 1, 0, 4, 0, 28, 60, 124, 252, 511, 1023] (true, [([], []), ([0], [0]), ([], []), ([2], [2]), ([], []), ([3, 4], [3, 4]), ([5], [5]), ([6], [6]), ([7], [7]), ([1, 8], [1, 8]), ([9, 7, 0, 1, 2, 3, 4, 5, 6, 7, 8, 9], [9])]) (fun i => ([(fun _ v_ => v_ = (.pointer (some ⟨b1, 1, none⟩))), (fun _ v_ => v_ = (.int .i64 y)), (fun _ v_ => v_ = (.pointer (some ⟨b0, 3, none⟩))), (fun _ v_ => v_ = (.slice (some ad) U.length c3)), (fun _ v_ => v_ = (.int .i64 (m : Int))), (fun _ v_ => v_ = (.pointer (some (ad.add (m * 5))))), (fun _ v_ => v_ = (.agg #[.string X.f0, .slice B1 X.f1.length d1, .int .i64 X.f2, .slice B3 X.f3.length d3, .slice B4 X.f4.length d4])), (fun w_ v_ => Reg.Rs (Kd.int .i64) w_ v_ SL), (fun _ v_ => v_ = (.int .i64 (SL.length : Int))), (fun _ v_ => v_ = (.bool t)), (fun _ v_ => v_ = (.bool t))] : List (World → Value → Prop)).getD i (fun _ _ => False))
        (by kernel_rfl) (by kernel_rfl) (by kernel_rfl) (by kernel_rfl) (by kernel_rfl) (by decide) (by rfl) (Reg.mono_getD ?_) [0, 1, 2, 3, 4, 5, 6, 7, 8, 9, 10] (by kernel_rfl) ?_ ?_
    · exact Reg.monoS_cons (Reg.monoS_eq _) (Reg.monoS_cons (Reg.monoS_eq _) (Reg.monoS_cons (Reg.monoS_eq _) (Reg.monoS_cons (Reg.monoS_eq _) (Reg.monoS_cons (Reg.monoS_eq _) (Reg.monoS_cons (Reg.monoS_eq _) (Reg.monoS_cons (Reg.monoS_eq _) (Reg.monoS_cons (Reg.monoS_rs _ _) (Reg.monoS_cons (Reg.monoS_eq _) (Reg.monoS_cons (Reg.monoS_eq _) (Reg.monoS_cons (Reg.monoS_eq _) Reg.monoS_nil))))))))))
    · skip
      refine Reg.rs_cons ?_ ?_
      · intro a w hb hs hel hon
        have e5 : a.tmps[5]? = some (.pointer (some ⟨b1, 0, none⟩)) := (hel 5 (by decide)).trans rfl
        obtain ⟨_, g5⟩ := Array.getElem?_eq_some_iff.1 e5
        refine ⟨_, rfl, fun K hK => ?_⟩
        refine value_ (w1 := w) (v := .pointer (some ⟨b1, 1, none⟩)) (by rfl) rfl ?_ (hK.out _ _ (Below.refl _ _) (rfl))
        · go_simp
          (try simp only [i64_w, g5])
          (try go_simp)
          try rfl
      refine Reg.rs_cons ?_ ?_
      · intro a w hb hs hel hon
        obtain ⟨_, e96, rfl⟩ := hon 0 96 (by kernel_rfl) rfl
        obtain ⟨_, g96⟩ := Array.getElem?_eq_some_iff.1 e96
        refine ⟨_, rfl, fun K hK => ?_⟩
        have q_HI1 : w.cell? ⟨b1, 1, none⟩ = some (.int .i64 y) := (blk_cell ((hb.block _ (blk_lt HI.out)).trans HI.out) 1).trans rfl
        refine value_ (w1 := w) (v := .int .i64 y) (by rfl) rfl ?_ (hK.out _ _ (Below.refl _ _) (rfl))
        · go_simp
          (try simp only [i64_w, g96])
          (try go_simp)
          try rfl
      refine Reg.rs_cons ?_ ?_
      · intro a w hb hs hel hon
        have e3 : a.tmps[3]? = some (.pointer (some ⟨b0, 0, none⟩)) := (hel 3 (by decide)).trans rfl
        obtain ⟨_, g3⟩ := Array.getElem?_eq_some_iff.1 e3
        refine ⟨_, rfl, fun K hK => ?_⟩
        refine value_ (w1 := w) (v := .pointer (some ⟨b0, 3, none⟩)) (by rfl) rfl ?_ (hK.out _ _ (Below.refl _ _) (rfl))
        · go_simp
          (try simp only [i64_w, g3])
          (try go_simp)
          try rfl
      refine Reg.rs_cons ?_ ?_
      · intro a w hb hs hel hon
        obtain ⟨_, e98, rfl⟩ := hon 2 98 (by kernel_rfl) rfl
        obtain ⟨_, g98⟩ := Array.getElem?_eq_some_iff.1 e98
        refine ⟨_, rfl, fun K hK => ?_⟩
        have q_HP3 : w.cell? ⟨b0, 3, none⟩ = some (.slice (some ad) U.length c3) := (blk_cell ((hb.block _ (blk_lt HP.out)).trans HP.out) 3).trans rfl
        refine value_ (w1 := w) (v := .slice (some ad) U.length c3) (by rfl) rfl ?_ (hK.out _ _ (Below.refl _ _) (rfl))
        · go_simp
          (try simp only [i64_w, g98])
          (try go_simp)
          try rfl
      refine Reg.rs_cons ?_ ?_
      · intro a w hb hs hel hon
        have e1 : a.tmps[1]? = some (.int .i64 (m : Int)) := (hel 1 (by decide)).trans rfl
        obtain ⟨_, g1⟩ := Array.getElem?_eq_some_iff.1 e1
        refine ⟨_, rfl, fun K hK => ?_⟩
        refine value_ (w1 := w) (v := .int .i64 (m : Int)) (by rfl) rfl ?_ (hK.out _ _ (Below.refl _ _) (rfl))
        · go_simp
          (try simp only [i64_w, g1])
          (try go_simp)
          try rfl
      refine Reg.rs_cons ?_ ?_
      · intro a w hb hs hel hon
        obtain ⟨_, e99, rfl⟩ := hon 3 99 (by kernel_rfl) rfl
        obtain ⟨_, e100, rfl⟩ := hon 4 100 (by kernel_rfl) rfl
        obtain ⟨_, g99⟩ := Array.getElem?_eq_some_iff.1 e99
        obtain ⟨_, g100⟩ := Array.getElem?_eq_some_iff.1 e100
        refine ⟨_, rfl, fun K hK => ?_⟩
        have hm_ := HM.out
        have hm2_ : (m : Int) < (U.length : Int) := by omega
        refine value_ (w1 := w) (v := .pointer (some (ad.add (m * 5)))) (by rfl) rfl ?_ (hK.out _ _ (Below.refl _ _) (rfl))
        · go_simp
          (try simp only [i64_w, g99, g100])
          (try go_simp)
          try rfl
      refine Reg.rs_cons ?_ ?_
      · intro a w hb hs hel hon
        obtain ⟨_, e101, rfl⟩ := hon 5 101 (by kernel_rfl) rfl
        obtain ⟨_, g101⟩ := Array.getElem?_eq_some_iff.1 e101
        refine ⟨_, rfl, fun K hK => ?_⟩
        obtain ⟨k0, k1, k2, k3, k4⟩ := HK.out _ hb
        refine value_ (w1 := w) (v := .agg #[.string X.f0, .slice B1 X.f1.length d1, .int .i64 X.f2, .slice B3 X.f3.length d3, .slice B4 X.f4.length d4]) (by rfl) rfl ?_ (hK.out _ _ (Below.refl _ _) (rfl))
        · go_simp
          (try simp only [i64_w, g101])
          (try go_simp)
          try rfl
      refine Reg.rs_cons ?_ ?_
      · intro a w hb hs hel hon
        obtain ⟨_, e102, rfl⟩ := hon 6 102 (by kernel_rfl) rfl
        refine ⟨_, rfl, fun K hK => ?_⟩
        refine goes_ Tryd.func26 (by kernel_rfl) rfl #[.agg #[.string X.f0, .slice B1 X.f1.length d1, .int .i64 X.f2, .slice B3 X.f3.length d3, .slice B4 X.f4.length d4]] (by rfl) rfl rfl (by first | (simp only [List.map_toArray, List.map_cons, List.map_nil, Act.eval, Array.getD_eq_getD_getElem?, Option.getD_some, e102]; done) | (simp only [List.map_toArray, List.map_cons, List.map_nil, Act.eval, Array.getD_eq_getD_getElem?, Option.getD_some, e102]; rfl) | rfl) ?_
        refine (ladderbackref15_Slots.calls 1200 X.f0 B1 d1 X.f1 X.f2 B3 d3 X.f3 B4 d4 X.f4 SL w (Kd.C_below HC1.out hb) hd1 (Kd.C_below HC3.out hb) hd3 (Kd.C_below HC4.out hb) hd4 PS.out).mono ?_
        rintro e w2 ⟨v, rfl, ho, hb2⟩
        exact ⟨_, rfl, hK.out _ _ hb2 (Kd.R_reads ho)⟩
      refine Reg.rs_cons ?_ ?_
      · intro a w hb hs hel hon
        obtain ⟨x103, e103, ⟨A_7, c_7, rfl, hl_7, hC_7⟩⟩ := hon 7 103 (by kernel_rfl) rfl
        obtain ⟨_, g103⟩ := Array.getElem?_eq_some_iff.1 e103
        refine ⟨_, rfl, fun K hK => ?_⟩
        refine value_ (w1 := w) (v := .int .i64 (SL.length : Int)) (by rfl) rfl ?_ (hK.out _ _ (Below.refl _ _) (rfl))
        · go_simp
          (try simp only [i64_w, g103])
          (try go_simp)
          try rfl
      refine Reg.rs_cons ?_ ?_
      · intro a w hb hs hel hon
        obtain ⟨_, e97, rfl⟩ := hon 1 97 (by kernel_rfl) rfl
        obtain ⟨_, e104, rfl⟩ := hon 8 104 (by kernel_rfl) rfl
        obtain ⟨_, g97⟩ := Array.getElem?_eq_some_iff.1 e97
        obtain ⟨_, g104⟩ := Array.getElem?_eq_some_iff.1 e104
        refine ⟨_, rfl, fun K hK => ?_⟩
        have ht_ := HT.out
        refine value_ (w1 := w) (v := .bool t) (by rfl) rfl ?_ (hK.out _ _ (Below.refl _ _) (rfl))
        · go_simp
          (try simp only [i64_w, g97, g104])
          (try go_simp)
          try rfl
      refine Reg.rs_cons ?_ ?_
      · intro a w hb hs hel hon
        obtain ⟨_, e105, rfl⟩ := hon 9 105 (by kernel_rfl) rfl
        obtain ⟨_, g105⟩ := Array.getElem?_eq_some_iff.1 e105
        refine ⟨_, rfl, fun K hK => ?_⟩
        refine value_ (w1 := w) (v := .bool t) (by rfl) rfl ?_ (hK.out _ _ (Below.refl _ _) (rfl))
        · go_simp
          (try simp only [i64_w, g105])
          (try go_simp)
          try rfl
      exact Reg.rs_nil
    · intro a w hI
      rename_i K_ hK_
      refine hK_ a w ?_
      obtain ⟨_, e4, rfl⟩ := hI.vals 10 7 rfl rfl
      have g4 := Reg.getD_of e4
      have hfr := hI.frame
      have hbel := hI.below
      rw [hfr]
      simp only [Reg.puts, Act.put]
      rw [g4]
      generalize a.tmps = ts_
      clear hI hfr e4 g4 hK_
      have HE_ := Aside0.mk (HXB.out.trans (hbel.mono HXB.out.size))
      clear hbel
      cases t with
      | true =>
        obtain rfl : R = 0 := hR2
        go_wp2_with fail
        go_ret
        exact ⟨rfl, HE_.out⟩
      | false =>
        obtain rfl : R = 8 := hR2
        go_wp2_with fail
        go_ret
        exact ⟨rfl, HE_.out⟩
  · skip
    go_enter Tryd.func15, Tryd.ntmps15
    go_wp2_with fail
    refine (PR.out _).mono ?_
    rintro e w1 ⟨rfl, hb⟩
    have HX1 := Aside0.mk (HX.out.step hb)
    clear hb PR HX
    obtain ⟨⟨q0, q1, q2, q3⟩, i0, i1, i2⟩ := HX1.out.cells
    go_wp2_with fail
    clear q0 q1 q2 q3 i0 i1 i2
    have HXB := Aside0.mk HX1.out.below
    have HP := Aside0.mk HX1.out.p
    have HI := Aside0.mk HX1.out.i
    have HG := Aside0.mk (Kd.C_below G3.out HX1.out.below)
    clear HX1 G1 G2 G3
    obtain ⟨b1, hb1⟩ : ∃ b, b = w.heap.size + 1 := ⟨_, rfl⟩
    rw [← hb1] at HI ⊢
    obtain ⟨b0, hb0⟩ : ∃ b, b = w.heap.size := ⟨_, rfl⟩
    rw [← hb0] at HP ⊢
    clear hb1 hb0
    obtain ⟨ad, B1, d1, B3, d3, B4, d4, rfl, k0, k1, k2, k3, k4, hd1, hC1, hd3, hC3, hd4, hC4⟩ := at_T43 HG.out (m : Int) (by omega) (by have := HM.out; omega)
    rw [HXE.out] at k0 k1 k2 k3 k4 hd1 hC1 hd3 hC3 hd4 hC4
    rw [Int.toNat_natCast] at k0 k1 k2 k3 k4
    have HK := Aside0.mk (fun (W : World) (hb : Below w1.heap.size w1 W) => And.intro (pw_cell_below hb k0) (And.intro (pw_cell_below hb k1) (And.intro (pw_cell_below hb k2) (And.intro (pw_cell_below hb k3) (pw_cell_below hb k4)))))
    have HC1 := Aside0.mk hC1
    have HC3 := Aside0.mk hC3
    have HC4 := Aside0.mk hC4
    have HT := Aside0.mk ht
    clear k0 k1 k2 k3 k4 hC1 hC3 hC4 HG ht
    refine Reg.region_any [some 96, some 97, some 98, some 99, some 100, some 101, some 102, some 103, some 104, some 105, some 7] [0, 1, 0, 4, 0, 28, 60, 124, 252, 511, 1023] (true, [([], []), ([0], [0]), ([], []), ([2], [2]), ([], []), ([3, 4], [3, 4]), ([5], [5]), ([6], [6]), ([7], [7]), ([1, 8], [1, 8]), ([9, 7, 0, 1, 2, 3, 4, 5, 6, 7, 8, 9], [9])]) (fun i => ([(fun _ v_ => v_ = (.pointer (some ⟨b1, 1, none⟩))), (fun _ v_ => v_ = (.int .i64 y)), (fun _ v_ => v_ = (.pointer (some ⟨b0, 3, none⟩))), (fun _ v_ => v_ = (.slice (some ad) U.length c3)), (fun _ v_ => v_ = (.int .i64 (m : Int))), (fun _ v_ => v_ = (.pointer (some (ad.add (m * 5))))), (fun _ v_ => v_ = (.agg #[.string X.f0, .slice B1 X.f1.length d1, .int .i64 X.f2, .slice B3 X.f3.length d3, .slice B4 X.f4.length d4])), (fun w_ v_ => Reg.Rs (Kd.int .i64) w_ v_ SL), (fun _ v_ => v_ = (.int .i64 (SL.length : Int))), (fun _ v_ => v_ = (.bool t)), (fun _ v_ => v_ = (.bool t))] : List (World → Value → Prop)).getD i (fun _ _ => False))
        (by kernel_rfl) (by kernel_rfl) (by kernel_rfl) (by kernel_rfl) (by kernel_rfl) (by decide) (by rfl) (Reg.mono_getD ?_) [0, 1, 2, 3, 4, 5, 6, 7, 8, 9, 10] (by kernel_rfl) ?_ ?_
    · exact Reg.monoS_cons (Reg.monoS_eq _) (Reg.monoS_cons (Reg.monoS_eq _) (Reg.monoS_cons (Reg.monoS_eq _) (Reg.monoS_cons (Reg.monoS_eq _) (Reg.monoS_cons (Reg.monoS_eq _) (Reg.monoS_cons (Reg.monoS_eq _) (Reg.monoS_cons (Reg.monoS_eq _) (Reg.monoS_cons (Reg.monoS_rs _ _) (Reg.monoS_cons (Reg.monoS_eq _) (Reg.monoS_cons (Reg.monoS_eq _) (Reg.monoS_cons (Reg.monoS_eq _) Reg.monoS_nil))))))))))
    · skip
      refine Reg.rs_cons ?_ ?_
      · intro a w hb hs hel hon
        have e5 : a.tmps[5]? = some (.pointer (some ⟨b1, 0, none⟩)) := (hel 5 (by decide)).trans rfl
        obtain ⟨_, g5⟩ := Array.getElem?_eq_some_iff.1 e5
        refine ⟨_, rfl, fun K hK => ?_⟩
        refine value_ (w1 := w) (v := .pointer (some ⟨b1, 1, none⟩)) (by rfl) rfl ?_ (hK.out _ _ (Below.refl _ _) (rfl))
        · go_simp
          (try simp only [i64_w, g5])
          (try go_simp)
          try rfl
      refine Reg.rs_cons ?_ ?_
      · intro a w hb hs hel hon
        obtain ⟨_, e96, rfl⟩ := hon 0 96 (by kernel_rfl) rfl
        obtain ⟨_, g96⟩ := Array.getElem?_eq_some_iff.1 e96
        refine ⟨_, rfl, fun K hK => ?_⟩
        have q_HI1 : w.cell? ⟨b1, 1, none⟩ = some (.int .i64 y) := (blk_cell ((hb.block _ (blk_lt HI.out)).trans HI.out) 1).trans rfl
        refine value_ (w1 := w) (v := .int .i64 y) (by rfl) rfl ?_ (hK.out _ _ (Below.refl _ _) (rfl))
        · go_simp
          (try simp only [i64_w, g96])
          (try go_simp)
          try rfl
      refine Reg.rs_cons ?_ ?_
      · intro a w hb hs hel hon
        have e3 : a.tmps[3]? = some (.pointer (some ⟨b0, 0, none⟩)) := (hel 3 (by decide)).trans rfl
        obtain ⟨_, g3⟩ := Array.getElem?_eq_some_iff.1 e3
        refine ⟨_, rfl, fun K hK => ?_⟩
        refine value_ (w1 := w) (v := .pointer (some ⟨b0, 3, none⟩)) (by rfl) rfl ?_ (hK.out _ _ (Below.refl _ _) (rfl))
        · go_simp
          (try simp only [i64_w, g3])
          (try go_simp)
          try rfl
      refine Reg.rs_cons ?_ ?_
      · intro a w hb hs hel hon
        obtain ⟨_, e98, rfl⟩ := hon 2 98 (by kernel_rfl) rfl
        obtain ⟨_, g98⟩ := Array.getElem?_eq_some_iff.1 e98
        refine ⟨_, rfl, fun K hK => ?_⟩
        have q_HP3 : w.cell? ⟨b0, 3, none⟩ = some (.slice (some ad) U.length c3) := (blk_cell ((hb.block _ (blk_lt HP.out)).trans HP.out) 3).trans rfl
        refine value_ (w1 := w) (v := .slice (some ad) U.length c3) (by rfl) rfl ?_ (hK.out _ _ (Below.refl _ _) (rfl))
        · go_simp
          (try simp only [i64_w, g98])
          (try go_simp)
          try rfl
      refine Reg.rs_cons ?_ ?_
      · intro a w hb hs hel hon
        have e1 : a.tmps[1]? = some (.int .i64 (m : Int)) := (hel 1 (by decide)).trans rfl
        obtain ⟨_, g1⟩ := Array.getElem?_eq_some_iff.1 e1
        refine ⟨_, rfl, fun K hK => ?_⟩
        refine value_ (w1 := w) (v := .int .i64 (m : Int)) (by rfl) rfl ?_ (hK.out _ _ (Below.refl _ _) (rfl))
        · go_simp
          (try simp only [i64_w, g1])
          (try go_simp)
          try rfl
      refine Reg.rs_cons ?_ ?_
      · intro a w hb hs hel hon
        obtain ⟨_, e99, rfl⟩ := hon 3 99 (by kernel_rfl) rfl
        obtain ⟨_, e100, rfl⟩ := hon 4 100 (by kernel_rfl) rfl
        obtain ⟨_, g99⟩ := Array.getElem?_eq_some_iff.1 e99
        obtain ⟨_, g100⟩ := Array.getElem?_eq_some_iff.1 e100
        refine ⟨_, rfl, fun K hK => ?_⟩
        have hm_ := HM.out
        have hm2_ : (m : Int) < (U.length : Int) := by omega
        refine value_ (w1 := w) (v := .pointer (some (ad.add (m * 5)))) (by rfl) rfl ?_ (hK.out _ _ (Below.refl _ _) (rfl))
        · go_simp
          (try simp only [i64_w, g99, g100])
          (try go_simp)
          try rfl
      refine Reg.rs_cons ?_ ?_
      · intro a w hb hs hel hon
        obtain ⟨_, e101, rfl⟩ := hon 5 101 (by kernel_rfl) rfl
        obtain ⟨_, g101⟩ := Array.getElem?_eq_some_iff.1 e101
        refine ⟨_, rfl, fun K hK => ?_⟩
        obtain ⟨k0, k1, k2, k3, k4⟩ := HK.out _ hb
        refine value_ (w1 := w) (v := .agg #[.string X.f0, .slice B1 X.f1.length d1, .int .i64 X.f2, .slice B3 X.f3.length d3, .slice B4 X.f4.length d4]) (by rfl) rfl ?_ (hK.out _ _ (Below.refl _ _) (rfl))
        · go_simp
          (try simp only [i64_w, g101])
          (try go_simp)
          try rfl
      refine Reg.rs_cons ?_ ?_
      · intro a w hb hs hel hon
        obtain ⟨_, e102, rfl⟩ := hon 6 102 (by kernel_rfl) rfl
        refine ⟨_, rfl, fun K hK => ?_⟩
        refine goes_ Tryd.func26 (by kernel_rfl) rfl #[.agg #[.string X.f0, .slice B1 X.f1.length d1, .int .i64 X.f2, .slice B3 X.f3.length d3, .slice B4 X.f4.length d4]] (by rfl) rfl rfl (by first | (simp only [List.map_toArray, List.map_cons, List.map_nil, Act.eval, Array.getD_eq_getD_getElem?, Option.getD_some, e102]; done) | (simp only [List.map_toArray, List.map_cons, List.map_nil, Act.eval, Array.getD_eq_getD_getElem?, Option.getD_some, e102]; rfl) | rfl) ?_
        refine (ladderbackref15_Slots.calls 1200 X.f0 B1 d1 X.f1 X.f2 B3 d3 X.f3 B4 d4 X.f4 SL w (Kd.C_below HC1.out hb) hd1 (Kd.C_below HC3.out hb) hd3 (Kd.C_below HC4.out hb) hd4 PS.out).mono ?_
        rintro e w2 ⟨v, rfl, ho, hb2⟩
        exact ⟨_, rfl, hK.out _ _ hb2 (Kd.R_reads ho)⟩
      refine Reg.rs_cons ?_ ?_
      · intro a w hb hs hel hon
        obtain ⟨x103, e103, ⟨A_7, c_7, rfl, hl_7, hC_7⟩⟩ := hon 7 103 (by kernel_rfl) rfl
        obtain ⟨_, g103⟩ := Array.getElem?_eq_some_iff.1 e103
        refine ⟨_, rfl, fun K hK => ?_⟩
        refine value_ (w1 := w) (v := .int .i64 (SL.length : Int)) (by rfl) rfl ?_ (hK.out _ _ (Below.refl _ _) (rfl))
        · go_simp
          (try simp only [i64_w, g103])
          (try go_simp)
          try rfl
      refine Reg.rs_cons ?_ ?_
      · intro a w hb hs hel hon
        obtain ⟨_, e97, rfl⟩ := hon 1 97 (by kernel_rfl) rfl
        obtain ⟨_, e104, rfl⟩ := hon 8 104 (by kernel_rfl) rfl
        obtain ⟨_, g97⟩ := Array.getElem?_eq_some_iff.1 e97
        obtain ⟨_, g104⟩ := Array.getElem?_eq_some_iff.1 e104
        refine ⟨_, rfl, fun K hK => ?_⟩
        have ht_ := HT.out
        refine value_ (w1 := w) (v := .bool t) (by rfl) rfl ?_ (hK.out _ _ (Below.refl _ _) (rfl))
        · go_simp
          (try simp only [i64_w, g97, g104])
          (try go_simp)
          try rfl
      refine Reg.rs_cons ?_ ?_
      · intro a w hb hs hel hon
        obtain ⟨_, e105, rfl⟩ := hon 9 105 (by kernel_rfl) rfl
        obtain ⟨_, g105⟩ := Array.getElem?_eq_some_iff.1 e105
        refine ⟨_, rfl, fun K hK => ?_⟩
        refine value_ (w1 := w) (v := .bool t) (by rfl) rfl ?_ (hK.out _ _ (Below.refl _ _) (rfl))
        · go_simp
          (try simp only [i64_w, g105])
          (try go_simp)
          try rfl
      exact Reg.rs_nil
    · intro a w hI
      rename_i K_ hK_
      refine hK_ a w ?_
      obtain ⟨_, e4, rfl⟩ := hI.vals 10 7 rfl rfl
      have g4 := Reg.getD_of e4
      have hfr := hI.frame
      have hbel := hI.below
      rw [hfr]
      simp only [Reg.puts, Act.put]
      rw [g4]
      generalize a.tmps = ts_
      clear hI hfr e4 g4 hK_
      have HE_ := Aside0.mk (HXB.out.trans (hbel.mono HXB.out.size))
      clear hbel
      cases t with
      | true =>
        obtain rfl : R = 0 := hR2
        go_wp2_with fail
        go_ret
        exact ⟨rfl, HE_.out⟩
      | false =>
        obtain rfl : R = 8 := hR2
        go_wp2_with fail
        go_ret
        exact ⟨rfl, HE_.out⟩
/-- In the printed form. -/
def okB (U : LU) : Bool := U.all (fun X => decide (X.f1.length ≤ 20) && decide (X.f3.length ≤ 1100) && decide (X.f4.length ≤ 300))
theorem ok_of {U : LU} (h : okB U = true) : Ok U := fun X hX => by
  have := List.all_eq_true.1 h X hX
  simp only [Bool.and_eq_true, decide_eq_true_eq] at this
  exact ⟨this.1.1, this.1.2, this.2⟩
theorem ok_to {U : LU} (h : Ok U) : okB U = true := List.all_eq_true.2 fun X hX => by
  obtain ⟨h1, h2, h3⟩ := h X hX
  simp [h1, h2, h3]
end Go.Proofs.YthdlocigijiobaaDoor.RPure
namespace Go.Proofs.YthdlocigijiobaaDoor.Given
open Go Go.RowKit Go.Proofs.YthdlocigijiobaaDoor.PSk Go.Proofs.YthdlocigijiobaaDoor.RPure Go.Proofs.YthdlocigijiobaaDoorW.PrintWords Go.Proofs.YthdlocigijiobaaDoorW.PrintLast Go.Proofs.YthdlocigijiobaaDoorW.PrintMore
set_option linter.unusedVariables false
set_option linter.unusedSimpArgs false
def ladderbackref18_One.f (C : LC) (V : LV) (B : LB) (U : LU) (u x y z : Int) : Option Int := if okB U = true then some (oneF C V B U u x y z) else none
theorem ladderbackref18_One.calls (A0_0 : Option Addr) (c0_0 : Nat) (l0_0 : List (S35)) (A0_1 : Option Addr) (c0_1 : Nat) (l0_1 : List (S37)) (A0_2 : Option Addr) (c0_2 : Nat) (l0_2 : List (S39)) (A0_3 : Option Addr) (c0_3 : Nat) (l0_3 : List (S43)) (a1 : Int) (a2_0 : Int) (a2_1 : Int) (a2_2 : Int) (r : Int) (w : World) (hr0_0 : Kd.C k35 w A0_0 l0_0.length l0_0) (hc0_0 : l0_0.length ≤ c0_0) (hr0_1 : Kd.C k37 w A0_1 l0_1.length l0_1) (hc0_1 : l0_1.length ≤ c0_1) (hr0_2 : Kd.C k39 w A0_2 l0_2.length l0_2) (hc0_2 : l0_2.length ≤ c0_2) (hr0_3 : Kd.C k43 w A0_3 l0_3.length l0_3) (hc0_3 : l0_3.length ≤ c0_3) (h : ladderbackref18_One.f l0_0 l0_1 l0_2 l0_3 a1 a2_0 a2_1 a2_2 = some r) :
    Calls Tryd.prog 15 #[.agg #[.slice A0_0 l0_0.length c0_0, .slice A0_1 l0_1.length c0_1, .slice A0_2 l0_2.length c0_2, .slice A0_3 l0_3.length c0_3], .int .i64 a1, .agg #[.int .i64 a2_0, .int .i64 a2_1, .int .i64 a2_2]] w fun e w' => e = .returned (.int .i64 r) ∧ Below w.heap.size w w' := by
  unfold ladderbackref18_One.f at h
  split at h
  · rename_i hh
    obtain rfl := Option.some.inj h
    exact rone_w A0_0 c0_0 l0_0 A0_1 c0_1 l0_1 A0_2 c0_2 l0_2 A0_3 c0_3 l0_3 a1 a2_0 a2_1 a2_2 w (ok_of hh) hr0_1 hr0_2 hr0_3 hr0_0.2.1
  · cases h
end Go.Proofs.YthdlocigijiobaaDoor.Given
end
